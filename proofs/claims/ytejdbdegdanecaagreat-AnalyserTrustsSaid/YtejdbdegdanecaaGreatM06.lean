import Derived.Test.YtejdbdegdanecaaGreatSxUse
import Derived.Test.YtejdbdegdanecaaGreatM19
set_option linter.unusedVariables false
set_option linter.unusedSimpArgs false
set_option maxRecDepth 100000
set_option maxHeartbeats 4000000
namespace Go
open Go.Sx
def KJ (f:List C->Bool) (g:List C->List C->Bool):Option (List C)->List (List C)->Bool
 |_,[]=>true
 |p,x::r=>f x&&(match p with|none=>true|some y=>g y x)&&KJ f g (some x) r
def IR (f:List C->Bool) (g:List C->List C->Bool) (xs:List (List C)) (i:Int):Prop:=0<=i/\i<=(xs.length:Int)/\KJ f g (if i=0 then none else some (rGet xs (i-1))) (xs.drop i.toNat)=KJ f g none xs/\(0<i->f (rGet xs (i-1))=true)
def Hm (h:List (List C)->List C->Bool):List (List C)->List (List C)->Bool
 |_,[]=>true
 |p,x::r=>h p x&&Hm h (p++[x]) r
def Dw (h:List (List C)->List C->Bool) (xs:List (List C)) (i:Int):Prop:=0<=i/\i<=(xs.length:Int)/\Hm h (xs.take i.toNat) (xs.drop i.toNat)=Hm h [] xs
def Ce (f:List C->Bool):Int->List (List C)->Int
 |_,[]=> -1
 |k,x::r=>bif f x then k else Ce f (k+1) r
def Gy (f:List C->Bool) (xs:List (List C)) (i:Int):Prop:=0<=i/\i<=(xs.length:Int)/\Ce f i (xs.drop i.toNat)=Ce f 0 xs
def Bj (v:Int) (x:List C):Bool:=bEq (qi 0 x) v
def F5 (p:List (List C)) (x:List C):Bool:=decide (1<=qi 0 x/\qi 0 x<=8)&& !(p.any (Bj (qi 0 x)))
def Ci (m:List (List C)):Bool:=decide (1<=m.length/\m.length<=8)&&Hm F5 [] m
def NK (m x:List (List C)):Bool:=DD C9 x m
def FP (l:List (List C)) (m:List (List C)):Bool:=l.any λx=>NK m (ql 0 x)
def Fg (x:List C):Bool:=decide (0<=qi 0 x/\qi 0 x<=qi 1 x/\qi 1 x<=2147483647)
def Jj (y x:List C):Bool:=decide (qi 1 y+1<qi 0 x)
def DX (xs:List (List C)):Bool:=KJ Fg Jj none xs&&decide (xs.length<=64)
def AA (xs:List (List C)):List (List C):=bif DX xs then xs else[]
def JL (n:Int) (x:List C):Bool:=decide (qi 0 x<=n/\n<=qi 1 x)
def Fh (xs:List (List C)) (n:Int):Bool:=(AA xs).any (JL n)
section
variable {f:List C->Bool} {g:List C->List C->Bool} {h:List (List C)->List C->Bool} {xs:List (List C)} {i:Int}
theorem ck0:IR f g xs 0:=⟨AlO _,by omega,rfl,λh=>(Int.lt_irrefl _ h).elim⟩
theorem Ak8 (a:IR f g xs i) (hi:i<(xs.length:Int)):KJ f g none xs=(f (rGet xs i)&&(if i=0 then true else g (rGet xs (i-1)) (rGet xs i))&&KJ f g (some (rGet xs i)) (xs.drop (i+1).toNat)):=by
 rw[←a.2.2.1,Aba a.1 hi];by_cases h:i=0
 · rw[if_pos h,if_pos h]; rfl
 · rw[if_neg h,if_neg h]; rfl
theorem ckN (a:IR f g xs i) (hi:i<(xs.length:Int)) (hf:f (rGet xs i)=true) (hg:0<i->g (rGet xs (i-1)) (rGet xs i)=true):IR f g xs (i+1):=by
 have h0:=a.1;have e:i+1-1=i:=by omega
 refine⟨by omega,by omega,?_,λ_=>by rw[e]; exact hf⟩;rw[Ak8 a hi,hf,if_neg (by omega),e];by_cases h:i=0
 · rw[if_pos h]; rfl
 · rw[if_neg h,hg (by omega)]; rfl
theorem ckB (a:IR f g xs i) (hi:i<(xs.length:Int)) (hf:f (rGet xs i)=false):KJ f g none xs=false:=by rw[Ak8 a hi,hf]; rfl
theorem ckB2 (a:IR f g xs i) (hi:i<(xs.length:Int)) (h:0<i) (hg:g (rGet xs (i-1)) (rGet xs i)=false):KJ f g none xs=false:=by rw[Ak8 a hi,if_neg (by omega),hg,AlQ]; rfl
theorem ckE (a:IR f g xs i) (hi:¬i<(xs.length:Int)):KJ f g none xs=true:=by
 rw[←a.2.2.1,AlP (by omega)];unfold KJ; rfl
theorem dk0:Dw h xs 0:=⟨AlO _,by omega,rfl⟩
theorem Ab7 (h0:0<=i) (hi:i<(xs.length:Int)):xs.take (i+1).toNat=xs.take i.toNat++[rGet xs i]:=by
 rw[show(i+1).toNat=i.toNat+1 by omega,List.take_add_one];unfold rGet;rw[List.getD_eq_getElem?_getD,List.getElem?_eq_getElem (show i.toNat<xs.length by omega)]; rfl
theorem dkN (a:Dw h xs i) (hi:i<(xs.length:Int)) (hf:h (xs.take i.toNat) (rGet xs i)=true):Dw h xs (i+1):=by
 have h0:=a.1;refine⟨by omega,by omega,?_⟩;rw[←a.2.2,Aba h0 hi,Ab7 h0 hi,Hm,hf]; rfl
theorem dkB (a:Dw h xs i) (hi:i<(xs.length:Int)) (hf:h (xs.take i.toNat) (rGet xs i)=false):Hm h [] xs=false:=by rw[←a.2.2,Aba a.1 hi,Hm,hf]; rfl
theorem dkE (a:Dw h xs i) (hi:¬i<(xs.length:Int)):Hm h [] xs=true:=by rw[←a.2.2,AlP (by omega)]; rfl
theorem ix0:Gy f xs 0:=⟨AlO _,by omega,rfl⟩
theorem ixN (a:Gy f xs i) (hi:i<(xs.length:Int)) (hf:f (rGet xs i)=false):Gy f xs (i+1):=by
 have h0:=a.1;refine⟨by omega,by omega,?_⟩;rw[←a.2.2,Aba h0 hi,Ce,hf]; rfl
theorem ixB (a:Gy f xs i) (hi:i<(xs.length:Int)) (hf:f (rGet xs i)=true):i=Ce f 0 xs:=by rw[←a.2.2,Aba a.1 hi,Ce,hf]; rfl
theorem ixE (a:Gy f xs i) (hi:¬i<(xs.length:Int)): -1=Ce f 0 xs:=by rw[←a.2.2,AlP (by omega)]; rfl
theorem Akn:∀(xs:List (List C)) (k:Int),0<=k->(0<=Ce f k xs↔xs.any f=true)/\(Ce f k xs= -1∨k<=Ce f k xs)
 |[],k,h=>⟨by simp[Ce],.inl rfl⟩
 |x::r,k,h=>by
  have a:=Akn r (k+1) (by omega);simp only[Ce,List.any_cons]
  cases f x
  · exact⟨by simpa using a.1,a.2.imp id (by simp only[cond_false]; omega)⟩
  · exact⟨by simpa using h,.inr (AlO _)⟩
theorem Alj (h0:0<=i) (hi:i<(xs.length:Int)) (hf:f (rGet xs i)=true):Ce f 0 xs=i↔(xs.take i.toNat).any f=false:=by
 have key:∀(n:Nat) (ys:List (List C)) (k:Int),0<=k->n<ys.length->f (ys.getD n [])=true->(Ce f k ys=k+n↔(ys.take n).any f=false):=by
  intro n
  induction n with
  |zero=>
   intro ys k hk hn hy
   cases ys with
   |nil=>cases hn
   |cons y r=>
    simp only[Al2]at hy
    simp[Ce,hy]
  |succ n ih=>
   intro ys k hk hn hy
   cases ys with
   |nil=>cases hn
   |cons y r=>
    simp only[AlU]at hy
    simp only[Ce,List.take_succ_cons,List.any_cons]
    cases f y
    · have a:=ih r (k+1) (by omega) (by simpa using hn) hy
      simp only[cond_false,Bool.false_or,←a]; omega
    · simp only[cond_true,Bool.true_or]
      constructor
      · intro h; omega
      · intro h; cases h
 have:=key i.toNat xs 0 (AlO _) (by omega) hf;rw[←this]; omega
end
end Go
namespace Go.Sx
def A255 (xs:List (List C)) (v:Int):FuncId->Nat->LoopAnn:=λ_ _=>lp 8 xs.length (Gy (Bj v) xs) [0,1,4,5,7,8,9,16]
theorem v255 (xs:List (List C)) (v:Int):WL hI xs/\AnC v->AnE xs->(∃(x:Int),Gy (Bj v) xs x/\0=x)/\∀(x:Int),Gy (Bj v) xs x->AnC x->Cn (bLt x (iLen xs)) (pIn 0 (iLen xs) x/\(AnC (qi 0 (rGet xs x))->Cn (bEq v (qi 0 (rGet xs x))) (x=Ce (Bj v) 0 xs) (AnC (iAdd x 1)/\Sm xs/\Sm v/\Sm (iLen xs)/\∃(y:Int),Gy (Bj v) xs y/\iAdd x 1=y/\nLt (xs.length-y.toNat) (xs.length-x.toNat)))) (-1=Ce (Bj v) 0 xs):=by
 intro hw;simp only[D,E];intro _;exact lpA ix0 (λx h=>h.1) (λx h h0 hx _=>⟨λa=>ixB h hx (AlL (by omega)),λa=>⟨inS hw.1 h0 hx,x+1,ixN h hx (AlK (by omega)),rfl,by omega⟩⟩) (λx h hx=>ixE h hx)
def r255:Cr PR:=K0 [] 255 6 {ps:=[(false,hL),(false,hI)],rs:=[(false,hI)],out:=λa=>[[.i (Ce (Bj (AnG a)) 0 (L a 0 0))]]} (λa=>A255 (L a 0 0) (AnG a)) λa=>Y (v255 (L a 0 0) (AnG a))
def A102 (xs:List (List C)) (v:Int):FuncId->Nat->LoopAnn:=λ_ _=>lp 9 xs.length (Gy (Bj v) xs) [0,1,4,5,6,7,8,9,10,16]
theorem v102 (xs:List (List C)) (v:Int):WL hI xs/\AnC v->AnE xs->(∃(x:Int),Gy (Bj v) xs x/\0=x)/\∀(x:Int),Gy (Bj v) xs x->AnC x->Cn (bLt x (iLen xs)) (pIn 0 (iLen xs) x/\(AnC (qi 0 (rGet xs x))->Cn (bEq (qi 0 (rGet xs x)) v) (x=Ce (Bj v) 0 xs) (AnC (iAdd x 1)/\Sm xs/\Sm v/\Sm xs/\Sm (iLen xs)/\∃(y:Int),Gy (Bj v) xs y/\iAdd x 1=y/\nLt (xs.length-y.toNat) (xs.length-x.toNat)))) (-1=Ce (Bj v) 0 xs):=by
 intro hw;simp only[D,E];intro _;exact lpA ix0 (λx h=>h.1) (λx h h0 hx _=>⟨λa=>ixB h hx (AlL (by omega)),λa=>⟨inS hw.1 h0 hx,x+1,ixN h hx (AlK (by omega)),rfl,by omega⟩⟩) (λx h hx=>ixE h hx)
def r102:Cr PR:=K0 [] 102 6 {ps:=[(false,hL),(false,hI)],rs:=[(false,hI)],out:=λa=>[[.i (Ce (Bj (AnG a)) 0 (L a 0 0))]]} (λa=>A102 (L a 0 0) (AnG a)) λa=>Y (v102 (L a 0 0) (AnG a))
def A248 (xs:List (List C)) (ys:List (List C)):FuncId->Nat->LoopAnn:=λ_ _=>lp 13 xs.length (IW C9 xs ys) [0,1,4,5,10,12,13,14,24]
theorem v248 (xs:List (List C)) (ys:List (List C)):WL hI xs/\WL hI ys->AnE xs->AnE ys->Cn (bNe (iLen xs) (iLen ys)) (false=DD C9 xs ys) (AnE xs->(∃(x:Int),IW C9 xs ys x/\0=x)/\∀(x:Int),IW C9 xs ys x->AnC x->Cn (bLt x (iLen xs)) (pIn 0 (iLen xs) x/\(AnC (qi 0 (rGet xs x))->pIn 0 (iLen ys) x/\(AnC (qi 0 (rGet ys x))->Cn (bNe (qi 0 (rGet xs x)) (qi 0 (rGet ys x))) (false=DD C9 xs ys) (AnC (iAdd x 1)/\Sm xs/\Sm ys/\Sm (iLen xs)/\∃(y:Int),IW C9 xs ys y/\iAdd x 1=y/\nLt (xs.length-y.toNat) (xs.length-x.toNat))))) (true=DD C9 xs ys)):=by
 intro hw;simp only[D,E];intro _ _;refine⟨λh=>rlL (by omega),λh _=>lpA (rl0 (by omega)) (λx h=>h.1) (λx h h0 hx _=>⟨⟨h0,by omega⟩,λ_=>⟨λa=>rlB h hx (AlK a),λa=>⟨inS hw.1 h0 hx,x+1,rlN h hx (AlL a),rfl,by omega⟩⟩⟩) (λx h hx=>rlE h hx)⟩
def r248:Cr PR:=K0 [] 248 6 {ps:=[(false,hL),(false,hL)],rs:=[(false,[.bool])],out:=λa=>[[.b (DD C9 (L a 0 0) (L a 1 0))]]} (λa=>A248 (L a 0 0) (L a 1 0)) λa=>Y (v248 (L a 0 0) (L a 1 0))
def A151 (xs:List (List C)) (ys:List (List C)):FuncId->Nat->LoopAnn:=λ_ _=>lp 13 xs.length (IW C9 xs ys) [0,1,4,5,10,12,13,14,24]
theorem v151 (xs:List (List C)) (ys:List (List C)):WL hI xs/\WL hI ys->AnE xs->AnE ys->Cn (bNe (iLen xs) (iLen ys)) (false=DD C9 xs ys) (AnE xs->(∃(x:Int),IW C9 xs ys x/\0=x)/\∀(x:Int),IW C9 xs ys x->AnC x->Cn (bLt x (iLen xs)) (pIn 0 (iLen xs) x/\(AnC (qi 0 (rGet xs x))->pIn 0 (iLen ys) x/\(AnC (qi 0 (rGet ys x))->Cn (bNe (qi 0 (rGet xs x)) (qi 0 (rGet ys x))) (false=DD C9 xs ys) (AnC (iAdd x 1)/\Sm xs/\Sm ys/\Sm (iLen xs)/\∃(y:Int),IW C9 xs ys y/\iAdd x 1=y/\nLt (xs.length-y.toNat) (xs.length-x.toNat))))) (true=DD C9 xs ys)):=by
 intro hw;simp only[D,E];intro _ _;refine⟨λh=>rlL (by omega),λh _=>lpA (rl0 (by omega)) (λx h=>h.1) (λx h h0 hx _=>⟨⟨h0,by omega⟩,λ_=>⟨λa=>rlB h hx (AlK a),λa=>⟨inS hw.1 h0 hx,x+1,rlN h hx (AlL a),rfl,by omega⟩⟩⟩) (λx h hx=>rlE h hx)⟩
def r151:Cr PR:=K0 [] 151 6 {ps:=[(false,hL),(false,hL)],rs:=[(false,[.bool])],out:=λa=>[[.b (DD C9 (L a 0 0) (L a 1 0))]]} (λa=>A151 (L a 0 0) (L a 1 0)) λa=>Y (v151 (L a 0 0) (L a 1 0))
def A244 (xs:List (List C)):FuncId->Nat->LoopAnn:=λ_ _=>lp 15 xs.length (Dw F5 xs) [0,2,3,4,12,13,14,15,16,32]
theorem v244 (xs:List (List C)):WL hI xs->AnE xs->Cn (bLt (iLen xs) 1) (false=Ci xs) (AnE xs->Cn (bLt 8 (iLen xs)) (false=Ci xs) (AnE xs->(∃(x:Int),Dw F5 xs x/\0=x)/\∀(x:Int),Dw F5 xs x->AnC x->Cn (bLt x (iLen xs)) (pIn 0 (iLen xs) x/\(AnC (qi 0 (rGet xs x))->Cn (bLt (qi 0 (rGet xs x)) 1) (false=Ci xs) (Cn (bLt 8 (qi 0 (rGet xs x))) (false=Ci xs) (geB none (some x) (iLen xs)/\True/\(AnC (Ce (Bj (qi 0 (rGet xs x))) 0 (cutRows xs none (some x)))->Cn (bLe 0 (Ce (Bj (qi 0 (rGet xs x))) 0 (cutRows xs none (some x)))) (false=Ci xs) (AnC (iAdd x 1)/\Sm xs/\Sm xs/\Sm (iLen xs)/\∃(y:Int),Dw F5 xs y/\iAdd x 1=y/\nLt (xs.length-y.toNat) (xs.length-x.toNat))))))) (true=Ci xs))):=by
 intro hw;simp only[D,E];intro _;have no:¬(1<=xs.length/\xs.length<=8)->false=Ci xs:=λh=>by unfold Ci; rw[AlK h]; rfl
 refine⟨λh=>no (by omega),λh _=>⟨λh1=>no (by omega),λh1 _=> ?_⟩⟩;have yes:Ci xs=Hm F5 [] xs:=by unfold Ci; rw[AlL (by omega)]; rfl
 rw[yes];refine lpA dk0 (λx h=>h.1) (λx h h0 hx _=> ?_) (λx h hx=>(dkE h hx).symm);have a:=(Akn (f:=Bj (qi 0 (rGet xs x))) (xs.take x.toNat) 0 (AlO _)).1;have bad:F5 (xs.take x.toNat) (rGet xs x)=false->false=Hm F5 [] xs:=λe=>(dkB h hx e).symm;refine⟨λh2=>bad (by unfold F5; rw[AlK (by omega)]; rfl),λh2=>⟨λh3=>bad (by unfold F5; rw[AlK (by omega)]; rfl),λh3=>⟨by simp only[geB]; omega,λ_=>⟨λh4=>bad ?_,λh4=>⟨inS hw h0 hx,x+1,dkN h hx ?_,rfl,by omega⟩⟩⟩⟩⟩
 · unfold F5; rw[a.1 h4,Amq,AlQ]
 · unfold F5; rw[AlL (by omega),eq_false_of_ne_true λe=>h4 (a.2 e)]; rfl
def r244:Cr PR:=K0 [r255] 244 6 {ps:=[(false,hL)],rs:=[(false,[.bool])],out:=λa=>[[.b (Ci (L a 0 0))]]} (λa=>A244 (L a 0 0)) λa=>Y (v244 (L a 0 0))
def A55 (xs:List (List C)):FuncId->Nat->LoopAnn:=λ_ _=>lp 7 xs.length (Dw F5 xs) [0,2,3,4,5,6,7,8,24]
theorem v55 (xs:List (List C)):WL hI xs->AnE xs->(∃(x:Int),Dw F5 xs x/\0=x)/\∀(x:Int),Dw F5 xs x->AnC x->Cn (bLt x (iLen xs)) (pIn 0 (iLen xs) x/\(AnC (qi 0 (rGet xs x))->Cn (bLt (qi 0 (rGet xs x)) 1) (false=Ci xs) (Cn (bLt 8 (qi 0 (rGet xs x))) (false=Ci xs) (True/\(AnC (Ce (Bj (qi 0 (rGet xs x))) 0 xs)->Cn (bNe (Ce (Bj (qi 0 (rGet xs x))) 0 xs) x) (false=Ci xs) (AnC (iAdd x 1)/\Sm xs/\Sm xs/\Sm (iLen xs)/\∃(y:Int),Dw F5 xs y/\iAdd x 1=y/\nLt (xs.length-y.toNat) (xs.length-x.toNat))))))) (AnE xs->Cn (bLe 1 (iLen xs)) (AnE xs->bLe (iLen xs) 8=Ci xs) (false=Ci xs)):=by
 intro hw;simp only[D,E];intro _;have dn:Hm F5 [] xs=false->false=Ci xs:=λe=>by unfold Ci; rw[e,AlQ]
 refine lpA dk0 (λx h=>h.1) (λx h h0 hx _=> ?_) (λx h hx _=> ?_)
 · have bad:F5 (xs.take x.toNat) (rGet xs x)=false->false=Ci xs:=λe=>dn (dkB h hx e);have ii:=Alj (f:=Bj (qi 0 (rGet xs x))) h0 hx (AlL rfl);refine⟨λh2=>bad (by unfold F5; rw[AlK (by omega)]; rfl),λh2=>⟨λh3=>bad (by unfold F5; rw[AlK (by omega)]; rfl),λh3 _=>⟨λh4=>bad ?_,λh4=>⟨inS hw h0 hx,x+1,dkN h hx ?_,rfl,by omega⟩⟩⟩⟩
   · unfold F5; rw[eq_true_of_ne_false λe=>h4 (ii.2 e),Amq,AlQ]
   · unfold F5; rw[AlL (by omega),ii.1 h4]; rfl
 · have e:=dkE h hx;unfold Ci;rw[e,Bool.and_true];exact⟨λh1 _=>by simp only[decide_eq_decide]; omega,λh1=>by symm; simp only[AlD]; omega⟩
def r55:Cr PR:=K0 [r102] 55 6 {ps:=[(false,hL)],rs:=[(false,[.bool])],out:=λa=>[[.b (Ci (L a 0 0))]]} (λa=>A55 (L a 0 0)) λa=>Y (v55 (L a 0 0))
theorem v234 (x:List (List C)) (m:List (List C)):WL hI x/\WL hI m->WL hI m->True/\DD C9 x m=NK m x:=by
 intro hw;exact λ_=>⟨trivial,rfl⟩
def r234:Cr PR:=K0 [r248] 234 6 {ps:=[(false,hL),(false,[.bool,.sl hI])],rs:=[(false,[.bool])],out:=λa=>[[.b (NK (L a 1 0) (L a 0 0))]]} U λa=>Y (v234 (L a 0 0) (L a 1 0))
def A195 (xs:List (List C)) (m:List (List C)):FuncId->Nat->LoopAnn:=λff ii=>bif Nat.beq ff 247 then lp 8 xs.length (DK (λx=>NK m (ql 0 x)) xs) [0,1,4,5,7,8,9,16]else .unroll 0
theorem v195 (xs:List (List C)) (m:List (List C)):WL [Sh.sl hI] xs/\WL hI m->AnE xs->(∃(x:Int),DK (fun(x:List C)=>NK m (ql 0 x)) xs x/\0=x)/\∀(x:Int),DK (fun(x:List C)=>NK m (ql 0 x)) xs x->AnC x->Cn (bLt x (iLen xs)) (pIn 0 (iLen xs) x/\(WL hI (ql 0 (rGet xs x))->True/\Cn (NK m (ql 0 (rGet xs x))) (bLe 0 x=FP xs m) (AnC (iAdd x 1)/\Sm xs/\Sm m/\Sm (iLen xs)/\∃(y:Int),DK (fun(x:List C)=>NK m (ql 0 x)) xs y/\iAdd x 1=y/\nLt (xs.length-y.toNat) (xs.length-x.toNat)))) (false=FP xs m):=by
 intro hw;simp only[D,E];intro _;exact lpA ex0 (λx h=>h.1) (λx h h0 hx _=>⟨λa=>(AlL h0).trans (exB h hx a),λa=>⟨inS hw.1 h0 hx,x+1,exN h hx a,rfl,by omega⟩⟩) (λx h hx=>exE h hx)
def r195:Cr PR:=K0 [r234,(mark 4000022)] 195 6 {ps:=[(false,hM),(false,hL)],rs:=[(false,[.bool])],out:=λa=>[[.b (FP (L a 0 0) (L a 1 0))]]} (λa=>A195 (L a 0 0) (L a 1 0)) λa=>Y (v195 (L a 0 0) (L a 1 0))
def A158 (xs:List (List C)) (m:List (List C)):FuncId->Nat->LoopAnn:=λ_ _=>lp 9 xs.length (DK (λx=>NK m (ql 0 x)) xs) [0,1,4,6,7,8,9,10,15]
theorem v158 (xs:List (List C)) (m:List (List C)):WL [Sh.sl hI] xs/\WL hI m->AnE xs->(∃(x:Int),DK (fun(x:List C)=>NK m (ql 0 x)) xs x/\0=x)/\∀(x:Int),DK (fun(x:List C)=>NK m (ql 0 x)) xs x->AnC x->Cn (bLt x (iLen xs)) (pIn 0 (iLen xs) x/\(WL hI (ql 0 (rGet xs x))->True/\Cn (DD C9 (ql 0 (rGet xs x)) m) (true=FP xs m) (AnC (iAdd x 1)/\Sm xs/\Sm m/\Sm xs/\Sm (iLen xs)/\∃(y:Int),DK (fun(x:List C)=>NK m (ql 0 x)) xs y/\iAdd x 1=y/\nLt (xs.length-y.toNat) (xs.length-x.toNat)))) (false=FP xs m):=by
 intro hw;simp only[D,E];intro _;exact lpA ex0 (λx h=>h.1) (λx h h0 hx _=>⟨λa=>exB h hx a,λa=>⟨inS hw.1 h0 hx,x+1,exN h hx a,rfl,by omega⟩⟩) (λx h hx=>exE h hx)
def r158:Cr PR:=K0 [r151] 158 6 {ps:=[(false,hM),(false,hL)],rs:=[(false,[.bool])],out:=λa=>[[.b (FP (L a 0 0) (L a 1 0))]]} (λa=>A158 (L a 0 0) (L a 1 0)) λa=>Y (v158 (L a 0 0) (L a 1 0))
theorem v254 (l:Int) (h:Int):AnC l/\AnC h->Cn (bLe 0 l) (Cn (bLe l h) (bLe h 2147483647=Fg [C.i l,C.i h]) (false=Fg [C.i l,C.i h])) (false=Fg [C.i l,C.i h]):=by
 intro hw;simp only[D,E,show Fg [.i l,.i h]=decide (0<=l/\l<=h/\h<=2147483647)from rfl]
 repeat' (first|apply And.intro|intro _)
 all_goals (first|(simp only[decide_eq_decide]; omega)|(symm; simp only[AlD]; omega))
def r254:Cr PR:=K0 [] 254 6 {ps:=[(true,hII)],rs:=[(false,[.bool])],out:=λa=>[[.b (Fg [.i (AnF a),.i (AnH a)])]]} U λa=>Y (v254 (AnF a) (AnH a))
def A246 (xs:List (List C)):FuncId->Nat->LoopAnn:=λ_ _=>lp 8 xs.length (IR Fg Jj xs) [0,1,2,3,4,6,7,8,9,32]
def AiW (xs:List (List C)) (x:Int):Prop:=AnC (iAdd x 1)/\Sm [C.l xs]/\Sm xs/\Sm (iLen xs)/\Sm [C.l xs]/\∃(y:Int),IR Fg Jj xs y/\iAdd x 1=y/\nLt (xs.length-y.toNat) (xs.length-x.toNat)
theorem v246 (xs:List (List C)):WL hII xs->AnE xs->(∃(x:Int),IR Fg Jj xs x/\0=x)/\∀(x:Int),IR Fg Jj xs x->AnC x->Cn (bLt x (iLen xs)) (pIn 0 (iLen xs) x/\(AnC (qi 0 (rGet xs x))/\AnC (qi 1 (rGet xs x))->True/\True/\Cn (bNot (Fg (rGet xs x))) (false=DX xs) (Cn (bLt 0 x) (AnC (iSub x 1)/\pIn 0 (iLen xs) (iSub x 1)/\(AnC (qi 1 (rGet xs (iSub x 1)))->AnC (iAdd (qi 1 (rGet xs (iSub x 1))) 1)/\Cn (bLe (qi 0 (rGet xs x)) (iAdd (qi 1 (rGet xs (iSub x 1))) 1)) (false=DX xs) ((AiW xs x)))) ((AiW xs x))))) (AnE xs->bLe (iLen xs) 64=DX xs):=by
 intro hw;delta AiW;simp only[D,E];intro _;have no:KJ Fg Jj none xs=false->false=DX xs:=λh=>by unfold DX; rw[h]; rfl
 refine lpA ck0 (λx h=>h.1) (λx h h0 hx _=> ?_) (λx h hx _=>by unfold DX; rw[ckE h hx,AlR,decide_eq_decide]; omega);have a1:=inS hw h0 hx;have a2:0<x->AnC (x-1):=λ_=>by simp only[InR]at a1 ⊢; omega
 have a3:0<x->0<=x-1/\x-1<(xs.length:Int):=λ_=>by omega
 have nx:Fg (rGet xs x)=true->(0<x->Jj (rGet xs (x-1)) (rGet xs x)=true)->AnC (x+1)/\∃y,IR Fg Jj xs y/\x+1=y/\xs.length-y.toNat<xs.length-x.toNat:=λh1 h2=>⟨a1,x+1,ckN h hx h1 h2,rfl,by omega⟩
 refine⟨λh1=>no (ckB h hx h1),λh1=>⟨λh2=>⟨a2 h2,a3 h2,λ_=>⟨by have:=Amb (h.2.2.2 h2); simp only[InR]; omega,λh3=>no (ckB2 h hx h2 (AlK (by omega))),λh3=>nx h1 λ_=>AlL (by omega)⟩⟩,λh2=>nx h1 λh3=>(h2 h3).elim⟩⟩
def r246:Cr PR:=K0 [r254] 246 6 {ps:=[(true,[.sl hII])],rs:=[(false,[.bool])],out:=λa=>[[.b (DX (L a 0 0))]]} (λa=>A246 (L a 0 0)) λa=>Y (v246 (L a 0 0))
def A210 (xs:List (List C)):FuncId->Nat->LoopAnn:=λ_ _=>lp 8 xs.length (IR Fg Jj xs) [0,1,2,3,4,6,7,8,9,44]
def Ai1 (xs:List (List C)) (x:Int):Prop:=AnC (iAdd x 1)/\Sm [C.l xs]/\Sm xs/\Sm (iLen xs)/\Sm [C.l xs]/\∃(y:Int),IR Fg Jj xs y/\iAdd x 1=y/\nLt (xs.length-y.toNat) (xs.length-x.toNat)
theorem v210 (xs:List (List C)):WL hII xs->AnE xs->(∃(x:Int),IR Fg Jj xs x/\0=x)/\∀(x:Int),IR Fg Jj xs x->AnC x->Cn (bLt x (iLen xs)) (pIn 0 (iLen xs) x/\(AnC (qi 0 (rGet xs x))/\AnC (qi 1 (rGet xs x))->Cn (bLt (qi 0 (rGet xs x)) 0) (false=DX xs) (Cn (bLt (qi 1 (rGet xs x)) (qi 0 (rGet xs x))) (false=DX xs) (Cn (bLt 2147483647 (qi 1 (rGet xs x))) (false=DX xs) (Cn (bLt 0 x) (AnC (iSub (qi 0 (rGet xs x)) 1)/\AnC (iSub x 1)/\pIn 0 (iLen xs) (iSub x 1)/\(AnC (qi 1 (rGet xs (iSub x 1)))->Cn (bLe (iSub (qi 0 (rGet xs x)) 1) (qi 1 (rGet xs (iSub x 1)))) (false=DX xs) ((Ai1 xs x)))) ((Ai1 xs x))))))) (AnE xs->bLe (iLen xs) 64=DX xs):=by
 intro hw;delta Ai1;simp only[D,E];intro _;have no:KJ Fg Jj none xs=false->false=DX xs:=λh=>by unfold DX; rw[h]; rfl
 refine lpA ck0 (λx h=>h.1) (λx h h0 hx _=> ?_) (λx h hx _=>by unfold DX; rw[ckE h hx,AlR,decide_eq_decide]; omega);have a1:=inS hw h0 hx;have a2:0<x->AnC (x-1):=λ_=>by simp only[InR]at a1 ⊢; omega
 have a3:0<x->0<=x-1/\x-1<(xs.length:Int):=λ_=>by omega
 have nx:Fg (rGet xs x)=true->(0<x->Jj (rGet xs (x-1)) (rGet xs x)=true)->AnC (x+1)/\∃y,IR Fg Jj xs y/\x+1=y/\xs.length-y.toNat<xs.length-x.toNat:=λh1 h2=>⟨a1,x+1,ckN h hx h1 h2,rfl,by omega⟩
 have bd:¬(0<=qi 0 (rGet xs x)/\qi 0 (rGet xs x)<=qi 1 (rGet xs x)/\qi 1 (rGet xs x)<=2147483647)->false=DX xs:=λh1=>no (ckB h hx (AlK h1));refine⟨λh1=>bd (by omega),λh1=>⟨λh2=>bd (by omega),λh2=>⟨λh3=>bd (by omega),λh3=> ?_⟩⟩⟩;have h4:Fg (rGet xs x)=true:=AlL (by omega);exact⟨λh2=>⟨by simp only[InR]; omega,a2 h2,a3 h2,λ_=>⟨λh3=>no (ckB2 h hx h2 (AlK (by omega))),λh3=>nx h4 λ_=>AlL (by omega)⟩⟩,λh2=>nx h4 λh3=>(h2 h3).elim⟩
def r210:Cr PR:=K0 [] 210 6 {ps:=[(true,[.sl hII])],rs:=[(false,[.bool])],out:=λa=>[[.b (DX (L a 0 0))]]} (λa=>A210 (L a 0 0)) λa=>Y (v210 (L a 0 0))
theorem v231 (xs:List (List C)):WL hII xs->True/\True/\Cn (bNot (DX xs)) ([]=AA xs) (xs=AA xs):=by
 intro hw;simp only[D,E,AA];exact⟨λh=>by rw[h]; rfl,λh=>by rw[h]; rfl⟩
def r231:Cr PR:=K0 [r246] 231 6 {ps:=[(true,[.sl hII])],rs:=[(false,[.sl hII])],out:=λa=>[[.l (AA (L a 0 0))]]} U λa=>Y (v231 (L a 0 0))
theorem v149 (xs:List (List C)):WL hII xs->True/\True/\Cn (bNot (DX xs)) ([]=AA xs) (xs=AA xs):=by
 intro hw;simp only[D,E,AA];exact⟨λh=>by rw[h]; rfl,λh=>by rw[h]; rfl⟩
def r149:Cr PR:=K0 [r210] 149 6 {ps:=[(true,[.sl hII])],rs:=[(false,[.sl hII])],out:=λa=>[[.l (AA (L a 0 0))]]} U λa=>Y (v149 (L a 0 0))
theorem v232 (l:Int) (h:Int) (n:Int):AnC l/\AnC h/\AnC n->AnC n->Cn (bLe l n) (AnC n->bLe n h=JL n [C.i l,C.i h]) (false=JL n [C.i l,C.i h]):=by
 intro hw;simp only[D,E,show JL n [.i l,.i h]=decide (l<=n/\n<=h)from rfl];intro _;exact⟨λh _=>by simp only[decide_eq_decide]; omega,λh=>by symm; simp only[AlD]; omega⟩
def r232:Cr PR:=K0 [] 232 6 {ps:=[(true,hII),(false,[.bool,.int .i64])],rs:=[(false,[.bool])],out:=λa=>[[.b (JL (AnG a) [.i (AnF a),.i (AnH a)])]]} U λa=>Y (v232 (AnF a) (AnH a) (AnG a))
def A194 (ys:List (List C)) (n:Int):FuncId->Nat->LoopAnn:=λff ii=>bif Nat.beq ff 245 then lp 8 (AA ys).length (DK (JL n) (AA ys)) [0,1,4,5,7,8,9,16]else .unroll 0
theorem v194 (ys:List (List C)) (n:Int):WL hII ys/\AnC n->True/\(WL hII (AA ys)->AnE (AA ys)->(∃(x:Int),DK (JL n) (AA ys) x/\0=x)/\∀(x:Int),DK (JL n) (AA ys) x->AnC x->Cn (bLt x (iLen (AA ys))) (pIn 0 (iLen (AA ys)) x/\(AnC (qi 0 (rGet (AA ys) x))/\AnC (qi 1 (rGet (AA ys) x))->True/\Cn (JL n (rGet (AA ys) x)) (bLe 0 x=Fh ys n) (AnC (iAdd x 1)/\Sm (AA ys)/\Sm n/\Sm (iLen (AA ys))/\Sm [C.l ys]/\∃(y:Int),DK (JL n) (AA ys) y/\iAdd x 1=y/\nLt ((AA ys).length-y.toNat) ((AA ys).length-x.toNat)))) (false=Fh ys n)):=by
 intro hw;simp only[D,E];intro hw' _;exact lpA ex0 (λx h=>h.1) (λx h h0 hx _=>⟨λa=>(AlL h0).trans (exB h hx a),λa=>⟨inS hw' h0 hx,x+1,exN h hx a,rfl,by omega⟩⟩) (λx h hx=>exE h hx)
def r194:Cr PR:=K0 [r231,r232,(mark 4000003)] 194 6 {ps:=[(true,[.sl hII]),(false,hI)],rs:=[(false,[.bool])],out:=λa=>[[.b (Fh (L a 0 0) (AnG a))]]} (λa=>A194 (L a 0 0) (AnG a)) λa=>Y (v194 (L a 0 0) (AnG a))
def A157 (ys:List (List C)) (n:Int):FuncId->Nat->LoopAnn:=λ_ _=>lp 10 (AA ys).length (DK (JL n) (AA ys)) [0,1,2,4,6,8,9,10,11,23]
def Ai5 (ys:List (List C)) (n:Int) (x:Int):Prop:=AnC (iAdd x 1)/\Sm [C.l ys]/\Sm n/\Sm (AA ys)/\Sm (iLen (AA ys))/\Sm [C.l ys]/\∃(y:Int),DK (JL n) (AA ys) y/\iAdd x 1=y/\nLt ((AA ys).length-y.toNat) ((AA ys).length-x.toNat)
theorem v157 (ys:List (List C)) (n:Int):WL hII ys/\AnC n->True/\(WL hII (AA ys)->AnE (AA ys)->(∃(x:Int),DK (JL n) (AA ys) x/\0=x)/\∀(x:Int),DK (JL n) (AA ys) x->AnC x->Cn (bLt x (iLen (AA ys))) (pIn 0 (iLen (AA ys)) x/\(AnC (qi 0 (rGet (AA ys) x))/\AnC (qi 1 (rGet (AA ys) x))->Cn (bLe (qi 0 (rGet (AA ys) x)) n) (Cn (bLe n (qi 1 (rGet (AA ys) x))) (true=Fh ys n) ((Ai5 ys n x))) ((Ai5 ys n x)))) (false=Fh ys n)):=by
 intro hw;delta Ai5;simp only[D,E];intro hw' _;refine lpA ex0 (λx h=>h.1) (λx h h0 hx _=> ?_) (λx h hx=>exE h hx);have nx:¬(qi 0 (rGet (AA ys) x)<=n/\n<=qi 1 (rGet (AA ys) x))->AnC (x+1)/\∃y,DK (JL n) (AA ys) y/\x+1=y/\(AA ys).length-y.toNat<(AA ys).length-x.toNat:=λe=>⟨inS hw' h0 hx,x+1,exN h hx (AlK e),rfl,by omega⟩
 exact⟨λa=>⟨λb=>exB h hx (AlL ⟨a,b⟩),λb=>nx (by omega)⟩,λa=>nx (by omega)⟩
def r157:Cr PR:=K0 [r149] 157 6 {ps:=[(true,[.sl hII]),(false,hI)],rs:=[(false,[.bool])],out:=λa=>[[.b (Fh (L a 0 0) (AnG a))]]} (λa=>A157 (L a 0 0) (AnG a)) λa=>Y (v157 (L a 0 0) (AnG a))
end Go.Sx

namespace Go
open Go.Sx
def Ky (c:Int):Bool:=decide (97<=c/\c<=122∨65<=c/\c<=90)
def Zo (c:Int):Bool:=decide (48<=c/\c<=57∨c=45∨c=46∨c=95)
def O9 (s:ByteArray) (z:Int):Bool:=Ky (sAt s z)||(!decide (z=0)&&Zo (sAt s z))
def Dv (s:ByteArray):Bool:=decide (1<=s.size/\s.size<=64)&&(List.range s.size).all (λi=>O9 s (i:Int))
def Ia (s:ByteArray) (z:Int):Prop:=0<=z/\z<=(s.size:Int)/\∀j:Nat,(j:Int)<z->O9 s (j:Int)=true
def KU (s:ByteArray):Nat:=s.size
def Ig (k n:Int):Bool:=bAnd (bLe 1 n) (bAnd (bLe n 7) (bEq (iAnd .i64 (iShr k n) 1) 1))
def CP (xs:List (List C)) (lo hi:Int):Bool:=decide (1<=xs.length)&&(DX xs&&decide (lo<=qi 0 (rGet xs 0)/\qi 1 (rGet xs ((xs.length:Int)-1))<=hi))
def E9 (p:List (List C)) (x:List C):Bool:=Ci (ql 0 x)&& !(FP p (ql 0 x))
def Bi (x:List C):Bool:=(!decide (qi 0 x=0)&&decide (Ac5 .i64 (qi 0 x) 254=0))&&(CP (ql 1 x) 1000 768000&&(CP (ql 3 x) 1 65536&&(Hm E9 [] (ql 2 x)&&decide (1<=(ql 2 x).length/\(ql 2 x).length<=16))))
def Ef (l:List (List C)):Bool:=decide (l.length<=64)&&l.all Bi
def AP (l:List (List C)):List (List C):=bif Ef l then l else[]
def FM (k r:Int) (m:List (List C)) (z:Int) (x:List C):Bool:=bAnd (bAnd (bAnd (Ig (qi 0 x) k) (Fh (ql 1 x) r)) (FP (ql 2 x) m)) (Fh (ql 3 x) z)
def Fj (l:List (List C)) (k r:Int) (m:List (List C)) (z:Int):Bool:=(AP l).any (FM k r m z)
def AY (d:List C):Bool:=Dv (qs 1 d)&&(decide ((qi 2 d=1∨qi 2 d=2)/\0<=qi 3 d/\qi 3 d<=65535/\0<=qi 4 d/\qi 4 d<=1048576/\0<=qi 5 d/\qi 5 d<=2048/\0<=qi 6 d/\qi 6 d<=4096/\1<=(ql 7 d).length/\(ql 7 d).length<=8)&&Ef (ql 7 d))
theorem SC (s:ByteArray):Ia s 0:=⟨by omega,by omega,λj h=>by omega⟩
theorem TR {s:ByteArray} {z:Int} (h:Ia s z) (hz:z<(s.size:Int)) (hp:O9 s z=true):Ia s (z+1):=by
 obtain⟨a,b,c⟩:=h;refine⟨by omega,by omega,λj hj=> ?_⟩;by_cases e:(j:Int)=z
 · rw[e]; exact hp
 · exact c j (by omega)
theorem UH {s:ByteArray} {z:Int} (h0:0<=z) (hz:z<(s.size:Int)) (h:O9 s z=false):Dv s=false:=by
 unfold Dv;rw[Bool.and_eq_false_iff]; right;rw[List.all_eq_false];exact⟨z.toNat,List.mem_range.2 (by omega),by rw[show((z.toNat:Nat):Int)=z by omega,h]; simp⟩
theorem Vz {s:ByteArray} {z:Int} (h:Ia s z) (hz:¬z<(s.size:Int)):Dv s=decide (1<=s.size/\s.size<=64):=by
 obtain⟨a,b,c⟩:=h;unfold Dv;have:(List.range s.size).all (λi=>O9 s (i:Int))=true:=by
  rw[Al6];intro i hi;exact c i (by have:=List.mem_range.1 hi; omega)
 rw[this,Bool.and_true]
theorem Xc (s:ByteArray) (z:Int):0<=sAt s z/\sAt s z<256:=by
 unfold sAt;split
 · rename_i b _;have:=b.toNat_lt;omega
 · omega
theorem Ui {s:ByteArray}:(s.toList==ByteArray.empty.toList)=decide (s.size=0):=by
 rw[ByteArray.toList_eq,ByteArray.toList_eq,Bool.eq_iff_iff,beq_iff_eq,AlE];constructor
 · intro h;have:=congrArg List.length h;exact this
 · intro h;exact AmH h
theorem Aaz {c:Int} (h0:0<=c) (h1:c<256):(97<=iOr .u8 c 32/\iOr .u8 c 32<=122)↔Ky c=true:=by
 have key:∀n:Fin 256,decide (97<=iOr .u8 (n.val:Int) 32/\iOr .u8 (n.val:Int) 32<=122)=Ky (n.val:Int):=by decide+kernel
 have:=key ⟨c.toNat,by omega⟩;simp only[show((c.toNat:Nat):Int)=c by omega]at this;rw[←this,AlE]
theorem UT (s:ByteArray) (x:Int):O9 s x=true↔(97<=sAt s x/\sAt s x<=122∨65<=sAt s x/\sAt s x<=90)∨(¬x=0/\(48<=sAt s x/\sAt s x<=57∨sAt s x=45∨sAt s x=46∨sAt s x=95)):=by
 unfold O9 Ky Zo;simp only[Bool.or_eq_true,AlG,Ams,AlE,AlD]
theorem Xd {c:Int} (h0:0<=c) (h1:c<256):(97<=iOr .u8 c 32/\iOr .u8 c 32<=122)↔(97<=c/\c<=122∨65<=c/\c<=90):=by
 rw[Aaz h0 h1,Ky,AlE]
end Go
namespace Go.Sx
def A188 (s:ByteArray):FuncId->Nat->LoopAnn:=λ_ _=> .inv Int (λz=>Ia s z) (λz=>[(9,.int .i64 z)]) (λ_=>[]) [] [0,2,3,4,5,6,8,9,10,59] (λz=>KU s-z.toNat)
def AdJ (s:ByteArray) (x:Int):Prop:=AnC (iAdd x 1)/\Sm s/\Sm (Abs s)/\∃(y:Int),Ia s y/\iAdd x 1=y/\nLt (KU s-y.toNat) (KU s-x.toNat)
def Ai2 (s:ByteArray) (x:Int):Prop:=pIn 0 (Abs s) x/\Cn (bEq (sAt s x) 45) (True/\Cn (bEq x 0) (false=Dv s) (True/\(AdJ s x))) (pIn 0 (Abs s) x/\Cn (bEq (sAt s x) 46) (True/\Cn (bEq x 0) (false=Dv s) (True/\(AdJ s x))) (pIn 0 (Abs s) x/\True/\Cn (bEq x 0) (false=Dv s) (True/\Cn (bNot (bEq (sAt s x) 95)) (false=Dv s) ((AdJ s x)))))
def AhM (s:ByteArray) (x:Int):Prop:=True/\Cn (bNot (bLe (iOr IntKind.u8 (sAt s x) 32) 122)) (Cn (bEq x 0) (false=Dv s) (True/\(AdJ s x))) ((AdJ s x))
def Ai3 (s:ByteArray) (x:Int):Prop:=pIn 0 (Abs s) x/\Cn (bEq (sAt s x) 45) ((AhM s x)) (pIn 0 (Abs s) x/\Cn (bEq (sAt s x) 46) ((AhM s x)) (pIn 0 (Abs s) x/\True/\Cn (bNot (bLe (iOr IntKind.u8 (sAt s x) 32) 122)) (Cn (bEq x 0) (false=Dv s) (True/\Cn (bNot (bEq (sAt s x) 95)) (false=Dv s) ((AdJ s x)))) ((AdJ s x))))
theorem v188 (s:ByteArray):AjB s->pLe (Abs s) 9223372036854775807->(∃(x:Int),Ia s x/\0=x)/\∀(x:Int),Ia s x->AnC x->Cn (bLt x (Abs s)) (pIn 0 (Abs s) x/\Cn (bLe 97 (iOr IntKind.u8 (sAt s x) 32)) (pIn 0 (Abs s) x/\Cn (bLe 48 (sAt s x)) (pIn 0 (Abs s) x/\Cn (bLe (sAt s x) 57) ((AhM s x)) ((Ai3 s x))) ((Ai3 s x))) (pIn 0 (Abs s) x/\Cn (bLe 48 (sAt s x)) (pIn 0 (Abs s) x/\Cn (bLe (sAt s x) 57) (True/\Cn (bEq x 0) (false=Dv s) (True/\(AdJ s x))) ((Ai2 s x))) ((Ai2 s x)))) (Cn (AkA s (ByteArray.mk (Array.mk []))) (pLe (Abs s) 9223372036854775807->bLe (Abs s) 64=Dv s) (false=Dv s)):=by
 intro hw;delta AdJ Ai2 AhM Ai3;simp only[D,E];intro hm;refine⟨⟨0,SC s,rfl⟩,λx hx _=>⟨λhlt=> ?_,λhge=> ?_⟩⟩
 · have h0 := hx.1;have cb := Xc s x;have hN := UT s x;have ho := Xd cb.1 cb.2;have hz : Abs s = (KU s : Int) := rfl;have bad : ¬ ((97 <= sAt s x /\ sAt s x <= 122 ∨ 65 <= sAt s x /\ sAt s x <= 90) ∨ (¬ x = 0 /\ (48 <= sAt s x /\ sAt s x <= 57 ∨ sAt s x = 45 ∨ sAt s x = 46 ∨ sAt s x = 95))) -> false = Dv s := λh => (UH h0 hlt (by
    cases e:O9 s x with
    |false=>rfl
    |true=>exact absurd (hN.1 e) h)).symm
   have fwd:((97<=sAt s x/\sAt s x<=122∨65<=sAt s x/\sAt s x<=90)∨(¬x=0/\(48<=sAt s x/\sAt s x<=57∨sAt s x=45∨sAt s x=46∨sAt s x=95)))->AnC (x+1)/\∃y,Ia s y/\x+1=y/\KU s-y.toNat<KU s-x.toNat:=λh=>
    ⟨by simp only[InR]; omega,x+1,TR hx hlt (hN.2 h),rfl,by omega⟩
   generalize (AnC (x+1)/\∃y,Ia s y/\x+1=y/\KU s-y.toNat<KU s-x.toNat)=P at*;generalize Dv s=N at*;generalize iOr IntKind.u8 (sAt s x) 32=o at*;generalize sAt s x=c at*;clear hN
   repeat' (first|apply And.intro|intro _)
   all_goals first|(clear bad fwd; omega)|(refine bad ?_; clear bad fwd; omega)|(refine fwd ?_; clear bad fwd; omega)
 · rw[Vz hx hge,show(ByteArray.mk (Array.mk []))=ByteArray.empty from rfl,Ui];simp only[AlE,AlD];have hz:Abs s=(s.size:Int):=rfl;refine⟨λh _=> ?_,λh=> ?_⟩
   · simp only[decide_eq_decide]; omega
   · symm; simp only[AlD]; omega
def r188:Cr PR:=K0 [] 188 6 {ps:=[(false,[.str])],rs:=[(false,[.bool])],out:=λa=>[[.b (Dv (S a 0 0))]]} (λa=>A188 (S a 0 0)) λa=>Y (v188 (S a 0 0))
theorem v155 (c:Int):InR .u8 c->Cn (bLe 97 c) (Cn (bLe c 122) (true=Ky c) (Cn (bLe 65 c) (bLe c 90=Ky c) (false=Ky c))) (Cn (bLe 65 c) (bLe c 90=Ky c) (false=Ky c)):=by
 intro hw;simp only[D,E,Ky]
 repeat' (first|apply And.intro|intro _)
 all_goals (first|omega|(simp only[decide_eq_decide]; omega)|(symm; simp only[AlE]; omega)|(symm; simp only[AlD]; omega))
def r155:Cr PR:=K0 [] 155 6 {ps:=[(false,hB)],rs:=[(false,[.bool])],out:=λa=>[[.b (Ky (AnF a))]]} U λa=>Y (v155 (AnF a))
def A86 (s:ByteArray):FuncId->Nat->LoopAnn:=λ_ _=> .inv Int (λz=>Ia s z) (λz=>[(3,.int .i64 z)]) (λ_=>[]) [] [0,2,3,4,8,40] (λz=>KU s-z.toNat)
def AfW (s:ByteArray) (x:Int):Prop:=AnC (iAdd x 1)/\Sm s/\∃(y:Int),Ia s y/\iAdd x 1=y/\nLt (KU s-y.toNat) (KU s-x.toNat)
theorem v86 (s:ByteArray):AjB s->(∃(x:Int),Ia s x/\0=x)/\∀(x:Int),Ia s x->AnC x->pLe (Abs s) 9223372036854775807->Cn (bLt x (Abs s)) (pIn 0 (Abs s) x/\True/\True/\Cn (bNot (Ky (sAt s x))) (Cn (bEq x 0) (false=Dv s) (Cn (bLt (sAt s x) 48) (Cn (bNe (sAt s x) 45) (Cn (bNe (sAt s x) 46) (Cn (bNe (sAt s x) 95) (false=Dv s) ((AfW s x))) ((AfW s x))) ((AfW s x))) (Cn (bLt 57 (sAt s x)) (Cn (bNe (sAt s x) 45) (Cn (bNe (sAt s x) 46) (Cn (bNe (sAt s x) 95) (false=Dv s) ((AfW s x))) ((AfW s x))) ((AfW s x))) ((AfW s x))))) ((AfW s x))) (Cn (AkA s (ByteArray.mk (Array.mk []))) (pLe (Abs s) 9223372036854775807->bLe (Abs s) 64=Dv s) (false=Dv s)):=by
 intro hw;delta AfW;simp only[D,E,Ky];refine⟨⟨0,SC s,rfl⟩,λx hx _=>λhm=>⟨λhlt=> ?_,λhge=> ?_⟩⟩
 · have h0 := hx.1;have cb := Xc s x;have hN := UT s x;have ho := Xd cb.1 cb.2;have hz : Abs s = (KU s : Int) := rfl;have bad : ¬ ((97 <= sAt s x /\ sAt s x <= 122 ∨ 65 <= sAt s x /\ sAt s x <= 90) ∨ (¬ x = 0 /\ (48 <= sAt s x /\ sAt s x <= 57 ∨ sAt s x = 45 ∨ sAt s x = 46 ∨ sAt s x = 95))) -> false = Dv s := λh => (UH h0 hlt (by
    cases e:O9 s x with
    |false=>rfl
    |true=>exact absurd (hN.1 e) h)).symm
   have fwd:((97<=sAt s x/\sAt s x<=122∨65<=sAt s x/\sAt s x<=90)∨(¬x=0/\(48<=sAt s x/\sAt s x<=57∨sAt s x=45∨sAt s x=46∨sAt s x=95)))->AnC (x+1)/\∃y,Ia s y/\x+1=y/\KU s-y.toNat<KU s-x.toNat:=λh=>
    ⟨by simp only[InR]; omega,x+1,TR hx hlt (hN.2 h),rfl,by omega⟩
   generalize (AnC (x+1)/\∃y,Ia s y/\x+1=y/\KU s-y.toNat<KU s-x.toNat)=P at*;generalize Dv s=N at*;generalize iOr IntKind.u8 (sAt s x) 32=o at*;generalize sAt s x=c at*;clear hN
   repeat' (first|apply And.intro|intro _)
   all_goals first|(clear bad fwd; omega)|(refine bad ?_; clear bad fwd; omega)|(refine fwd ?_; clear bad fwd; omega)
 · rw[Vz hx hge,show(ByteArray.mk (Array.mk []))=ByteArray.empty from rfl,Ui];simp only[AlE,AlD];have hz:Abs s=(s.size:Int):=rfl;refine⟨λh _=> ?_,λh=> ?_⟩
   · simp only[decide_eq_decide]; omega
   · symm; simp only[AlD]; omega
def r86:Cr PR:=K0 [r155] 86 6 {ps:=[(false,[.str])],rs:=[(false,[.bool])],out:=λa=>[[.b (Dv (S a 0 0))]]} (λa=>A86 (S a 0 0)) λa=>Y (v86 (S a 0 0))
theorem v193 (k:Int) (rs:List (List C)) (ms:List (List C)) (ss:List (List C)) (n:Int):AnC k/\WL hII rs/\WL [Sh.sl hI] ms/\WL hII ss/\AnC n->Cn (bLe 1 n) (Cn (bLe n 7) (pSh 64 n/\bEq (iAnd IntKind.i64 (iShr k n) 1) 1=Ig k n) (false=Ig k n)) (false=Ig k n):=by
 intro hw;simp only[D,E,Ig,bAnd];refine⟨λh=>⟨λh1=>⟨by omega,by rw[AlL h,AlL h1]; rfl⟩,λh1=>by rw[AlL h,AlK h1]; rfl⟩,λh=>by rw[AlK h]; rfl⟩
def r193:Cr PR:=K0 [] 193 6 {ps:=[(true,hX),(false,hI)],rs:=[(false,[.bool])],out:=λa=>[[.b (Ig (AnF a) (AnG a))]]} U λa=>Y (v193 (AnF a) (L a 0 1) (L a 0 2) (L a 0 3) (AnG a))
theorem v81 (k:Int) (n:Int):AnC k/\AnC n->Cn (bLe 1 n) (Cn (bLe n 7) (pSh 64 n/\bEq (iAnd IntKind.i64 (iShr k n) 1) 1=Ig k n) (false=Ig k n)) (false=Ig k n):=by
 intro hw;simp only[D,E,Ig,bAnd];refine⟨λh=>⟨λh1=>⟨by omega,by rw[AlL h,AlL h1]; rfl⟩,λh1=>by rw[AlL h,AlK h1]; rfl⟩,λh=>by rw[AlK h]; rfl⟩
def r81:Cr PR:=K0 [] 81 6 {ps:=[(false,hI),(false,hI)],rs:=[(false,[.bool])],out:=λa=>[[.b (Ig (AnF a) (AnG a))]]} U λa=>Y (v81 (AnF a) (AnG a))
theorem v243 (xs:List (List C)) (lo:Int) (hi:Int):WL hII xs/\AnC lo/\AnC hi->AnE xs->Cn (bLt 0 (iLen xs)) (True/\Cn (DX xs) (pIn 0 (iLen xs) 0/\(AnC (qi 0 (rGet xs 0))->Cn (bLe lo (qi 0 (rGet xs 0))) (AnC (iSub (iLen xs) 1)/\pIn 0 (iLen xs) (iSub (iLen xs) 1)/\(AnC (qi 1 (rGet xs (iSub (iLen xs) 1)))->bLe (qi 1 (rGet xs (iSub (iLen xs) 1))) hi=CP xs lo hi)) (false=CP xs lo hi))) (false=CP xs lo hi)) (false=CP xs lo hi):=by
 intro hw;have no:DX xs=false->false=CP xs lo hi:=λh=>by unfold CP; rw[h,AmS,AlQ]
 have no1:xs.length=0->false=CP xs lo hi:=λh=>by unfold CP; rw[AlK (by omega)]; rfl
 have e:1<=xs.length->DX xs=true->CP xs lo hi=decide (lo<=qi 0 (rGet xs 0)/\qi 1 (rGet xs ((xs.length:Int)-1))<=hi):=λh1 h=>by unfold CP; rw[h,AlL h1]; rfl
 have rng:xs.length<=9223372036854775807->AnC ((xs.length:Int)-1):=λh=>by simp only[InR]; omega
 have m:xs.length<=9223372036854775807:=hw.1.1;simp only[D,E];refine λ_=>⟨λh1=>⟨λh=>⟨by omega,λ_=>⟨λh2=>⟨rng m,by omega,λ_=> ?_⟩,λh2=> ?_⟩⟩,no⟩,λh1=>no1 (by omega)⟩
 · rw[e (by omega) h,decide_eq_decide]; omega
 · rw[e (by omega) h]; symm; simp only[AlD]; omega
def r243:Cr PR:=K0 [r246] 243 6 {ps:=[(true,[.sl hII]),(false,hI),(false,hI)],rs:=[(false,[.bool])],out:=λa=>[[.b (CP (L a 0 0) (AnG a) (AnI a))]]} U λa=>Y (v243 (L a 0 0) (AnG a) (AnI a))
theorem v209 (xs:List (List C)) (lo:Int) (hi:Int):WL hII xs/\AnC lo/\AnC hi->AnE xs->True/\Cn (DX xs) (Cn (bLt 0 (iLen xs)) (pIn 0 (iLen xs) 0/\(AnC (qi 0 (rGet xs 0))->Cn (bLe lo (qi 0 (rGet xs 0))) (AnC (iSub (iLen xs) 1)/\pIn 0 (iLen xs) (iSub (iLen xs) 1)/\(AnC (qi 1 (rGet xs (iSub (iLen xs) 1)))->bLe (qi 1 (rGet xs (iSub (iLen xs) 1))) hi=CP xs lo hi)) (false=CP xs lo hi))) (false=CP xs lo hi)) (false=CP xs lo hi):=by
 intro hw;have no:DX xs=false->false=CP xs lo hi:=λh=>by unfold CP; rw[h,AmS,AlQ]
 have no1:xs.length=0->false=CP xs lo hi:=λh=>by unfold CP; rw[AlK (by omega)]; rfl
 have e:1<=xs.length->DX xs=true->CP xs lo hi=decide (lo<=qi 0 (rGet xs 0)/\qi 1 (rGet xs ((xs.length:Int)-1))<=hi):=λh1 h=>by unfold CP; rw[h,AlL h1]; rfl
 have rng:xs.length<=9223372036854775807->AnC ((xs.length:Int)-1):=λh=>by simp only[InR]; omega
 have m:xs.length<=9223372036854775807:=hw.1.1;simp only[D,E];refine λ_=>⟨λh=>⟨λh1=>⟨by omega,λ_=>⟨λh2=>⟨rng m,by omega,λ_=> ?_⟩,λh2=> ?_⟩⟩,λh1=>no1 (by omega)⟩,no⟩
 · rw[e (by omega) h,decide_eq_decide]; omega
 · rw[e (by omega) h]; symm; simp only[AlD]; omega
def r209:Cr PR:=K0 [r210] 209 6 {ps:=[(true,[.sl hII]),(false,hI),(false,hI)],rs:=[(false,[.bool])],out:=λa=>[[.b (CP (L a 0 0) (AnG a) (AnI a))]]} U λa=>Y (v209 (L a 0 0) (AnG a) (AnI a))
def A228 (ms:List (List C)):FuncId->Nat->LoopAnn:=λ_ _=>lp 29 ms.length (Dw E9 ms) [0,1,2,3,4,25,27,28,29,30,44]
theorem v228 (k:Int) (rs:List (List C)) (ms:List (List C)) (ss:List (List C)):AnC k/\WL hII rs/\WL [Sh.sl hI] ms/\WL hII ss->Cn (bEq k 0) (false=Bi [C.i k,C.l rs,C.l ms,C.l ss]) (Cn (bNe (Ac5 IntKind.i64 k 254) 0) (false=Bi [C.i k,C.l rs,C.l ms,C.l ss]) (True/\True/\Cn (bNot (CP rs 1000 768000)) (false=Bi [C.i k,C.l rs,C.l ms,C.l ss]) (True/\True/\Cn (bNot (CP ss 1 65536)) (false=Bi [C.i k,C.l rs,C.l ms,C.l ss]) (AnE ms->(∃(x:Int),Dw E9 ms x/\0=x)/\∀(x:Int),Dw E9 ms x->AnC x->Cn (bLt x (iLen ms)) (pIn 0 (iLen ms) x/\(WL hI (ql 0 (rGet ms x))->True/\True/\Cn (bNot (Ci (ql 0 (rGet ms x)))) (false=Bi [C.i k,C.l rs,C.l ms,C.l ss]) (geB none (some x) (iLen ms)/\True/\Cn (FP (cutRows ms none (some x)) (ql 0 (rGet ms x))) (false=Bi [C.i k,C.l rs,C.l ms,C.l ss]) (AnC (iAdd x 1)/\Sm [C.i k,C.l rs,C.l ms,C.l ss]/\Sm ms/\Sm (iLen ms)/\Sm [C.i k,C.l rs,C.l ms,C.l ss]/\∃(y:Int),Dw E9 ms y/\iAdd x 1=y/\nLt (ms.length-y.toNat) (ms.length-x.toNat))))) (AnE ms->Cn (bLe 1 (iLen ms)) (AnE ms->bLe (iLen ms) 16=Bi [C.i k,C.l rs,C.l ms,C.l ss]) (false=Bi [C.i k,C.l rs,C.l ms,C.l ss])))))):=by
 intro hw;have e:Bi [.i k,.l rs,.l ms,.l ss]=((!decide (k=0)&&decide (Ac5 .i64 k 254=0))&&(CP rs 1000 768000&&(CP ss 1 65536&&(Hm E9 [] ms&&decide (1<=ms.length/\ms.length<=16))))):=rfl;have b1:k=0->false=Bi [.i k,.l rs,.l ms,.l ss]:=λh=>by rw[e,AlL h]; rfl
 have b2:¬Ac5 .i64 k 254=0->false=Bi [.i k,.l rs,.l ms,.l ss]:=λh=>by rw[e,AlK h,AlQ]; rfl
 have b3:CP rs 1000 768000=false->false=Bi [.i k,.l rs,.l ms,.l ss]:=λh=>by rw[e,h,AmS,AlQ]
 have b4:CP ss 1 65536=false->false=Bi [.i k,.l rs,.l ms,.l ss]:=λh=>by rw[e,h,AmS,AlQ,AlQ]
 have b5:Hm E9 [] ms=false->false=Bi [.i k,.l rs,.l ms,.l ss]:=λh=>by rw[e,h,AmS,AlQ,AlQ,AlQ]
 have b6:¬(1<=ms.length/\ms.length<=16)->false=Bi [.i k,.l rs,.l ms,.l ss]:=λh=>by rw[e,AlK h,AlQ,AlQ,AlQ,AlQ]
 have st:∀x:Int,Dw E9 ms x->0<=x->x<(ms.length:Int)->(Ci (ql 0 (rGet ms x))=false->false=Bi [.i k,.l rs,.l ms,.l ss])/\(Ci (ql 0 (rGet ms x))=true->geB none (some x) (ms.length:Int)/\(FP (cutRows ms none (some x)) (ql 0 (rGet ms x))=true->false=Bi [.i k,.l rs,.l ms,.l ss])/\(FP (cutRows ms none (some x)) (ql 0 (rGet ms x))=false->AnC (x+1)/\∃y,Dw E9 ms y/\x+1=y/\ms.length-y.toNat<ms.length-x.toNat)):=λx h h0 hx=>
  ⟨λa=>b5 (dkB h hx (by unfold E9; rw[a]; rfl)),λa=>⟨by simp only[geB]; omega,λc=>b5 (dkB h hx (by unfold E9; rw[show FP (ms.take x.toNat) (ql 0 (rGet ms x))=true from c,Amq,AlQ])),λc=>⟨inS hw.2.2.1 h0 hx,x+1,dkN h hx (by unfold E9; rw[a,show FP (ms.take x.toNat) (ql 0 (rGet ms x))=false from c]; rfl),rfl,by omega⟩⟩⟩
 simp only[D,E];refine⟨b1,λh1=>⟨b2,λh2=>⟨b3,λh3=>⟨b4,λh4 _=> ?_⟩⟩⟩⟩;refine lpA dk0 (λx h=>h.1) (λx h h0 hx _=>st x h h0 hx) (λx h hx _=>⟨λa _=> ?_,λa=>b6 (by omega)⟩);rw[e,AlK h1,AlL h2,h3,h4,dkE h hx];simp only[AmE,AlR,decide_eq_decide]; omega
def r228:Cr PR:=K0 [r243,r244,r195] 228 6 {ps:=[(true,hX)],rs:=[(false,[.bool])],out:=λa=>[[.b (Bi [.i (AnF a),.l (L a 0 1),.l (L a 0 2),.l (L a 0 3)])]]} (λa=>A228 (L a 0 2)) λa=>Y (v228 (AnF a) (L a 0 1) (L a 0 2) (L a 0 3))
def A148 (ms:List (List C)):FuncId->Nat->LoopAnn:=λ_ _=>lp 29 ms.length (Dw E9 ms) [0,1,2,3,4,25,27,28,29,30,44]
theorem v148 (k:Int) (rs:List (List C)) (ms:List (List C)) (ss:List (List C)):AnC k/\WL hII rs/\WL [Sh.sl hI] ms/\WL hII ss->Cn (bEq k 0) (false=Bi [C.i k,C.l rs,C.l ms,C.l ss]) (Cn (bNe (Ac5 IntKind.i64 k 254) 0) (false=Bi [C.i k,C.l rs,C.l ms,C.l ss]) (AnE ms->Cn (bLt (iLen ms) 1) (false=Bi [C.i k,C.l rs,C.l ms,C.l ss]) (AnE ms->Cn (bLt 16 (iLen ms)) (false=Bi [C.i k,C.l rs,C.l ms,C.l ss]) (AnE ms->(∃(x:Int),Dw E9 ms x/\0=x)/\∀(x:Int),Dw E9 ms x->AnC x->Cn (bLt x (iLen ms)) (pIn 0 (iLen ms) x/\(WL hI (ql 0 (rGet ms x))->True/\True/\Cn (bNot (Ci (ql 0 (rGet ms x)))) (false=Bi [C.i k,C.l rs,C.l ms,C.l ss]) (geB none (some x) (iLen ms)/\True/\Cn (FP (cutRows ms none (some x)) (ql 0 (rGet ms x))) (false=Bi [C.i k,C.l rs,C.l ms,C.l ss]) (AnC (iAdd x 1)/\Sm [C.i k,C.l rs,C.l ms,C.l ss]/\Sm ms/\Sm (iLen ms)/\Sm [C.i k,C.l rs,C.l ms,C.l ss]/\∃(y:Int),Dw E9 ms y/\iAdd x 1=y/\nLt (ms.length-y.toNat) (ms.length-x.toNat))))) (True/\Cn (CP rs 1000 768000) (True/\CP ss 1 65536=Bi [C.i k,C.l rs,C.l ms,C.l ss]) (false=Bi [C.i k,C.l rs,C.l ms,C.l ss])))))):=by
 intro hw;have e:Bi [.i k,.l rs,.l ms,.l ss]=((!decide (k=0)&&decide (Ac5 .i64 k 254=0))&&(CP rs 1000 768000&&(CP ss 1 65536&&(Hm E9 [] ms&&decide (1<=ms.length/\ms.length<=16))))):=rfl;have b1:k=0->false=Bi [.i k,.l rs,.l ms,.l ss]:=λh=>by rw[e,AlL h]; rfl
 have b2:¬Ac5 .i64 k 254=0->false=Bi [.i k,.l rs,.l ms,.l ss]:=λh=>by rw[e,AlK h,AlQ]; rfl
 have b3:CP rs 1000 768000=false->false=Bi [.i k,.l rs,.l ms,.l ss]:=λh=>by rw[e,h,AmS,AlQ]
 have b4:CP ss 1 65536=false->false=Bi [.i k,.l rs,.l ms,.l ss]:=λh=>by rw[e,h,AmS,AlQ,AlQ]
 have b5:Hm E9 [] ms=false->false=Bi [.i k,.l rs,.l ms,.l ss]:=λh=>by rw[e,h,AmS,AlQ,AlQ,AlQ]
 have b6:¬(1<=ms.length/\ms.length<=16)->false=Bi [.i k,.l rs,.l ms,.l ss]:=λh=>by rw[e,AlK h,AlQ,AlQ,AlQ,AlQ]
 have st:∀x:Int,Dw E9 ms x->0<=x->x<(ms.length:Int)->(Ci (ql 0 (rGet ms x))=false->false=Bi [.i k,.l rs,.l ms,.l ss])/\(Ci (ql 0 (rGet ms x))=true->geB none (some x) (ms.length:Int)/\(FP (cutRows ms none (some x)) (ql 0 (rGet ms x))=true->false=Bi [.i k,.l rs,.l ms,.l ss])/\(FP (cutRows ms none (some x)) (ql 0 (rGet ms x))=false->AnC (x+1)/\∃y,Dw E9 ms y/\x+1=y/\ms.length-y.toNat<ms.length-x.toNat)):=λx h h0 hx=>
  ⟨λa=>b5 (dkB h hx (by unfold E9; rw[a]; rfl)),λa=>⟨by simp only[geB]; omega,λc=>b5 (dkB h hx (by unfold E9; rw[show FP (ms.take x.toNat) (ql 0 (rGet ms x))=true from c,Amq,AlQ])),λc=>⟨inS hw.2.2.1 h0 hx,x+1,dkN h hx (by unfold E9; rw[a,show FP (ms.take x.toNat) (ql 0 (rGet ms x))=false from c]; rfl),rfl,by omega⟩⟩⟩
 simp only[D,E];refine⟨b1,λh1=>⟨b2,λh2 _=>⟨λh3=>b6 (by omega),λh3 _=>⟨λh4=>b6 (by omega),λh4 _=> ?_⟩⟩⟩⟩;refine lpA dk0 (λx h=>h.1) (λx h h0 hx _=>st x h h0 hx) (λx h hx=>⟨λa=> ?_,b3⟩);rw[e,AlK h1,AlL h2,a,dkE h hx,AlL (by omega)];simp only[AmE,AlR,Bool.and_true]
def r148:Cr PR:=K0 [r209,r55,r158] 148 6 {ps:=[(true,hX)],rs:=[(false,[.bool])],out:=λa=>[[.b (Bi [.i (AnF a),.l (L a 0 1),.l (L a 0 2),.l (L a 0 3)])]]} (λa=>A148 (L a 0 2)) λa=>Y (v148 (AnF a) (L a 0 1) (L a 0 2) (L a 0 3))
theorem v227 (k:Int) (rs:List (List C)) (ms:List (List C)) (ss:List (List C)):AnC k/\WL hII rs/\WL [Sh.sl hI] ms/\WL hII ss->True/\True/\Sm (bNot (Bi [C.i k,C.l rs,C.l ms,C.l ss])):=by
 intro hw;exact⟨trivial,trivial,Abc.2 trivial⟩
def r227:Cr PR:=K0 [r228] 227 6 {ps:=[(true,hX)],rs:=[(false,[.bool])],out:=λa=>[[.b (bNot (Bi [.i (AnF a),.l (L a 0 1),.l (L a 0 2),.l (L a 0 3)]))]]} U λa=>Y (v227 (AnF a) (L a 0 1) (L a 0 2) (L a 0 3))
def A189 (xs:List (List C)):FuncId->Nat->LoopAnn:=λff ii=>bif Nat.beq ff 229 then lp 8 xs.length (DK (λx=>bNot (Bi x)) xs) [0,1,4,5,7,8,9,16]else .unroll 0
theorem v189 (xs:List (List C)):WL hX xs->AnE xs->Cn (bLe (iLen xs) 64) (AnE xs->(∃(x:Int),DK (fun(x:List C)=>bNot (Bi x)) xs x/\0=x)/\∀(x:Int),DK (fun(x:List C)=>bNot (Bi x)) xs x->AnC x->Cn (bLt x (iLen xs)) (pIn 0 (iLen xs) x/\(AnC (qi 0 (rGet xs x))/\WL hII (ql 1 (rGet xs x))/\WL [Sh.sl hI] (ql 2 (rGet xs x))/\WL hII (ql 3 (rGet xs x))->True/\Cn (bNot (Bi (rGet xs x))) (True/\bNot (bLe 0 x)=Ef xs) (AnC (iAdd x 1)/\Sm xs/\Sm (iLen xs)/\∃(y:Int),DK (fun(x:List C)=>bNot (Bi x)) xs y/\iAdd x 1=y/\nLt (xs.length-y.toNat) (xs.length-x.toNat)))) (True/\true=Ef xs)) (false=Ef xs):=by
 intro hw;have an:∀l:List (List C),(l.any λx=>bNot (Bi x))= !(l.all Bi):=λl=>by rw[List.not_all_eq_any_not]
 simp only[D,E];refine λ_=>⟨λh _=> ?_,λh=>by unfold Ef; rw[AlK (by omega)]; rfl⟩
 have e:Ef xs= !(xs.any λx=>bNot (Bi x)):=by unfold Ef; rw[an,AlL (by omega),Bool.not_not,AlR]
 rw[e];exact lpA ex0 (λx h=>h.1) (λx h h0 hx _=>⟨λa=>by rw[←exB h hx (by rw[a]; rfl),AlL h0],λa=>⟨inS hw h0 hx,x+1,exN h hx (by rw[a]; rfl),rfl,by omega⟩⟩) (λx h hx=>by rw[←exE h hx]; rfl)
def r189:Cr PR:=K0 [r227] 189 6 {ps:=[(false,[.sl hX])],rs:=[(false,[.bool])],out:=λa=>[[.b (Ef (L a 0 0))]]} (λa=>A189 (L a 0 0)) λa=>Y (v189 (L a 0 0))
def A80 (xs:List (List C)):FuncId->Nat->LoopAnn:=λ_ _=>lp 7 xs.length (E5 Bi xs) [0,2,4,5,6,7,8,13]
theorem v80 (xs:List (List C)):WL hX xs->AnE xs->(∃(x:Int),E5 Bi xs x/\0=x)/\∀(x:Int),E5 Bi xs x->AnC x->Cn (bLt x (iLen xs)) (pIn 0 (iLen xs) x/\(AnC (qi 0 (rGet xs x))/\WL hII (ql 1 (rGet xs x))/\WL [Sh.sl hI] (ql 2 (rGet xs x))/\WL hII (ql 3 (rGet xs x))->True/\True/\Cn (bNot (Bi (rGet xs x))) (false=Ef xs) (AnC (iAdd x 1)/\Sm xs/\Sm xs/\Sm (iLen xs)/\∃(y:Int),E5 Bi xs y/\iAdd x 1=y/\nLt (xs.length-y.toNat) (xs.length-x.toNat)))) (AnE xs->bLe (iLen xs) 64=Ef xs):=by
 intro hw;have no:false=xs.all Bi->false=Ef xs:=λh=>by unfold Ef; rw[←h,AlQ]
 simp only[D,E];refine λ_=>lpA al0 (λx h=>h.1) (λx h h0 hx _=>⟨λa=>no (alB h hx a),λa=>⟨inS hw h0 hx,x+1,alN h hx a,rfl,by omega⟩⟩) (λx h hx _=> ?_);unfold Ef; rw[←alE h hx,Bool.and_true,decide_eq_decide]; omega
def r80:Cr PR:=K0 [r148] 80 6 {ps:=[(false,[.sl hX])],rs:=[(false,[.bool])],out:=λa=>[[.b (Ef (L a 0 0))]]} (λa=>A80 (L a 0 0)) λa=>Y (v80 (L a 0 0))
theorem v191 (xs:List (List C)):WL hX xs->True/\True/\Cn (bNot (Ef xs)) ([]=AP xs) (xs=AP xs):=by
 intro hw;simp only[D,E,AP];exact⟨λh=>by rw[h]; rfl,λh=>by rw[h]; rfl⟩
def r191:Cr PR:=K0 [r189] 191 6 {ps:=[(false,[.sl hX])],rs:=[(false,[.sl hX])],out:=λa=>[[.l (AP (L a 0 0))]]} U λa=>Y (v191 (L a 0 0))
theorem v38 (xs:List (List C)):WL hX xs->True/\True/\Cn (bNot (Ef xs)) ([]=AP xs) (xs=AP xs):=by
 intro hw;simp only[D,E,AP];exact⟨λh=>by rw[h]; rfl,λh=>by rw[h]; rfl⟩
def r38:Cr PR:=K0 [r80] 38 6 {ps:=[(false,[.sl hX])],rs:=[(false,[.sl hX])],out:=λa=>[[.l (AP (L a 0 0))]]} U λa=>Y (v38 (L a 0 0))
theorem v192 (k:Int) (rs:List (List C)) (ms:List (List C)) (ss:List (List C)) (n:Int) (r:Int) (m:List (List C)) (z:Int):AnC k/\WL hII rs/\WL [Sh.sl hI] ms/\WL hII ss/\AnC n/\AnC r/\WL hI m/\AnC z->AnC n->True/\Cn (Ig k n) (AnC r->True/\Cn (Fh rs r) (WL hI m->True/\Cn (FP ms m) (AnC z->True/\Fh ss z=FM n r m z [C.i k,C.l rs,C.l ms,C.l ss]) (false=FM n r m z [C.i k,C.l rs,C.l ms,C.l ss])) (false=FM n r m z [C.i k,C.l rs,C.l ms,C.l ss])) (false=FM n r m z [C.i k,C.l rs,C.l ms,C.l ss]):=by
 intro hw;have e:FM n r m z [.i k,.l rs,.l ms,.l ss]=bAnd (bAnd (bAnd (Ig k n) (Fh rs r)) (FP ms m)) (Fh ss z):=rfl;rw[e]
 cases Ig k n<;>cases Fh rs r<;>cases FP ms m<;>simp[Cn_iff,bAnd]
def r192:Cr PR:=K0 [r193,r194,r195] 192 6 {ps:=[(true,hX),(false,[.bool,.int .i64,.int .i64,.sl hI,.int .i64])],rs:=[(false,[.bool])],out:=λa=>[[.b (FM (AnG a) (AnJ a) (L a 1 2) (AnP a) [.i (AnF a),.l (L a 0 1),.l (L a 0 2),.l (L a 0 3)])]]} U λa=>Y (v192 (AnF a) (L a 0 1) (L a 0 2) (L a 0 3) (AnG a) (AnJ a) (L a 1 2) (AnP a))
theorem v88 (k:Int) (rs:List (List C)) (ms:List (List C)) (ss:List (List C)) (n:Int) (r:Int) (m:List (List C)) (z:Int):AnC k/\WL hII rs/\WL [Sh.sl hI] ms/\WL hII ss/\AnC n/\AnC r/\WL hI m/\AnC z->True/\Cn (Ig k n) (True/\Cn (Fh rs r) (True/\Cn (FP ms m) (True/\Fh ss z=FM n r m z [C.i k,C.l rs,C.l ms,C.l ss]) (false=FM n r m z [C.i k,C.l rs,C.l ms,C.l ss])) (false=FM n r m z [C.i k,C.l rs,C.l ms,C.l ss])) (false=FM n r m z [C.i k,C.l rs,C.l ms,C.l ss]):=by
 intro hw;have e:FM n r m z [.i k,.l rs,.l ms,.l ss]=bAnd (bAnd (bAnd (Ig k n) (Fh rs r)) (FP ms m)) (Fh ss z):=rfl;rw[e]
 cases Ig k n<;>cases Fh rs r<;>cases FP ms m<;>simp[Cn_iff,bAnd]
def r88:Cr PR:=K0 [r81,r157,r158] 88 6 {ps:=[(true,hX),(true,hC)],rs:=[(false,[.bool])],out:=λa=>[[.b (FM (AnG a) (AnJ a) (L a 1 2) (AnP a) [.i (AnF a),.l (L a 0 1),.l (L a 0 2),.l (L a 0 3)])]]} U λa=>Y (v88 (AnF a) (L a 0 1) (L a 0 2) (L a 0 3) (AnG a) (AnJ a) (L a 1 2) (AnP a))
def A128 (ys:List (List C)) (n:Int) (r:Int) (m:List (List C)) (z:Int):FuncId->Nat->LoopAnn:=λff ii=>bif Nat.beq ff 229 then lp 8 (AP ys).length (DK (FM n r m z) (AP ys)) [0,1,4,5,7,8,9,16]else .unroll 0
theorem v128 (ys:List (List C)) (n:Int) (r:Int) (m:List (List C)) (z:Int):WL hX ys/\AnC n/\AnC r/\WL hI m/\AnC z->True/\(WL hX (AP ys)->AnE (AP ys)->(∃(x:Int),DK (FM n r m z) (AP ys) x/\0=x)/\∀(x:Int),DK (FM n r m z) (AP ys) x->AnC x->Cn (bLt x (iLen (AP ys))) (pIn 0 (iLen (AP ys)) x/\(AnC (qi 0 (rGet (AP ys) x))/\WL hII (ql 1 (rGet (AP ys) x))/\WL [Sh.sl hI] (ql 2 (rGet (AP ys) x))/\WL hII (ql 3 (rGet (AP ys) x))->True/\Cn (FM n r m z (rGet (AP ys) x)) (bLe 0 x=Fj ys n r m z) (AnC (iAdd x 1)/\Sm (AP ys)/\Sm n/\Sm r/\Sm m/\Sm z/\Sm (iLen (AP ys))/\∃(y:Int),DK (FM n r m z) (AP ys) y/\iAdd x 1=y/\nLt ((AP ys).length-y.toNat) ((AP ys).length-x.toNat)))) (false=Fj ys n r m z)):=by
 intro hw;simp only[D,E];intro hw' _;exact lpA ex0 (λx h=>h.1) (λx h h0 hx _=>⟨λa=>(AlL h0).trans (exB h hx a),λa=>⟨inS hw' h0 hx,x+1,exN h hx a,rfl,by omega⟩⟩) (λx h hx=>exE h hx)
def r128:Cr PR:=K0 [r191,r192,(mark 4000038)] 128 6 {ps:=[(false,[.sl hX]),(true,hC)],rs:=[(false,[.bool])],out:=λa=>[[.b (Fj (L a 0 0) (AnG a) (AnJ a) (L a 1 2) (AnP a))]]} (λa=>A128 (L a 0 0) (AnG a) (AnJ a) (L a 1 2) (AnP a)) λa=>Y (v128 (L a 0 0) (AnG a) (AnJ a) (L a 1 2) (AnP a))
def A43 (ys:List (List C)) (n:Int) (r:Int) (m:List (List C)) (z:Int):FuncId->Nat->LoopAnn:=λ_ _=>lp 10 (AP ys).length (DK (FM n r m z) (AP ys)) [0,1,3,4,6,8,9,10,11,16]
theorem v43 (ys:List (List C)) (n:Int) (r:Int) (m:List (List C)) (z:Int):WL hX ys/\AnC n/\AnC r/\WL hI m/\AnC z->True/\(WL hX (AP ys)->AnE (AP ys)->(∃(x:Int),DK (FM n r m z) (AP ys) x/\0=x)/\∀(x:Int),DK (FM n r m z) (AP ys) x->AnC x->Cn (bLt x (iLen (AP ys))) (pIn 0 (iLen (AP ys)) x/\(AnC (qi 0 (rGet (AP ys) x))/\WL hII (ql 1 (rGet (AP ys) x))/\WL [Sh.sl hI] (ql 2 (rGet (AP ys) x))/\WL hII (ql 3 (rGet (AP ys) x))->True/\Cn (FM n r m z (rGet (AP ys) x)) (true=Fj ys n r m z) (AnC (iAdd x 1)/\Sm ys/\Sm [C.i n,C.i r,C.l m,C.i z]/\Sm (AP ys)/\Sm (iLen (AP ys))/\Sm [C.i n,C.i r,C.l m,C.i z]/\∃(y:Int),DK (FM n r m z) (AP ys) y/\iAdd x 1=y/\nLt ((AP ys).length-y.toNat) ((AP ys).length-x.toNat)))) (false=Fj ys n r m z)):=by
 intro hw;simp only[D,E];intro hw' _;exact lpA ex0 (λx h=>h.1) (λx h h0 hx _=>⟨λa=>exB h hx a,λa=>⟨inS hw' h0 hx,x+1,exN h hx a,rfl,by omega⟩⟩) (λx h hx=>exE h hx)
def r43:Cr PR:=K0 [r38,r88] 43 6 {ps:=[(false,[.sl hX]),(true,hC)],rs:=[(false,[.bool])],out:=λa=>[[.b (Fj (L a 0 0) (AnG a) (AnJ a) (L a 1 2) (AnP a))]]} (λa=>A43 (L a 0 0) (AnG a) (AnJ a) (L a 1 2) (AnP a)) λa=>Y (v43 (L a 0 0) (AnG a) (AnJ a) (L a 1 2) (AnP a))
def Ai8 (d:List C):Prop:=AnE (ql 7 d)->Cn (bLe 1 (iLen (ql 7 d))) (AnE (ql 7 d)->Cn (bLe (iLen (ql 7 d)) 8) (True/\Ef (ql 7 d)=AY d) (false=AY d)) (false=AY d)
theorem v127 (d:List C):WD hD d->True/\True/\Cn (bNot (Dv (qs 1 d))) (false=AY d) (Cn (bNe (qi 2 d) 1) (Cn (bNe (qi 2 d) 2) (false=AY d) (Cn (bLt (qi 3 d) 0) (false=AY d) (Cn (bLt 65535 (qi 3 d)) (false=AY d) (Cn (bLt (qi 4 d) 0) (false=AY d) (Cn (bLt 1048576 (qi 4 d)) (false=AY d) (Cn (bLt (qi 5 d) 0) (false=AY d) (Cn (bLt 2048 (qi 5 d)) (false=AY d) (Cn (bLt (qi 6 d) 0) (false=AY d) (Cn (bLt 4096 (qi 6 d)) (false=AY d) ((Ai8 d))))))))))) (Cn (bLt (qi 3 d) 0) (false=AY d) (Cn (bLt 65535 (qi 3 d)) (false=AY d) (Cn (bLt (qi 4 d) 0) (false=AY d) (Cn (bLt 1048576 (qi 4 d)) (false=AY d) (Cn (bLt (qi 5 d) 0) (false=AY d) (Cn (bLt 2048 (qi 5 d)) (false=AY d) (Cn (bLt (qi 6 d) 0) (false=AY d) (Cn (bLt 4096 (qi 6 d)) (false=AY d) ((Ai8 d))))))))))):=by
 intro hw;delta Ai8;have e:AY d=(Dv (qs 1 d)&&(decide ((qi 2 d=1∨qi 2 d=2)/\0<=qi 3 d/\qi 3 d<=65535/\0<=qi 4 d/\qi 4 d<=1048576/\0<=qi 5 d/\qi 5 d<=2048/\0<=qi 6 d/\qi 6 d<=4096/\1<=(ql 7 d).length/\(ql 7 d).length<=8)&&Ef (ql 7 d))):=rfl;have no:¬((qi 2 d=1∨qi 2 d=2)/\0<=qi 3 d/\qi 3 d<=65535/\0<=qi 4 d/\qi 4 d<=1048576/\0<=qi 5 d/\qi 5 d<=2048/\0<=qi 6 d/\qi 6 d<=4096/\1<=(ql 7 d).length/\(ql 7 d).length<=8)->false=AY d:=λh=>by rw[e,AlK h,AmS,AlQ]
 have yes:Dv (qs 1 d)=true->((qi 2 d=1∨qi 2 d=2)/\0<=qi 3 d/\qi 3 d<=65535/\0<=qi 4 d/\qi 4 d<=1048576/\0<=qi 5 d/\qi 5 d<=2048/\0<=qi 6 d/\qi 6 d<=4096/\1<=(ql 7 d).length/\(ql 7 d).length<=8)->Ef (ql 7 d)=AY d:=λh0 h=>by rw[e,h0,AlL h,AlR,AlR]
 have nn:Dv (qs 1 d)=false->false=AY d:=λh=>by rw[e,h]; rfl
 simp only[D,E];generalize AY d=V at*;generalize Ef (ql 7 d)=B at*
 cases hn:Dv (qs 1 d)
 · exact⟨λ_=>nn hn,λh=>(by cases h)⟩
 have yes:=yes hn;clear nn e
 repeat' (first|apply And.intro|intro _)
 all_goals (first|contradiction|exact no (by omega)|exact yes (by omega))
def r127:Cr PR:=K0 [r188,r189] 127 6 {ps:=[(true,hD)],rs:=[(false,[.bool])],out:=λa=>[[.b (AY (AnQ a))]]} U λa=>Y (v127 (AnQ a))
def AkS (d:List C):Prop:=AnE (ql 7 d)->Cn (bLe 1 (iLen (ql 7 d))) (AnE (ql 7 d)->Cn (bLe (iLen (ql 7 d)) 8) (True/\Ef (ql 7 d)=AY d) (false=AY d)) (false=AY d)
theorem v41 (d:List C):WD hD d->True/\Cn (Dv (qs 1 d)) (Cn (bEq (qi 2 d) 1) (Cn (bLe 0 (qi 3 d)) (Cn (bLe (qi 3 d) 65535) (Cn (bLe 0 (qi 4 d)) (Cn (bLe (qi 4 d) 1048576) (Cn (bLe 0 (qi 5 d)) (Cn (bLe (qi 5 d) 2048) (Cn (bLe 0 (qi 6 d)) (Cn (bLe (qi 6 d) 4096) ((AkS d)) (false=AY d)) (false=AY d)) (false=AY d)) (false=AY d)) (false=AY d)) (false=AY d)) (false=AY d)) (false=AY d)) (Cn (bEq (qi 2 d) 2) (Cn (bLe 0 (qi 3 d)) (Cn (bLe (qi 3 d) 65535) (Cn (bLe 0 (qi 4 d)) (Cn (bLe (qi 4 d) 1048576) (Cn (bLe 0 (qi 5 d)) (Cn (bLe (qi 5 d) 2048) (Cn (bLe 0 (qi 6 d)) (Cn (bLe (qi 6 d) 4096) ((AkS d)) (false=AY d)) (false=AY d)) (false=AY d)) (false=AY d)) (false=AY d)) (false=AY d)) (false=AY d)) (false=AY d)) (false=AY d))) (false=AY d):=by
 intro hw;delta AkS;have e:AY d=(Dv (qs 1 d)&&(decide ((qi 2 d=1∨qi 2 d=2)/\0<=qi 3 d/\qi 3 d<=65535/\0<=qi 4 d/\qi 4 d<=1048576/\0<=qi 5 d/\qi 5 d<=2048/\0<=qi 6 d/\qi 6 d<=4096/\1<=(ql 7 d).length/\(ql 7 d).length<=8)&&Ef (ql 7 d))):=rfl;have no:¬((qi 2 d=1∨qi 2 d=2)/\0<=qi 3 d/\qi 3 d<=65535/\0<=qi 4 d/\qi 4 d<=1048576/\0<=qi 5 d/\qi 5 d<=2048/\0<=qi 6 d/\qi 6 d<=4096/\1<=(ql 7 d).length/\(ql 7 d).length<=8)->false=AY d:=λh=>by rw[e,AlK h,AmS,AlQ]
 have yes:Dv (qs 1 d)=true->((qi 2 d=1∨qi 2 d=2)/\0<=qi 3 d/\qi 3 d<=65535/\0<=qi 4 d/\qi 4 d<=1048576/\0<=qi 5 d/\qi 5 d<=2048/\0<=qi 6 d/\qi 6 d<=4096/\1<=(ql 7 d).length/\(ql 7 d).length<=8)->Ef (ql 7 d)=AY d:=λh0 h=>by rw[e,h0,AlL h,AlR,AlR]
 have nn:Dv (qs 1 d)=false->false=AY d:=λh=>by rw[e,h]; rfl
 simp only[D,E];generalize AY d=V at*;generalize Ef (ql 7 d)=B at*
 cases hn:Dv (qs 1 d)
 · exact⟨λh=>(by cases h),λ_=>nn hn⟩
 have yes:=yes hn;clear nn e
 repeat' (first|apply And.intro|intro _)
 all_goals (first|contradiction|exact no (by omega)|exact yes (by omega))
def r41:Cr PR:=K0 [r86,r80] 41 6 {ps:=[(true,hD)],rs:=[(false,[.bool])],out:=λa=>[[.b (AY (AnQ a))]]} U λa=>Y (v41 (AnQ a))
end Go.Sx

