import Derived.Test.YtejdbdegdanecaaGreatSxUse
import Derived.Test.YtejdbdegdanecaaGreatM19
set_option linter.unusedVariables false
set_option linter.unusedSimpArgs false
set_option maxRecDepth 100000
set_option maxHeartbeats 4000000
namespace Go
open Go.Sx
def JF (f:List C->Bool) (g:List C->List C->Bool):Option (List C)->List (List C)->Bool
 |_,[]=>true
 |p,x::r=>f x&&(match p with|none=>true|some y=>g y x)&&JF f g (some x) r
def Ih (f:List C->Bool) (g:List C->List C->Bool) (xs:List (List C)) (i:Int):Prop:=0<=i/\i<=(xs.length:Int)/\JF f g (if i=0 then none else some (rGet xs (i-1))) (xs.drop i.toNat)=JF f g none xs/\(0<i->f (rGet xs (i-1))=true)
def GX (h:List (List C)->List C->Bool):List (List C)->List (List C)->Bool
 |_,[]=>true
 |p,x::r=>h p x&&GX h (p++[x]) r
def Di (h:List (List C)->List C->Bool) (xs:List (List C)) (i:Int):Prop:=0<=i/\i<=(xs.length:Int)/\GX h (xs.take i.toNat) (xs.drop i.toNat)=GX h [] xs
def BK (f:List C->Bool):Int->List (List C)->Int
 |_,[]=> -1
 |k,x::r=>bif f x then k else BK f (k+1) r
def Gh (f:List C->Bool) (xs:List (List C)) (i:Int):Prop:=0<=i/\i<=(xs.length:Int)/\BK f i (xs.drop i.toNat)=BK f 0 xs
def Bc (v:Int) (x:List C):Bool:=bEq (qi 0 x) v
def Fj (p:List (List C)) (x:List C):Bool:=decide (1<=qi 0 x/\qi 0 x<=8)&& !(p.any (Bc (qi 0 x)))
def BO (m:List (List C)):Bool:=decide (1<=m.length/\m.length<=8)&&GX Fj [] m
def MX (m x:List (List C)):Bool:=Dk Cm x m
def Fe (l:List (List C)) (m:List (List C)):Bool:=l.any λx=>MX m (ql 0 x)
def EQ (x:List C):Bool:=decide (0<=qi 0 x/\qi 0 x<=qi 1 x/\qi 1 x<=2147483647)
def IV (y x:List C):Bool:=decide (qi 1 y+1<qi 0 x)
def DF (xs:List (List C)):Bool:=JF EQ IV none xs&&decide (xs.length<=64)
def AA (xs:List (List C)):List (List C):=bif DF xs then xs else[]
def Je (n:Int) (x:List C):Bool:=decide (qi 0 x<=n/\n<=qi 1 x)
def EZ (xs:List (List C)) (n:Int):Bool:=(AA xs).any (Je n)
end Go
namespace Go
open Go.Sx
section
variable {f:List C->Bool} {g:List C->List C->Bool} {h:List (List C)->List C->Bool} {xs:List (List C)} {i:Int}
theorem ck0:Ih f g xs 0:=⟨Int.le_refl _,by omega,rfl,λh=>(Int.lt_irrefl _ h).elim⟩
theorem Akn (a:Ih f g xs i) (hi:i<(xs.length:Int)):JF f g none xs=(f (rGet xs i)&&(if i=0 then true else g (rGet xs (i-1)) (rGet xs i))&&JF f g (some (rGet xs i)) (xs.drop (i+1).toNat)):=by
 rw[←a.2.2.1,Aaq a.1 hi];by_cases h:i=0
 · rw[if_pos h,if_pos h]; rfl
 · rw[if_neg h,if_neg h]; rfl
theorem ckN (a:Ih f g xs i) (hi:i<(xs.length:Int)) (hf:f (rGet xs i)=true) (hg:0<i->g (rGet xs (i-1)) (rGet xs i)=true):Ih f g xs (i+1):=by
 have h0:=a.1;have e:i+1-1=i:=by omega
 refine⟨by omega,by omega,?_,λ_=>by rw[e]; exact hf⟩;rw[Akn a hi,hf,if_neg (by omega),e];by_cases h:i=0
 · rw[if_pos h]; rfl
 · rw[if_neg h,hg (by omega)]; rfl
theorem ckB (a:Ih f g xs i) (hi:i<(xs.length:Int)) (hf:f (rGet xs i)=false):JF f g none xs=false:=by rw[Akn a hi,hf]; rfl
theorem ckB2 (a:Ih f g xs i) (hi:i<(xs.length:Int)) (h:0<i) (hg:g (rGet xs (i-1)) (rGet xs i)=false):JF f g none xs=false:=by rw[Akn a hi,if_neg (by omega),hg,Bool.and_false]; rfl
theorem ckE (a:Ih f g xs i) (hi:¬i<(xs.length:Int)):JF f g none xs=true:=by
 rw[←a.2.2.1,List.drop_eq_nil_of_le (by omega)];unfold JF; rfl
theorem dk0:Di h xs 0:=⟨Int.le_refl _,by omega,rfl⟩
theorem Abm (h0:0<=i) (hi:i<(xs.length:Int)):xs.take (i+1).toNat=xs.take i.toNat++[rGet xs i]:=by
 rw[show(i+1).toNat=i.toNat+1 by omega,List.take_add_one];unfold rGet;rw[List.getD_eq_getElem?_getD,List.getElem?_eq_getElem (show i.toNat<xs.length by omega)]; rfl
theorem dkN (a:Di h xs i) (hi:i<(xs.length:Int)) (hf:h (xs.take i.toNat) (rGet xs i)=true):Di h xs (i+1):=by
 have h0:=a.1;refine⟨by omega,by omega,?_⟩;rw[←a.2.2,Aaq h0 hi,Abm h0 hi,GX,hf]; rfl
theorem dkB (a:Di h xs i) (hi:i<(xs.length:Int)) (hf:h (xs.take i.toNat) (rGet xs i)=false):GX h [] xs=false:=by rw[←a.2.2,Aaq a.1 hi,GX,hf]; rfl
theorem dkE (a:Di h xs i) (hi:¬i<(xs.length:Int)):GX h [] xs=true:=by rw[←a.2.2,List.drop_eq_nil_of_le (by omega)]; rfl
theorem ix0:Gh f xs 0:=⟨Int.le_refl _,by omega,rfl⟩
theorem ixN (a:Gh f xs i) (hi:i<(xs.length:Int)) (hf:f (rGet xs i)=false):Gh f xs (i+1):=by
 have h0:=a.1;refine⟨by omega,by omega,?_⟩;rw[←a.2.2,Aaq h0 hi,BK,hf]; rfl
theorem ixB (a:Gh f xs i) (hi:i<(xs.length:Int)) (hf:f (rGet xs i)=true):i=BK f 0 xs:=by rw[←a.2.2,Aaq a.1 hi,BK,hf]; rfl
theorem ixE (a:Gh f xs i) (hi:¬i<(xs.length:Int)): -1=BK f 0 xs:=by rw[←a.2.2,List.drop_eq_nil_of_le (by omega)]; rfl
theorem AjC:∀(xs:List (List C)) (k:Int),0<=k->(0<=BK f k xs↔xs.any f=true)/\(BK f k xs= -1∨k<=BK f k xs)
 |[],k,h=>⟨by simp[BK],.inl rfl⟩
 |x::r,k,h=>by
  have a:=AjC r (k+1) (by omega);simp only[BK,List.any_cons]
  cases f x
  · exact⟨by simpa using a.1,a.2.imp id (by simp only[cond_false]; omega)⟩
  · exact⟨by simpa using h,.inr (Int.le_refl _)⟩
theorem Aky (h0:0<=i) (hi:i<(xs.length:Int)) (hf:f (rGet xs i)=true):BK f 0 xs=i↔(xs.take i.toNat).any f=false:=by
 have key:∀(n:Nat) (ys:List (List C)) (k:Int),0<=k->n<ys.length->f (ys.getD n [])=true->(BK f k ys=k+n↔(ys.take n).any f=false):=by
  intro n
  induction n with
  |zero=>
   intro ys k hk hn hy
   cases ys with
   |nil=>cases hn
   |cons y r=>
    simp only[List.getD_cons_zero]at hy
    simp[BK,hy]
  |succ n ih=>
   intro ys k hk hn hy
   cases ys with
   |nil=>cases hn
   |cons y r=>
    simp only[List.getD_cons_succ]at hy
    simp only[BK,List.take_succ_cons,List.any_cons]
    cases f y
    · have a:=ih r (k+1) (by omega) (by simpa using hn) hy
      simp only[cond_false,Bool.false_or,←a]; omega
    · simp only[cond_true,Bool.true_or]
      constructor
      · intro h; omega
      · intro h; cases h
 have:=key i.toNat xs 0 (Int.le_refl _) (by omega) hf;rw[←this]; omega
end
end Go
namespace Go.Sx
def A255 (xs:List (List C)) (v:Int):FuncId->Nat->LoopAnn:=λ_ _=>lp 8 xs.length (Gh (Bc v) xs) [0,1,4,5,7,8,9,16]
theorem v255 (xs:List (List C)) (v:Int):WL hI xs/\InR .i64 v->pLe (iLen xs) 9223372036854775807->(∃(x:Int),Gh (Bc v) xs x/\0=x)/\∀(x:Int),Gh (Bc v) xs x->InR .i64 x->Cn (bLt x (iLen xs)) (pIn 0 (iLen xs) x/\(InR .i64 (qi 0 (rGet xs x))->Cn (bEq v (qi 0 (rGet xs x))) (x=BK (Bc v) 0 xs) (InR .i64 (iAdd x 1)/\Sm xs/\Sm v/\Sm (iLen xs)/\∃(y:Int),Gh (Bc v) xs y/\iAdd x 1=y/\nLt (xs.length-y.toNat) (xs.length-x.toNat)))) (-1=BK (Bc v) 0 xs):=by
 intro hw;simp only[D,E];intro _;exact lpA ix0 (λx h=>h.1) (λx h h0 hx _=>⟨λa=>ixB h hx (decide_eq_true (by omega)),λa=>⟨inS hw.1 h0 hx,x+1,ixN h hx (decide_eq_false (by omega)),rfl,by omega⟩⟩) (λx h hx=>ixE h hx)
def r255:Cr PR:=K0 [] 255 6 {ps:=[(false,hL),(false,hI)],rs:=[(false,hI)],pre:=λ_=>True,out:=λa=>[[.i (BK (Bc (I a 1 0)) 0 (L a 0 0))]]} (λa=>A255 (L a 0 0) (I a 1 0)) λa=>Y (v255 (L a 0 0) (I a 1 0))
end Go.Sx
namespace Go.Sx
def A102 (xs:List (List C)) (v:Int):FuncId->Nat->LoopAnn:=λ_ _=>lp 9 xs.length (Gh (Bc v) xs) [0,1,4,5,6,7,8,9,10,16]
theorem v102 (xs:List (List C)) (v:Int):WL hI xs/\InR .i64 v->pLe (iLen xs) 9223372036854775807->(∃(x:Int),Gh (Bc v) xs x/\0=x)/\∀(x:Int),Gh (Bc v) xs x->InR .i64 x->Cn (bLt x (iLen xs)) (pIn 0 (iLen xs) x/\(InR .i64 (qi 0 (rGet xs x))->Cn (bEq (qi 0 (rGet xs x)) v) (x=BK (Bc v) 0 xs) (InR .i64 (iAdd x 1)/\Sm xs/\Sm v/\Sm xs/\Sm (iLen xs)/\∃(y:Int),Gh (Bc v) xs y/\iAdd x 1=y/\nLt (xs.length-y.toNat) (xs.length-x.toNat)))) (-1=BK (Bc v) 0 xs):=by
 intro hw;simp only[D,E];intro _;exact lpA ix0 (λx h=>h.1) (λx h h0 hx _=>⟨λa=>ixB h hx (decide_eq_true (by omega)),λa=>⟨inS hw.1 h0 hx,x+1,ixN h hx (decide_eq_false (by omega)),rfl,by omega⟩⟩) (λx h hx=>ixE h hx)
def r102:Cr PR:=K0 [] 102 6 {ps:=[(false,hL),(false,hI)],rs:=[(false,hI)],pre:=λ_=>True,out:=λa=>[[.i (BK (Bc (I a 1 0)) 0 (L a 0 0))]]} (λa=>A102 (L a 0 0) (I a 1 0)) λa=>Y (v102 (L a 0 0) (I a 1 0))
end Go.Sx
namespace Go.Sx
def A248 (xs:List (List C)) (ys:List (List C)):FuncId->Nat->LoopAnn:=λ_ _=>lp 13 xs.length (Iz Cm xs ys) [0,1,4,5,10,12,13,14,24]
theorem v248 (xs:List (List C)) (ys:List (List C)):WL hI xs/\WL hI ys->pLe (iLen xs) 9223372036854775807->pLe (iLen ys) 9223372036854775807->Cn (bNe (iLen xs) (iLen ys)) (false=Dk Cm xs ys) (pLe (iLen xs) 9223372036854775807->(∃(x:Int),Iz Cm xs ys x/\0=x)/\∀(x:Int),Iz Cm xs ys x->InR .i64 x->Cn (bLt x (iLen xs)) (pIn 0 (iLen xs) x/\(InR .i64 (qi 0 (rGet xs x))->pIn 0 (iLen ys) x/\(InR .i64 (qi 0 (rGet ys x))->Cn (bNe (qi 0 (rGet xs x)) (qi 0 (rGet ys x))) (false=Dk Cm xs ys) (InR .i64 (iAdd x 1)/\Sm xs/\Sm ys/\Sm (iLen xs)/\∃(y:Int),Iz Cm xs ys y/\iAdd x 1=y/\nLt (xs.length-y.toNat) (xs.length-x.toNat))))) (true=Dk Cm xs ys)):=by
 intro hw;simp only[D,E];intro _ _;refine⟨λh=>rlL (by omega),λh _=>lpA (rl0 (by omega)) (λx h=>h.1) (λx h h0 hx _=>⟨⟨h0,by omega⟩,λ_=>⟨λa=>rlB h hx (decide_eq_false a),λa=>⟨inS hw.1 h0 hx,x+1,rlN h hx (decide_eq_true a),rfl,by omega⟩⟩⟩) (λx h hx=>rlE h hx)⟩
def r248:Cr PR:=K0 [] 248 6 {ps:=[(false,hL),(false,hL)],rs:=[(false,[.bool])],pre:=λ_=>True,out:=λa=>[[.b (Dk Cm (L a 0 0) (L a 1 0))]]} (λa=>A248 (L a 0 0) (L a 1 0)) λa=>Y (v248 (L a 0 0) (L a 1 0))
end Go.Sx
namespace Go.Sx
def A151 (xs:List (List C)) (ys:List (List C)):FuncId->Nat->LoopAnn:=λ_ _=>lp 13 xs.length (Iz Cm xs ys) [0,1,4,5,10,12,13,14,24]
theorem v151 (xs:List (List C)) (ys:List (List C)):WL hI xs/\WL hI ys->pLe (iLen xs) 9223372036854775807->pLe (iLen ys) 9223372036854775807->Cn (bNe (iLen xs) (iLen ys)) (false=Dk Cm xs ys) (pLe (iLen xs) 9223372036854775807->(∃(x:Int),Iz Cm xs ys x/\0=x)/\∀(x:Int),Iz Cm xs ys x->InR .i64 x->Cn (bLt x (iLen xs)) (pIn 0 (iLen xs) x/\(InR .i64 (qi 0 (rGet xs x))->pIn 0 (iLen ys) x/\(InR .i64 (qi 0 (rGet ys x))->Cn (bNe (qi 0 (rGet xs x)) (qi 0 (rGet ys x))) (false=Dk Cm xs ys) (InR .i64 (iAdd x 1)/\Sm xs/\Sm ys/\Sm (iLen xs)/\∃(y:Int),Iz Cm xs ys y/\iAdd x 1=y/\nLt (xs.length-y.toNat) (xs.length-x.toNat))))) (true=Dk Cm xs ys)):=by
 intro hw;simp only[D,E];intro _ _;refine⟨λh=>rlL (by omega),λh _=>lpA (rl0 (by omega)) (λx h=>h.1) (λx h h0 hx _=>⟨⟨h0,by omega⟩,λ_=>⟨λa=>rlB h hx (decide_eq_false a),λa=>⟨inS hw.1 h0 hx,x+1,rlN h hx (decide_eq_true a),rfl,by omega⟩⟩⟩) (λx h hx=>rlE h hx)⟩
def r151:Cr PR:=K0 [] 151 6 {ps:=[(false,hL),(false,hL)],rs:=[(false,[.bool])],pre:=λ_=>True,out:=λa=>[[.b (Dk Cm (L a 0 0) (L a 1 0))]]} (λa=>A151 (L a 0 0) (L a 1 0)) λa=>Y (v151 (L a 0 0) (L a 1 0))
end Go.Sx
namespace Go.Sx
def A244 (xs:List (List C)):FuncId->Nat->LoopAnn:=λ_ _=>lp 15 xs.length (Di Fj xs) [0,2,3,4,12,13,14,15,16,32]
theorem v244 (xs:List (List C)):WL hI xs->pLe (iLen xs) 9223372036854775807->Cn (bLt (iLen xs) 1) (false=BO xs) (pLe (iLen xs) 9223372036854775807->Cn (bLt 8 (iLen xs)) (false=BO xs) (pLe (iLen xs) 9223372036854775807->(∃(x:Int),Di Fj xs x/\0=x)/\∀(x:Int),Di Fj xs x->InR .i64 x->Cn (bLt x (iLen xs)) (pIn 0 (iLen xs) x/\(InR .i64 (qi 0 (rGet xs x))->Cn (bLt (qi 0 (rGet xs x)) 1) (false=BO xs) (Cn (bLt 8 (qi 0 (rGet xs x))) (false=BO xs) (geB none (some x) (iLen xs)/\True/\(InR .i64 (BK (Bc (qi 0 (rGet xs x))) 0 (cutRows xs none (some x)))->Cn (bLe 0 (BK (Bc (qi 0 (rGet xs x))) 0 (cutRows xs none (some x)))) (false=BO xs) (InR .i64 (iAdd x 1)/\Sm xs/\Sm xs/\Sm (iLen xs)/\∃(y:Int),Di Fj xs y/\iAdd x 1=y/\nLt (xs.length-y.toNat) (xs.length-x.toNat))))))) (true=BO xs))):=by
 intro hw;simp only[D,E];intro _;have no:¬(1<=xs.length/\xs.length<=8)->false=BO xs:=λh=>by unfold BO; rw[decide_eq_false h]; rfl
 refine⟨λh=>no (by omega),λh _=>⟨λh1=>no (by omega),λh1 _=> ?_⟩⟩;have yes:BO xs=GX Fj [] xs:=by unfold BO; rw[decide_eq_true (by omega)]; rfl
 rw[yes];refine lpA dk0 (λx h=>h.1) (λx h h0 hx _=> ?_) (λx h hx=>(dkE h hx).symm);have a:=(AjC (f:=Bc (qi 0 (rGet xs x))) (xs.take x.toNat) 0 (Int.le_refl _)).1;have bad:Fj (xs.take x.toNat) (rGet xs x)=false->false=GX Fj [] xs:=λe=>(dkB h hx e).symm;refine⟨λh2=>bad (by unfold Fj; rw[decide_eq_false (by omega)]; rfl),λh2=>⟨λh3=>bad (by unfold Fj; rw[decide_eq_false (by omega)]; rfl),λh3=>⟨by simp only[geB]; omega,λ_=>⟨λh4=>bad ?_,λh4=>⟨inS hw h0 hx,x+1,dkN h hx ?_,rfl,by omega⟩⟩⟩⟩⟩
 · unfold Fj; rw[a.1 h4,Bool.not_true,Bool.and_false]
 · unfold Fj; rw[decide_eq_true (by omega),eq_false_of_ne_true λe=>h4 (a.2 e)]; rfl
def r244:Cr PR:=K0 [r255] 244 6 {ps:=[(false,hL)],rs:=[(false,[.bool])],pre:=λ_=>True,out:=λa=>[[.b (BO (L a 0 0))]]} (λa=>A244 (L a 0 0)) λa=>Y (v244 (L a 0 0))
end Go.Sx
namespace Go.Sx
def A55 (xs:List (List C)):FuncId->Nat->LoopAnn:=λ_ _=>lp 7 xs.length (Di Fj xs) [0,2,3,4,5,6,7,8,24]
theorem v55 (xs:List (List C)):WL hI xs->pLe (iLen xs) 9223372036854775807->(∃(x:Int),Di Fj xs x/\0=x)/\∀(x:Int),Di Fj xs x->InR .i64 x->Cn (bLt x (iLen xs)) (pIn 0 (iLen xs) x/\(InR .i64 (qi 0 (rGet xs x))->Cn (bLt (qi 0 (rGet xs x)) 1) (false=BO xs) (Cn (bLt 8 (qi 0 (rGet xs x))) (false=BO xs) (True/\(InR .i64 (BK (Bc (qi 0 (rGet xs x))) 0 xs)->Cn (bNe (BK (Bc (qi 0 (rGet xs x))) 0 xs) x) (false=BO xs) (InR .i64 (iAdd x 1)/\Sm xs/\Sm xs/\Sm (iLen xs)/\∃(y:Int),Di Fj xs y/\iAdd x 1=y/\nLt (xs.length-y.toNat) (xs.length-x.toNat))))))) (pLe (iLen xs) 9223372036854775807->Cn (bLe 1 (iLen xs)) (pLe (iLen xs) 9223372036854775807->bLe (iLen xs) 8=BO xs) (false=BO xs)):=by
 intro hw;simp only[D,E];intro _;have dn:GX Fj [] xs=false->false=BO xs:=λe=>by unfold BO; rw[e,Bool.and_false]
 refine lpA dk0 (λx h=>h.1) (λx h h0 hx _=> ?_) (λx h hx _=> ?_)
 · have bad:Fj (xs.take x.toNat) (rGet xs x)=false->false=BO xs:=λe=>dn (dkB h hx e);have ii:=Aky (f:=Bc (qi 0 (rGet xs x))) h0 hx (decide_eq_true rfl);refine⟨λh2=>bad (by unfold Fj; rw[decide_eq_false (by omega)]; rfl),λh2=>⟨λh3=>bad (by unfold Fj; rw[decide_eq_false (by omega)]; rfl),λh3 _=>⟨λh4=>bad ?_,λh4=>⟨inS hw h0 hx,x+1,dkN h hx ?_,rfl,by omega⟩⟩⟩⟩
   · unfold Fj; rw[eq_true_of_ne_false λe=>h4 (ii.2 e),Bool.not_true,Bool.and_false]
   · unfold Fj; rw[decide_eq_true (by omega),ii.1 h4]; rfl
 · have e:=dkE h hx;unfold BO;rw[e,Bool.and_true];exact⟨λh1 _=>by simp only[decide_eq_decide]; omega,λh1=>by symm; simp only[decide_eq_false_iff_not]; omega⟩
def r55:Cr PR:=K0 [r102] 55 6 {ps:=[(false,hL)],rs:=[(false,[.bool])],pre:=λ_=>True,out:=λa=>[[.b (BO (L a 0 0))]]} (λa=>A55 (L a 0 0)) λa=>Y (v55 (L a 0 0))
end Go.Sx
namespace Go.Sx
theorem v234 (x:List (List C)) (m:List (List C)):WL hI x/\WL hI m->WL hI m->True/\Dk Cm x m=MX m x:=by
 intro hw;exact λ_=>⟨trivial,rfl⟩
def r234:Cr PR:=K0 [r248] 234 6 {ps:=[(false,hL),(false,[.bool,.sl hI])],rs:=[(false,[.bool])],pre:=λ_=>True,out:=λa=>[[.b (MX (L a 1 0) (L a 0 0))]]} U λa=>Y (v234 (L a 0 0) (L a 1 0))
end Go.Sx
namespace Go.Sx
def A195 (xs:List (List C)) (m:List (List C)):FuncId->Nat->LoopAnn:=λff ii=>bif Nat.beq ff 247 then lp 8 xs.length (Dn (λx=>MX m (ql 0 x)) xs) [0,1,4,5,7,8,9,16]else .unroll 0
theorem v195 (xs:List (List C)) (m:List (List C)):WL [Sh.sl hI] xs/\WL hI m->pLe (iLen xs) 9223372036854775807->(∃(x:Int),Dn (fun(x:List C)=>MX m (ql 0 x)) xs x/\0=x)/\∀(x:Int),Dn (fun(x:List C)=>MX m (ql 0 x)) xs x->InR .i64 x->Cn (bLt x (iLen xs)) (pIn 0 (iLen xs) x/\(WL hI (ql 0 (rGet xs x))->True/\Cn (MX m (ql 0 (rGet xs x))) (bLe 0 x=Fe xs m) (InR .i64 (iAdd x 1)/\Sm xs/\Sm m/\Sm (iLen xs)/\∃(y:Int),Dn (fun(x:List C)=>MX m (ql 0 x)) xs y/\iAdd x 1=y/\nLt (xs.length-y.toNat) (xs.length-x.toNat)))) (false=Fe xs m):=by
 intro hw;simp only[D,E];intro _;exact lpA ex0 (λx h=>h.1) (λx h h0 hx _=>⟨λa=>(decide_eq_true h0).trans (exB h hx a),λa=>⟨inS hw.1 h0 hx,x+1,exN h hx a,rfl,by omega⟩⟩) (λx h hx=>exE h hx)
def r195:Cr PR:=K0 [r234,(mark 4000022)] 195 6 {ps:=[(false,hM),(false,hL)],rs:=[(false,[.bool])],pre:=λ_=>True,out:=λa=>[[.b (Fe (L a 0 0) (L a 1 0))]]} (λa=>A195 (L a 0 0) (L a 1 0)) λa=>Y (v195 (L a 0 0) (L a 1 0))
end Go.Sx
namespace Go.Sx
def A158 (xs:List (List C)) (m:List (List C)):FuncId->Nat->LoopAnn:=λ_ _=>lp 9 xs.length (Dn (λx=>MX m (ql 0 x)) xs) [0,1,4,6,7,8,9,10,15]
theorem v158 (xs:List (List C)) (m:List (List C)):WL [Sh.sl hI] xs/\WL hI m->pLe (iLen xs) 9223372036854775807->(∃(x:Int),Dn (fun(x:List C)=>MX m (ql 0 x)) xs x/\0=x)/\∀(x:Int),Dn (fun(x:List C)=>MX m (ql 0 x)) xs x->InR .i64 x->Cn (bLt x (iLen xs)) (pIn 0 (iLen xs) x/\(WL hI (ql 0 (rGet xs x))->True/\Cn (Dk Cm (ql 0 (rGet xs x)) m) (true=Fe xs m) (InR .i64 (iAdd x 1)/\Sm xs/\Sm m/\Sm xs/\Sm (iLen xs)/\∃(y:Int),Dn (fun(x:List C)=>MX m (ql 0 x)) xs y/\iAdd x 1=y/\nLt (xs.length-y.toNat) (xs.length-x.toNat)))) (false=Fe xs m):=by
 intro hw;simp only[D,E];intro _;exact lpA ex0 (λx h=>h.1) (λx h h0 hx _=>⟨λa=>exB h hx a,λa=>⟨inS hw.1 h0 hx,x+1,exN h hx a,rfl,by omega⟩⟩) (λx h hx=>exE h hx)
def r158:Cr PR:=K0 [r151] 158 6 {ps:=[(false,hM),(false,hL)],rs:=[(false,[.bool])],pre:=λ_=>True,out:=λa=>[[.b (Fe (L a 0 0) (L a 1 0))]]} (λa=>A158 (L a 0 0) (L a 1 0)) λa=>Y (v158 (L a 0 0) (L a 1 0))
end Go.Sx
namespace Go.Sx
theorem v254 (l:Int) (h:Int):InR .i64 l/\InR .i64 h->Cn (bLe 0 l) (Cn (bLe l h) (bLe h 2147483647=EQ [C.i l,C.i h]) (false=EQ [C.i l,C.i h])) (false=EQ [C.i l,C.i h]):=by
 intro hw;simp only[D,E,show EQ [.i l,.i h]=decide (0<=l/\l<=h/\h<=2147483647)from rfl]
 repeat' (first|apply And.intro|intro _)
 all_goals (first|(simp only[decide_eq_decide]; omega)|(symm; simp only[decide_eq_false_iff_not]; omega))
def r254:Cr PR:=K0 [] 254 6 {ps:=[(true,hII)],rs:=[(false,[.bool])],pre:=λ_=>True,out:=λa=>[[.b (EQ [.i (I a 0 0),.i (I a 0 1)])]]} U λa=>Y (v254 (I a 0 0) (I a 0 1))
end Go.Sx
namespace Go.Sx
def A246 (xs:List (List C)):FuncId->Nat->LoopAnn:=λ_ _=>lp 8 xs.length (Ih EQ IV xs) [0,1,2,3,4,6,7,8,9,32]
def Aia (xs:List (List C)) (x:Int):Prop:=InR .i64 (iAdd x 1)/\Sm [C.l xs]/\Sm xs/\Sm (iLen xs)/\Sm [C.l xs]/\∃(y:Int),Ih EQ IV xs y/\iAdd x 1=y/\nLt (xs.length-y.toNat) (xs.length-x.toNat)
theorem v246 (xs:List (List C)):WL hII xs->pLe (iLen xs) 9223372036854775807->(∃(x:Int),Ih EQ IV xs x/\0=x)/\∀(x:Int),Ih EQ IV xs x->InR .i64 x->Cn (bLt x (iLen xs)) (pIn 0 (iLen xs) x/\(InR .i64 (qi 0 (rGet xs x))/\InR .i64 (qi 1 (rGet xs x))->True/\True/\Cn (bNot (EQ (rGet xs x))) (false=DF xs) (Cn (bLt 0 x) (InR .i64 (iSub x 1)/\pIn 0 (iLen xs) (iSub x 1)/\(InR .i64 (qi 1 (rGet xs (iSub x 1)))->InR .i64 (iAdd (qi 1 (rGet xs (iSub x 1))) 1)/\Cn (bLe (qi 0 (rGet xs x)) (iAdd (qi 1 (rGet xs (iSub x 1))) 1)) (false=DF xs) ((Aia xs x)))) ((Aia xs x))))) (pLe (iLen xs) 9223372036854775807->bLe (iLen xs) 64=DF xs):=by
 intro hw;delta Aia;simp only[D,E];intro _;have no:JF EQ IV none xs=false->false=DF xs:=λh=>by unfold DF; rw[h]; rfl
 refine lpA ck0 (λx h=>h.1) (λx h h0 hx _=> ?_) (λx h hx _=>by unfold DF; rw[ckE h hx,Bool.true_and,decide_eq_decide]; omega);have a1:=inS hw h0 hx;have a2:0<x->InR .i64 (x-1):=λ_=>by simp only[InR]at a1 ⊢; omega
 have a3:0<x->0<=x-1/\x-1<(xs.length:Int):=λ_=>by omega
 have nx:EQ (rGet xs x)=true->(0<x->IV (rGet xs (x-1)) (rGet xs x)=true)->InR .i64 (x+1)/\∃y,Ih EQ IV xs y/\x+1=y/\xs.length-y.toNat<xs.length-x.toNat:=λh1 h2=>⟨a1,x+1,ckN h hx h1 h2,rfl,by omega⟩
 refine⟨λh1=>no (ckB h hx h1),λh1=>⟨λh2=>⟨a2 h2,a3 h2,λ_=>⟨by have:=of_decide_eq_true (h.2.2.2 h2); simp only[InR]; omega,λh3=>no (ckB2 h hx h2 (decide_eq_false (by omega))),λh3=>nx h1 λ_=>decide_eq_true (by omega)⟩⟩,λh2=>nx h1 λh3=>(h2 h3).elim⟩⟩
def r246:Cr PR:=K0 [r254] 246 6 {ps:=[(true,[.sl hII])],rs:=[(false,[.bool])],pre:=λ_=>True,out:=λa=>[[.b (DF (L a 0 0))]]} (λa=>A246 (L a 0 0)) λa=>Y (v246 (L a 0 0))
end Go.Sx
namespace Go.Sx
def A210 (xs:List (List C)):FuncId->Nat->LoopAnn:=λ_ _=>lp 8 xs.length (Ih EQ IV xs) [0,1,2,3,4,6,7,8,9,44]
def Aif (xs:List (List C)) (x:Int):Prop:=InR .i64 (iAdd x 1)/\Sm [C.l xs]/\Sm xs/\Sm (iLen xs)/\Sm [C.l xs]/\∃(y:Int),Ih EQ IV xs y/\iAdd x 1=y/\nLt (xs.length-y.toNat) (xs.length-x.toNat)
theorem v210 (xs:List (List C)):WL hII xs->pLe (iLen xs) 9223372036854775807->(∃(x:Int),Ih EQ IV xs x/\0=x)/\∀(x:Int),Ih EQ IV xs x->InR .i64 x->Cn (bLt x (iLen xs)) (pIn 0 (iLen xs) x/\(InR .i64 (qi 0 (rGet xs x))/\InR .i64 (qi 1 (rGet xs x))->Cn (bLt (qi 0 (rGet xs x)) 0) (false=DF xs) (Cn (bLt (qi 1 (rGet xs x)) (qi 0 (rGet xs x))) (false=DF xs) (Cn (bLt 2147483647 (qi 1 (rGet xs x))) (false=DF xs) (Cn (bLt 0 x) (InR .i64 (iSub (qi 0 (rGet xs x)) 1)/\InR .i64 (iSub x 1)/\pIn 0 (iLen xs) (iSub x 1)/\(InR .i64 (qi 1 (rGet xs (iSub x 1)))->Cn (bLe (iSub (qi 0 (rGet xs x)) 1) (qi 1 (rGet xs (iSub x 1)))) (false=DF xs) ((Aif xs x)))) ((Aif xs x))))))) (pLe (iLen xs) 9223372036854775807->bLe (iLen xs) 64=DF xs):=by
 intro hw;delta Aif;simp only[D,E];intro _;have no:JF EQ IV none xs=false->false=DF xs:=λh=>by unfold DF; rw[h]; rfl
 refine lpA ck0 (λx h=>h.1) (λx h h0 hx _=> ?_) (λx h hx _=>by unfold DF; rw[ckE h hx,Bool.true_and,decide_eq_decide]; omega);have a1:=inS hw h0 hx;have a2:0<x->InR .i64 (x-1):=λ_=>by simp only[InR]at a1 ⊢; omega
 have a3:0<x->0<=x-1/\x-1<(xs.length:Int):=λ_=>by omega
 have nx:EQ (rGet xs x)=true->(0<x->IV (rGet xs (x-1)) (rGet xs x)=true)->InR .i64 (x+1)/\∃y,Ih EQ IV xs y/\x+1=y/\xs.length-y.toNat<xs.length-x.toNat:=λh1 h2=>⟨a1,x+1,ckN h hx h1 h2,rfl,by omega⟩
 have bd:¬(0<=qi 0 (rGet xs x)/\qi 0 (rGet xs x)<=qi 1 (rGet xs x)/\qi 1 (rGet xs x)<=2147483647)->false=DF xs:=λh1=>no (ckB h hx (decide_eq_false h1));refine⟨λh1=>bd (by omega),λh1=>⟨λh2=>bd (by omega),λh2=>⟨λh3=>bd (by omega),λh3=> ?_⟩⟩⟩;have h4:EQ (rGet xs x)=true:=decide_eq_true (by omega);exact⟨λh2=>⟨by simp only[InR]; omega,a2 h2,a3 h2,λ_=>⟨λh3=>no (ckB2 h hx h2 (decide_eq_false (by omega))),λh3=>nx h4 λ_=>decide_eq_true (by omega)⟩⟩,λh2=>nx h4 λh3=>(h2 h3).elim⟩
def r210:Cr PR:=K0 [] 210 6 {ps:=[(true,[.sl hII])],rs:=[(false,[.bool])],pre:=λ_=>True,out:=λa=>[[.b (DF (L a 0 0))]]} (λa=>A210 (L a 0 0)) λa=>Y (v210 (L a 0 0))
end Go.Sx
namespace Go.Sx
theorem v231 (xs:List (List C)):WL hII xs->True/\True/\Cn (bNot (DF xs)) ([]=AA xs) (xs=AA xs):=by
 intro hw;simp only[D,E,AA];exact⟨λh=>by rw[h]; rfl,λh=>by rw[h]; rfl⟩
def r231:Cr PR:=K0 [r246] 231 6 {ps:=[(true,[.sl hII])],rs:=[(false,[.sl hII])],pre:=λ_=>True,out:=λa=>[[.l (AA (L a 0 0))]]} U λa=>Y (v231 (L a 0 0))
end Go.Sx
namespace Go.Sx
theorem v149 (xs:List (List C)):WL hII xs->True/\True/\Cn (bNot (DF xs)) ([]=AA xs) (xs=AA xs):=by
 intro hw;simp only[D,E,AA];exact⟨λh=>by rw[h]; rfl,λh=>by rw[h]; rfl⟩
def r149:Cr PR:=K0 [r210] 149 6 {ps:=[(true,[.sl hII])],rs:=[(false,[.sl hII])],pre:=λ_=>True,out:=λa=>[[.l (AA (L a 0 0))]]} U λa=>Y (v149 (L a 0 0))
end Go.Sx
namespace Go.Sx
theorem v232 (l:Int) (h:Int) (n:Int):InR .i64 l/\InR .i64 h/\InR .i64 n->InR .i64 n->Cn (bLe l n) (InR .i64 n->bLe n h=Je n [C.i l,C.i h]) (false=Je n [C.i l,C.i h]):=by
 intro hw;simp only[D,E,show Je n [.i l,.i h]=decide (l<=n/\n<=h)from rfl];intro _;exact⟨λh _=>by simp only[decide_eq_decide]; omega,λh=>by symm; simp only[decide_eq_false_iff_not]; omega⟩
def r232:Cr PR:=K0 [] 232 6 {ps:=[(true,hII),(false,[.bool,.int .i64])],rs:=[(false,[.bool])],pre:=λ_=>True,out:=λa=>[[.b (Je (I a 1 0) [.i (I a 0 0),.i (I a 0 1)])]]} U λa=>Y (v232 (I a 0 0) (I a 0 1) (I a 1 0))
end Go.Sx
namespace Go.Sx
def A194 (ys:List (List C)) (n:Int):FuncId->Nat->LoopAnn:=λff ii=>bif Nat.beq ff 245 then lp 8 (AA ys).length (Dn (Je n) (AA ys)) [0,1,4,5,7,8,9,16]else .unroll 0
theorem v194 (ys:List (List C)) (n:Int):WL hII ys/\InR .i64 n->True/\(WL hII (AA ys)->pLe (iLen (AA ys)) 9223372036854775807->(∃(x:Int),Dn (Je n) (AA ys) x/\0=x)/\∀(x:Int),Dn (Je n) (AA ys) x->InR .i64 x->Cn (bLt x (iLen (AA ys))) (pIn 0 (iLen (AA ys)) x/\(InR .i64 (qi 0 (rGet (AA ys) x))/\InR .i64 (qi 1 (rGet (AA ys) x))->True/\Cn (Je n (rGet (AA ys) x)) (bLe 0 x=EZ ys n) (InR .i64 (iAdd x 1)/\Sm (AA ys)/\Sm n/\Sm (iLen (AA ys))/\Sm [C.l ys]/\∃(y:Int),Dn (Je n) (AA ys) y/\iAdd x 1=y/\nLt ((AA ys).length-y.toNat) ((AA ys).length-x.toNat)))) (false=EZ ys n)):=by
 intro hw;simp only[D,E];intro hw' _;exact lpA ex0 (λx h=>h.1) (λx h h0 hx _=>⟨λa=>(decide_eq_true h0).trans (exB h hx a),λa=>⟨inS hw' h0 hx,x+1,exN h hx a,rfl,by omega⟩⟩) (λx h hx=>exE h hx)
def r194:Cr PR:=K0 [r231,r232,(mark 4000003)] 194 6 {ps:=[(true,[.sl hII]),(false,hI)],rs:=[(false,[.bool])],pre:=λ_=>True,out:=λa=>[[.b (EZ (L a 0 0) (I a 1 0))]]} (λa=>A194 (L a 0 0) (I a 1 0)) λa=>Y (v194 (L a 0 0) (I a 1 0))
end Go.Sx
namespace Go.Sx
def A157 (ys:List (List C)) (n:Int):FuncId->Nat->LoopAnn:=λ_ _=>lp 10 (AA ys).length (Dn (Je n) (AA ys)) [0,1,2,4,6,8,9,10,11,23]
def Aij (ys:List (List C)) (n:Int) (x:Int):Prop:=InR .i64 (iAdd x 1)/\Sm [C.l ys]/\Sm n/\Sm (AA ys)/\Sm (iLen (AA ys))/\Sm [C.l ys]/\∃(y:Int),Dn (Je n) (AA ys) y/\iAdd x 1=y/\nLt ((AA ys).length-y.toNat) ((AA ys).length-x.toNat)
theorem v157 (ys:List (List C)) (n:Int):WL hII ys/\InR .i64 n->True/\(WL hII (AA ys)->pLe (iLen (AA ys)) 9223372036854775807->(∃(x:Int),Dn (Je n) (AA ys) x/\0=x)/\∀(x:Int),Dn (Je n) (AA ys) x->InR .i64 x->Cn (bLt x (iLen (AA ys))) (pIn 0 (iLen (AA ys)) x/\(InR .i64 (qi 0 (rGet (AA ys) x))/\InR .i64 (qi 1 (rGet (AA ys) x))->Cn (bLe (qi 0 (rGet (AA ys) x)) n) (Cn (bLe n (qi 1 (rGet (AA ys) x))) (true=EZ ys n) ((Aij ys n x))) ((Aij ys n x)))) (false=EZ ys n)):=by
 intro hw;delta Aij;simp only[D,E];intro hw' _;refine lpA ex0 (λx h=>h.1) (λx h h0 hx _=> ?_) (λx h hx=>exE h hx);have nx:¬(qi 0 (rGet (AA ys) x)<=n/\n<=qi 1 (rGet (AA ys) x))->InR .i64 (x+1)/\∃y,Dn (Je n) (AA ys) y/\x+1=y/\(AA ys).length-y.toNat<(AA ys).length-x.toNat:=λe=>⟨inS hw' h0 hx,x+1,exN h hx (decide_eq_false e),rfl,by omega⟩
 exact⟨λa=>⟨λb=>exB h hx (decide_eq_true ⟨a,b⟩),λb=>nx (by omega)⟩,λa=>nx (by omega)⟩
def r157:Cr PR:=K0 [r149] 157 6 {ps:=[(true,[.sl hII]),(false,hI)],rs:=[(false,[.bool])],pre:=λ_=>True,out:=λa=>[[.b (EZ (L a 0 0) (I a 1 0))]]} (λa=>A157 (L a 0 0) (I a 1 0)) λa=>Y (v157 (L a 0 0) (I a 1 0))
end Go.Sx

set_option linter.unusedVariables false
set_option linter.unusedSimpArgs false
set_option maxRecDepth 100000
set_option maxHeartbeats 4000000
namespace Go
open Go.Sx
def JZ (c:Int):Bool:=decide (97<=c/\c<=122∨65<=c/\c<=90)
def Yd (c:Int):Bool:=decide (48<=c/\c<=57∨c=45∨c=46∨c=95)
def Om (s:ByteArray) (z:Int):Bool:=JZ (sAt s z)||(!decide (z=0)&&Yd (sAt s z))
def C9 (s:ByteArray):Bool:=decide (1<=s.size/\s.size<=64)&&(List.range s.size).all (λi=>Om s (i:Int))
def Hl (s:ByteArray) (z:Int):Prop:=0<=z/\z<=(s.size:Int)/\∀j:Nat,(j:Int)<z->Om s (j:Int)=true
def J7 (s:ByteArray):Nat:=s.size
def Hq (k n:Int):Bool:=bAnd (bLe 1 n) (bAnd (bLe n 7) (bEq (iAnd .i64 (iShr k n) 1) 1))
def BZ (xs:List (List C)) (lo hi:Int):Bool:=decide (1<=xs.length)&&(DF xs&&decide (lo<=qi 0 (rGet xs 0)/\qi 1 (rGet xs ((xs.length:Int)-1))<=hi))
def EM (p:List (List C)) (x:List C):Bool:=BO (ql 0 x)&& !(Fe p (ql 0 x))
def Ba (x:List C):Bool:=(!decide (qi 0 x=0)&&decide (Acj .i64 (qi 0 x) 254=0))&&(BZ (ql 1 x) 1000 768000&&(BZ (ql 3 x) 1 65536&&(GX EM [] (ql 2 x)&&decide (1<=(ql 2 x).length/\(ql 2 x).length<=16))))
def DZ (l:List (List C)):Bool:=decide (l.length<=64)&&l.all Ba
def AL (l:List (List C)):List (List C):=bif DZ l then l else[]
def Fa (k r:Int) (m:List (List C)) (z:Int) (x:List C):Bool:=bAnd (bAnd (bAnd (Hq (qi 0 x) k) (EZ (ql 1 x) r)) (Fe (ql 2 x) m)) (EZ (ql 3 x) z)
def Fz (l:List (List C)) (k r:Int) (m:List (List C)) (z:Int):Bool:=(AL l).any (Fa k r m z)
def AV (d:List C):Bool:=C9 (qs 1 d)&&(decide ((qi 2 d=1∨qi 2 d=2)/\0<=qi 3 d/\qi 3 d<=65535/\0<=qi 4 d/\qi 4 d<=1048576/\0<=qi 5 d/\qi 5 d<=2048/\0<=qi 6 d/\qi 6 d<=4096/\1<=(ql 7 d).length/\(ql 7 d).length<=8)&&DZ (ql 7 d))
end Go
namespace Go
open Go.Sx
theorem RQ (s:ByteArray):Hl s 0:=⟨by omega,by omega,λj h=>by omega⟩
theorem SG {s:ByteArray} {z:Int} (h:Hl s z) (hz:z<(s.size:Int)) (hp:Om s z=true):Hl s (z+1):=by
 obtain⟨a,b,c⟩:=h;refine⟨by omega,by omega,λj hj=> ?_⟩;by_cases e:(j:Int)=z
 · rw[e]; exact hp
 · exact c j (by omega)
theorem Ua {s:ByteArray} {z:Int} (h0:0<=z) (hz:z<(s.size:Int)) (h:Om s z=false):C9 s=false:=by
 unfold C9;rw[Bool.and_eq_false_iff]; right;rw[List.all_eq_false];exact⟨z.toNat,List.mem_range.2 (by omega),by rw[show((z.toNat:Nat):Int)=z by omega,h]; simp⟩
theorem U0 {s:ByteArray} {z:Int} (h:Hl s z) (hz:¬z<(s.size:Int)):C9 s=decide (1<=s.size/\s.size<=64):=by
 obtain⟨a,b,c⟩:=h;unfold C9;have:(List.range s.size).all (λi=>Om s (i:Int))=true:=by
  rw[List.all_eq_true];intro i hi;exact c i (by have:=List.mem_range.1 hi; omega)
 rw[this,Bool.and_true]
theorem Wn (s:ByteArray) (z:Int):0<=sAt s z/\sAt s z<256:=by
 unfold sAt;split
 · rename_i b _;have:=b.toNat_lt;omega
 · omega
theorem TE {s:ByteArray}:(s.toList==ByteArray.empty.toList)=decide (s.size=0):=by
 rw[ByteArray.toList_eq,ByteArray.toList_eq,Bool.eq_iff_iff,beq_iff_eq,decide_eq_true_eq];constructor
 · intro h;have:=congrArg List.length h;exact this
 · intro h;exact List.eq_nil_of_length_eq_zero h
theorem ZI {c:Int} (h0:0<=c) (h1:c<256):(97<=iOr .u8 c 32/\iOr .u8 c 32<=122)↔JZ c=true:=by
 have key:∀n:Fin 256,decide (97<=iOr .u8 (n.val:Int) 32/\iOr .u8 (n.val:Int) 32<=122)=JZ (n.val:Int):=by decide+kernel
 have:=key ⟨c.toNat,by omega⟩;simp only[show((c.toNat:Nat):Int)=c by omega]at this;rw[←this,decide_eq_true_eq]
theorem TT (s:ByteArray) (x:Int):Om s x=true↔(97<=sAt s x/\sAt s x<=122∨65<=sAt s x/\sAt s x<=90)∨(¬x=0/\(48<=sAt s x/\sAt s x<=57∨sAt s x=45∨sAt s x=46∨sAt s x=95)):=by
 unfold Om JZ Yd;simp only[Bool.or_eq_true,Bool.and_eq_true,Bool.not_eq_true',decide_eq_true_eq,decide_eq_false_iff_not]
theorem VN {c:Int} (h0:0<=c) (h1:c<256):(97<=iOr .u8 c 32/\iOr .u8 c 32<=122)↔(97<=c/\c<=122∨65<=c/\c<=90):=by
 rw[ZI h0 h1,JZ,decide_eq_true_eq]
end Go
namespace Go.Sx
def A188 (s:ByteArray):FuncId->Nat->LoopAnn:=λ_ _=> .inv Int (λz=>Hl s z) (λz=>[(9,.int .i64 z)]) (λ_=>[]) [] [0,2,3,4,5,6,8,9,10,59] (λz=>J7 s-z.toNat)
def AcY (s:ByteArray) (x:Int):Prop:=InR .i64 (iAdd x 1)/\Sm s/\Sm (AaH s)/\∃(y:Int),Hl s y/\iAdd x 1=y/\nLt (J7 s-y.toNat) (J7 s-x.toNat)
def Aig (s:ByteArray) (x:Int):Prop:=pIn 0 (AaH s) x/\Cn (bEq (sAt s x) 45) (True/\Cn (bEq x 0) (false=C9 s) (True/\(AcY s x))) (pIn 0 (AaH s) x/\Cn (bEq (sAt s x) 46) (True/\Cn (bEq x 0) (false=C9 s) (True/\(AcY s x))) (pIn 0 (AaH s) x/\True/\Cn (bEq x 0) (false=C9 s) (True/\Cn (bNot (bEq (sAt s x) 95)) (false=C9 s) ((AcY s x)))))
def Ag2 (s:ByteArray) (x:Int):Prop:=True/\Cn (bNot (bLe (iOr IntKind.u8 (sAt s x) 32) 122)) (Cn (bEq x 0) (false=C9 s) (True/\(AcY s x))) ((AcY s x))
def Aih (s:ByteArray) (x:Int):Prop:=pIn 0 (AaH s) x/\Cn (bEq (sAt s x) 45) ((Ag2 s x)) (pIn 0 (AaH s) x/\Cn (bEq (sAt s x) 46) ((Ag2 s x)) (pIn 0 (AaH s) x/\True/\Cn (bNot (bLe (iOr IntKind.u8 (sAt s x) 32) 122)) (Cn (bEq x 0) (false=C9 s) (True/\Cn (bNot (bEq (sAt s x) 95)) (false=C9 s) ((AcY s x)))) ((AcY s x))))
theorem v188 (s:ByteArray):AiR s->pLe (AaH s) 9223372036854775807->(∃(x:Int),Hl s x/\0=x)/\∀(x:Int),Hl s x->InR .i64 x->Cn (bLt x (AaH s)) (pIn 0 (AaH s) x/\Cn (bLe 97 (iOr IntKind.u8 (sAt s x) 32)) (pIn 0 (AaH s) x/\Cn (bLe 48 (sAt s x)) (pIn 0 (AaH s) x/\Cn (bLe (sAt s x) 57) ((Ag2 s x)) ((Aih s x))) ((Aih s x))) (pIn 0 (AaH s) x/\Cn (bLe 48 (sAt s x)) (pIn 0 (AaH s) x/\Cn (bLe (sAt s x) 57) (True/\Cn (bEq x 0) (false=C9 s) (True/\(AcY s x))) ((Aig s x))) ((Aig s x)))) (Cn (AjP s (ByteArray.mk (Array.mk []))) (pLe (AaH s) 9223372036854775807->bLe (AaH s) 64=C9 s) (false=C9 s)):=by
 intro hw;delta AcY Aig Ag2 Aih;simp only[D,E];intro hm;refine⟨⟨0,RQ s,rfl⟩,λx hx _=>⟨λhlt=> ?_,λhge=> ?_⟩⟩
 · have h0 := hx.1;have cb := Wn s x;have hN := TT s x;have ho := VN cb.1 cb.2;have hz : AaH s = (J7 s : Int) := rfl;have bad : ¬ ((97 <= sAt s x /\ sAt s x <= 122 ∨ 65 <= sAt s x /\ sAt s x <= 90) ∨ (¬ x = 0 /\ (48 <= sAt s x /\ sAt s x <= 57 ∨ sAt s x = 45 ∨ sAt s x = 46 ∨ sAt s x = 95))) -> false = C9 s := λh => (Ua h0 hlt (by
    cases e:Om s x with
    |false=>rfl
    |true=>exact absurd (hN.1 e) h)).symm
   have fwd:((97<=sAt s x/\sAt s x<=122∨65<=sAt s x/\sAt s x<=90)∨(¬x=0/\(48<=sAt s x/\sAt s x<=57∨sAt s x=45∨sAt s x=46∨sAt s x=95)))->InR .i64 (x+1)/\∃y,Hl s y/\x+1=y/\J7 s-y.toNat<J7 s-x.toNat:=λh=>
    ⟨by simp only[InR]; omega,x+1,SG hx hlt (hN.2 h),rfl,by omega⟩
   generalize (InR .i64 (x+1)/\∃y,Hl s y/\x+1=y/\J7 s-y.toNat<J7 s-x.toNat)=P at*;generalize C9 s=N at*;generalize iOr IntKind.u8 (sAt s x) 32=o at*;generalize sAt s x=c at*;clear hN
   repeat' (first|apply And.intro|intro _)
   all_goals first|(clear bad fwd; omega)|(refine bad ?_; clear bad fwd; omega)|(refine fwd ?_; clear bad fwd; omega)
 · rw[U0 hx hge,show(ByteArray.mk (Array.mk []))=ByteArray.empty from rfl,TE];simp only[decide_eq_true_eq,decide_eq_false_iff_not];have hz:AaH s=(s.size:Int):=rfl;refine⟨λh _=> ?_,λh=> ?_⟩
   · simp only[decide_eq_decide]; omega
   · symm; simp only[decide_eq_false_iff_not]; omega
def r188:Cr PR:=K0 [] 188 6 {ps:=[(false,[.str])],rs:=[(false,[.bool])],pre:=λ_=>True,out:=λa=>[[.b (C9 (S a 0 0))]]} (λa=>A188 (S a 0 0)) λa=>Y (v188 (S a 0 0))
end Go.Sx
namespace Go.Sx
theorem v155 (c:Int):InR .u8 c->Cn (bLe 97 c) (Cn (bLe c 122) (true=JZ c) (Cn (bLe 65 c) (bLe c 90=JZ c) (false=JZ c))) (Cn (bLe 65 c) (bLe c 90=JZ c) (false=JZ c)):=by
 intro hw;simp only[D,E,JZ]
 repeat' (first|apply And.intro|intro _)
 all_goals (first|omega|(simp only[decide_eq_decide]; omega)|(symm; simp only[decide_eq_true_eq]; omega)|(symm; simp only[decide_eq_false_iff_not]; omega))
def r155:Cr PR:=K0 [] 155 6 {ps:=[(false,hB)],rs:=[(false,[.bool])],pre:=λ_=>True,out:=λa=>[[.b (JZ (I a 0 0))]]} U λa=>Y (v155 (I a 0 0))
end Go.Sx
namespace Go.Sx
def A86 (s:ByteArray):FuncId->Nat->LoopAnn:=λ_ _=> .inv Int (λz=>Hl s z) (λz=>[(3,.int .i64 z)]) (λ_=>[]) [] [0,2,3,4,8,40] (λz=>J7 s-z.toNat)
def Afc (s:ByteArray) (x:Int):Prop:=InR .i64 (iAdd x 1)/\Sm s/\∃(y:Int),Hl s y/\iAdd x 1=y/\nLt (J7 s-y.toNat) (J7 s-x.toNat)
theorem v86 (s:ByteArray):AiR s->(∃(x:Int),Hl s x/\0=x)/\∀(x:Int),Hl s x->InR .i64 x->pLe (AaH s) 9223372036854775807->Cn (bLt x (AaH s)) (pIn 0 (AaH s) x/\True/\True/\Cn (bNot (JZ (sAt s x))) (Cn (bEq x 0) (false=C9 s) (Cn (bLt (sAt s x) 48) (Cn (bNe (sAt s x) 45) (Cn (bNe (sAt s x) 46) (Cn (bNe (sAt s x) 95) (false=C9 s) ((Afc s x))) ((Afc s x))) ((Afc s x))) (Cn (bLt 57 (sAt s x)) (Cn (bNe (sAt s x) 45) (Cn (bNe (sAt s x) 46) (Cn (bNe (sAt s x) 95) (false=C9 s) ((Afc s x))) ((Afc s x))) ((Afc s x))) ((Afc s x))))) ((Afc s x))) (Cn (AjP s (ByteArray.mk (Array.mk []))) (pLe (AaH s) 9223372036854775807->bLe (AaH s) 64=C9 s) (false=C9 s)):=by
 intro hw;delta Afc;simp only[D,E,JZ];refine⟨⟨0,RQ s,rfl⟩,λx hx _=>λhm=>⟨λhlt=> ?_,λhge=> ?_⟩⟩
 · have h0 := hx.1;have cb := Wn s x;have hN := TT s x;have ho := VN cb.1 cb.2;have hz : AaH s = (J7 s : Int) := rfl;have bad : ¬ ((97 <= sAt s x /\ sAt s x <= 122 ∨ 65 <= sAt s x /\ sAt s x <= 90) ∨ (¬ x = 0 /\ (48 <= sAt s x /\ sAt s x <= 57 ∨ sAt s x = 45 ∨ sAt s x = 46 ∨ sAt s x = 95))) -> false = C9 s := λh => (Ua h0 hlt (by
    cases e:Om s x with
    |false=>rfl
    |true=>exact absurd (hN.1 e) h)).symm
   have fwd:((97<=sAt s x/\sAt s x<=122∨65<=sAt s x/\sAt s x<=90)∨(¬x=0/\(48<=sAt s x/\sAt s x<=57∨sAt s x=45∨sAt s x=46∨sAt s x=95)))->InR .i64 (x+1)/\∃y,Hl s y/\x+1=y/\J7 s-y.toNat<J7 s-x.toNat:=λh=>
    ⟨by simp only[InR]; omega,x+1,SG hx hlt (hN.2 h),rfl,by omega⟩
   generalize (InR .i64 (x+1)/\∃y,Hl s y/\x+1=y/\J7 s-y.toNat<J7 s-x.toNat)=P at*;generalize C9 s=N at*;generalize iOr IntKind.u8 (sAt s x) 32=o at*;generalize sAt s x=c at*;clear hN
   repeat' (first|apply And.intro|intro _)
   all_goals first|(clear bad fwd; omega)|(refine bad ?_; clear bad fwd; omega)|(refine fwd ?_; clear bad fwd; omega)
 · rw[U0 hx hge,show(ByteArray.mk (Array.mk []))=ByteArray.empty from rfl,TE];simp only[decide_eq_true_eq,decide_eq_false_iff_not];have hz:AaH s=(s.size:Int):=rfl;refine⟨λh _=> ?_,λh=> ?_⟩
   · simp only[decide_eq_decide]; omega
   · symm; simp only[decide_eq_false_iff_not]; omega
def r86:Cr PR:=K0 [r155] 86 6 {ps:=[(false,[.str])],rs:=[(false,[.bool])],pre:=λ_=>True,out:=λa=>[[.b (C9 (S a 0 0))]]} (λa=>A86 (S a 0 0)) λa=>Y (v86 (S a 0 0))
end Go.Sx
namespace Go.Sx
theorem v193 (k:Int) (rs:List (List C)) (ms:List (List C)) (ss:List (List C)) (n:Int):InR .i64 k/\WL hII rs/\WL [Sh.sl hI] ms/\WL hII ss/\InR .i64 n->Cn (bLe 1 n) (Cn (bLe n 7) (pSh 64 n/\bEq (iAnd IntKind.i64 (iShr k n) 1) 1=Hq k n) (false=Hq k n)) (false=Hq k n):=by
 intro hw;simp only[D,E,Hq,bAnd];refine⟨λh=>⟨λh1=>⟨by omega,by rw[decide_eq_true h,decide_eq_true h1]; rfl⟩,λh1=>by rw[decide_eq_true h,decide_eq_false h1]; rfl⟩,λh=>by rw[decide_eq_false h]; rfl⟩
def r193:Cr PR:=K0 [] 193 6 {ps:=[(true,hX),(false,hI)],rs:=[(false,[.bool])],pre:=λ_=>True,out:=λa=>[[.b (Hq (I a 0 0) (I a 1 0))]]} U λa=>Y (v193 (I a 0 0) (L a 0 1) (L a 0 2) (L a 0 3) (I a 1 0))
end Go.Sx
namespace Go.Sx
theorem v81 (k:Int) (n:Int):InR .i64 k/\InR .i64 n->Cn (bLe 1 n) (Cn (bLe n 7) (pSh 64 n/\bEq (iAnd IntKind.i64 (iShr k n) 1) 1=Hq k n) (false=Hq k n)) (false=Hq k n):=by
 intro hw;simp only[D,E,Hq,bAnd];refine⟨λh=>⟨λh1=>⟨by omega,by rw[decide_eq_true h,decide_eq_true h1]; rfl⟩,λh1=>by rw[decide_eq_true h,decide_eq_false h1]; rfl⟩,λh=>by rw[decide_eq_false h]; rfl⟩
def r81:Cr PR:=K0 [] 81 6 {ps:=[(false,hI),(false,hI)],rs:=[(false,[.bool])],pre:=λ_=>True,out:=λa=>[[.b (Hq (I a 0 0) (I a 1 0))]]} U λa=>Y (v81 (I a 0 0) (I a 1 0))
end Go.Sx
namespace Go.Sx
theorem v243 (xs:List (List C)) (lo:Int) (hi:Int):WL hII xs/\InR .i64 lo/\InR .i64 hi->pLe (iLen xs) 9223372036854775807->Cn (bLt 0 (iLen xs)) (True/\Cn (DF xs) (pIn 0 (iLen xs) 0/\(InR .i64 (qi 0 (rGet xs 0))->Cn (bLe lo (qi 0 (rGet xs 0))) (InR .i64 (iSub (iLen xs) 1)/\pIn 0 (iLen xs) (iSub (iLen xs) 1)/\(InR .i64 (qi 1 (rGet xs (iSub (iLen xs) 1)))->bLe (qi 1 (rGet xs (iSub (iLen xs) 1))) hi=BZ xs lo hi)) (false=BZ xs lo hi))) (false=BZ xs lo hi)) (false=BZ xs lo hi):=by
 intro hw;have no:DF xs=false->false=BZ xs lo hi:=λh=>by unfold BZ; rw[h,Bool.false_and,Bool.and_false]
 have no1:xs.length=0->false=BZ xs lo hi:=λh=>by unfold BZ; rw[decide_eq_false (by omega)]; rfl
 have e:1<=xs.length->DF xs=true->BZ xs lo hi=decide (lo<=qi 0 (rGet xs 0)/\qi 1 (rGet xs ((xs.length:Int)-1))<=hi):=λh1 h=>by unfold BZ; rw[h,decide_eq_true h1]; rfl
 have rng:xs.length<=9223372036854775807->InR .i64 ((xs.length:Int)-1):=λh=>by simp only[InR]; omega
 have m:xs.length<=9223372036854775807:=hw.1.1;simp only[D,E];refine λ_=>⟨λh1=>⟨λh=>⟨by omega,λ_=>⟨λh2=>⟨rng m,by omega,λ_=> ?_⟩,λh2=> ?_⟩⟩,no⟩,λh1=>no1 (by omega)⟩
 · rw[e (by omega) h,decide_eq_decide]; omega
 · rw[e (by omega) h]; symm; simp only[decide_eq_false_iff_not]; omega
def r243:Cr PR:=K0 [r246] 243 6 {ps:=[(true,[.sl hII]),(false,hI),(false,hI)],rs:=[(false,[.bool])],pre:=λ_=>True,out:=λa=>[[.b (BZ (L a 0 0) (I a 1 0) (I a 2 0))]]} U λa=>Y (v243 (L a 0 0) (I a 1 0) (I a 2 0))
end Go.Sx
namespace Go.Sx
theorem v209 (xs:List (List C)) (lo:Int) (hi:Int):WL hII xs/\InR .i64 lo/\InR .i64 hi->pLe (iLen xs) 9223372036854775807->True/\Cn (DF xs) (Cn (bLt 0 (iLen xs)) (pIn 0 (iLen xs) 0/\(InR .i64 (qi 0 (rGet xs 0))->Cn (bLe lo (qi 0 (rGet xs 0))) (InR .i64 (iSub (iLen xs) 1)/\pIn 0 (iLen xs) (iSub (iLen xs) 1)/\(InR .i64 (qi 1 (rGet xs (iSub (iLen xs) 1)))->bLe (qi 1 (rGet xs (iSub (iLen xs) 1))) hi=BZ xs lo hi)) (false=BZ xs lo hi))) (false=BZ xs lo hi)) (false=BZ xs lo hi):=by
 intro hw;have no:DF xs=false->false=BZ xs lo hi:=λh=>by unfold BZ; rw[h,Bool.false_and,Bool.and_false]
 have no1:xs.length=0->false=BZ xs lo hi:=λh=>by unfold BZ; rw[decide_eq_false (by omega)]; rfl
 have e:1<=xs.length->DF xs=true->BZ xs lo hi=decide (lo<=qi 0 (rGet xs 0)/\qi 1 (rGet xs ((xs.length:Int)-1))<=hi):=λh1 h=>by unfold BZ; rw[h,decide_eq_true h1]; rfl
 have rng:xs.length<=9223372036854775807->InR .i64 ((xs.length:Int)-1):=λh=>by simp only[InR]; omega
 have m:xs.length<=9223372036854775807:=hw.1.1;simp only[D,E];refine λ_=>⟨λh=>⟨λh1=>⟨by omega,λ_=>⟨λh2=>⟨rng m,by omega,λ_=> ?_⟩,λh2=> ?_⟩⟩,λh1=>no1 (by omega)⟩,no⟩
 · rw[e (by omega) h,decide_eq_decide]; omega
 · rw[e (by omega) h]; symm; simp only[decide_eq_false_iff_not]; omega
def r209:Cr PR:=K0 [r210] 209 6 {ps:=[(true,[.sl hII]),(false,hI),(false,hI)],rs:=[(false,[.bool])],pre:=λ_=>True,out:=λa=>[[.b (BZ (L a 0 0) (I a 1 0) (I a 2 0))]]} U λa=>Y (v209 (L a 0 0) (I a 1 0) (I a 2 0))
end Go.Sx
namespace Go.Sx
def A228 (ms:List (List C)):FuncId->Nat->LoopAnn:=λ_ _=>lp 29 ms.length (Di EM ms) [0,1,2,3,4,25,27,28,29,30,44]
theorem v228 (k:Int) (rs:List (List C)) (ms:List (List C)) (ss:List (List C)):InR .i64 k/\WL hII rs/\WL [Sh.sl hI] ms/\WL hII ss->Cn (bEq k 0) (false=Ba [C.i k,C.l rs,C.l ms,C.l ss]) (Cn (bNe (Acj IntKind.i64 k 254) 0) (false=Ba [C.i k,C.l rs,C.l ms,C.l ss]) (True/\True/\Cn (bNot (BZ rs 1000 768000)) (false=Ba [C.i k,C.l rs,C.l ms,C.l ss]) (True/\True/\Cn (bNot (BZ ss 1 65536)) (false=Ba [C.i k,C.l rs,C.l ms,C.l ss]) (pLe (iLen ms) 9223372036854775807->(∃(x:Int),Di EM ms x/\0=x)/\∀(x:Int),Di EM ms x->InR .i64 x->Cn (bLt x (iLen ms)) (pIn 0 (iLen ms) x/\(WL hI (ql 0 (rGet ms x))->True/\True/\Cn (bNot (BO (ql 0 (rGet ms x)))) (false=Ba [C.i k,C.l rs,C.l ms,C.l ss]) (geB none (some x) (iLen ms)/\True/\Cn (Fe (cutRows ms none (some x)) (ql 0 (rGet ms x))) (false=Ba [C.i k,C.l rs,C.l ms,C.l ss]) (InR .i64 (iAdd x 1)/\Sm [C.i k,C.l rs,C.l ms,C.l ss]/\Sm ms/\Sm (iLen ms)/\Sm [C.i k,C.l rs,C.l ms,C.l ss]/\∃(y:Int),Di EM ms y/\iAdd x 1=y/\nLt (ms.length-y.toNat) (ms.length-x.toNat))))) (pLe (iLen ms) 9223372036854775807->Cn (bLe 1 (iLen ms)) (pLe (iLen ms) 9223372036854775807->bLe (iLen ms) 16=Ba [C.i k,C.l rs,C.l ms,C.l ss]) (false=Ba [C.i k,C.l rs,C.l ms,C.l ss])))))):=by
 intro hw;have e:Ba [.i k,.l rs,.l ms,.l ss]=((!decide (k=0)&&decide (Acj .i64 k 254=0))&&(BZ rs 1000 768000&&(BZ ss 1 65536&&(GX EM [] ms&&decide (1<=ms.length/\ms.length<=16))))):=rfl;have b1:k=0->false=Ba [.i k,.l rs,.l ms,.l ss]:=λh=>by rw[e,decide_eq_true h]; rfl
 have b2:¬Acj .i64 k 254=0->false=Ba [.i k,.l rs,.l ms,.l ss]:=λh=>by rw[e,decide_eq_false h,Bool.and_false]; rfl
 have b3:BZ rs 1000 768000=false->false=Ba [.i k,.l rs,.l ms,.l ss]:=λh=>by rw[e,h,Bool.false_and,Bool.and_false]
 have b4:BZ ss 1 65536=false->false=Ba [.i k,.l rs,.l ms,.l ss]:=λh=>by rw[e,h,Bool.false_and,Bool.and_false,Bool.and_false]
 have b5:GX EM [] ms=false->false=Ba [.i k,.l rs,.l ms,.l ss]:=λh=>by rw[e,h,Bool.false_and,Bool.and_false,Bool.and_false,Bool.and_false]
 have b6:¬(1<=ms.length/\ms.length<=16)->false=Ba [.i k,.l rs,.l ms,.l ss]:=λh=>by rw[e,decide_eq_false h,Bool.and_false,Bool.and_false,Bool.and_false,Bool.and_false]
 have st:∀x:Int,Di EM ms x->0<=x->x<(ms.length:Int)->(BO (ql 0 (rGet ms x))=false->false=Ba [.i k,.l rs,.l ms,.l ss])/\(BO (ql 0 (rGet ms x))=true->geB none (some x) (ms.length:Int)/\(Fe (cutRows ms none (some x)) (ql 0 (rGet ms x))=true->false=Ba [.i k,.l rs,.l ms,.l ss])/\(Fe (cutRows ms none (some x)) (ql 0 (rGet ms x))=false->InR .i64 (x+1)/\∃y,Di EM ms y/\x+1=y/\ms.length-y.toNat<ms.length-x.toNat)):=λx h h0 hx=>
  ⟨λa=>b5 (dkB h hx (by unfold EM; rw[a]; rfl)),λa=>⟨by simp only[geB]; omega,λc=>b5 (dkB h hx (by unfold EM; rw[show Fe (ms.take x.toNat) (ql 0 (rGet ms x))=true from c,Bool.not_true,Bool.and_false])),λc=>⟨inS hw.2.2.1 h0 hx,x+1,dkN h hx (by unfold EM; rw[a,show Fe (ms.take x.toNat) (ql 0 (rGet ms x))=false from c]; rfl),rfl,by omega⟩⟩⟩
 simp only[D,E];refine⟨b1,λh1=>⟨b2,λh2=>⟨b3,λh3=>⟨b4,λh4 _=> ?_⟩⟩⟩⟩;refine lpA dk0 (λx h=>h.1) (λx h h0 hx _=>st x h h0 hx) (λx h hx _=>⟨λa _=> ?_,λa=>b6 (by omega)⟩);rw[e,decide_eq_false h1,decide_eq_true h2,h3,h4,dkE h hx];simp only[Bool.not_false,Bool.true_and,decide_eq_decide]; omega
def r228:Cr PR:=K0 [r243,r244,r195] 228 6 {ps:=[(true,hX)],rs:=[(false,[.bool])],pre:=λ_=>True,out:=λa=>[[.b (Ba [.i (I a 0 0),.l (L a 0 1),.l (L a 0 2),.l (L a 0 3)])]]} (λa=>A228 (L a 0 2)) λa=>Y (v228 (I a 0 0) (L a 0 1) (L a 0 2) (L a 0 3))
end Go.Sx
namespace Go.Sx
def A148 (ms:List (List C)):FuncId->Nat->LoopAnn:=λ_ _=>lp 29 ms.length (Di EM ms) [0,1,2,3,4,25,27,28,29,30,44]
theorem v148 (k:Int) (rs:List (List C)) (ms:List (List C)) (ss:List (List C)):InR .i64 k/\WL hII rs/\WL [Sh.sl hI] ms/\WL hII ss->Cn (bEq k 0) (false=Ba [C.i k,C.l rs,C.l ms,C.l ss]) (Cn (bNe (Acj IntKind.i64 k 254) 0) (false=Ba [C.i k,C.l rs,C.l ms,C.l ss]) (pLe (iLen ms) 9223372036854775807->Cn (bLt (iLen ms) 1) (false=Ba [C.i k,C.l rs,C.l ms,C.l ss]) (pLe (iLen ms) 9223372036854775807->Cn (bLt 16 (iLen ms)) (false=Ba [C.i k,C.l rs,C.l ms,C.l ss]) (pLe (iLen ms) 9223372036854775807->(∃(x:Int),Di EM ms x/\0=x)/\∀(x:Int),Di EM ms x->InR .i64 x->Cn (bLt x (iLen ms)) (pIn 0 (iLen ms) x/\(WL hI (ql 0 (rGet ms x))->True/\True/\Cn (bNot (BO (ql 0 (rGet ms x)))) (false=Ba [C.i k,C.l rs,C.l ms,C.l ss]) (geB none (some x) (iLen ms)/\True/\Cn (Fe (cutRows ms none (some x)) (ql 0 (rGet ms x))) (false=Ba [C.i k,C.l rs,C.l ms,C.l ss]) (InR .i64 (iAdd x 1)/\Sm [C.i k,C.l rs,C.l ms,C.l ss]/\Sm ms/\Sm (iLen ms)/\Sm [C.i k,C.l rs,C.l ms,C.l ss]/\∃(y:Int),Di EM ms y/\iAdd x 1=y/\nLt (ms.length-y.toNat) (ms.length-x.toNat))))) (True/\Cn (BZ rs 1000 768000) (True/\BZ ss 1 65536=Ba [C.i k,C.l rs,C.l ms,C.l ss]) (false=Ba [C.i k,C.l rs,C.l ms,C.l ss])))))):=by
 intro hw;have e:Ba [.i k,.l rs,.l ms,.l ss]=((!decide (k=0)&&decide (Acj .i64 k 254=0))&&(BZ rs 1000 768000&&(BZ ss 1 65536&&(GX EM [] ms&&decide (1<=ms.length/\ms.length<=16))))):=rfl;have b1:k=0->false=Ba [.i k,.l rs,.l ms,.l ss]:=λh=>by rw[e,decide_eq_true h]; rfl
 have b2:¬Acj .i64 k 254=0->false=Ba [.i k,.l rs,.l ms,.l ss]:=λh=>by rw[e,decide_eq_false h,Bool.and_false]; rfl
 have b3:BZ rs 1000 768000=false->false=Ba [.i k,.l rs,.l ms,.l ss]:=λh=>by rw[e,h,Bool.false_and,Bool.and_false]
 have b4:BZ ss 1 65536=false->false=Ba [.i k,.l rs,.l ms,.l ss]:=λh=>by rw[e,h,Bool.false_and,Bool.and_false,Bool.and_false]
 have b5:GX EM [] ms=false->false=Ba [.i k,.l rs,.l ms,.l ss]:=λh=>by rw[e,h,Bool.false_and,Bool.and_false,Bool.and_false,Bool.and_false]
 have b6:¬(1<=ms.length/\ms.length<=16)->false=Ba [.i k,.l rs,.l ms,.l ss]:=λh=>by rw[e,decide_eq_false h,Bool.and_false,Bool.and_false,Bool.and_false,Bool.and_false]
 have st:∀x:Int,Di EM ms x->0<=x->x<(ms.length:Int)->(BO (ql 0 (rGet ms x))=false->false=Ba [.i k,.l rs,.l ms,.l ss])/\(BO (ql 0 (rGet ms x))=true->geB none (some x) (ms.length:Int)/\(Fe (cutRows ms none (some x)) (ql 0 (rGet ms x))=true->false=Ba [.i k,.l rs,.l ms,.l ss])/\(Fe (cutRows ms none (some x)) (ql 0 (rGet ms x))=false->InR .i64 (x+1)/\∃y,Di EM ms y/\x+1=y/\ms.length-y.toNat<ms.length-x.toNat)):=λx h h0 hx=>
  ⟨λa=>b5 (dkB h hx (by unfold EM; rw[a]; rfl)),λa=>⟨by simp only[geB]; omega,λc=>b5 (dkB h hx (by unfold EM; rw[show Fe (ms.take x.toNat) (ql 0 (rGet ms x))=true from c,Bool.not_true,Bool.and_false])),λc=>⟨inS hw.2.2.1 h0 hx,x+1,dkN h hx (by unfold EM; rw[a,show Fe (ms.take x.toNat) (ql 0 (rGet ms x))=false from c]; rfl),rfl,by omega⟩⟩⟩
 simp only[D,E];refine⟨b1,λh1=>⟨b2,λh2 _=>⟨λh3=>b6 (by omega),λh3 _=>⟨λh4=>b6 (by omega),λh4 _=> ?_⟩⟩⟩⟩;refine lpA dk0 (λx h=>h.1) (λx h h0 hx _=>st x h h0 hx) (λx h hx=>⟨λa=> ?_,b3⟩);rw[e,decide_eq_false h1,decide_eq_true h2,a,dkE h hx,decide_eq_true (by omega)];simp only[Bool.not_false,Bool.true_and,Bool.and_true]
def r148:Cr PR:=K0 [r209,r55,r158] 148 6 {ps:=[(true,hX)],rs:=[(false,[.bool])],pre:=λ_=>True,out:=λa=>[[.b (Ba [.i (I a 0 0),.l (L a 0 1),.l (L a 0 2),.l (L a 0 3)])]]} (λa=>A148 (L a 0 2)) λa=>Y (v148 (I a 0 0) (L a 0 1) (L a 0 2) (L a 0 3))
end Go.Sx
namespace Go.Sx
theorem v227 (k:Int) (rs:List (List C)) (ms:List (List C)) (ss:List (List C)):InR .i64 k/\WL hII rs/\WL [Sh.sl hI] ms/\WL hII ss->True/\True/\Sm (bNot (Ba [C.i k,C.l rs,C.l ms,C.l ss])):=by
 intro hw;exact⟨trivial,trivial,Aas.2 trivial⟩
def r227:Cr PR:=K0 [r228] 227 6 {ps:=[(true,hX)],rs:=[(false,[.bool])],pre:=λ_=>True,out:=λa=>[[.b (bNot (Ba [.i (I a 0 0),.l (L a 0 1),.l (L a 0 2),.l (L a 0 3)]))]]} U λa=>Y (v227 (I a 0 0) (L a 0 1) (L a 0 2) (L a 0 3))
end Go.Sx
namespace Go.Sx
def A189 (xs:List (List C)):FuncId->Nat->LoopAnn:=λff ii=>bif Nat.beq ff 229 then lp 8 xs.length (Dn (λx=>bNot (Ba x)) xs) [0,1,4,5,7,8,9,16]else .unroll 0
theorem v189 (xs:List (List C)):WL hX xs->pLe (iLen xs) 9223372036854775807->Cn (bLe (iLen xs) 64) (pLe (iLen xs) 9223372036854775807->(∃(x:Int),Dn (fun(x:List C)=>bNot (Ba x)) xs x/\0=x)/\∀(x:Int),Dn (fun(x:List C)=>bNot (Ba x)) xs x->InR .i64 x->Cn (bLt x (iLen xs)) (pIn 0 (iLen xs) x/\(InR .i64 (qi 0 (rGet xs x))/\WL hII (ql 1 (rGet xs x))/\WL [Sh.sl hI] (ql 2 (rGet xs x))/\WL hII (ql 3 (rGet xs x))->True/\Cn (bNot (Ba (rGet xs x))) (True/\bNot (bLe 0 x)=DZ xs) (InR .i64 (iAdd x 1)/\Sm xs/\Sm (iLen xs)/\∃(y:Int),Dn (fun(x:List C)=>bNot (Ba x)) xs y/\iAdd x 1=y/\nLt (xs.length-y.toNat) (xs.length-x.toNat)))) (True/\true=DZ xs)) (false=DZ xs):=by
 intro hw;have an:∀l:List (List C),(l.any λx=>bNot (Ba x))= !(l.all Ba):=λl=>by rw[List.not_all_eq_any_not]
 simp only[D,E];refine λ_=>⟨λh _=> ?_,λh=>by unfold DZ; rw[decide_eq_false (by omega)]; rfl⟩
 have e:DZ xs= !(xs.any λx=>bNot (Ba x)):=by unfold DZ; rw[an,decide_eq_true (by omega),Bool.not_not,Bool.true_and]
 rw[e];exact lpA ex0 (λx h=>h.1) (λx h h0 hx _=>⟨λa=>by rw[←exB h hx (by rw[a]; rfl),decide_eq_true h0],λa=>⟨inS hw h0 hx,x+1,exN h hx (by rw[a]; rfl),rfl,by omega⟩⟩) (λx h hx=>by rw[←exE h hx]; rfl)
def r189:Cr PR:=K0 [r227] 189 6 {ps:=[(false,[.sl hX])],rs:=[(false,[.bool])],pre:=λ_=>True,out:=λa=>[[.b (DZ (L a 0 0))]]} (λa=>A189 (L a 0 0)) λa=>Y (v189 (L a 0 0))
end Go.Sx
namespace Go.Sx
def A80 (xs:List (List C)):FuncId->Nat->LoopAnn:=λ_ _=>lp 7 xs.length (ES Ba xs) [0,2,4,5,6,7,8,13]
theorem v80 (xs:List (List C)):WL hX xs->pLe (iLen xs) 9223372036854775807->(∃(x:Int),ES Ba xs x/\0=x)/\∀(x:Int),ES Ba xs x->InR .i64 x->Cn (bLt x (iLen xs)) (pIn 0 (iLen xs) x/\(InR .i64 (qi 0 (rGet xs x))/\WL hII (ql 1 (rGet xs x))/\WL [Sh.sl hI] (ql 2 (rGet xs x))/\WL hII (ql 3 (rGet xs x))->True/\True/\Cn (bNot (Ba (rGet xs x))) (false=DZ xs) (InR .i64 (iAdd x 1)/\Sm xs/\Sm xs/\Sm (iLen xs)/\∃(y:Int),ES Ba xs y/\iAdd x 1=y/\nLt (xs.length-y.toNat) (xs.length-x.toNat)))) (pLe (iLen xs) 9223372036854775807->bLe (iLen xs) 64=DZ xs):=by
 intro hw;have no:false=xs.all Ba->false=DZ xs:=λh=>by unfold DZ; rw[←h,Bool.and_false]
 simp only[D,E];refine λ_=>lpA al0 (λx h=>h.1) (λx h h0 hx _=>⟨λa=>no (alB h hx a),λa=>⟨inS hw h0 hx,x+1,alN h hx a,rfl,by omega⟩⟩) (λx h hx _=> ?_);unfold DZ; rw[←alE h hx,Bool.and_true,decide_eq_decide]; omega
def r80:Cr PR:=K0 [r148] 80 6 {ps:=[(false,[.sl hX])],rs:=[(false,[.bool])],pre:=λ_=>True,out:=λa=>[[.b (DZ (L a 0 0))]]} (λa=>A80 (L a 0 0)) λa=>Y (v80 (L a 0 0))
end Go.Sx
namespace Go.Sx
theorem v191 (xs:List (List C)):WL hX xs->True/\True/\Cn (bNot (DZ xs)) ([]=AL xs) (xs=AL xs):=by
 intro hw;simp only[D,E,AL];exact⟨λh=>by rw[h]; rfl,λh=>by rw[h]; rfl⟩
def r191:Cr PR:=K0 [r189] 191 6 {ps:=[(false,[.sl hX])],rs:=[(false,[.sl hX])],pre:=λ_=>True,out:=λa=>[[.l (AL (L a 0 0))]]} U λa=>Y (v191 (L a 0 0))
end Go.Sx
namespace Go.Sx
theorem v38 (xs:List (List C)):WL hX xs->True/\True/\Cn (bNot (DZ xs)) ([]=AL xs) (xs=AL xs):=by
 intro hw;simp only[D,E,AL];exact⟨λh=>by rw[h]; rfl,λh=>by rw[h]; rfl⟩
def r38:Cr PR:=K0 [r80] 38 6 {ps:=[(false,[.sl hX])],rs:=[(false,[.sl hX])],pre:=λ_=>True,out:=λa=>[[.l (AL (L a 0 0))]]} U λa=>Y (v38 (L a 0 0))
end Go.Sx
namespace Go.Sx
theorem v192 (k:Int) (rs:List (List C)) (ms:List (List C)) (ss:List (List C)) (n:Int) (r:Int) (m:List (List C)) (z:Int):InR .i64 k/\WL hII rs/\WL [Sh.sl hI] ms/\WL hII ss/\InR .i64 n/\InR .i64 r/\WL hI m/\InR .i64 z->InR .i64 n->True/\Cn (Hq k n) (InR .i64 r->True/\Cn (EZ rs r) (WL hI m->True/\Cn (Fe ms m) (InR .i64 z->True/\EZ ss z=Fa n r m z [C.i k,C.l rs,C.l ms,C.l ss]) (false=Fa n r m z [C.i k,C.l rs,C.l ms,C.l ss])) (false=Fa n r m z [C.i k,C.l rs,C.l ms,C.l ss])) (false=Fa n r m z [C.i k,C.l rs,C.l ms,C.l ss]):=by
 intro hw;have e:Fa n r m z [.i k,.l rs,.l ms,.l ss]=bAnd (bAnd (bAnd (Hq k n) (EZ rs r)) (Fe ms m)) (EZ ss z):=rfl;rw[e]
 cases Hq k n<;>cases EZ rs r<;>cases Fe ms m<;>simp[Cn_iff,bAnd]
def r192:Cr PR:=K0 [r193,r194,r195] 192 6 {ps:=[(true,hX),(false,[.bool,.int .i64,.int .i64,.sl hI,.int .i64])],rs:=[(false,[.bool])],pre:=λ_=>True,out:=λa=>[[.b (Fa (I a 1 0) (I a 1 1) (L a 1 2) (I a 1 3) [.i (I a 0 0),.l (L a 0 1),.l (L a 0 2),.l (L a 0 3)])]]} U λa=>Y (v192 (I a 0 0) (L a 0 1) (L a 0 2) (L a 0 3) (I a 1 0) (I a 1 1) (L a 1 2) (I a 1 3))
end Go.Sx
namespace Go.Sx
theorem v88 (k:Int) (rs:List (List C)) (ms:List (List C)) (ss:List (List C)) (n:Int) (r:Int) (m:List (List C)) (z:Int):InR .i64 k/\WL hII rs/\WL [Sh.sl hI] ms/\WL hII ss/\InR .i64 n/\InR .i64 r/\WL hI m/\InR .i64 z->True/\Cn (Hq k n) (True/\Cn (EZ rs r) (True/\Cn (Fe ms m) (True/\EZ ss z=Fa n r m z [C.i k,C.l rs,C.l ms,C.l ss]) (false=Fa n r m z [C.i k,C.l rs,C.l ms,C.l ss])) (false=Fa n r m z [C.i k,C.l rs,C.l ms,C.l ss])) (false=Fa n r m z [C.i k,C.l rs,C.l ms,C.l ss]):=by
 intro hw;have e:Fa n r m z [.i k,.l rs,.l ms,.l ss]=bAnd (bAnd (bAnd (Hq k n) (EZ rs r)) (Fe ms m)) (EZ ss z):=rfl;rw[e]
 cases Hq k n<;>cases EZ rs r<;>cases Fe ms m<;>simp[Cn_iff,bAnd]
def r88:Cr PR:=K0 [r81,r157,r158] 88 6 {ps:=[(true,hX),(true,hC)],rs:=[(false,[.bool])],pre:=λ_=>True,out:=λa=>[[.b (Fa (I a 1 0) (I a 1 1) (L a 1 2) (I a 1 3) [.i (I a 0 0),.l (L a 0 1),.l (L a 0 2),.l (L a 0 3)])]]} U λa=>Y (v88 (I a 0 0) (L a 0 1) (L a 0 2) (L a 0 3) (I a 1 0) (I a 1 1) (L a 1 2) (I a 1 3))
end Go.Sx
namespace Go.Sx
def A128 (ys:List (List C)) (n:Int) (r:Int) (m:List (List C)) (z:Int):FuncId->Nat->LoopAnn:=λff ii=>bif Nat.beq ff 229 then lp 8 (AL ys).length (Dn (Fa n r m z) (AL ys)) [0,1,4,5,7,8,9,16]else .unroll 0
theorem v128 (ys:List (List C)) (n:Int) (r:Int) (m:List (List C)) (z:Int):WL hX ys/\InR .i64 n/\InR .i64 r/\WL hI m/\InR .i64 z->True/\(WL hX (AL ys)->pLe (iLen (AL ys)) 9223372036854775807->(∃(x:Int),Dn (Fa n r m z) (AL ys) x/\0=x)/\∀(x:Int),Dn (Fa n r m z) (AL ys) x->InR .i64 x->Cn (bLt x (iLen (AL ys))) (pIn 0 (iLen (AL ys)) x/\(InR .i64 (qi 0 (rGet (AL ys) x))/\WL hII (ql 1 (rGet (AL ys) x))/\WL [Sh.sl hI] (ql 2 (rGet (AL ys) x))/\WL hII (ql 3 (rGet (AL ys) x))->True/\Cn (Fa n r m z (rGet (AL ys) x)) (bLe 0 x=Fz ys n r m z) (InR .i64 (iAdd x 1)/\Sm (AL ys)/\Sm n/\Sm r/\Sm m/\Sm z/\Sm (iLen (AL ys))/\∃(y:Int),Dn (Fa n r m z) (AL ys) y/\iAdd x 1=y/\nLt ((AL ys).length-y.toNat) ((AL ys).length-x.toNat)))) (false=Fz ys n r m z)):=by
 intro hw;simp only[D,E];intro hw' _;exact lpA ex0 (λx h=>h.1) (λx h h0 hx _=>⟨λa=>(decide_eq_true h0).trans (exB h hx a),λa=>⟨inS hw' h0 hx,x+1,exN h hx a,rfl,by omega⟩⟩) (λx h hx=>exE h hx)
def r128:Cr PR:=K0 [r191,r192,(mark 4000038)] 128 6 {ps:=[(false,[.sl hX]),(true,hC)],rs:=[(false,[.bool])],pre:=λ_=>True,out:=λa=>[[.b (Fz (L a 0 0) (I a 1 0) (I a 1 1) (L a 1 2) (I a 1 3))]]} (λa=>A128 (L a 0 0) (I a 1 0) (I a 1 1) (L a 1 2) (I a 1 3)) λa=>Y (v128 (L a 0 0) (I a 1 0) (I a 1 1) (L a 1 2) (I a 1 3))
end Go.Sx
namespace Go.Sx
def A43 (ys:List (List C)) (n:Int) (r:Int) (m:List (List C)) (z:Int):FuncId->Nat->LoopAnn:=λ_ _=>lp 10 (AL ys).length (Dn (Fa n r m z) (AL ys)) [0,1,3,4,6,8,9,10,11,16]
theorem v43 (ys:List (List C)) (n:Int) (r:Int) (m:List (List C)) (z:Int):WL hX ys/\InR .i64 n/\InR .i64 r/\WL hI m/\InR .i64 z->True/\(WL hX (AL ys)->pLe (iLen (AL ys)) 9223372036854775807->(∃(x:Int),Dn (Fa n r m z) (AL ys) x/\0=x)/\∀(x:Int),Dn (Fa n r m z) (AL ys) x->InR .i64 x->Cn (bLt x (iLen (AL ys))) (pIn 0 (iLen (AL ys)) x/\(InR .i64 (qi 0 (rGet (AL ys) x))/\WL hII (ql 1 (rGet (AL ys) x))/\WL [Sh.sl hI] (ql 2 (rGet (AL ys) x))/\WL hII (ql 3 (rGet (AL ys) x))->True/\Cn (Fa n r m z (rGet (AL ys) x)) (true=Fz ys n r m z) (InR .i64 (iAdd x 1)/\Sm ys/\Sm [C.i n,C.i r,C.l m,C.i z]/\Sm (AL ys)/\Sm (iLen (AL ys))/\Sm [C.i n,C.i r,C.l m,C.i z]/\∃(y:Int),Dn (Fa n r m z) (AL ys) y/\iAdd x 1=y/\nLt ((AL ys).length-y.toNat) ((AL ys).length-x.toNat)))) (false=Fz ys n r m z)):=by
 intro hw;simp only[D,E];intro hw' _;exact lpA ex0 (λx h=>h.1) (λx h h0 hx _=>⟨λa=>exB h hx a,λa=>⟨inS hw' h0 hx,x+1,exN h hx a,rfl,by omega⟩⟩) (λx h hx=>exE h hx)
def r43:Cr PR:=K0 [r38,r88] 43 6 {ps:=[(false,[.sl hX]),(true,hC)],rs:=[(false,[.bool])],pre:=λ_=>True,out:=λa=>[[.b (Fz (L a 0 0) (I a 1 0) (I a 1 1) (L a 1 2) (I a 1 3))]]} (λa=>A43 (L a 0 0) (I a 1 0) (I a 1 1) (L a 1 2) (I a 1 3)) λa=>Y (v43 (L a 0 0) (I a 1 0) (I a 1 1) (L a 1 2) (I a 1 3))
end Go.Sx
namespace Go.Sx
def Aim (d:List C):Prop:=pLe (iLen (ql 7 d)) 9223372036854775807->Cn (bLe 1 (iLen (ql 7 d))) (pLe (iLen (ql 7 d)) 9223372036854775807->Cn (bLe (iLen (ql 7 d)) 8) (True/\DZ (ql 7 d)=AV d) (false=AV d)) (false=AV d)
theorem v127 (d:List C):WD hD d->True/\True/\Cn (bNot (C9 (qs 1 d))) (false=AV d) (Cn (bNe (qi 2 d) 1) (Cn (bNe (qi 2 d) 2) (false=AV d) (Cn (bLt (qi 3 d) 0) (false=AV d) (Cn (bLt 65535 (qi 3 d)) (false=AV d) (Cn (bLt (qi 4 d) 0) (false=AV d) (Cn (bLt 1048576 (qi 4 d)) (false=AV d) (Cn (bLt (qi 5 d) 0) (false=AV d) (Cn (bLt 2048 (qi 5 d)) (false=AV d) (Cn (bLt (qi 6 d) 0) (false=AV d) (Cn (bLt 4096 (qi 6 d)) (false=AV d) ((Aim d))))))))))) (Cn (bLt (qi 3 d) 0) (false=AV d) (Cn (bLt 65535 (qi 3 d)) (false=AV d) (Cn (bLt (qi 4 d) 0) (false=AV d) (Cn (bLt 1048576 (qi 4 d)) (false=AV d) (Cn (bLt (qi 5 d) 0) (false=AV d) (Cn (bLt 2048 (qi 5 d)) (false=AV d) (Cn (bLt (qi 6 d) 0) (false=AV d) (Cn (bLt 4096 (qi 6 d)) (false=AV d) ((Aim d))))))))))):=by
 intro hw;delta Aim;have e:AV d=(C9 (qs 1 d)&&(decide ((qi 2 d=1∨qi 2 d=2)/\0<=qi 3 d/\qi 3 d<=65535/\0<=qi 4 d/\qi 4 d<=1048576/\0<=qi 5 d/\qi 5 d<=2048/\0<=qi 6 d/\qi 6 d<=4096/\1<=(ql 7 d).length/\(ql 7 d).length<=8)&&DZ (ql 7 d))):=rfl;have no:¬((qi 2 d=1∨qi 2 d=2)/\0<=qi 3 d/\qi 3 d<=65535/\0<=qi 4 d/\qi 4 d<=1048576/\0<=qi 5 d/\qi 5 d<=2048/\0<=qi 6 d/\qi 6 d<=4096/\1<=(ql 7 d).length/\(ql 7 d).length<=8)->false=AV d:=λh=>by rw[e,decide_eq_false h,Bool.false_and,Bool.and_false]
 have yes:C9 (qs 1 d)=true->((qi 2 d=1∨qi 2 d=2)/\0<=qi 3 d/\qi 3 d<=65535/\0<=qi 4 d/\qi 4 d<=1048576/\0<=qi 5 d/\qi 5 d<=2048/\0<=qi 6 d/\qi 6 d<=4096/\1<=(ql 7 d).length/\(ql 7 d).length<=8)->DZ (ql 7 d)=AV d:=λh0 h=>by rw[e,h0,decide_eq_true h,Bool.true_and,Bool.true_and]
 have nn:C9 (qs 1 d)=false->false=AV d:=λh=>by rw[e,h]; rfl
 simp only[D,E];generalize AV d=V at*;generalize DZ (ql 7 d)=B at*
 cases hn:C9 (qs 1 d)
 · exact⟨λ_=>nn hn,λh=>(by cases h)⟩
 have yes:=yes hn;clear nn e
 repeat' (first|apply And.intro|intro _)
 all_goals (first|contradiction|exact no (by omega)|exact yes (by omega))
def r127:Cr PR:=K0 [r188,r189] 127 6 {ps:=[(true,hD)],rs:=[(false,[.bool])],pre:=λ_=>True,out:=λa=>[[.b (AV (arg 0 a))]]} U λa=>Y (v127 (arg 0 a))
end Go.Sx
namespace Go.Sx
def Aj7 (d:List C):Prop:=pLe (iLen (ql 7 d)) 9223372036854775807->Cn (bLe 1 (iLen (ql 7 d))) (pLe (iLen (ql 7 d)) 9223372036854775807->Cn (bLe (iLen (ql 7 d)) 8) (True/\DZ (ql 7 d)=AV d) (false=AV d)) (false=AV d)
theorem v41 (d:List C):WD hD d->True/\Cn (C9 (qs 1 d)) (Cn (bEq (qi 2 d) 1) (Cn (bLe 0 (qi 3 d)) (Cn (bLe (qi 3 d) 65535) (Cn (bLe 0 (qi 4 d)) (Cn (bLe (qi 4 d) 1048576) (Cn (bLe 0 (qi 5 d)) (Cn (bLe (qi 5 d) 2048) (Cn (bLe 0 (qi 6 d)) (Cn (bLe (qi 6 d) 4096) ((Aj7 d)) (false=AV d)) (false=AV d)) (false=AV d)) (false=AV d)) (false=AV d)) (false=AV d)) (false=AV d)) (false=AV d)) (Cn (bEq (qi 2 d) 2) (Cn (bLe 0 (qi 3 d)) (Cn (bLe (qi 3 d) 65535) (Cn (bLe 0 (qi 4 d)) (Cn (bLe (qi 4 d) 1048576) (Cn (bLe 0 (qi 5 d)) (Cn (bLe (qi 5 d) 2048) (Cn (bLe 0 (qi 6 d)) (Cn (bLe (qi 6 d) 4096) ((Aj7 d)) (false=AV d)) (false=AV d)) (false=AV d)) (false=AV d)) (false=AV d)) (false=AV d)) (false=AV d)) (false=AV d)) (false=AV d))) (false=AV d):=by
 intro hw;delta Aj7;have e:AV d=(C9 (qs 1 d)&&(decide ((qi 2 d=1∨qi 2 d=2)/\0<=qi 3 d/\qi 3 d<=65535/\0<=qi 4 d/\qi 4 d<=1048576/\0<=qi 5 d/\qi 5 d<=2048/\0<=qi 6 d/\qi 6 d<=4096/\1<=(ql 7 d).length/\(ql 7 d).length<=8)&&DZ (ql 7 d))):=rfl;have no:¬((qi 2 d=1∨qi 2 d=2)/\0<=qi 3 d/\qi 3 d<=65535/\0<=qi 4 d/\qi 4 d<=1048576/\0<=qi 5 d/\qi 5 d<=2048/\0<=qi 6 d/\qi 6 d<=4096/\1<=(ql 7 d).length/\(ql 7 d).length<=8)->false=AV d:=λh=>by rw[e,decide_eq_false h,Bool.false_and,Bool.and_false]
 have yes:C9 (qs 1 d)=true->((qi 2 d=1∨qi 2 d=2)/\0<=qi 3 d/\qi 3 d<=65535/\0<=qi 4 d/\qi 4 d<=1048576/\0<=qi 5 d/\qi 5 d<=2048/\0<=qi 6 d/\qi 6 d<=4096/\1<=(ql 7 d).length/\(ql 7 d).length<=8)->DZ (ql 7 d)=AV d:=λh0 h=>by rw[e,h0,decide_eq_true h,Bool.true_and,Bool.true_and]
 have nn:C9 (qs 1 d)=false->false=AV d:=λh=>by rw[e,h]; rfl
 simp only[D,E];generalize AV d=V at*;generalize DZ (ql 7 d)=B at*
 cases hn:C9 (qs 1 d)
 · exact⟨λh=>(by cases h),λ_=>nn hn⟩
 have yes:=yes hn;clear nn e
 repeat' (first|apply And.intro|intro _)
 all_goals (first|contradiction|exact no (by omega)|exact yes (by omega))
def r41:Cr PR:=K0 [r86,r80] 41 6 {ps:=[(true,hD)],rs:=[(false,[.bool])],pre:=λ_=>True,out:=λa=>[[.b (AV (arg 0 a))]]} U λa=>Y (v41 (arg 0 a))
end Go.Sx

