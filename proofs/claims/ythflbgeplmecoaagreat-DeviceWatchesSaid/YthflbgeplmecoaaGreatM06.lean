import Derived.Test.YthflbgeplmecoaaGreatSxUse
import Derived.Test.YthflbgeplmecoaaGreatM19
set_option linter.unusedVariables false
set_option linter.unusedSimpArgs false
set_option maxRecDepth 100000
set_option maxHeartbeats 4000000
namespace Go
open Go.Sx
def Sp.ck (f:List C→Bool) (g:List C→List C→Bool):Option (List C)→List (List C)→Bool
 |_,[]=>true
 |p,x::r=>f x&&(match p with|none=>true|some y=>g y x)&&Sp.ck f g (some x) r
def Sp.ckI (f:List C→Bool) (g:List C→List C→Bool) (xs:List (List C)) (i:Int):Prop:=0≤i∧i≤(xs.length:Int)∧Sp.ck f g (if i=0 then none else some (rGet xs (i-1))) (xs.drop i.toNat)=Sp.ck f g none xs∧(0<i→f (rGet xs (i-1))=true)
def Sp.dk (h:List (List C)→List C→Bool):List (List C)→List (List C)→Bool
 |_,[]=>true
 |p,x::r=>h p x&&Sp.dk h (p++[x]) r
def Sp.dkI (h:List (List C)→List C→Bool) (xs:List (List C)) (i:Int):Prop:=0≤i∧i≤(xs.length:Int)∧Sp.dk h (xs.take i.toNat) (xs.drop i.toNat)=Sp.dk h [] xs
def Sp.ix (f:List C→Bool):Int→List (List C)→Int
 |_,[]=> -1
 |k,x::r=>bif f x then k else Sp.ix f (k+1) r
def Sp.ixI (f:List C→Bool) (xs:List (List C)) (i:Int):Prop:=0≤i∧i≤(xs.length:Int)∧Sp.ix f i (xs.drop i.toNat)=Sp.ix f 0 xs
def Sp.eq1 (v:Int) (x:List C):Bool:=bEq (qi 0 x) v
def Sp.cmF (p:List (List C)) (x:List C):Bool:=decide (1≤qi 0 x∧qi 0 x≤8)&& !(p.any (Sp.eq1 (qi 0 x)))
def Sp.cmV (m:List (List C)):Bool:=decide (1≤m.length∧m.length≤8)&&Sp.dk Sp.cmF [] m
def Sp.sm (m x:List (List C)):Bool:=Sp.rl Sp.e0 x m
def Sp.hs (l:List (List C)) (m:List (List C)):Bool:=l.any fun x=>Sp.sm m (ql 0 x)
def Sp.spF (x:List C):Bool:=decide (0≤qi 0 x∧qi 0 x≤qi 1 x∧qi 1 x≤2147483647)
def Sp.spG (y x:List C):Bool:=decide (qi 1 y+1<qi 0 x)
def Sp.isV (xs:List (List C)):Bool:=Sp.ck Sp.spF Sp.spG none xs&&decide (xs.length≤64)
def Sp.sps (xs:List (List C)):List (List C):=bif Sp.isV xs then xs else[]
def Sp.inS (n:Int) (x:List C):Bool:=decide (qi 0 x≤n∧n≤qi 1 x)
def Sp.isH (xs:List (List C)) (n:Int):Bool:=(Sp.sps xs).any (Sp.inS n)
end Go
namespace Go
open Go.Sx
section
variable {f:List C→Bool} {g:List C→List C→Bool} {h:List (List C)→List C→Bool} {xs:List (List C)} {i:Int}
theorem ck0:Sp.ckI f g xs 0:=⟨Int.le_refl _,by omega,rfl,fun h=>(Int.lt_irrefl _ h).elim⟩
theorem ck_at (a:Sp.ckI f g xs i) (hi:i<(xs.length:Int)):Sp.ck f g none xs=(f (rGet xs i)&&(if i=0 then true else g (rGet xs (i-1)) (rGet xs i))&&Sp.ck f g (some (rGet xs i)) (xs.drop (i+1).toNat)):=by
 rw[←a.2.2.1,drop_at a.1 hi]
 by_cases h:i=0
 · rw[if_pos h,if_pos h]; rfl
 · rw[if_neg h,if_neg h]; rfl
theorem ckN (a:Sp.ckI f g xs i) (hi:i<(xs.length:Int)) (hf:f (rGet xs i)=true) (hg:0<i→g (rGet xs (i-1)) (rGet xs i)=true):Sp.ckI f g xs (i+1):=by
 have h0:=a.1
 have e:i+1-1=i:=by omega
 refine⟨by omega,by omega,?_,fun _=>by rw[e]; exact hf⟩
 rw[ck_at a hi,hf,if_neg (by omega),e]
 by_cases h:i=0
 · rw[if_pos h]; rfl
 · rw[if_neg h,hg (by omega)]; rfl
theorem ckB (a:Sp.ckI f g xs i) (hi:i<(xs.length:Int)) (hf:f (rGet xs i)=false):Sp.ck f g none xs=false:=by rw[ck_at a hi,hf]; rfl
theorem ckB2 (a:Sp.ckI f g xs i) (hi:i<(xs.length:Int)) (h:0<i) (hg:g (rGet xs (i-1)) (rGet xs i)=false):Sp.ck f g none xs=false:=by rw[ck_at a hi,if_neg (by omega),hg,Bool.and_false]; rfl
theorem ckE (a:Sp.ckI f g xs i) (hi:¬i<(xs.length:Int)):Sp.ck f g none xs=true:=by
 rw[←a.2.2.1,List.drop_eq_nil_of_le (by omega)]
 unfold Sp.ck; rfl
theorem dk0:Sp.dkI h xs 0:=⟨Int.le_refl _,by omega,rfl⟩
theorem take_s (h0:0≤i) (hi:i<(xs.length:Int)):xs.take (i+1).toNat=xs.take i.toNat++[rGet xs i]:=by
 rw[show(i+1).toNat=i.toNat+1 by omega,List.take_add_one]
 unfold rGet
 rw[List.getD_eq_getElem?_getD,List.getElem?_eq_getElem (show i.toNat<xs.length by omega)]; rfl
theorem dkN (a:Sp.dkI h xs i) (hi:i<(xs.length:Int)) (hf:h (xs.take i.toNat) (rGet xs i)=true):Sp.dkI h xs (i+1):=by
 have h0:=a.1
 refine⟨by omega,by omega,?_⟩
 rw[←a.2.2,drop_at h0 hi,take_s h0 hi,Sp.dk,hf]; rfl
theorem dkB (a:Sp.dkI h xs i) (hi:i<(xs.length:Int)) (hf:h (xs.take i.toNat) (rGet xs i)=false):Sp.dk h [] xs=false:=by rw[←a.2.2,drop_at a.1 hi,Sp.dk,hf]; rfl
theorem dkE (a:Sp.dkI h xs i) (hi:¬i<(xs.length:Int)):Sp.dk h [] xs=true:=by rw[←a.2.2,List.drop_eq_nil_of_le (by omega)]; rfl
theorem ix0:Sp.ixI f xs 0:=⟨Int.le_refl _,by omega,rfl⟩
theorem ixN (a:Sp.ixI f xs i) (hi:i<(xs.length:Int)) (hf:f (rGet xs i)=false):Sp.ixI f xs (i+1):=by
 have h0:=a.1
 refine⟨by omega,by omega,?_⟩
 rw[←a.2.2,drop_at h0 hi,Sp.ix,hf]; rfl
theorem ixB (a:Sp.ixI f xs i) (hi:i<(xs.length:Int)) (hf:f (rGet xs i)=true):i=Sp.ix f 0 xs:=by rw[←a.2.2,drop_at a.1 hi,Sp.ix,hf]; rfl
theorem ixE (a:Sp.ixI f xs i) (hi:¬i<(xs.length:Int)): -1=Sp.ix f 0 xs:=by rw[←a.2.2,List.drop_eq_nil_of_le (by omega)]; rfl
theorem ix_any:∀(xs:List (List C)) (k:Int),0≤k→(0≤Sp.ix f k xs↔xs.any f=true)∧(Sp.ix f k xs= -1∨k≤Sp.ix f k xs)
 |[],k,h=>⟨by simp[Sp.ix],.inl rfl⟩
 |x::r,k,h=>by
  have a:=ix_any r (k+1) (by omega)
  simp only[Sp.ix,List.any_cons]
  cases f x
  · exact⟨by simpa using a.1,a.2.imp id (by simp only[cond_false]; omega)⟩
  · exact⟨by simpa using h,.inr (Int.le_refl _)⟩
theorem ix_iff (h0:0≤i) (hi:i<(xs.length:Int)) (hf:f (rGet xs i)=true):Sp.ix f 0 xs=i↔(xs.take i.toNat).any f=false:=by
 have key:∀(n:Nat) (ys:List (List C)) (k:Int),0≤k→n<ys.length→f (ys.getD n [])=true→(Sp.ix f k ys=k+n↔(ys.take n).any f=false):=by
  intro n
  induction n with
  |zero=>
   intro ys k hk hn hy
   cases ys with
   |nil=>cases hn
   |cons y r=>
    simp only[List.getD_cons_zero]at hy
    simp[Sp.ix,hy]
  |succ n ih=>
   intro ys k hk hn hy
   cases ys with
   |nil=>cases hn
   |cons y r=>
    simp only[List.getD_cons_succ]at hy
    simp only[Sp.ix,List.take_succ_cons,List.any_cons]
    cases f y
    · have a:=ih r (k+1) (by omega) (by simpa using hn) hy
      simp only[cond_false,Bool.false_or,←a]; omega
    · simp only[cond_true,Bool.true_or]
      constructor
      · intro h; omega
      · intro h; cases h
 have:=key i.toNat xs 0 (Int.le_refl _) (by omega) hf
 rw[←this]; omega
end
end Go
namespace Go.Sx
def A274 (xs:List (List C)) (v:Int):FuncId→Nat→LoopAnn:=fun _ _=>lp 8 xs.length (Sp.ixI (Sp.eq1 v) xs) [0,1,4,5,7,8,9,16]
theorem v274 (xs:List (List C)) (v:Int):WL hI xs∧InR .i64 v→pLe (iLen xs) 9223372036854775807→(∃(x:Int),Sp.ixI (Sp.eq1 v) xs x∧0=x)∧∀(x:Int),Sp.ixI (Sp.eq1 v) xs x→InR .i64 x→Cn (bLt x (iLen xs)) (pIn 0 (iLen xs) x∧(InR .i64 (qi 0 (rGet xs x))→Cn (bEq v (qi 0 (rGet xs x))) (x=Sp.ix (Sp.eq1 v) 0 xs) (InR .i64 (iAdd x 1)∧Sm xs∧Sm v∧Sm (iLen xs)∧∃(y:Int),Sp.ixI (Sp.eq1 v) xs y∧iAdd x 1=y∧nLt (xs.length-y.toNat) (xs.length-x.toNat)))) (-1=Sp.ix (Sp.eq1 v) 0 xs):=by
 intro hw
 simp only[D,E]
 intro _
 exact lpA ix0 (fun x h=>h.1) (fun x h h0 hx _=>⟨fun a=>ixB h hx (decide_eq_true (by omega)),fun a=>⟨inS hw.1 h0 hx,x+1,ixN h hx (decide_eq_false (by omega)),rfl,by omega⟩⟩) (fun x h hx=>ixE h hx)
def r274:Cr PR:=K0 [] 274 6 {ps:=[(false,hL),(false,hI)],rs:=[(false,hI)],pre:=fun _=>True,out:=fun a=>[[.i (Sp.ix (Sp.eq1 (I a 1 0)) 0 (L a 0 0))]]} (fun a=>A274 (L a 0 0) (I a 1 0)) fun a=>Y (v274 (L a 0 0) (I a 1 0))
end Go.Sx
namespace Go.Sx
def A268 (xs:List (List C)) (v:Int):FuncId→Nat→LoopAnn:=fun _ _=>lp 9 xs.length (Sp.ixI (Sp.eq1 v) xs) [0,1,4,5,6,7,8,9,10,16]
theorem v268 (xs:List (List C)) (v:Int):WL hI xs∧InR .i64 v→pLe (iLen xs) 9223372036854775807→(∃(x:Int),Sp.ixI (Sp.eq1 v) xs x∧0=x)∧∀(x:Int),Sp.ixI (Sp.eq1 v) xs x→InR .i64 x→Cn (bLt x (iLen xs)) (pIn 0 (iLen xs) x∧(InR .i64 (qi 0 (rGet xs x))→Cn (bEq (qi 0 (rGet xs x)) v) (x=Sp.ix (Sp.eq1 v) 0 xs) (InR .i64 (iAdd x 1)∧Sm xs∧Sm v∧Sm xs∧Sm (iLen xs)∧∃(y:Int),Sp.ixI (Sp.eq1 v) xs y∧iAdd x 1=y∧nLt (xs.length-y.toNat) (xs.length-x.toNat)))) (-1=Sp.ix (Sp.eq1 v) 0 xs):=by
 intro hw
 simp only[D,E]
 intro _
 exact lpA ix0 (fun x h=>h.1) (fun x h h0 hx _=>⟨fun a=>ixB h hx (decide_eq_true (by omega)),fun a=>⟨inS hw.1 h0 hx,x+1,ixN h hx (decide_eq_false (by omega)),rfl,by omega⟩⟩) (fun x h hx=>ixE h hx)
def r268:Cr PR:=K0 [] 268 6 {ps:=[(false,hL),(false,hI)],rs:=[(false,hI)],pre:=fun _=>True,out:=fun a=>[[.i (Sp.ix (Sp.eq1 (I a 1 0)) 0 (L a 0 0))]]} (fun a=>A268 (L a 0 0) (I a 1 0)) fun a=>Y (v268 (L a 0 0) (I a 1 0))
end Go.Sx
namespace Go.Sx
def A259 (xs:List (List C)) (ys:List (List C)):FuncId→Nat→LoopAnn:=fun _ _=>lp 13 xs.length (Sp.rlI Sp.e0 xs ys) [0,1,4,5,10,12,13,14,24]
theorem v259 (xs:List (List C)) (ys:List (List C)):WL hI xs∧WL hI ys→pLe (iLen xs) 9223372036854775807→pLe (iLen ys) 9223372036854775807→Cn (bNe (iLen xs) (iLen ys)) (false=Sp.rl Sp.e0 xs ys) (pLe (iLen xs) 9223372036854775807→(∃(x:Int),Sp.rlI Sp.e0 xs ys x∧0=x)∧∀(x:Int),Sp.rlI Sp.e0 xs ys x→InR .i64 x→Cn (bLt x (iLen xs)) (pIn 0 (iLen xs) x∧(InR .i64 (qi 0 (rGet xs x))→pIn 0 (iLen ys) x∧(InR .i64 (qi 0 (rGet ys x))→Cn (bNe (qi 0 (rGet xs x)) (qi 0 (rGet ys x))) (false=Sp.rl Sp.e0 xs ys) (InR .i64 (iAdd x 1)∧Sm xs∧Sm ys∧Sm (iLen xs)∧∃(y:Int),Sp.rlI Sp.e0 xs ys y∧iAdd x 1=y∧nLt (xs.length-y.toNat) (xs.length-x.toNat))))) (true=Sp.rl Sp.e0 xs ys)):=by
 intro hw
 simp only[D,E]
 intro _ _
 refine⟨fun h=>rlL (by omega),fun h _=>lpA (rl0 (by omega)) (fun x h=>h.1) (fun x h h0 hx _=>⟨⟨h0,by omega⟩,fun _=>⟨fun a=>rlB h hx (decide_eq_false a),fun a=>⟨inS hw.1 h0 hx,x+1,rlN h hx (decide_eq_true a),rfl,by omega⟩⟩⟩) (fun x h hx=>rlE h hx)⟩
def r259:Cr PR:=K0 [] 259 6 {ps:=[(false,hL),(false,hL)],rs:=[(false,[.bool])],pre:=fun _=>True,out:=fun a=>[[.b (Sp.rl Sp.e0 (L a 0 0) (L a 1 0))]]} (fun a=>A259 (L a 0 0) (L a 1 0)) fun a=>Y (v259 (L a 0 0) (L a 1 0))
end Go.Sx
namespace Go.Sx
def A202 (xs:List (List C)) (ys:List (List C)):FuncId→Nat→LoopAnn:=fun _ _=>lp 13 xs.length (Sp.rlI Sp.e0 xs ys) [0,1,4,5,10,12,13,14,24]
theorem v202 (xs:List (List C)) (ys:List (List C)):WL hI xs∧WL hI ys→pLe (iLen xs) 9223372036854775807→pLe (iLen ys) 9223372036854775807→Cn (bNe (iLen xs) (iLen ys)) (false=Sp.rl Sp.e0 xs ys) (pLe (iLen xs) 9223372036854775807→(∃(x:Int),Sp.rlI Sp.e0 xs ys x∧0=x)∧∀(x:Int),Sp.rlI Sp.e0 xs ys x→InR .i64 x→Cn (bLt x (iLen xs)) (pIn 0 (iLen xs) x∧(InR .i64 (qi 0 (rGet xs x))→pIn 0 (iLen ys) x∧(InR .i64 (qi 0 (rGet ys x))→Cn (bNe (qi 0 (rGet xs x)) (qi 0 (rGet ys x))) (false=Sp.rl Sp.e0 xs ys) (InR .i64 (iAdd x 1)∧Sm xs∧Sm ys∧Sm (iLen xs)∧∃(y:Int),Sp.rlI Sp.e0 xs ys y∧iAdd x 1=y∧nLt (xs.length-y.toNat) (xs.length-x.toNat))))) (true=Sp.rl Sp.e0 xs ys)):=by
 intro hw
 simp only[D,E]
 intro _ _
 refine⟨fun h=>rlL (by omega),fun h _=>lpA (rl0 (by omega)) (fun x h=>h.1) (fun x h h0 hx _=>⟨⟨h0,by omega⟩,fun _=>⟨fun a=>rlB h hx (decide_eq_false a),fun a=>⟨inS hw.1 h0 hx,x+1,rlN h hx (decide_eq_true a),rfl,by omega⟩⟩⟩) (fun x h hx=>rlE h hx)⟩
def r202:Cr PR:=K0 [] 202 6 {ps:=[(false,hL),(false,hL)],rs:=[(false,[.bool])],pre:=fun _=>True,out:=fun a=>[[.b (Sp.rl Sp.e0 (L a 0 0) (L a 1 0))]]} (fun a=>A202 (L a 0 0) (L a 1 0)) fun a=>Y (v202 (L a 0 0) (L a 1 0))
end Go.Sx
namespace Go.Sx
def A255 (xs:List (List C)):FuncId→Nat→LoopAnn:=fun _ _=>lp 15 xs.length (Sp.dkI Sp.cmF xs) [0,2,3,4,12,13,14,15,16,32]
theorem v255 (xs:List (List C)):WL hI xs→pLe (iLen xs) 9223372036854775807→Cn (bLt (iLen xs) 1) (false=Sp.cmV xs) (pLe (iLen xs) 9223372036854775807→Cn (bLt 8 (iLen xs)) (false=Sp.cmV xs) (pLe (iLen xs) 9223372036854775807→(∃(x:Int),Sp.dkI Sp.cmF xs x∧0=x)∧∀(x:Int),Sp.dkI Sp.cmF xs x→InR .i64 x→Cn (bLt x (iLen xs)) (pIn 0 (iLen xs) x∧(InR .i64 (qi 0 (rGet xs x))→Cn (bLt (qi 0 (rGet xs x)) 1) (false=Sp.cmV xs) (Cn (bLt 8 (qi 0 (rGet xs x))) (false=Sp.cmV xs) (geB none (some x) (iLen xs)∧True∧(InR .i64 (Sp.ix (Sp.eq1 (qi 0 (rGet xs x))) 0 (cutRows xs none (some x)))→Cn (bLe 0 (Sp.ix (Sp.eq1 (qi 0 (rGet xs x))) 0 (cutRows xs none (some x)))) (false=Sp.cmV xs) (InR .i64 (iAdd x 1)∧Sm xs∧Sm xs∧Sm (iLen xs)∧∃(y:Int),Sp.dkI Sp.cmF xs y∧iAdd x 1=y∧nLt (xs.length-y.toNat) (xs.length-x.toNat))))))) (true=Sp.cmV xs))):=by
 intro hw
 simp only[D,E]
 intro _
 have no:¬(1≤xs.length∧xs.length≤8)→false=Sp.cmV xs:=fun h=>by unfold Sp.cmV; rw[decide_eq_false h]; rfl
 refine⟨fun h=>no (by omega),fun h _=>⟨fun h1=>no (by omega),fun h1 _=> ?_⟩⟩
 have yes:Sp.cmV xs=Sp.dk Sp.cmF [] xs:=by unfold Sp.cmV; rw[decide_eq_true (by omega)]; rfl
 rw[yes]
 refine lpA dk0 (fun x h=>h.1) (fun x h h0 hx _=> ?_) (fun x h hx=>(dkE h hx).symm)
 have a:=(ix_any (f:=Sp.eq1 (qi 0 (rGet xs x))) (xs.take x.toNat) 0 (Int.le_refl _)).1
 have bad:Sp.cmF (xs.take x.toNat) (rGet xs x)=false→false=Sp.dk Sp.cmF [] xs:=fun e=>(dkB h hx e).symm
 refine⟨fun h2=>bad (by unfold Sp.cmF; rw[decide_eq_false (by omega)]; rfl),fun h2=>⟨fun h3=>bad (by unfold Sp.cmF; rw[decide_eq_false (by omega)]; rfl),fun h3=>⟨by simp only[geB]; omega,fun _=>⟨fun h4=>bad ?_,fun h4=>⟨inS hw h0 hx,x+1,dkN h hx ?_,rfl,by omega⟩⟩⟩⟩⟩
 · unfold Sp.cmF; rw[a.1 h4,Bool.not_true,Bool.and_false]
 · unfold Sp.cmF; rw[decide_eq_true (by omega),eq_false_of_ne_true fun e=>h4 (a.2 e)]; rfl
def r255:Cr PR:=K0 [r274] 255 6 {ps:=[(false,hL)],rs:=[(false,[.bool])],pre:=fun _=>True,out:=fun a=>[[.b (Sp.cmV (L a 0 0))]]} (fun a=>A255 (L a 0 0)) fun a=>Y (v255 (L a 0 0))
end Go.Sx
namespace Go.Sx
def A252 (xs:List (List C)):FuncId→Nat→LoopAnn:=fun _ _=>lp 7 xs.length (Sp.dkI Sp.cmF xs) [0,2,3,4,5,6,7,8,24]
theorem v252 (xs:List (List C)):WL hI xs→pLe (iLen xs) 9223372036854775807→(∃(x:Int),Sp.dkI Sp.cmF xs x∧0=x)∧∀(x:Int),Sp.dkI Sp.cmF xs x→InR .i64 x→Cn (bLt x (iLen xs)) (pIn 0 (iLen xs) x∧(InR .i64 (qi 0 (rGet xs x))→Cn (bLt (qi 0 (rGet xs x)) 1) (false=Sp.cmV xs) (Cn (bLt 8 (qi 0 (rGet xs x))) (false=Sp.cmV xs) (True∧(InR .i64 (Sp.ix (Sp.eq1 (qi 0 (rGet xs x))) 0 xs)→Cn (bNe (Sp.ix (Sp.eq1 (qi 0 (rGet xs x))) 0 xs) x) (false=Sp.cmV xs) (InR .i64 (iAdd x 1)∧Sm xs∧Sm xs∧Sm (iLen xs)∧∃(y:Int),Sp.dkI Sp.cmF xs y∧iAdd x 1=y∧nLt (xs.length-y.toNat) (xs.length-x.toNat))))))) (pLe (iLen xs) 9223372036854775807→Cn (bLe 1 (iLen xs)) (pLe (iLen xs) 9223372036854775807→bLe (iLen xs) 8=Sp.cmV xs) (false=Sp.cmV xs)):=by
 intro hw
 simp only[D,E]
 intro _
 have dn:Sp.dk Sp.cmF [] xs=false→false=Sp.cmV xs:=fun e=>by unfold Sp.cmV; rw[e,Bool.and_false]
 refine lpA dk0 (fun x h=>h.1) (fun x h h0 hx _=> ?_) (fun x h hx _=> ?_)
 · have bad:Sp.cmF (xs.take x.toNat) (rGet xs x)=false→false=Sp.cmV xs:=fun e=>dn (dkB h hx e)
   have ii:=ix_iff (f:=Sp.eq1 (qi 0 (rGet xs x))) h0 hx (decide_eq_true rfl)
   refine⟨fun h2=>bad (by unfold Sp.cmF; rw[decide_eq_false (by omega)]; rfl),fun h2=>⟨fun h3=>bad (by unfold Sp.cmF; rw[decide_eq_false (by omega)]; rfl),fun h3 _=>⟨fun h4=>bad ?_,fun h4=>⟨inS hw h0 hx,x+1,dkN h hx ?_,rfl,by omega⟩⟩⟩⟩
   · unfold Sp.cmF; rw[eq_true_of_ne_false fun e=>h4 (ii.2 e),Bool.not_true,Bool.and_false]
   · unfold Sp.cmF; rw[decide_eq_true (by omega),ii.1 h4]; rfl
 · have e:=dkE h hx
   unfold Sp.cmV
   rw[e,Bool.and_true]
   exact⟨fun h1 _=>by simp only[decide_eq_decide]; omega,fun h1=>by symm; simp only[decide_eq_false_iff_not]; omega⟩
def r252:Cr PR:=K0 [r268] 252 6 {ps:=[(false,hL)],rs:=[(false,[.bool])],pre:=fun _=>True,out:=fun a=>[[.b (Sp.cmV (L a 0 0))]]} (fun a=>A252 (L a 0 0)) fun a=>Y (v252 (L a 0 0))
end Go.Sx
namespace Go.Sx
theorem v218 (x:List (List C)) (m:List (List C)):WL hI x∧WL hI m→WL hI m→True∧Sp.rl Sp.e0 x m=Sp.sm m x:=by
 intro hw
 exact fun _=>⟨trivial,rfl⟩
def r218:Cr PR:=K0 [r259] 218 6 {ps:=[(false,hL),(false,[.bool,.sl hI])],rs:=[(false,[.bool])],pre:=fun _=>True,out:=fun a=>[[.b (Sp.sm (L a 1 0) (L a 0 0))]]} U fun a=>Y (v218 (L a 0 0) (L a 1 0))
end Go.Sx
namespace Go.Sx
def A159 (xs:List (List C)) (m:List (List C)):FuncId→Nat→LoopAnn:=fun ff ii=>bif Nat.beq ff 258 then lp 8 xs.length (Sp.exI (fun x=>Sp.sm m (ql 0 x)) xs) [0,1,4,5,7,8,9,16]else .unroll 0
theorem v159 (xs:List (List C)) (m:List (List C)):WL [Sh.sl hI] xs∧WL hI m→pLe (iLen xs) 9223372036854775807→(∃(x:Int),Sp.exI (fun(x:List C)=>Sp.sm m (ql 0 x)) xs x∧0=x)∧∀(x:Int),Sp.exI (fun(x:List C)=>Sp.sm m (ql 0 x)) xs x→InR .i64 x→Cn (bLt x (iLen xs)) (pIn 0 (iLen xs) x∧(WL hI (ql 0 (rGet xs x))→True∧Cn (Sp.sm m (ql 0 (rGet xs x))) (bLe 0 x=Sp.hs xs m) (InR .i64 (iAdd x 1)∧Sm xs∧Sm m∧Sm (iLen xs)∧∃(y:Int),Sp.exI (fun(x:List C)=>Sp.sm m (ql 0 x)) xs y∧iAdd x 1=y∧nLt (xs.length-y.toNat) (xs.length-x.toNat)))) (false=Sp.hs xs m):=by
 intro hw
 simp only[D,E]
 intro _
 exact lpA ex0 (fun x h=>h.1) (fun x h h0 hx _=>⟨fun a=>(decide_eq_true h0).trans (exB h hx a),fun a=>⟨inS hw.1 h0 hx,x+1,exN h hx a,rfl,by omega⟩⟩) (fun x h hx=>exE h hx)
def r159:Cr PR:=K0 [r218,(mark 4000028)] 159 6 {ps:=[(false,hM),(false,hL)],rs:=[(false,[.bool])],pre:=fun _=>True,out:=fun a=>[[.b (Sp.hs (L a 0 0) (L a 1 0))]]} (fun a=>A159 (L a 0 0) (L a 1 0)) fun a=>Y (v159 (L a 0 0) (L a 1 0))
end Go.Sx
namespace Go.Sx
def A210 (xs:List (List C)) (m:List (List C)):FuncId→Nat→LoopAnn:=fun _ _=>lp 9 xs.length (Sp.exI (fun x=>Sp.sm m (ql 0 x)) xs) [0,1,4,6,7,8,9,10,15]
theorem v210 (xs:List (List C)) (m:List (List C)):WL [Sh.sl hI] xs∧WL hI m→pLe (iLen xs) 9223372036854775807→(∃(x:Int),Sp.exI (fun(x:List C)=>Sp.sm m (ql 0 x)) xs x∧0=x)∧∀(x:Int),Sp.exI (fun(x:List C)=>Sp.sm m (ql 0 x)) xs x→InR .i64 x→Cn (bLt x (iLen xs)) (pIn 0 (iLen xs) x∧(WL hI (ql 0 (rGet xs x))→True∧Cn (Sp.rl Sp.e0 (ql 0 (rGet xs x)) m) (true=Sp.hs xs m) (InR .i64 (iAdd x 1)∧Sm xs∧Sm m∧Sm xs∧Sm (iLen xs)∧∃(y:Int),Sp.exI (fun(x:List C)=>Sp.sm m (ql 0 x)) xs y∧iAdd x 1=y∧nLt (xs.length-y.toNat) (xs.length-x.toNat)))) (false=Sp.hs xs m):=by
 intro hw
 simp only[D,E]
 intro _
 exact lpA ex0 (fun x h=>h.1) (fun x h h0 hx _=>⟨fun a=>exB h hx a,fun a=>⟨inS hw.1 h0 hx,x+1,exN h hx a,rfl,by omega⟩⟩) (fun x h hx=>exE h hx)
def r210:Cr PR:=K0 [r202] 210 6 {ps:=[(false,hM),(false,hL)],rs:=[(false,[.bool])],pre:=fun _=>True,out:=fun a=>[[.b (Sp.hs (L a 0 0) (L a 1 0))]]} (fun a=>A210 (L a 0 0) (L a 1 0)) fun a=>Y (v210 (L a 0 0) (L a 1 0))
end Go.Sx
namespace Go.Sx
theorem v273 (l:Int) (h:Int):InR .i64 l∧InR .i64 h→Cn (bLe 0 l) (Cn (bLe l h) (bLe h 2147483647=Sp.spF [C.i l,C.i h]) (false=Sp.spF [C.i l,C.i h])) (false=Sp.spF [C.i l,C.i h]):=by
 intro hw
 simp only[D,E,show Sp.spF [.i l,.i h]=decide (0≤l∧l≤h∧h≤2147483647)from rfl]
 repeat' (first|apply And.intro|intro _)
 all_goals (first|(simp only[decide_eq_decide]; omega)|(symm; simp only[decide_eq_false_iff_not]; omega))
def r273:Cr PR:=K0 [] 273 6 {ps:=[(true,hII)],rs:=[(false,[.bool])],pre:=fun _=>True,out:=fun a=>[[.b (Sp.spF [.i (I a 0 0),.i (I a 0 1)])]]} U fun a=>Y (v273 (I a 0 0) (I a 0 1))
end Go.Sx
namespace Go.Sx
def A257 (xs:List (List C)):FuncId→Nat→LoopAnn:=fun _ _=>lp 8 xs.length (Sp.ckI Sp.spF Sp.spG xs) [0,1,2,3,4,6,7,8,9,32]
def m257_0 (xs:List (List C)) (x:Int):Prop:=InR .i64 (iAdd x 1)∧Sm [C.l xs]∧Sm xs∧Sm (iLen xs)∧Sm [C.l xs]∧∃(y:Int),Sp.ckI Sp.spF Sp.spG xs y∧iAdd x 1=y∧nLt (xs.length-y.toNat) (xs.length-x.toNat)
theorem v257 (xs:List (List C)):WL hII xs→pLe (iLen xs) 9223372036854775807→(∃(x:Int),Sp.ckI Sp.spF Sp.spG xs x∧0=x)∧∀(x:Int),Sp.ckI Sp.spF Sp.spG xs x→InR .i64 x→Cn (bLt x (iLen xs)) (pIn 0 (iLen xs) x∧(InR .i64 (qi 0 (rGet xs x))∧InR .i64 (qi 1 (rGet xs x))→True∧True∧Cn (bNot (Sp.spF (rGet xs x))) (false=Sp.isV xs) (Cn (bLt 0 x) (InR .i64 (iSub x 1)∧pIn 0 (iLen xs) (iSub x 1)∧(InR .i64 (qi 1 (rGet xs (iSub x 1)))→InR .i64 (iAdd (qi 1 (rGet xs (iSub x 1))) 1)∧Cn (bLe (qi 0 (rGet xs x)) (iAdd (qi 1 (rGet xs (iSub x 1))) 1)) (false=Sp.isV xs) ((m257_0 xs x)))) ((m257_0 xs x))))) (pLe (iLen xs) 9223372036854775807→bLe (iLen xs) 64=Sp.isV xs):=by
 intro hw
 delta m257_0
 simp only[D,E]
 intro _
 have no:Sp.ck Sp.spF Sp.spG none xs=false→false=Sp.isV xs:=fun h=>by unfold Sp.isV; rw[h]; rfl
 refine lpA ck0 (fun x h=>h.1) (fun x h h0 hx _=> ?_) (fun x h hx _=>by unfold Sp.isV; rw[ckE h hx,Bool.true_and,decide_eq_decide]; omega)
 have a1:=inS hw h0 hx
 have a2:0<x→InR .i64 (x-1):=fun _=>by simp only[InR]at a1 ⊢; omega
 have a3:0<x→0≤x-1∧x-1<(xs.length:Int):=fun _=>by omega
 have nx:Sp.spF (rGet xs x)=true→(0<x→Sp.spG (rGet xs (x-1)) (rGet xs x)=true)→InR .i64 (x+1)∧∃y,Sp.ckI Sp.spF Sp.spG xs y∧x+1=y∧xs.length-y.toNat<xs.length-x.toNat:=fun h1 h2=>⟨a1,x+1,ckN h hx h1 h2,rfl,by omega⟩
 refine⟨fun h1=>no (ckB h hx h1),fun h1=>⟨fun h2=>⟨a2 h2,a3 h2,fun _=>⟨by have:=of_decide_eq_true (h.2.2.2 h2); simp only[InR]; omega,fun h3=>no (ckB2 h hx h2 (decide_eq_false (by omega))),fun h3=>nx h1 fun _=>decide_eq_true (by omega)⟩⟩,fun h2=>nx h1 fun h3=>(h2 h3).elim⟩⟩
def r257:Cr PR:=K0 [r273] 257 6 {ps:=[(true,[.sl hII])],rs:=[(false,[.bool])],pre:=fun _=>True,out:=fun a=>[[.b (Sp.isV (L a 0 0))]]} (fun a=>A257 (L a 0 0)) fun a=>Y (v257 (L a 0 0))
end Go.Sx
namespace Go.Sx
def A267 (xs:List (List C)):FuncId→Nat→LoopAnn:=fun _ _=>lp 8 xs.length (Sp.ckI Sp.spF Sp.spG xs) [0,1,2,3,4,6,7,8,9,44]
def m267_0 (xs:List (List C)) (x:Int):Prop:=InR .i64 (iAdd x 1)∧Sm [C.l xs]∧Sm xs∧Sm (iLen xs)∧Sm [C.l xs]∧∃(y:Int),Sp.ckI Sp.spF Sp.spG xs y∧iAdd x 1=y∧nLt (xs.length-y.toNat) (xs.length-x.toNat)
theorem v267 (xs:List (List C)):WL hII xs→pLe (iLen xs) 9223372036854775807→(∃(x:Int),Sp.ckI Sp.spF Sp.spG xs x∧0=x)∧∀(x:Int),Sp.ckI Sp.spF Sp.spG xs x→InR .i64 x→Cn (bLt x (iLen xs)) (pIn 0 (iLen xs) x∧(InR .i64 (qi 0 (rGet xs x))∧InR .i64 (qi 1 (rGet xs x))→Cn (bLt (qi 0 (rGet xs x)) 0) (false=Sp.isV xs) (Cn (bLt (qi 1 (rGet xs x)) (qi 0 (rGet xs x))) (false=Sp.isV xs) (Cn (bLt 2147483647 (qi 1 (rGet xs x))) (false=Sp.isV xs) (Cn (bLt 0 x) (InR .i64 (iSub (qi 0 (rGet xs x)) 1)∧InR .i64 (iSub x 1)∧pIn 0 (iLen xs) (iSub x 1)∧(InR .i64 (qi 1 (rGet xs (iSub x 1)))→Cn (bLe (iSub (qi 0 (rGet xs x)) 1) (qi 1 (rGet xs (iSub x 1)))) (false=Sp.isV xs) ((m267_0 xs x)))) ((m267_0 xs x))))))) (pLe (iLen xs) 9223372036854775807→bLe (iLen xs) 64=Sp.isV xs):=by
 intro hw
 delta m267_0
 simp only[D,E]
 intro _
 have no:Sp.ck Sp.spF Sp.spG none xs=false→false=Sp.isV xs:=fun h=>by unfold Sp.isV; rw[h]; rfl
 refine lpA ck0 (fun x h=>h.1) (fun x h h0 hx _=> ?_) (fun x h hx _=>by unfold Sp.isV; rw[ckE h hx,Bool.true_and,decide_eq_decide]; omega)
 have a1:=inS hw h0 hx
 have a2:0<x→InR .i64 (x-1):=fun _=>by simp only[InR]at a1 ⊢; omega
 have a3:0<x→0≤x-1∧x-1<(xs.length:Int):=fun _=>by omega
 have nx:Sp.spF (rGet xs x)=true→(0<x→Sp.spG (rGet xs (x-1)) (rGet xs x)=true)→InR .i64 (x+1)∧∃y,Sp.ckI Sp.spF Sp.spG xs y∧x+1=y∧xs.length-y.toNat<xs.length-x.toNat:=fun h1 h2=>⟨a1,x+1,ckN h hx h1 h2,rfl,by omega⟩
 have bd:¬(0≤qi 0 (rGet xs x)∧qi 0 (rGet xs x)≤qi 1 (rGet xs x)∧qi 1 (rGet xs x)≤2147483647)→false=Sp.isV xs:=fun h1=>no (ckB h hx (decide_eq_false h1))
 refine⟨fun h1=>bd (by omega),fun h1=>⟨fun h2=>bd (by omega),fun h2=>⟨fun h3=>bd (by omega),fun h3=> ?_⟩⟩⟩
 have h4:Sp.spF (rGet xs x)=true:=decide_eq_true (by omega)
 exact⟨fun h2=>⟨by simp only[InR]; omega,a2 h2,a3 h2,fun _=>⟨fun h3=>no (ckB2 h hx h2 (decide_eq_false (by omega))),fun h3=>nx h4 fun _=>decide_eq_true (by omega)⟩⟩,fun h2=>nx h4 fun h3=>(h2 h3).elim⟩
def r267:Cr PR:=K0 [] 267 6 {ps:=[(true,[.sl hII])],rs:=[(false,[.bool])],pre:=fun _=>True,out:=fun a=>[[.b (Sp.isV (L a 0 0))]]} (fun a=>A267 (L a 0 0)) fun a=>Y (v267 (L a 0 0))
end Go.Sx
namespace Go.Sx
theorem v215 (xs:List (List C)):WL hII xs→True∧True∧Cn (bNot (Sp.isV xs)) ([]=Sp.sps xs) (xs=Sp.sps xs):=by
 intro hw
 simp only[D,E,Sp.sps]
 exact⟨fun h=>by rw[h]; rfl,fun h=>by rw[h]; rfl⟩
def r215:Cr PR:=K0 [r257] 215 6 {ps:=[(true,[.sl hII])],rs:=[(false,[.sl hII])],pre:=fun _=>True,out:=fun a=>[[.l (Sp.sps (L a 0 0))]]} U fun a=>Y (v215 (L a 0 0))
end Go.Sx
namespace Go.Sx
theorem v238 (xs:List (List C)):WL hII xs→True∧True∧Cn (bNot (Sp.isV xs)) ([]=Sp.sps xs) (xs=Sp.sps xs):=by
 intro hw
 simp only[D,E,Sp.sps]
 exact⟨fun h=>by rw[h]; rfl,fun h=>by rw[h]; rfl⟩
def r238:Cr PR:=K0 [r267] 238 6 {ps:=[(true,[.sl hII])],rs:=[(false,[.sl hII])],pre:=fun _=>True,out:=fun a=>[[.l (Sp.sps (L a 0 0))]]} U fun a=>Y (v238 (L a 0 0))
end Go.Sx
namespace Go.Sx
theorem v216 (l:Int) (h:Int) (n:Int):InR .i64 l∧InR .i64 h∧InR .i64 n→InR .i64 n→Cn (bLe l n) (InR .i64 n→bLe n h=Sp.inS n [C.i l,C.i h]) (false=Sp.inS n [C.i l,C.i h]):=by
 intro hw
 simp only[D,E,show Sp.inS n [.i l,.i h]=decide (l≤n∧n≤h)from rfl]
 intro _
 exact⟨fun h _=>by simp only[decide_eq_decide]; omega,fun h=>by symm; simp only[decide_eq_false_iff_not]; omega⟩
def r216:Cr PR:=K0 [] 216 6 {ps:=[(true,hII),(false,[.bool,.int .i64])],rs:=[(false,[.bool])],pre:=fun _=>True,out:=fun a=>[[.b (Sp.inS (I a 1 0) [.i (I a 0 0),.i (I a 0 1)])]]} U fun a=>Y (v216 (I a 0 0) (I a 0 1) (I a 1 0))
end Go.Sx
namespace Go.Sx
def A158 (ys:List (List C)) (n:Int):FuncId→Nat→LoopAnn:=fun ff ii=>bif Nat.beq ff 256 then lp 8 (Sp.sps ys).length (Sp.exI (Sp.inS n) (Sp.sps ys)) [0,1,4,5,7,8,9,16]else .unroll 0
theorem v158 (ys:List (List C)) (n:Int):WL hII ys∧InR .i64 n→True∧(WL hII (Sp.sps ys)→pLe (iLen (Sp.sps ys)) 9223372036854775807→(∃(x:Int),Sp.exI (Sp.inS n) (Sp.sps ys) x∧0=x)∧∀(x:Int),Sp.exI (Sp.inS n) (Sp.sps ys) x→InR .i64 x→Cn (bLt x (iLen (Sp.sps ys))) (pIn 0 (iLen (Sp.sps ys)) x∧(InR .i64 (qi 0 (rGet (Sp.sps ys) x))∧InR .i64 (qi 1 (rGet (Sp.sps ys) x))→True∧Cn (Sp.inS n (rGet (Sp.sps ys) x)) (bLe 0 x=Sp.isH ys n) (InR .i64 (iAdd x 1)∧Sm (Sp.sps ys)∧Sm n∧Sm (iLen (Sp.sps ys))∧Sm [C.l ys]∧∃(y:Int),Sp.exI (Sp.inS n) (Sp.sps ys) y∧iAdd x 1=y∧nLt ((Sp.sps ys).length-y.toNat) ((Sp.sps ys).length-x.toNat)))) (false=Sp.isH ys n)):=by
 intro hw
 simp only[D,E]
 intro hw' _
 exact lpA ex0 (fun x h=>h.1) (fun x h h0 hx _=>⟨fun a=>(decide_eq_true h0).trans (exB h hx a),fun a=>⟨inS hw' h0 hx,x+1,exN h hx a,rfl,by omega⟩⟩) (fun x h hx=>exE h hx)
def r158:Cr PR:=K0 [r215,r216,(mark 4000003)] 158 6 {ps:=[(true,[.sl hII]),(false,hI)],rs:=[(false,[.bool])],pre:=fun _=>True,out:=fun a=>[[.b (Sp.isH (L a 0 0) (I a 1 0))]]} (fun a=>A158 (L a 0 0) (I a 1 0)) fun a=>Y (v158 (L a 0 0) (I a 1 0))
end Go.Sx
namespace Go.Sx
def A209 (ys:List (List C)) (n:Int):FuncId→Nat→LoopAnn:=fun _ _=>lp 10 (Sp.sps ys).length (Sp.exI (Sp.inS n) (Sp.sps ys)) [0,1,2,4,6,8,9,10,11,23]
def m209_0 (ys:List (List C)) (n:Int) (x:Int):Prop:=InR .i64 (iAdd x 1)∧Sm [C.l ys]∧Sm n∧Sm (Sp.sps ys)∧Sm (iLen (Sp.sps ys))∧Sm [C.l ys]∧∃(y:Int),Sp.exI (Sp.inS n) (Sp.sps ys) y∧iAdd x 1=y∧nLt ((Sp.sps ys).length-y.toNat) ((Sp.sps ys).length-x.toNat)
theorem v209 (ys:List (List C)) (n:Int):WL hII ys∧InR .i64 n→True∧(WL hII (Sp.sps ys)→pLe (iLen (Sp.sps ys)) 9223372036854775807→(∃(x:Int),Sp.exI (Sp.inS n) (Sp.sps ys) x∧0=x)∧∀(x:Int),Sp.exI (Sp.inS n) (Sp.sps ys) x→InR .i64 x→Cn (bLt x (iLen (Sp.sps ys))) (pIn 0 (iLen (Sp.sps ys)) x∧(InR .i64 (qi 0 (rGet (Sp.sps ys) x))∧InR .i64 (qi 1 (rGet (Sp.sps ys) x))→Cn (bLe (qi 0 (rGet (Sp.sps ys) x)) n) (Cn (bLe n (qi 1 (rGet (Sp.sps ys) x))) (true=Sp.isH ys n) ((m209_0 ys n x))) ((m209_0 ys n x)))) (false=Sp.isH ys n)):=by
 intro hw
 delta m209_0
 simp only[D,E]
 intro hw' _
 refine lpA ex0 (fun x h=>h.1) (fun x h h0 hx _=> ?_) (fun x h hx=>exE h hx)
 have nx:¬(qi 0 (rGet (Sp.sps ys) x)≤n∧n≤qi 1 (rGet (Sp.sps ys) x))→InR .i64 (x+1)∧∃y,Sp.exI (Sp.inS n) (Sp.sps ys) y∧x+1=y∧(Sp.sps ys).length-y.toNat<(Sp.sps ys).length-x.toNat:=fun e=>⟨inS hw' h0 hx,x+1,exN h hx (decide_eq_false e),rfl,by omega⟩
 exact⟨fun a=>⟨fun b=>exB h hx (decide_eq_true ⟨a,b⟩),fun b=>nx (by omega)⟩,fun a=>nx (by omega)⟩
def r209:Cr PR:=K0 [r238] 209 6 {ps:=[(true,[.sl hII]),(false,hI)],rs:=[(false,[.bool])],pre:=fun _=>True,out:=fun a=>[[.b (Sp.isH (L a 0 0) (I a 1 0))]]} (fun a=>A209 (L a 0 0) (I a 1 0)) fun a=>Y (v209 (L a 0 0) (I a 1 0))
end Go.Sx

set_option linter.unusedVariables false
set_option linter.unusedSimpArgs false
set_option maxRecDepth 100000
set_option maxHeartbeats 4000000
namespace Go
open Go.Sx
def Sp.ltr (c:Int):Bool:=decide (97≤c∧c≤122∨65≤c∧c≤90)
def Sp.oth (c:Int):Bool:=decide (48≤c∧c≤57∨c=45∨c=46∨c=95)
def Sp.nok (s:ByteArray) (z:Int):Bool:=Sp.ltr (sAt s z)||(!decide (z=0)&&Sp.oth (sAt s z))
def Sp.nam (s:ByteArray):Bool:=decide (1≤s.size∧s.size≤64)&&(List.range s.size).all (fun i=>Sp.nok s (i:Int))
def Sp.namI (s:ByteArray) (z:Int):Prop:=0≤z∧z≤(s.size:Int)∧∀j:Nat,(j:Int)<z→Sp.nok s (j:Int)=true
def Sp.bl (s:ByteArray):Nat:=s.size
def Sp.kd (k n:Int):Bool:=bAnd (bLe 1 n) (bAnd (bLe n 7) (bEq (iAnd .i64 (iShr k n) 1) 1))
def Sp.wit (xs:List (List C)) (lo hi:Int):Bool:=decide (1≤xs.length)&&(Sp.isV xs&&decide (lo≤qi 0 (rGet xs 0)∧qi 1 (rGet xs ((xs.length:Int)-1))≤hi))
def Sp.mpF (p:List (List C)) (x:List C):Bool:=Sp.cmV (ql 0 x)&& !(Sp.hs p (ql 0 x))
def Sp.bxF (x:List C):Bool:=(!decide (qi 0 x=0)&&decide (iAndNot .i64 (qi 0 x) 254=0))&&(Sp.wit (ql 1 x) 1000 768000&&(Sp.wit (ql 3 x) 1 65536&&(Sp.dk Sp.mpF [] (ql 2 x)&&decide (1≤(ql 2 x).length∧(ql 2 x).length≤16))))
def Sp.bsV (l:List (List C)):Bool:=decide (l.length≤64)&&l.all Sp.bxF
def Sp.bxs (l:List (List C)):List (List C):=bif Sp.bsV l then l else[]
def Sp.inB (k r:Int) (m:List (List C)) (z:Int) (x:List C):Bool:=bAnd (bAnd (bAnd (Sp.kd (qi 0 x) k) (Sp.isH (ql 1 x) r)) (Sp.hs (ql 2 x) m)) (Sp.isH (ql 3 x) z)
def Sp.ofH (l:List (List C)) (k r:Int) (m:List (List C)) (z:Int):Bool:=(Sp.bxs l).any (Sp.inB k r m z)
def Sp.dsV (d:List C):Bool:=Sp.nam (qs 1 d)&&(decide ((qi 2 d=1∨qi 2 d=2)∧0≤qi 3 d∧qi 3 d≤65535∧0≤qi 4 d∧qi 4 d≤1048576∧0≤qi 5 d∧qi 5 d≤2048∧0≤qi 6 d∧qi 6 d≤4096∧1≤(ql 7 d).length∧(ql 7 d).length≤8)&&Sp.bsV (ql 7 d))
end Go
namespace Go
open Go.Sx
theorem Sp.namI_init (s:ByteArray):Sp.namI s 0:=⟨by omega,by omega,fun j h=>by omega⟩
theorem Sp.namI_next {s:ByteArray} {z:Int} (h:Sp.namI s z) (hz:z<(s.size:Int)) (hp:Sp.nok s z=true):Sp.namI s (z+1):=by
 obtain⟨a,b,c⟩:=h
 refine⟨by omega,by omega,fun j hj=> ?_⟩
 by_cases e:(j:Int)=z
 · rw[e]; exact hp
 · exact c j (by omega)
theorem Sp.nam_bad {s:ByteArray} {z:Int} (h0:0≤z) (hz:z<(s.size:Int)) (h:Sp.nok s z=false):Sp.nam s=false:=by
 unfold Sp.nam
 rw[Bool.and_eq_false_iff]; right
 rw[List.all_eq_false]
 exact⟨z.toNat,List.mem_range.2 (by omega),by rw[show((z.toNat:Nat):Int)=z by omega,h]; simp⟩
theorem Sp.nam_end {s:ByteArray} {z:Int} (h:Sp.namI s z) (hz:¬z<(s.size:Int)):Sp.nam s=decide (1≤s.size∧s.size≤64):=by
 obtain⟨a,b,c⟩:=h
 unfold Sp.nam
 have:(List.range s.size).all (fun i=>Sp.nok s (i:Int))=true:=by
  rw[List.all_eq_true]
  intro i hi
  exact c i (by have:=List.mem_range.1 hi; omega)
 rw[this,Bool.and_true]
theorem Sp.at_bd (s:ByteArray) (z:Int):0≤sAt s z∧sAt s z<256:=by
 unfold sAt
 split
 · rename_i b _
   have:=b.toNat_lt
   omega
 · omega
theorem Sp.emp_size {s:ByteArray}:(s.toList==ByteArray.empty.toList)=decide (s.size=0):=by
 rw[ByteArray.toList_eq,ByteArray.toList_eq,Bool.eq_iff_iff,beq_iff_eq,decide_eq_true_eq]
 constructor
 · intro h
   have:=congrArg List.length h
   exact this
 · intro h
   exact List.eq_nil_of_length_eq_zero h
theorem Sp.or32 {c:Int} (h0:0≤c) (h1:c<256):(97≤iOr .u8 c 32∧iOr .u8 c 32≤122)↔Sp.ltr c=true:=by
 have key:∀n:Fin 256,decide (97≤iOr .u8 (n.val:Int) 32∧iOr .u8 (n.val:Int) 32≤122)=Sp.ltr (n.val:Int):=by decide+kernel
 have:=key ⟨c.toNat,by omega⟩
 simp only[show((c.toNat:Nat):Int)=c by omega]at this
 rw[←this,decide_eq_true_eq]
theorem Sp.nok_iff (s:ByteArray) (x:Int):Sp.nok s x=true↔(97≤sAt s x∧sAt s x≤122∨65≤sAt s x∧sAt s x≤90)∨(¬x=0∧(48≤sAt s x∧sAt s x≤57∨sAt s x=45∨sAt s x=46∨sAt s x=95)):=by
 unfold Sp.nok Sp.ltr Sp.oth
 simp only[Bool.or_eq_true,Bool.and_eq_true,Bool.not_eq_true',decide_eq_true_eq,decide_eq_false_iff_not]
theorem Sp.or32' {c:Int} (h0:0≤c) (h1:c<256):(97≤iOr .u8 c 32∧iOr .u8 c 32≤122)↔(97≤c∧c≤122∨65≤c∧c≤90):=by
 rw[Sp.or32 h0 h1,Sp.ltr,decide_eq_true_eq]
end Go
namespace Go.Sx
def A151 (s:ByteArray):FuncId→Nat→LoopAnn:=fun _ _=> .inv Int (fun z=>Sp.namI s z) (fun z=>[(9,.int .i64 z)]) (fun _=>[]) [] [0,2,3,4,5,6,8,9,10,59] (fun z=>Sp.bl s-z.toNat)
def m151_0 (s:ByteArray) (x:Int):Prop:=InR .i64 (iAdd x 1)∧Sm s∧Sm (iSize s)∧∃(y:Int),Sp.namI s y∧iAdd x 1=y∧nLt (Sp.bl s-y.toNat) (Sp.bl s-x.toNat)
def m151_2 (s:ByteArray) (x:Int):Prop:=pIn 0 (iSize s) x∧Cn (bEq (sAt s x) 45) (True∧Cn (bEq x 0) (false=Sp.nam s) (True∧(m151_0 s x))) (pIn 0 (iSize s) x∧Cn (bEq (sAt s x) 46) (True∧Cn (bEq x 0) (false=Sp.nam s) (True∧(m151_0 s x))) (pIn 0 (iSize s) x∧True∧Cn (bEq x 0) (false=Sp.nam s) (True∧Cn (bNot (bEq (sAt s x) 95)) (false=Sp.nam s) ((m151_0 s x)))))
def m151_3 (s:ByteArray) (x:Int):Prop:=True∧Cn (bNot (bLe (iOr IntKind.u8 (sAt s x) 32) 122)) (Cn (bEq x 0) (false=Sp.nam s) (True∧(m151_0 s x))) ((m151_0 s x))
def m151_1 (s:ByteArray) (x:Int):Prop:=pIn 0 (iSize s) x∧Cn (bEq (sAt s x) 45) ((m151_3 s x)) (pIn 0 (iSize s) x∧Cn (bEq (sAt s x) 46) ((m151_3 s x)) (pIn 0 (iSize s) x∧True∧Cn (bNot (bLe (iOr IntKind.u8 (sAt s x) 32) 122)) (Cn (bEq x 0) (false=Sp.nam s) (True∧Cn (bNot (bEq (sAt s x) 95)) (false=Sp.nam s) ((m151_0 s x)))) ((m151_0 s x))))
theorem v151 (s:ByteArray):StrOk s→pLe (iSize s) 9223372036854775807→(∃(x:Int),Sp.namI s x∧0=x)∧∀(x:Int),Sp.namI s x→InR .i64 x→Cn (bLt x (iSize s)) (pIn 0 (iSize s) x∧Cn (bLe 97 (iOr IntKind.u8 (sAt s x) 32)) (pIn 0 (iSize s) x∧Cn (bLe 48 (sAt s x)) (pIn 0 (iSize s) x∧Cn (bLe (sAt s x) 57) ((m151_3 s x)) ((m151_1 s x))) ((m151_1 s x))) (pIn 0 (iSize s) x∧Cn (bLe 48 (sAt s x)) (pIn 0 (iSize s) x∧Cn (bLe (sAt s x) 57) (True∧Cn (bEq x 0) (false=Sp.nam s) (True∧(m151_0 s x))) ((m151_2 s x))) ((m151_2 s x)))) (Cn (sDiff s (ByteArray.mk (Array.mk []))) (pLe (iSize s) 9223372036854775807→bLe (iSize s) 64=Sp.nam s) (false=Sp.nam s)):=by
 intro hw
 delta m151_0 m151_2 m151_3 m151_1
 simp only[D,E]
 intro hm
 refine⟨⟨0,Sp.namI_init s,rfl⟩,fun x hx _=>⟨fun hlt=> ?_,fun hge=> ?_⟩⟩
 · have h0:=hx.1
   have cb:=Sp.at_bd s x
   have hN:=Sp.nok_iff s x
   have ho:=Sp.or32' cb.1 cb.2
   have hz:iSize s=(Sp.bl s:Int):=rfl
   have bad:¬((97≤sAt s x∧sAt s x≤122∨65≤sAt s x∧sAt s x≤90)∨(¬x=0∧(48≤sAt s x∧sAt s x≤57∨sAt s x=45∨sAt s x=46∨sAt s x=95)))→false=Sp.nam s:=fun h=>(Sp.nam_bad h0 hlt (by
    cases e:Sp.nok s x with
    |false=>rfl
    |true=>exact absurd (hN.1 e) h)).symm
   have fwd:((97≤sAt s x∧sAt s x≤122∨65≤sAt s x∧sAt s x≤90)∨(¬x=0∧(48≤sAt s x∧sAt s x≤57∨sAt s x=45∨sAt s x=46∨sAt s x=95)))→InR .i64 (x+1)∧∃y,Sp.namI s y∧x+1=y∧Sp.bl s-y.toNat<Sp.bl s-x.toNat:=fun h=>
    ⟨by simp only[InR]; omega,x+1,Sp.namI_next hx hlt (hN.2 h),rfl,by omega⟩
   generalize (InR .i64 (x+1)∧∃y,Sp.namI s y∧x+1=y∧Sp.bl s-y.toNat<Sp.bl s-x.toNat)=P at*
   generalize Sp.nam s=N at*
   generalize iOr IntKind.u8 (sAt s x) 32=o at*
   generalize sAt s x=c at*
   clear hN
   repeat' (first|apply And.intro|intro _)
   all_goals first|(clear bad fwd; omega)|(refine bad ?_; clear bad fwd; omega)|(refine fwd ?_; clear bad fwd; omega)
 · rw[Sp.nam_end hx hge,show(ByteArray.mk (Array.mk []))=ByteArray.empty from rfl,Sp.emp_size]
   simp only[decide_eq_true_eq,decide_eq_false_iff_not]
   have hz:iSize s=(s.size:Int):=rfl
   refine⟨fun h _=> ?_,fun h=> ?_⟩
   · simp only[decide_eq_decide]; omega
   · symm; simp only[decide_eq_false_iff_not]; omega
def r151:Cr PR:=K0 [] 151 6 {ps:=[(false,[.str])],rs:=[(false,[.bool])],pre:=fun _=>True,out:=fun a=>[[.b (Sp.nam (S a 0 0))]]} (fun a=>A151 (S a 0 0)) fun a=>Y (v151 (S a 0 0))
end Go.Sx
namespace Go.Sx
theorem v207 (c:Int):InR .u8 c→Cn (bLe 97 c) (Cn (bLe c 122) (true=Sp.ltr c) (Cn (bLe 65 c) (bLe c 90=Sp.ltr c) (false=Sp.ltr c))) (Cn (bLe 65 c) (bLe c 90=Sp.ltr c) (false=Sp.ltr c)):=by
 intro hw
 simp only[D,E,Sp.ltr]
 repeat' (first|apply And.intro|intro _)
 all_goals (first|omega|(simp only[decide_eq_decide]; omega)|(symm; simp only[decide_eq_true_eq]; omega)|(symm; simp only[decide_eq_false_iff_not]; omega))
def r207:Cr PR:=K0 [] 207 6 {ps:=[(false,hB)],rs:=[(false,[.bool])],pre:=fun _=>True,out:=fun a=>[[.b (Sp.ltr (I a 0 0))]]} U fun a=>Y (v207 (I a 0 0))
end Go.Sx
namespace Go.Sx
def A148 (s:ByteArray):FuncId→Nat→LoopAnn:=fun _ _=> .inv Int (fun z=>Sp.namI s z) (fun z=>[(3,.int .i64 z)]) (fun _=>[]) [] [0,2,3,4,8,40] (fun z=>Sp.bl s-z.toNat)
def m148_0 (s:ByteArray) (x:Int):Prop:=InR .i64 (iAdd x 1)∧Sm s∧∃(y:Int),Sp.namI s y∧iAdd x 1=y∧nLt (Sp.bl s-y.toNat) (Sp.bl s-x.toNat)
theorem v148 (s:ByteArray):StrOk s→(∃(x:Int),Sp.namI s x∧0=x)∧∀(x:Int),Sp.namI s x→InR .i64 x→pLe (iSize s) 9223372036854775807→Cn (bLt x (iSize s)) (pIn 0 (iSize s) x∧True∧True∧Cn (bNot (Sp.ltr (sAt s x))) (Cn (bEq x 0) (false=Sp.nam s) (Cn (bLt (sAt s x) 48) (Cn (bNe (sAt s x) 45) (Cn (bNe (sAt s x) 46) (Cn (bNe (sAt s x) 95) (false=Sp.nam s) ((m148_0 s x))) ((m148_0 s x))) ((m148_0 s x))) (Cn (bLt 57 (sAt s x)) (Cn (bNe (sAt s x) 45) (Cn (bNe (sAt s x) 46) (Cn (bNe (sAt s x) 95) (false=Sp.nam s) ((m148_0 s x))) ((m148_0 s x))) ((m148_0 s x))) ((m148_0 s x))))) ((m148_0 s x))) (Cn (sDiff s (ByteArray.mk (Array.mk []))) (pLe (iSize s) 9223372036854775807→bLe (iSize s) 64=Sp.nam s) (false=Sp.nam s)):=by
 intro hw
 delta m148_0
 simp only[D,E,Sp.ltr]
 refine⟨⟨0,Sp.namI_init s,rfl⟩,fun x hx _=>fun hm=>⟨fun hlt=> ?_,fun hge=> ?_⟩⟩
 · have h0:=hx.1
   have cb:=Sp.at_bd s x
   have hN:=Sp.nok_iff s x
   have ho:=Sp.or32' cb.1 cb.2
   have hz:iSize s=(Sp.bl s:Int):=rfl
   have bad:¬((97≤sAt s x∧sAt s x≤122∨65≤sAt s x∧sAt s x≤90)∨(¬x=0∧(48≤sAt s x∧sAt s x≤57∨sAt s x=45∨sAt s x=46∨sAt s x=95)))→false=Sp.nam s:=fun h=>(Sp.nam_bad h0 hlt (by
    cases e:Sp.nok s x with
    |false=>rfl
    |true=>exact absurd (hN.1 e) h)).symm
   have fwd:((97≤sAt s x∧sAt s x≤122∨65≤sAt s x∧sAt s x≤90)∨(¬x=0∧(48≤sAt s x∧sAt s x≤57∨sAt s x=45∨sAt s x=46∨sAt s x=95)))→InR .i64 (x+1)∧∃y,Sp.namI s y∧x+1=y∧Sp.bl s-y.toNat<Sp.bl s-x.toNat:=fun h=>
    ⟨by simp only[InR]; omega,x+1,Sp.namI_next hx hlt (hN.2 h),rfl,by omega⟩
   generalize (InR .i64 (x+1)∧∃y,Sp.namI s y∧x+1=y∧Sp.bl s-y.toNat<Sp.bl s-x.toNat)=P at*
   generalize Sp.nam s=N at*
   generalize iOr IntKind.u8 (sAt s x) 32=o at*
   generalize sAt s x=c at*
   clear hN
   repeat' (first|apply And.intro|intro _)
   all_goals first|(clear bad fwd; omega)|(refine bad ?_; clear bad fwd; omega)|(refine fwd ?_; clear bad fwd; omega)
 · rw[Sp.nam_end hx hge,show(ByteArray.mk (Array.mk []))=ByteArray.empty from rfl,Sp.emp_size]
   simp only[decide_eq_true_eq,decide_eq_false_iff_not]
   have hz:iSize s=(s.size:Int):=rfl
   refine⟨fun h _=> ?_,fun h=> ?_⟩
   · simp only[decide_eq_decide]; omega
   · symm; simp only[decide_eq_false_iff_not]; omega
def r148:Cr PR:=K0 [r207] 148 6 {ps:=[(false,[.str])],rs:=[(false,[.bool])],pre:=fun _=>True,out:=fun a=>[[.b (Sp.nam (S a 0 0))]]} (fun a=>A148 (S a 0 0)) fun a=>Y (v148 (S a 0 0))
end Go.Sx
namespace Go.Sx
theorem v157 (k:Int) (rs:List (List C)) (ms:List (List C)) (ss:List (List C)) (n:Int):InR .i64 k∧WL hII rs∧WL [Sh.sl hI] ms∧WL hII ss∧InR .i64 n→Cn (bLe 1 n) (Cn (bLe n 7) (pSh 64 n∧bEq (iAnd IntKind.i64 (iShr k n) 1) 1=Sp.kd k n) (false=Sp.kd k n)) (false=Sp.kd k n):=by
 intro hw
 simp only[D,E,Sp.kd,bAnd]
 refine⟨fun h=>⟨fun h1=>⟨by omega,by rw[decide_eq_true h,decide_eq_true h1]; rfl⟩,fun h1=>by rw[decide_eq_true h,decide_eq_false h1]; rfl⟩,fun h=>by rw[decide_eq_false h]; rfl⟩
def r157:Cr PR:=K0 [] 157 6 {ps:=[(true,hX),(false,hI)],rs:=[(false,[.bool])],pre:=fun _=>True,out:=fun a=>[[.b (Sp.kd (I a 0 0) (I a 1 0))]]} U fun a=>Y (v157 (I a 0 0) (L a 0 1) (L a 0 2) (L a 0 3) (I a 1 0))
end Go.Sx
namespace Go.Sx
theorem v190 (k:Int) (n:Int):InR .i64 k∧InR .i64 n→Cn (bLe 1 n) (Cn (bLe n 7) (pSh 64 n∧bEq (iAnd IntKind.i64 (iShr k n) 1) 1=Sp.kd k n) (false=Sp.kd k n)) (false=Sp.kd k n):=by
 intro hw
 simp only[D,E,Sp.kd,bAnd]
 refine⟨fun h=>⟨fun h1=>⟨by omega,by rw[decide_eq_true h,decide_eq_true h1]; rfl⟩,fun h1=>by rw[decide_eq_true h,decide_eq_false h1]; rfl⟩,fun h=>by rw[decide_eq_false h]; rfl⟩
def r190:Cr PR:=K0 [] 190 6 {ps:=[(false,hI),(false,hI)],rs:=[(false,[.bool])],pre:=fun _=>True,out:=fun a=>[[.b (Sp.kd (I a 0 0) (I a 1 0))]]} U fun a=>Y (v190 (I a 0 0) (I a 1 0))
end Go.Sx
namespace Go.Sx
theorem v254 (xs:List (List C)) (lo:Int) (hi:Int):WL hII xs∧InR .i64 lo∧InR .i64 hi→pLe (iLen xs) 9223372036854775807→Cn (bLt 0 (iLen xs)) (True∧Cn (Sp.isV xs) (pIn 0 (iLen xs) 0∧(InR .i64 (qi 0 (rGet xs 0))→Cn (bLe lo (qi 0 (rGet xs 0))) (InR .i64 (iSub (iLen xs) 1)∧pIn 0 (iLen xs) (iSub (iLen xs) 1)∧(InR .i64 (qi 1 (rGet xs (iSub (iLen xs) 1)))→bLe (qi 1 (rGet xs (iSub (iLen xs) 1))) hi=Sp.wit xs lo hi)) (false=Sp.wit xs lo hi))) (false=Sp.wit xs lo hi)) (false=Sp.wit xs lo hi):=by
 intro hw
 have no:Sp.isV xs=false→false=Sp.wit xs lo hi:=fun h=>by unfold Sp.wit; rw[h,Bool.false_and,Bool.and_false]
 have no1:xs.length=0→false=Sp.wit xs lo hi:=fun h=>by unfold Sp.wit; rw[decide_eq_false (by omega)]; rfl
 have e:1≤xs.length→Sp.isV xs=true→Sp.wit xs lo hi=decide (lo≤qi 0 (rGet xs 0)∧qi 1 (rGet xs ((xs.length:Int)-1))≤hi):=fun h1 h=>by unfold Sp.wit; rw[h,decide_eq_true h1]; rfl
 have rng:xs.length≤9223372036854775807→InR .i64 ((xs.length:Int)-1):=fun h=>by simp only[InR]; omega
 have m:xs.length≤9223372036854775807:=hw.1.1
 simp only[D,E]
 refine fun _=>⟨fun h1=>⟨fun h=>⟨by omega,fun _=>⟨fun h2=>⟨rng m,by omega,fun _=> ?_⟩,fun h2=> ?_⟩⟩,no⟩,fun h1=>no1 (by omega)⟩
 · rw[e (by omega) h,decide_eq_decide]; omega
 · rw[e (by omega) h]; symm; simp only[decide_eq_false_iff_not]; omega
def r254:Cr PR:=K0 [r257] 254 6 {ps:=[(true,[.sl hII]),(false,hI),(false,hI)],rs:=[(false,[.bool])],pre:=fun _=>True,out:=fun a=>[[.b (Sp.wit (L a 0 0) (I a 1 0) (I a 2 0))]]} U fun a=>Y (v254 (L a 0 0) (I a 1 0) (I a 2 0))
end Go.Sx
namespace Go.Sx
theorem v253 (xs:List (List C)) (lo:Int) (hi:Int):WL hII xs∧InR .i64 lo∧InR .i64 hi→pLe (iLen xs) 9223372036854775807→True∧Cn (Sp.isV xs) (Cn (bLt 0 (iLen xs)) (pIn 0 (iLen xs) 0∧(InR .i64 (qi 0 (rGet xs 0))→Cn (bLe lo (qi 0 (rGet xs 0))) (InR .i64 (iSub (iLen xs) 1)∧pIn 0 (iLen xs) (iSub (iLen xs) 1)∧(InR .i64 (qi 1 (rGet xs (iSub (iLen xs) 1)))→bLe (qi 1 (rGet xs (iSub (iLen xs) 1))) hi=Sp.wit xs lo hi)) (false=Sp.wit xs lo hi))) (false=Sp.wit xs lo hi)) (false=Sp.wit xs lo hi):=by
 intro hw
 have no:Sp.isV xs=false→false=Sp.wit xs lo hi:=fun h=>by unfold Sp.wit; rw[h,Bool.false_and,Bool.and_false]
 have no1:xs.length=0→false=Sp.wit xs lo hi:=fun h=>by unfold Sp.wit; rw[decide_eq_false (by omega)]; rfl
 have e:1≤xs.length→Sp.isV xs=true→Sp.wit xs lo hi=decide (lo≤qi 0 (rGet xs 0)∧qi 1 (rGet xs ((xs.length:Int)-1))≤hi):=fun h1 h=>by unfold Sp.wit; rw[h,decide_eq_true h1]; rfl
 have rng:xs.length≤9223372036854775807→InR .i64 ((xs.length:Int)-1):=fun h=>by simp only[InR]; omega
 have m:xs.length≤9223372036854775807:=hw.1.1
 simp only[D,E]
 refine fun _=>⟨fun h=>⟨fun h1=>⟨by omega,fun _=>⟨fun h2=>⟨rng m,by omega,fun _=> ?_⟩,fun h2=> ?_⟩⟩,fun h1=>no1 (by omega)⟩,no⟩
 · rw[e (by omega) h,decide_eq_decide]; omega
 · rw[e (by omega) h]; symm; simp only[decide_eq_false_iff_not]; omega
def r253:Cr PR:=K0 [r267] 253 6 {ps:=[(true,[.sl hII]),(false,hI),(false,hI)],rs:=[(false,[.bool])],pre:=fun _=>True,out:=fun a=>[[.b (Sp.wit (L a 0 0) (I a 1 0) (I a 2 0))]]} U fun a=>Y (v253 (L a 0 0) (I a 1 0) (I a 2 0))
end Go.Sx
namespace Go.Sx
def A212 (ms:List (List C)):FuncId→Nat→LoopAnn:=fun _ _=>lp 29 ms.length (Sp.dkI Sp.mpF ms) [0,1,2,3,4,25,27,28,29,30,44]
theorem v212 (k:Int) (rs:List (List C)) (ms:List (List C)) (ss:List (List C)):InR .i64 k∧WL hII rs∧WL [Sh.sl hI] ms∧WL hII ss→Cn (bEq k 0) (false=Sp.bxF [C.i k,C.l rs,C.l ms,C.l ss]) (Cn (bNe (iAndNot IntKind.i64 k 254) 0) (false=Sp.bxF [C.i k,C.l rs,C.l ms,C.l ss]) (True∧True∧Cn (bNot (Sp.wit rs 1000 768000)) (false=Sp.bxF [C.i k,C.l rs,C.l ms,C.l ss]) (True∧True∧Cn (bNot (Sp.wit ss 1 65536)) (false=Sp.bxF [C.i k,C.l rs,C.l ms,C.l ss]) (pLe (iLen ms) 9223372036854775807→(∃(x:Int),Sp.dkI Sp.mpF ms x∧0=x)∧∀(x:Int),Sp.dkI Sp.mpF ms x→InR .i64 x→Cn (bLt x (iLen ms)) (pIn 0 (iLen ms) x∧(WL hI (ql 0 (rGet ms x))→True∧True∧Cn (bNot (Sp.cmV (ql 0 (rGet ms x)))) (false=Sp.bxF [C.i k,C.l rs,C.l ms,C.l ss]) (geB none (some x) (iLen ms)∧True∧Cn (Sp.hs (cutRows ms none (some x)) (ql 0 (rGet ms x))) (false=Sp.bxF [C.i k,C.l rs,C.l ms,C.l ss]) (InR .i64 (iAdd x 1)∧Sm [C.i k,C.l rs,C.l ms,C.l ss]∧Sm ms∧Sm (iLen ms)∧Sm [C.i k,C.l rs,C.l ms,C.l ss]∧∃(y:Int),Sp.dkI Sp.mpF ms y∧iAdd x 1=y∧nLt (ms.length-y.toNat) (ms.length-x.toNat))))) (pLe (iLen ms) 9223372036854775807→Cn (bLe 1 (iLen ms)) (pLe (iLen ms) 9223372036854775807→bLe (iLen ms) 16=Sp.bxF [C.i k,C.l rs,C.l ms,C.l ss]) (false=Sp.bxF [C.i k,C.l rs,C.l ms,C.l ss])))))):=by
 intro hw
 have e:Sp.bxF [.i k,.l rs,.l ms,.l ss]=((!decide (k=0)&&decide (iAndNot .i64 k 254=0))&&(Sp.wit rs 1000 768000&&(Sp.wit ss 1 65536&&(Sp.dk Sp.mpF [] ms&&decide (1≤ms.length∧ms.length≤16))))):=rfl
 have b1:k=0→false=Sp.bxF [.i k,.l rs,.l ms,.l ss]:=fun h=>by rw[e,decide_eq_true h]; rfl
 have b2:¬iAndNot .i64 k 254=0→false=Sp.bxF [.i k,.l rs,.l ms,.l ss]:=fun h=>by rw[e,decide_eq_false h,Bool.and_false]; rfl
 have b3:Sp.wit rs 1000 768000=false→false=Sp.bxF [.i k,.l rs,.l ms,.l ss]:=fun h=>by rw[e,h,Bool.false_and,Bool.and_false]
 have b4:Sp.wit ss 1 65536=false→false=Sp.bxF [.i k,.l rs,.l ms,.l ss]:=fun h=>by rw[e,h,Bool.false_and,Bool.and_false,Bool.and_false]
 have b5:Sp.dk Sp.mpF [] ms=false→false=Sp.bxF [.i k,.l rs,.l ms,.l ss]:=fun h=>by rw[e,h,Bool.false_and,Bool.and_false,Bool.and_false,Bool.and_false]
 have b6:¬(1≤ms.length∧ms.length≤16)→false=Sp.bxF [.i k,.l rs,.l ms,.l ss]:=fun h=>by rw[e,decide_eq_false h,Bool.and_false,Bool.and_false,Bool.and_false,Bool.and_false]
 have st:∀x:Int,Sp.dkI Sp.mpF ms x→0≤x→x<(ms.length:Int)→(Sp.cmV (ql 0 (rGet ms x))=false→false=Sp.bxF [.i k,.l rs,.l ms,.l ss])∧(Sp.cmV (ql 0 (rGet ms x))=true→geB none (some x) (ms.length:Int)∧(Sp.hs (cutRows ms none (some x)) (ql 0 (rGet ms x))=true→false=Sp.bxF [.i k,.l rs,.l ms,.l ss])∧(Sp.hs (cutRows ms none (some x)) (ql 0 (rGet ms x))=false→InR .i64 (x+1)∧∃y,Sp.dkI Sp.mpF ms y∧x+1=y∧ms.length-y.toNat<ms.length-x.toNat)):=fun x h h0 hx=>
  ⟨fun a=>b5 (dkB h hx (by unfold Sp.mpF; rw[a]; rfl)),fun a=>⟨by simp only[geB]; omega,fun c=>b5 (dkB h hx (by unfold Sp.mpF; rw[show Sp.hs (ms.take x.toNat) (ql 0 (rGet ms x))=true from c,Bool.not_true,Bool.and_false])),fun c=>⟨inS hw.2.2.1 h0 hx,x+1,dkN h hx (by unfold Sp.mpF; rw[a,show Sp.hs (ms.take x.toNat) (ql 0 (rGet ms x))=false from c]; rfl),rfl,by omega⟩⟩⟩
 simp only[D,E]
 refine⟨b1,fun h1=>⟨b2,fun h2=>⟨b3,fun h3=>⟨b4,fun h4 _=> ?_⟩⟩⟩⟩
 refine lpA dk0 (fun x h=>h.1) (fun x h h0 hx _=>st x h h0 hx) (fun x h hx _=>⟨fun a _=> ?_,fun a=>b6 (by omega)⟩)
 rw[e,decide_eq_false h1,decide_eq_true h2,h3,h4,dkE h hx]
 simp only[Bool.not_false,Bool.true_and,decide_eq_decide]; omega
def r212:Cr PR:=K0 [r254,r255,r159] 212 6 {ps:=[(true,hX)],rs:=[(false,[.bool])],pre:=fun _=>True,out:=fun a=>[[.b (Sp.bxF [.i (I a 0 0),.l (L a 0 1),.l (L a 0 2),.l (L a 0 3)])]]} (fun a=>A212 (L a 0 2)) fun a=>Y (v212 (I a 0 0) (L a 0 1) (L a 0 2) (L a 0 3))
end Go.Sx
namespace Go.Sx
def A208 (ms:List (List C)):FuncId→Nat→LoopAnn:=fun _ _=>lp 29 ms.length (Sp.dkI Sp.mpF ms) [0,1,2,3,4,25,27,28,29,30,44]
theorem v208 (k:Int) (rs:List (List C)) (ms:List (List C)) (ss:List (List C)):InR .i64 k∧WL hII rs∧WL [Sh.sl hI] ms∧WL hII ss→Cn (bEq k 0) (false=Sp.bxF [C.i k,C.l rs,C.l ms,C.l ss]) (Cn (bNe (iAndNot IntKind.i64 k 254) 0) (false=Sp.bxF [C.i k,C.l rs,C.l ms,C.l ss]) (pLe (iLen ms) 9223372036854775807→Cn (bLt (iLen ms) 1) (false=Sp.bxF [C.i k,C.l rs,C.l ms,C.l ss]) (pLe (iLen ms) 9223372036854775807→Cn (bLt 16 (iLen ms)) (false=Sp.bxF [C.i k,C.l rs,C.l ms,C.l ss]) (pLe (iLen ms) 9223372036854775807→(∃(x:Int),Sp.dkI Sp.mpF ms x∧0=x)∧∀(x:Int),Sp.dkI Sp.mpF ms x→InR .i64 x→Cn (bLt x (iLen ms)) (pIn 0 (iLen ms) x∧(WL hI (ql 0 (rGet ms x))→True∧True∧Cn (bNot (Sp.cmV (ql 0 (rGet ms x)))) (false=Sp.bxF [C.i k,C.l rs,C.l ms,C.l ss]) (geB none (some x) (iLen ms)∧True∧Cn (Sp.hs (cutRows ms none (some x)) (ql 0 (rGet ms x))) (false=Sp.bxF [C.i k,C.l rs,C.l ms,C.l ss]) (InR .i64 (iAdd x 1)∧Sm [C.i k,C.l rs,C.l ms,C.l ss]∧Sm ms∧Sm (iLen ms)∧Sm [C.i k,C.l rs,C.l ms,C.l ss]∧∃(y:Int),Sp.dkI Sp.mpF ms y∧iAdd x 1=y∧nLt (ms.length-y.toNat) (ms.length-x.toNat))))) (True∧Cn (Sp.wit rs 1000 768000) (True∧Sp.wit ss 1 65536=Sp.bxF [C.i k,C.l rs,C.l ms,C.l ss]) (false=Sp.bxF [C.i k,C.l rs,C.l ms,C.l ss])))))):=by
 intro hw
 have e:Sp.bxF [.i k,.l rs,.l ms,.l ss]=((!decide (k=0)&&decide (iAndNot .i64 k 254=0))&&(Sp.wit rs 1000 768000&&(Sp.wit ss 1 65536&&(Sp.dk Sp.mpF [] ms&&decide (1≤ms.length∧ms.length≤16))))):=rfl
 have b1:k=0→false=Sp.bxF [.i k,.l rs,.l ms,.l ss]:=fun h=>by rw[e,decide_eq_true h]; rfl
 have b2:¬iAndNot .i64 k 254=0→false=Sp.bxF [.i k,.l rs,.l ms,.l ss]:=fun h=>by rw[e,decide_eq_false h,Bool.and_false]; rfl
 have b3:Sp.wit rs 1000 768000=false→false=Sp.bxF [.i k,.l rs,.l ms,.l ss]:=fun h=>by rw[e,h,Bool.false_and,Bool.and_false]
 have b4:Sp.wit ss 1 65536=false→false=Sp.bxF [.i k,.l rs,.l ms,.l ss]:=fun h=>by rw[e,h,Bool.false_and,Bool.and_false,Bool.and_false]
 have b5:Sp.dk Sp.mpF [] ms=false→false=Sp.bxF [.i k,.l rs,.l ms,.l ss]:=fun h=>by rw[e,h,Bool.false_and,Bool.and_false,Bool.and_false,Bool.and_false]
 have b6:¬(1≤ms.length∧ms.length≤16)→false=Sp.bxF [.i k,.l rs,.l ms,.l ss]:=fun h=>by rw[e,decide_eq_false h,Bool.and_false,Bool.and_false,Bool.and_false,Bool.and_false]
 have st:∀x:Int,Sp.dkI Sp.mpF ms x→0≤x→x<(ms.length:Int)→(Sp.cmV (ql 0 (rGet ms x))=false→false=Sp.bxF [.i k,.l rs,.l ms,.l ss])∧(Sp.cmV (ql 0 (rGet ms x))=true→geB none (some x) (ms.length:Int)∧(Sp.hs (cutRows ms none (some x)) (ql 0 (rGet ms x))=true→false=Sp.bxF [.i k,.l rs,.l ms,.l ss])∧(Sp.hs (cutRows ms none (some x)) (ql 0 (rGet ms x))=false→InR .i64 (x+1)∧∃y,Sp.dkI Sp.mpF ms y∧x+1=y∧ms.length-y.toNat<ms.length-x.toNat)):=fun x h h0 hx=>
  ⟨fun a=>b5 (dkB h hx (by unfold Sp.mpF; rw[a]; rfl)),fun a=>⟨by simp only[geB]; omega,fun c=>b5 (dkB h hx (by unfold Sp.mpF; rw[show Sp.hs (ms.take x.toNat) (ql 0 (rGet ms x))=true from c,Bool.not_true,Bool.and_false])),fun c=>⟨inS hw.2.2.1 h0 hx,x+1,dkN h hx (by unfold Sp.mpF; rw[a,show Sp.hs (ms.take x.toNat) (ql 0 (rGet ms x))=false from c]; rfl),rfl,by omega⟩⟩⟩
 simp only[D,E]
 refine⟨b1,fun h1=>⟨b2,fun h2 _=>⟨fun h3=>b6 (by omega),fun h3 _=>⟨fun h4=>b6 (by omega),fun h4 _=> ?_⟩⟩⟩⟩
 refine lpA dk0 (fun x h=>h.1) (fun x h h0 hx _=>st x h h0 hx) (fun x h hx=>⟨fun a=> ?_,b3⟩)
 rw[e,decide_eq_false h1,decide_eq_true h2,a,dkE h hx,decide_eq_true (by omega)]
 simp only[Bool.not_false,Bool.true_and,Bool.and_true]
def r208:Cr PR:=K0 [r253,r252,r210] 208 6 {ps:=[(true,hX)],rs:=[(false,[.bool])],pre:=fun _=>True,out:=fun a=>[[.b (Sp.bxF [.i (I a 0 0),.l (L a 0 1),.l (L a 0 2),.l (L a 0 3)])]]} (fun a=>A208 (L a 0 2)) fun a=>Y (v208 (I a 0 0) (L a 0 1) (L a 0 2) (L a 0 3))
end Go.Sx
namespace Go.Sx
theorem v211 (k:Int) (rs:List (List C)) (ms:List (List C)) (ss:List (List C)):InR .i64 k∧WL hII rs∧WL [Sh.sl hI] ms∧WL hII ss→True∧True∧Sm (bNot (Sp.bxF [C.i k,C.l rs,C.l ms,C.l ss])):=by
 intro hw
 exact⟨trivial,trivial,Sm_iff.2 trivial⟩
def r211:Cr PR:=K0 [r212] 211 6 {ps:=[(true,hX)],rs:=[(false,[.bool])],pre:=fun _=>True,out:=fun a=>[[.b (bNot (Sp.bxF [.i (I a 0 0),.l (L a 0 1),.l (L a 0 2),.l (L a 0 3)]))]]} U fun a=>Y (v211 (I a 0 0) (L a 0 1) (L a 0 2) (L a 0 3))
end Go.Sx
namespace Go.Sx
def A152 (xs:List (List C)):FuncId→Nat→LoopAnn:=fun ff ii=>bif Nat.beq ff 213 then lp 8 xs.length (Sp.exI (fun x=>bNot (Sp.bxF x)) xs) [0,1,4,5,7,8,9,16]else .unroll 0
theorem v152 (xs:List (List C)):WL hX xs→pLe (iLen xs) 9223372036854775807→Cn (bLe (iLen xs) 64) (pLe (iLen xs) 9223372036854775807→(∃(x:Int),Sp.exI (fun(x:List C)=>bNot (Sp.bxF x)) xs x∧0=x)∧∀(x:Int),Sp.exI (fun(x:List C)=>bNot (Sp.bxF x)) xs x→InR .i64 x→Cn (bLt x (iLen xs)) (pIn 0 (iLen xs) x∧(InR .i64 (qi 0 (rGet xs x))∧WL hII (ql 1 (rGet xs x))∧WL [Sh.sl hI] (ql 2 (rGet xs x))∧WL hII (ql 3 (rGet xs x))→True∧Cn (bNot (Sp.bxF (rGet xs x))) (True∧bNot (bLe 0 x)=Sp.bsV xs) (InR .i64 (iAdd x 1)∧Sm xs∧Sm (iLen xs)∧∃(y:Int),Sp.exI (fun(x:List C)=>bNot (Sp.bxF x)) xs y∧iAdd x 1=y∧nLt (xs.length-y.toNat) (xs.length-x.toNat)))) (True∧true=Sp.bsV xs)) (false=Sp.bsV xs):=by
 intro hw
 have an:∀l:List (List C),(l.any fun x=>bNot (Sp.bxF x))= !(l.all Sp.bxF):=fun l=>by rw[List.not_all_eq_any_not]
 simp only[D,E]
 refine fun _=>⟨fun h _=> ?_,fun h=>by unfold Sp.bsV; rw[decide_eq_false (by omega)]; rfl⟩
 have e:Sp.bsV xs= !(xs.any fun x=>bNot (Sp.bxF x)):=by unfold Sp.bsV; rw[an,decide_eq_true (by omega),Bool.not_not,Bool.true_and]
 rw[e]
 exact lpA ex0 (fun x h=>h.1) (fun x h h0 hx _=>⟨fun a=>by rw[←exB h hx (by rw[a]; rfl),decide_eq_true h0],fun a=>⟨inS hw h0 hx,x+1,exN h hx (by rw[a]; rfl),rfl,by omega⟩⟩) (fun x h hx=>by rw[←exE h hx]; rfl)
def r152:Cr PR:=K0 [r211] 152 6 {ps:=[(false,[.sl hX])],rs:=[(false,[.bool])],pre:=fun _=>True,out:=fun a=>[[.b (Sp.bsV (L a 0 0))]]} (fun a=>A152 (L a 0 0)) fun a=>Y (v152 (L a 0 0))
end Go.Sx
namespace Go.Sx
def A149 (xs:List (List C)):FuncId→Nat→LoopAnn:=fun _ _=>lp 7 xs.length (Sp.alI Sp.bxF xs) [0,2,4,5,6,7,8,13]
theorem v149 (xs:List (List C)):WL hX xs→pLe (iLen xs) 9223372036854775807→(∃(x:Int),Sp.alI Sp.bxF xs x∧0=x)∧∀(x:Int),Sp.alI Sp.bxF xs x→InR .i64 x→Cn (bLt x (iLen xs)) (pIn 0 (iLen xs) x∧(InR .i64 (qi 0 (rGet xs x))∧WL hII (ql 1 (rGet xs x))∧WL [Sh.sl hI] (ql 2 (rGet xs x))∧WL hII (ql 3 (rGet xs x))→True∧True∧Cn (bNot (Sp.bxF (rGet xs x))) (false=Sp.bsV xs) (InR .i64 (iAdd x 1)∧Sm xs∧Sm xs∧Sm (iLen xs)∧∃(y:Int),Sp.alI Sp.bxF xs y∧iAdd x 1=y∧nLt (xs.length-y.toNat) (xs.length-x.toNat)))) (pLe (iLen xs) 9223372036854775807→bLe (iLen xs) 64=Sp.bsV xs):=by
 intro hw
 have no:false=xs.all Sp.bxF→false=Sp.bsV xs:=fun h=>by unfold Sp.bsV; rw[←h,Bool.and_false]
 simp only[D,E]
 refine fun _=>lpA al0 (fun x h=>h.1) (fun x h h0 hx _=>⟨fun a=>no (alB h hx a),fun a=>⟨inS hw h0 hx,x+1,alN h hx a,rfl,by omega⟩⟩) (fun x h hx _=> ?_)
 unfold Sp.bsV; rw[←alE h hx,Bool.and_true,decide_eq_decide]; omega
def r149:Cr PR:=K0 [r208] 149 6 {ps:=[(false,[.sl hX])],rs:=[(false,[.bool])],pre:=fun _=>True,out:=fun a=>[[.b (Sp.bsV (L a 0 0))]]} (fun a=>A149 (L a 0 0)) fun a=>Y (v149 (L a 0 0))
end Go.Sx
namespace Go.Sx
theorem v155 (xs:List (List C)):WL hX xs→True∧True∧Cn (bNot (Sp.bsV xs)) ([]=Sp.bxs xs) (xs=Sp.bxs xs):=by
 intro hw
 simp only[D,E,Sp.bxs]
 exact⟨fun h=>by rw[h]; rfl,fun h=>by rw[h]; rfl⟩
def r155:Cr PR:=K0 [r152] 155 6 {ps:=[(false,[.sl hX])],rs:=[(false,[.sl hX])],pre:=fun _=>True,out:=fun a=>[[.l (Sp.bxs (L a 0 0))]]} U fun a=>Y (v155 (L a 0 0))
end Go.Sx
namespace Go.Sx
theorem v124 (xs:List (List C)):WL hX xs→True∧True∧Cn (bNot (Sp.bsV xs)) ([]=Sp.bxs xs) (xs=Sp.bxs xs):=by
 intro hw
 simp only[D,E,Sp.bxs]
 exact⟨fun h=>by rw[h]; rfl,fun h=>by rw[h]; rfl⟩
def r124:Cr PR:=K0 [r149] 124 6 {ps:=[(false,[.sl hX])],rs:=[(false,[.sl hX])],pre:=fun _=>True,out:=fun a=>[[.l (Sp.bxs (L a 0 0))]]} U fun a=>Y (v124 (L a 0 0))
end Go.Sx
namespace Go.Sx
theorem v156 (k:Int) (rs:List (List C)) (ms:List (List C)) (ss:List (List C)) (n:Int) (r:Int) (m:List (List C)) (z:Int):InR .i64 k∧WL hII rs∧WL [Sh.sl hI] ms∧WL hII ss∧InR .i64 n∧InR .i64 r∧WL hI m∧InR .i64 z→InR .i64 n→True∧Cn (Sp.kd k n) (InR .i64 r→True∧Cn (Sp.isH rs r) (WL hI m→True∧Cn (Sp.hs ms m) (InR .i64 z→True∧Sp.isH ss z=Sp.inB n r m z [C.i k,C.l rs,C.l ms,C.l ss]) (false=Sp.inB n r m z [C.i k,C.l rs,C.l ms,C.l ss])) (false=Sp.inB n r m z [C.i k,C.l rs,C.l ms,C.l ss])) (false=Sp.inB n r m z [C.i k,C.l rs,C.l ms,C.l ss]):=by
 intro hw
 have e:Sp.inB n r m z [.i k,.l rs,.l ms,.l ss]=bAnd (bAnd (bAnd (Sp.kd k n) (Sp.isH rs r)) (Sp.hs ms m)) (Sp.isH ss z):=rfl
 rw[e]
 cases Sp.kd k n<;>cases Sp.isH rs r<;>cases Sp.hs ms m<;>simp[Cn_iff,bAnd]
def r156:Cr PR:=K0 [r157,r158,r159] 156 6 {ps:=[(true,hX),(false,[.bool,.int .i64,.int .i64,.sl hI,.int .i64])],rs:=[(false,[.bool])],pre:=fun _=>True,out:=fun a=>[[.b (Sp.inB (I a 1 0) (I a 1 1) (L a 1 2) (I a 1 3) [.i (I a 0 0),.l (L a 0 1),.l (L a 0 2),.l (L a 0 3)])]]} U fun a=>Y (v156 (I a 0 0) (L a 0 1) (L a 0 2) (L a 0 3) (I a 1 0) (I a 1 1) (L a 1 2) (I a 1 3))
end Go.Sx
namespace Go.Sx
theorem v150 (k:Int) (rs:List (List C)) (ms:List (List C)) (ss:List (List C)) (n:Int) (r:Int) (m:List (List C)) (z:Int):InR .i64 k∧WL hII rs∧WL [Sh.sl hI] ms∧WL hII ss∧InR .i64 n∧InR .i64 r∧WL hI m∧InR .i64 z→True∧Cn (Sp.kd k n) (True∧Cn (Sp.isH rs r) (True∧Cn (Sp.hs ms m) (True∧Sp.isH ss z=Sp.inB n r m z [C.i k,C.l rs,C.l ms,C.l ss]) (false=Sp.inB n r m z [C.i k,C.l rs,C.l ms,C.l ss])) (false=Sp.inB n r m z [C.i k,C.l rs,C.l ms,C.l ss])) (false=Sp.inB n r m z [C.i k,C.l rs,C.l ms,C.l ss]):=by
 intro hw
 have e:Sp.inB n r m z [.i k,.l rs,.l ms,.l ss]=bAnd (bAnd (bAnd (Sp.kd k n) (Sp.isH rs r)) (Sp.hs ms m)) (Sp.isH ss z):=rfl
 rw[e]
 cases Sp.kd k n<;>cases Sp.isH rs r<;>cases Sp.hs ms m<;>simp[Cn_iff,bAnd]
def r150:Cr PR:=K0 [r190,r209,r210] 150 6 {ps:=[(true,hX),(true,hC)],rs:=[(false,[.bool])],pre:=fun _=>True,out:=fun a=>[[.b (Sp.inB (I a 1 0) (I a 1 1) (L a 1 2) (I a 1 3) [.i (I a 0 0),.l (L a 0 1),.l (L a 0 2),.l (L a 0 3)])]]} U fun a=>Y (v150 (I a 0 0) (L a 0 1) (L a 0 2) (L a 0 3) (I a 1 0) (I a 1 1) (L a 1 2) (I a 1 3))
end Go.Sx
namespace Go.Sx
def A99 (ys:List (List C)) (n:Int) (r:Int) (m:List (List C)) (z:Int):FuncId→Nat→LoopAnn:=fun ff ii=>bif Nat.beq ff 213 then lp 8 (Sp.bxs ys).length (Sp.exI (Sp.inB n r m z) (Sp.bxs ys)) [0,1,4,5,7,8,9,16]else .unroll 0
theorem v99 (ys:List (List C)) (n:Int) (r:Int) (m:List (List C)) (z:Int):WL hX ys∧InR .i64 n∧InR .i64 r∧WL hI m∧InR .i64 z→True∧(WL hX (Sp.bxs ys)→pLe (iLen (Sp.bxs ys)) 9223372036854775807→(∃(x:Int),Sp.exI (Sp.inB n r m z) (Sp.bxs ys) x∧0=x)∧∀(x:Int),Sp.exI (Sp.inB n r m z) (Sp.bxs ys) x→InR .i64 x→Cn (bLt x (iLen (Sp.bxs ys))) (pIn 0 (iLen (Sp.bxs ys)) x∧(InR .i64 (qi 0 (rGet (Sp.bxs ys) x))∧WL hII (ql 1 (rGet (Sp.bxs ys) x))∧WL [Sh.sl hI] (ql 2 (rGet (Sp.bxs ys) x))∧WL hII (ql 3 (rGet (Sp.bxs ys) x))→True∧Cn (Sp.inB n r m z (rGet (Sp.bxs ys) x)) (bLe 0 x=Sp.ofH ys n r m z) (InR .i64 (iAdd x 1)∧Sm (Sp.bxs ys)∧Sm n∧Sm r∧Sm m∧Sm z∧Sm (iLen (Sp.bxs ys))∧∃(y:Int),Sp.exI (Sp.inB n r m z) (Sp.bxs ys) y∧iAdd x 1=y∧nLt ((Sp.bxs ys).length-y.toNat) ((Sp.bxs ys).length-x.toNat)))) (false=Sp.ofH ys n r m z)):=by
 intro hw
 simp only[D,E]
 intro hw' _
 exact lpA ex0 (fun x h=>h.1) (fun x h h0 hx _=>⟨fun a=>(decide_eq_true h0).trans (exB h hx a),fun a=>⟨inS hw' h0 hx,x+1,exN h hx a,rfl,by omega⟩⟩) (fun x h hx=>exE h hx)
def r99:Cr PR:=K0 [r155,r156,(mark 4000032)] 99 6 {ps:=[(false,[.sl hX]),(true,hC)],rs:=[(false,[.bool])],pre:=fun _=>True,out:=fun a=>[[.b (Sp.ofH (L a 0 0) (I a 1 0) (I a 1 1) (L a 1 2) (I a 1 3))]]} (fun a=>A99 (L a 0 0) (I a 1 0) (I a 1 1) (L a 1 2) (I a 1 3)) fun a=>Y (v99 (L a 0 0) (I a 1 0) (I a 1 1) (L a 1 2) (I a 1 3))
end Go.Sx
namespace Go.Sx
def A94 (ys:List (List C)) (n:Int) (r:Int) (m:List (List C)) (z:Int):FuncId→Nat→LoopAnn:=fun _ _=>lp 10 (Sp.bxs ys).length (Sp.exI (Sp.inB n r m z) (Sp.bxs ys)) [0,1,3,4,6,8,9,10,11,16]
theorem v94 (ys:List (List C)) (n:Int) (r:Int) (m:List (List C)) (z:Int):WL hX ys∧InR .i64 n∧InR .i64 r∧WL hI m∧InR .i64 z→True∧(WL hX (Sp.bxs ys)→pLe (iLen (Sp.bxs ys)) 9223372036854775807→(∃(x:Int),Sp.exI (Sp.inB n r m z) (Sp.bxs ys) x∧0=x)∧∀(x:Int),Sp.exI (Sp.inB n r m z) (Sp.bxs ys) x→InR .i64 x→Cn (bLt x (iLen (Sp.bxs ys))) (pIn 0 (iLen (Sp.bxs ys)) x∧(InR .i64 (qi 0 (rGet (Sp.bxs ys) x))∧WL hII (ql 1 (rGet (Sp.bxs ys) x))∧WL [Sh.sl hI] (ql 2 (rGet (Sp.bxs ys) x))∧WL hII (ql 3 (rGet (Sp.bxs ys) x))→True∧Cn (Sp.inB n r m z (rGet (Sp.bxs ys) x)) (true=Sp.ofH ys n r m z) (InR .i64 (iAdd x 1)∧Sm ys∧Sm [C.i n,C.i r,C.l m,C.i z]∧Sm (Sp.bxs ys)∧Sm (iLen (Sp.bxs ys))∧Sm [C.i n,C.i r,C.l m,C.i z]∧∃(y:Int),Sp.exI (Sp.inB n r m z) (Sp.bxs ys) y∧iAdd x 1=y∧nLt ((Sp.bxs ys).length-y.toNat) ((Sp.bxs ys).length-x.toNat)))) (false=Sp.ofH ys n r m z)):=by
 intro hw
 simp only[D,E]
 intro hw' _
 exact lpA ex0 (fun x h=>h.1) (fun x h h0 hx _=>⟨fun a=>exB h hx a,fun a=>⟨inS hw' h0 hx,x+1,exN h hx a,rfl,by omega⟩⟩) (fun x h hx=>exE h hx)
def r94:Cr PR:=K0 [r124,r150] 94 6 {ps:=[(false,[.sl hX]),(true,hC)],rs:=[(false,[.bool])],pre:=fun _=>True,out:=fun a=>[[.b (Sp.ofH (L a 0 0) (I a 1 0) (I a 1 1) (L a 1 2) (I a 1 3))]]} (fun a=>A94 (L a 0 0) (I a 1 0) (I a 1 1) (L a 1 2) (I a 1 3)) fun a=>Y (v94 (L a 0 0) (I a 1 0) (I a 1 1) (L a 1 2) (I a 1 3))
end Go.Sx
namespace Go.Sx
def m96_0 (d:List C):Prop:=pLe (iLen (ql 7 d)) 9223372036854775807→Cn (bLe 1 (iLen (ql 7 d))) (pLe (iLen (ql 7 d)) 9223372036854775807→Cn (bLe (iLen (ql 7 d)) 8) (True∧Sp.bsV (ql 7 d)=Sp.dsV d) (false=Sp.dsV d)) (false=Sp.dsV d)
theorem v96 (d:List C):WD hD d→True∧True∧Cn (bNot (Sp.nam (qs 1 d))) (false=Sp.dsV d) (Cn (bNe (qi 2 d) 1) (Cn (bNe (qi 2 d) 2) (false=Sp.dsV d) (Cn (bLt (qi 3 d) 0) (false=Sp.dsV d) (Cn (bLt 65535 (qi 3 d)) (false=Sp.dsV d) (Cn (bLt (qi 4 d) 0) (false=Sp.dsV d) (Cn (bLt 1048576 (qi 4 d)) (false=Sp.dsV d) (Cn (bLt (qi 5 d) 0) (false=Sp.dsV d) (Cn (bLt 2048 (qi 5 d)) (false=Sp.dsV d) (Cn (bLt (qi 6 d) 0) (false=Sp.dsV d) (Cn (bLt 4096 (qi 6 d)) (false=Sp.dsV d) ((m96_0 d))))))))))) (Cn (bLt (qi 3 d) 0) (false=Sp.dsV d) (Cn (bLt 65535 (qi 3 d)) (false=Sp.dsV d) (Cn (bLt (qi 4 d) 0) (false=Sp.dsV d) (Cn (bLt 1048576 (qi 4 d)) (false=Sp.dsV d) (Cn (bLt (qi 5 d) 0) (false=Sp.dsV d) (Cn (bLt 2048 (qi 5 d)) (false=Sp.dsV d) (Cn (bLt (qi 6 d) 0) (false=Sp.dsV d) (Cn (bLt 4096 (qi 6 d)) (false=Sp.dsV d) ((m96_0 d))))))))))):=by
 intro hw
 delta m96_0
 have e:Sp.dsV d=(Sp.nam (qs 1 d)&&(decide ((qi 2 d=1∨qi 2 d=2)∧0≤qi 3 d∧qi 3 d≤65535∧0≤qi 4 d∧qi 4 d≤1048576∧0≤qi 5 d∧qi 5 d≤2048∧0≤qi 6 d∧qi 6 d≤4096∧1≤(ql 7 d).length∧(ql 7 d).length≤8)&&Sp.bsV (ql 7 d))):=rfl
 have no:¬((qi 2 d=1∨qi 2 d=2)∧0≤qi 3 d∧qi 3 d≤65535∧0≤qi 4 d∧qi 4 d≤1048576∧0≤qi 5 d∧qi 5 d≤2048∧0≤qi 6 d∧qi 6 d≤4096∧1≤(ql 7 d).length∧(ql 7 d).length≤8)→false=Sp.dsV d:=fun h=>by rw[e,decide_eq_false h,Bool.false_and,Bool.and_false]
 have yes:Sp.nam (qs 1 d)=true→((qi 2 d=1∨qi 2 d=2)∧0≤qi 3 d∧qi 3 d≤65535∧0≤qi 4 d∧qi 4 d≤1048576∧0≤qi 5 d∧qi 5 d≤2048∧0≤qi 6 d∧qi 6 d≤4096∧1≤(ql 7 d).length∧(ql 7 d).length≤8)→Sp.bsV (ql 7 d)=Sp.dsV d:=fun h0 h=>by rw[e,h0,decide_eq_true h,Bool.true_and,Bool.true_and]
 have nn:Sp.nam (qs 1 d)=false→false=Sp.dsV d:=fun h=>by rw[e,h]; rfl
 simp only[D,E]
 generalize Sp.dsV d=V at*
 generalize Sp.bsV (ql 7 d)=B at*
 cases hn:Sp.nam (qs 1 d)
 · exact⟨fun _=>nn hn,fun h=>(by cases h)⟩
 have yes:=yes hn
 clear nn e
 repeat' (first|apply And.intro|intro _)
 all_goals (first|contradiction|exact no (by omega)|exact yes (by omega))
def r96:Cr PR:=K0 [r151,r152] 96 6 {ps:=[(true,hD)],rs:=[(false,[.bool])],pre:=fun _=>True,out:=fun a=>[[.b (Sp.dsV (arg 0 a))]]} U fun a=>Y (v96 (arg 0 a))
end Go.Sx
namespace Go.Sx
def m93_0 (d:List C):Prop:=pLe (iLen (ql 7 d)) 9223372036854775807→Cn (bLe 1 (iLen (ql 7 d))) (pLe (iLen (ql 7 d)) 9223372036854775807→Cn (bLe (iLen (ql 7 d)) 8) (True∧Sp.bsV (ql 7 d)=Sp.dsV d) (false=Sp.dsV d)) (false=Sp.dsV d)
theorem v93 (d:List C):WD hD d→True∧Cn (Sp.nam (qs 1 d)) (Cn (bEq (qi 2 d) 1) (Cn (bLe 0 (qi 3 d)) (Cn (bLe (qi 3 d) 65535) (Cn (bLe 0 (qi 4 d)) (Cn (bLe (qi 4 d) 1048576) (Cn (bLe 0 (qi 5 d)) (Cn (bLe (qi 5 d) 2048) (Cn (bLe 0 (qi 6 d)) (Cn (bLe (qi 6 d) 4096) ((m93_0 d)) (false=Sp.dsV d)) (false=Sp.dsV d)) (false=Sp.dsV d)) (false=Sp.dsV d)) (false=Sp.dsV d)) (false=Sp.dsV d)) (false=Sp.dsV d)) (false=Sp.dsV d)) (Cn (bEq (qi 2 d) 2) (Cn (bLe 0 (qi 3 d)) (Cn (bLe (qi 3 d) 65535) (Cn (bLe 0 (qi 4 d)) (Cn (bLe (qi 4 d) 1048576) (Cn (bLe 0 (qi 5 d)) (Cn (bLe (qi 5 d) 2048) (Cn (bLe 0 (qi 6 d)) (Cn (bLe (qi 6 d) 4096) ((m93_0 d)) (false=Sp.dsV d)) (false=Sp.dsV d)) (false=Sp.dsV d)) (false=Sp.dsV d)) (false=Sp.dsV d)) (false=Sp.dsV d)) (false=Sp.dsV d)) (false=Sp.dsV d)) (false=Sp.dsV d))) (false=Sp.dsV d):=by
 intro hw
 delta m93_0
 have e:Sp.dsV d=(Sp.nam (qs 1 d)&&(decide ((qi 2 d=1∨qi 2 d=2)∧0≤qi 3 d∧qi 3 d≤65535∧0≤qi 4 d∧qi 4 d≤1048576∧0≤qi 5 d∧qi 5 d≤2048∧0≤qi 6 d∧qi 6 d≤4096∧1≤(ql 7 d).length∧(ql 7 d).length≤8)&&Sp.bsV (ql 7 d))):=rfl
 have no:¬((qi 2 d=1∨qi 2 d=2)∧0≤qi 3 d∧qi 3 d≤65535∧0≤qi 4 d∧qi 4 d≤1048576∧0≤qi 5 d∧qi 5 d≤2048∧0≤qi 6 d∧qi 6 d≤4096∧1≤(ql 7 d).length∧(ql 7 d).length≤8)→false=Sp.dsV d:=fun h=>by rw[e,decide_eq_false h,Bool.false_and,Bool.and_false]
 have yes:Sp.nam (qs 1 d)=true→((qi 2 d=1∨qi 2 d=2)∧0≤qi 3 d∧qi 3 d≤65535∧0≤qi 4 d∧qi 4 d≤1048576∧0≤qi 5 d∧qi 5 d≤2048∧0≤qi 6 d∧qi 6 d≤4096∧1≤(ql 7 d).length∧(ql 7 d).length≤8)→Sp.bsV (ql 7 d)=Sp.dsV d:=fun h0 h=>by rw[e,h0,decide_eq_true h,Bool.true_and,Bool.true_and]
 have nn:Sp.nam (qs 1 d)=false→false=Sp.dsV d:=fun h=>by rw[e,h]; rfl
 simp only[D,E]
 generalize Sp.dsV d=V at*
 generalize Sp.bsV (ql 7 d)=B at*
 cases hn:Sp.nam (qs 1 d)
 · exact⟨fun h=>(by cases h),fun _=>nn hn⟩
 have yes:=yes hn
 clear nn e
 repeat' (first|apply And.intro|intro _)
 all_goals (first|contradiction|exact no (by omega)|exact yes (by omega))
def r93:Cr PR:=K0 [r148,r149] 93 6 {ps:=[(true,hD)],rs:=[(false,[.bool])],pre:=fun _=>True,out:=fun a=>[[.b (Sp.dsV (arg 0 a))]]} U fun a=>Y (v93 (arg 0 a))
end Go.Sx

