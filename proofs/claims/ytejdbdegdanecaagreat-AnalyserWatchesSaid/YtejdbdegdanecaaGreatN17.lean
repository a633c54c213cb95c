import Derived.Test.YtejdbdegdanecaaGreatSxUse
import Derived.Test.YtejdbdegdanecaaGreatN08
set_option linter.unusedVariables false
set_option linter.unusedSimpArgs false
set_option maxRecDepth 100000
set_option maxHeartbeats 4000000
namespace Go
open Go.Sx
def Dx (r:List C):Bool:=decide (1<=qi 1 r/\qi 1 r<=65536/\0<=qi 3 r/\qi 3 r<=qi 2 r/\qi 2 r<=1125899906842624)&&(AQ (qi 0 r) (ql 4 r)&&decide (((ql 4 r).length:Int)/qi 0 r=qi 2 r-qi 3 r/\qi 2 r-qi 3 r<=qi 1 r))
def QO (ch cap:Int):List C:=[.i ch,.i cap,.i 0,.i 0,.l []]
def Nj (ch cap:Int):List C:=if Dx (QO ch cap)=true then QO ch cap else[]
def QK (ch cap:Int):Int:=if Dx (QO ch cap)=true then 0 else 2
def EF (r:List C):Int:=bif Dx r then qi 2 r-qi 3 r else 0
def Po (r:List C) (ch:Int) (da:List (List C)):Int:=min (AO ch da) (qi 1 r-EF r)
def H7 (r:List C) (ch:Int) (da:List (List C)):Int:=if Dx r=false∨AQ ch da=false then 1 else if ch≠qi 0 r then 11 else if 1125899906842624<qi 2 r+Po r ch da then 2 else 0
def Oy (r:List C) (ch:Int) (da:List (List C)):List C:=if H7 r ch da=0 then[.i (qi 0 r),.i (qi 1 r),.i (qi 2 r+Po r ch da),.i (qi 3 r),.l (ql 4 r++cutRows da none (some (Po r ch da*ch)))]else[]
def JX (r:List C) (ch:Int) (da:List (List C)):Int:=if H7 r ch da=0 then AO ch da-Po r ch da else 0
def PW (r:List C):List C:=if Dx r=true then[.i (qi 0 r),.i (qi 1 r),.i (qi 2 r),.i (qi 2 r),.l []]else[]
def RI (r:List C):Int:=if Dx r=true then 0 else 1
def OG (a b:List C):Bool:=bAnd (bEq (qi 0 a) (qi 0 b)) (bAnd (bEq (qi 1 a) (qi 1 b)) (bAnd (bEq (qi 2 a) (qi 2 b)) (bAnd (bEq (qi 3 a) (qi 3 b)) (Dk Cm (ql 4 a) (ql 4 b)))))
def OD (r:List C):Nat->Int->Int
 |0,k=>k
 |m+1,k=>if Ap r<=Gj r k then k else OD r m (k+1)
def O7 (r:List C) (n:Int):Int:=OD r n.toNat 0
def TS (r:List C) (n z:Int):Prop:=0<=z/\z<=n/\(0<z->1<=Ap r)/\OD r (n-z).toNat z=O7 r n
def Hg (r:List C) (n:Int):Int:=if AU r=false then 1 else if n<0∨65536<n then 2 else FD r (O7 r n)
def ED (r:List C) (n:Int):List C:=if Hg r n=0 then[.i (qi 0 r),.l (Fq r (O7 r n))]else[]
def Kz (r:List C) (n:Int):List C:=if Hg r n=0 then Hu r (O7 r n)else[]
def KA (r:List C) (ch:Int) (da:List (List C)):Int:=GR (Bd (DD r ch da)) (Ap (DD r ch da))
def MN (r:List C) (ch:Int) (da:List (List C)):Int:=if DR r ch da≠0 then DR r ch da else EG (DD r ch da) (KA r ch da)
def Dq (r:List C) (ch:Int) (da:List (List C)):List C:=if DR r ch da≠0 then[]else[.i (G5 (DD r ch da) (KA r ch da)),.l (F7 (DD r ch da) (KA r ch da))]
def PX (r:List C) (ch:Int) (da:List (List C)):List C:=if DR r ch da≠0 then[]else Jf (DD r ch da) (KA r ch da)
end Go
namespace Go
open Go.Sx
theorem Rx {r:List C} (h:Dx r=true):(1<=qi 1 r/\qi 1 r<=65536/\0<=qi 3 r/\qi 3 r<=qi 2 r/\qi 2 r<=1125899906842624)/\AQ (qi 0 r) (ql 4 r)=true/\((ql 4 r).length:Int)/qi 0 r=qi 2 r-qi 3 r/\qi 2 r-qi 3 r<=qi 1 r:=by
 simpa[Dx]using h
theorem SN {r:List C} (h:Dx r=true):EF r=qi 2 r-qi 3 r:=by unfold EF; rw[h]; rfl
theorem SH (ch:Int) (da:List (List C)):0<=AO ch da/\AO ch da<=65536:=by
 unfold AO
 cases h:AQ ch da
 · exact⟨Int.le_refl _,by simp⟩
 · have c:=Du h;exact⟨Int.ediv_nonneg (by omega) (by omega),c.2.2.2⟩
theorem Xo {ch k:Int} {da:List (List C)} (h:AQ ch da=true) (k0:0<=k) (hk:k<=AO ch da):0<=k*ch/\k*ch<=(da.length:Int)/\(da.length:Int)<=524288:=by
 have c:=Du h;have l:=Fb h;have fe:AO ch da=(da.length:Int)/ch:=by unfold AO; rw[h]; rfl
 have a:=Int.mul_le_mul_of_nonneg_right (show k<=(da.length:Int)/ch by omega) (show 0<=ch by omega);rw[Int.mul_comm ((da.length:Int)/ch)]at a;exact⟨Int.mul_nonneg k0 (by omega),by omega,l.2.2⟩
end Go
namespace Go.Sx
theorem v163 (r:List C):WD hQ r->Cn (bLe 1 (qi 1 r)) (Cn (bLe (qi 1 r) 65536) (Cn (bLe 0 (qi 3 r)) (Cn (bLe (qi 3 r) (qi 2 r)) (Cn (bLe (qi 2 r) 1125899906842624) (True/\Cn (AQ (qi 0 r) (ql 4 r)) (pLe (iLen (ql 4 r)) 9223372036854775807->(pNe (qi 0 r) 0/\InR .i64 (iQuo (iLen (ql 4 r)) (qi 0 r)))/\InR .i64 (iSub (qi 2 r) (qi 3 r))/\Cn (bEq (iQuo (iLen (ql 4 r)) (qi 0 r)) (iSub (qi 2 r) (qi 3 r))) (InR .i64 (iSub (qi 2 r) (qi 3 r))/\bLe (iSub (qi 2 r) (qi 3 r)) (qi 1 r)=Dx r) (false=Dx r)) (false=Dx r)) (false=Dx r)) (false=Dx r)) (false=Dx r)) (false=Dx r)) (false=Dx r):=by
 intro hw;have n0:=Int.natCast_nonneg (ql 4 r).length;have no:¬(1<=qi 1 r/\qi 1 r<=65536/\0<=qi 3 r/\qi 3 r<=qi 2 r/\qi 2 r<=1125899906842624)->false=Dx r:=λh=>by unfold Dx; rw[decide_eq_false h]; rfl
 simp only[D,E,Int.tdiv_eq_ediv_of_nonneg n0];refine⟨λa1=>⟨λa2=>⟨λa3=>⟨λa4=>⟨λa5=> ?_,λ_=>no (by omega)⟩,λ_=>no (by omega)⟩,λ_=>no (by omega)⟩,λ_=>no (by omega)⟩,λ_=>no (by omega)⟩;have e:Dx r=(AQ (qi 0 r) (ql 4 r)&&decide (((ql 4 r).length:Int)/qi 0 r=qi 2 r-qi 3 r/\qi 2 r-qi 3 r<=qi 1 r)):=by unfold Dx; rw[decide_eq_true ⟨a1,a2,a3,a4,a5⟩,Bool.true_and]
 rw[e];refine⟨λb _=> ?_,λb=>by rw[b]; rfl⟩;have c:=Du b;rw[b,Bool.true_and];exact⟨⟨by omega,Ld (hw.l 4).1⟩,by simp only[InR]; omega,λd=>⟨by simp only[InR]; omega,by rw[decide_eq_decide]; omega⟩,λd=>(decide_eq_false (by omega)).symm⟩
def r163:Cr PR:=K0 [r108] 163 6 {ps:=[(true,hQ)],rs:=[(false,[.bool])],pre:=λ_=>True,out:=λa=>[[.b (Dx (arg 0 a))]]} U λa=>Y (v163 (arg 0 a))
end Go.Sx
namespace Go.Sx
theorem v103 (ch:Int) (cap:Int):InR .i64 ch/\InR .i64 cap->True/\True/\Cn (bNot (Dx [C.i ch,C.i cap,C.i 0,C.i 0,C.l []])) ([C.i 0,C.i 0,C.i 0,C.i 0,C.l []]=sg 0 [0,0,0,0,3] (Nj ch cap)/\2=QK ch cap) ([C.i ch,C.i cap,C.i 0,C.i 0,C.l []]=sg 0 [0,0,0,0,3] (Nj ch cap)/\0=QK ch cap):=by
 intro hw;simp only[D,E];refine⟨λh=> ?_,λh=> ?_⟩
 · have h':¬Dx (QO ch cap)=true:=by rw[show Dx (QO ch cap)=false from h]; simp
   unfold Nj QK;rw[if_neg h',if_neg h']; exact⟨rfl,rfl⟩
 · have h':Dx (QO ch cap)=true:=h;unfold Nj QK;rw[if_pos h',if_pos h']; exact⟨rfl,rfl⟩
def r103:Cr PR:=K0 [r163] 103 6 {ps:=[(false,hI),(false,hI)],rs:=[(true,hQ),(false,hI)],pre:=λ_=>True,out:=λa=>[rb [0,0,0,0,3] (Nj (I a 0 0) (I a 1 0)),[.i (QK (I a 0 0) (I a 1 0))]]} U λa=>Y (v103 (I a 0 0) (I a 1 0))
end Go.Sx
namespace Go.Sx
theorem v167 (r:List C):WD hQ r->True/\True/\Cn (bNot (Dx r)) (0=EF r) (InR .i64 (iSub (qi 2 r) (qi 3 r))/\iSub (qi 2 r) (qi 3 r)=EF r):=by
 intro hw;simp only[D,E];refine⟨λh=>by unfold EF; rw[h]; rfl,λh=> ?_⟩;have v:=Rx h;exact⟨by simp only[InR]; omega,(SN h).symm⟩
def r167:Cr PR:=K0 [r163] 167 6 {ps:=[(true,hQ)],rs:=[(false,hI)],pre:=λ_=>True,out:=λa=>[[.i (EF (arg 0 a))]]} U λa=>Y (v167 (arg 0 a))
end Go.Sx
namespace Go.Sx
def AfT (r:List C) (ch:Int) (da:List (List C)):Prop:=[C.i 0,C.i 0,C.i 0,C.i 0,C.l []]=sg 0 [0,0,0,0,3] (Oy r ch da)
theorem v184 (r:List C) (ch:Int) (da:List (List C)):WD hQ r/\InR .i64 ch/\WL hW da->True/\True/\Cn (bNot (Dx r)) ((AfT r ch da)/\0=JX r ch da/\1=H7 r ch da) (True/\True/\Cn (bNot (AQ ch da)) ((AfT r ch da)/\0=JX r ch da/\1=H7 r ch da) (Cn (bNe ch (qi 0 r)) ((AfT r ch da)/\0=JX r ch da/\11=H7 r ch da) (True/\(InR .i64 (AO ch da)->True/\(InR .i64 (EF r)->InR .i64 (iSub (qi 1 r) (EF r))/\InR .i64 (iAdd (qi 2 r) (iMin (AO ch da) (iSub (qi 1 r) (EF r))))/\Cn (bLt 1125899906842624 (iAdd (qi 2 r) (iMin (AO ch da) (iSub (qi 1 r) (EF r))))) ((AfT r ch da)/\0=JX r ch da/\2=H7 r ch da) (Aar 4 (iLen (ql 4 r))/\InR .i64 (iMul (iMin (AO ch da) (iSub (qi 1 r) (EF r))) ch)/\geB none (some (iMul (iMin (AO ch da) (iSub (qi 1 r) (EF r))) ch)) (iLen da)/\Aar 4 (iLen (ql 4 r++cutRows da none (some (iMul (iMin (AO ch da) (iSub (qi 1 r) (EF r))) ch))))/\InR .i64 (iAdd (qi 2 r) (iMin (AO ch da) (iSub (qi 1 r) (EF r))))/\InR .i64 (iSub (AO ch da) (iMin (AO ch da) (iSub (qi 1 r) (EF r))))/\[C.i (qi 0 r),C.i (qi 1 r),C.i (iAdd (qi 2 r) (iMin (AO ch da) (iSub (qi 1 r) (EF r)))),C.i (qi 3 r),C.l (ql 4 r++cutRows da none (some (iMul (iMin (AO ch da) (iSub (qi 1 r) (EF r))) ch)))]=sg 0 [0,0,0,0,3] (Oy r ch da)/\iSub (AO ch da) (iMin (AO ch da) (iSub (qi 1 r) (EF r)))=JX r ch da/\0=H7 r ch da)))))):=by
 intro hw;delta AfT;have no:∀ {x:Int},x≠0->H7 r ch da=x->([C.i 0,C.i 0,C.i 0,C.i 0,C.l []]:List C)=sg 0 [0,0,0,0,3] (Oy r ch da)/\0=JX r ch da/\x=H7 r ch da:=λh0 h1=>by
  unfold Oy JX;rw[if_neg (by omega),if_neg (by omega),h1]; exact⟨rfl,rfl,rfl⟩
 simp only[D,E];refine⟨λh=>no (by omega) (if_pos (.inl h)),λh=>⟨λh1=>no (by omega) (if_pos (.inr h1)),λh1=>⟨λh2=>no (by omega) (by unfold H7; rw[if_neg (by simp[h,h1]),if_pos h2]),λh2 _ _=> ?_⟩⟩⟩;have v:=Rx h;have f:=SN h;have n:=SH ch da;have e:H7 r ch da=if 1125899906842624<qi 2 r+Po r ch da then 2 else 0:=by unfold H7; rw[if_neg (by simp[h,h1]),if_neg (by simp[h2])]
 have ke:min (AO ch da) (qi 1 r-EF r)=Po r ch da:=rfl;have kb:0<=Po r ch da/\Po r ch da<=AO ch da:=by rw[←ke]; omega
 have m:=Xo h1 kb.1 kb.2;have l:=(Fb v.2.1).2.2;have rng:∀ {k:Int},-10000000000000000<=k->k<=10000000000000000->InR .i64 k:=λa b=>by simp only[InR]; omega
 rw[ke];refine⟨rng (by omega) (by omega),rng (by omega) (by omega),λh3=>no (by omega) (by rw[e,if_pos h3]),λh3=> ?_⟩;rw[if_neg h3]at e;refine⟨by omega,rng (by omega) (by omega),⟨m.1,m.2.1⟩,?_,rng (by omega) (by omega),rng (by omega) (by omega),?_,?_,e.symm⟩
 · simp only[List.length_append,cutRows,List.length_take]; omega
 · unfold Oy; rw[if_pos e]; rfl
 · unfold JX; rw[if_pos e]
def r184:Cr PR:=K0 [r163,r108,r109,r167] 184 6 {ps:=[(true,hQ),(true,hK)],rs:=[(true,hQ),(false,hI),(false,hI)],pre:=λ_=>True,out:=λa=>[rb [0,0,0,0,3] (Oy (arg 0 a) (I a 1 0) (L a 1 1)),[.i (JX (arg 0 a) (I a 1 0) (L a 1 1))],[.i (H7 (arg 0 a) (I a 1 0) (L a 1 1))]]} U λa=>Y (v184 (arg 0 a) (I a 1 0) (L a 1 1))
end Go.Sx
namespace Go.Sx
theorem v168 (r:List C):WD hQ r->True/\True/\Cn (bNot (Dx r)) ([C.i 0,C.i 0,C.i 0,C.i 0,C.l []]=sg 0 [0,0,0,0,3] (PW r)/\1=RI r) ([C.i (qi 0 r),C.i (qi 1 r),C.i (qi 2 r),C.i (qi 2 r),C.l []]=sg 0 [0,0,0,0,3] (PW r)/\0=RI r):=by
 intro hw;simp only[D,E];unfold PW RI;refine⟨λh=> ?_,λh=> ?_⟩
 · have h':¬Dx r=true:=by rw[h]; simp
   rw[if_neg h',if_neg h']; exact⟨rfl,rfl⟩
 · rw[if_pos h,if_pos h]; exact⟨rfl,rfl⟩
def r168:Cr PR:=K0 [r163] 168 6 {ps:=[(true,hQ)],rs:=[(true,hQ),(false,hI)],pre:=λ_=>True,out:=λa=>[rb [0,0,0,0,3] (PW (arg 0 a)),[.i (RI (arg 0 a))]]} U λa=>Y (v168 (arg 0 a))
end Go.Sx
namespace Go.Sx
theorem v164 (a:List C) (b:List C):WD hQ a/\WD hQ b->Cn (bEq (qi 0 a) (qi 0 b)) (Cn (bEq (qi 1 a) (qi 1 b)) (Cn (bEq (qi 2 a) (qi 2 b)) (Cn (bEq (qi 3 a) (qi 3 b)) (True/\Dk Cm (ql 4 a) (ql 4 b)=OG a b) (false=OG a b)) (false=OG a b)) (false=OG a b)) (false=OG a b):=by
 intro hw;simp only[Cn_iff,OG];refine⟨λh=>⟨λh1=>⟨λh2=>⟨λh3=>⟨trivial,by rw[h,h1,h2,h3]; rfl⟩,λh3=>by rw[h3]; simp[bAnd]⟩,λh2=>by rw[h2]; simp[bAnd]⟩,λh1=>by rw[h1]; simp[bAnd]⟩,λh=>by rw[h]; rfl⟩
def r164:Cr PR:=K0 [r213] 164 6 {ps:=[(true,hQ),(true,hQ)],rs:=[(false,[.bool])],pre:=λ_=>True,out:=λa=>[[.b (OG (arg 0 a) (arg 1 a))]]} U λa=>Y (v164 (arg 0 a) (arg 1 a))
end Go.Sx

set_option linter.unusedVariables false
set_option linter.unusedSimpArgs false
set_option maxRecDepth 100000
set_option maxHeartbeats 4000000
namespace Go.Sx
def A171 (r:List C) (n:Int):FuncId->Nat->LoopAnn:=λ_ _=> .inv Int (λz=>TS r n z) (λz=>[(7,.int .i64 z)]) (λ_=>[]) [] [0,1,2,4,5,6,7,8,9,12,13,16,24,31,46,56] (λz=>(n-z).toNat)
def Aii (r:List C) (n:Int) (x:Int):Prop:=AU r=true/\(WD hR (Hu r x)/\InR .i64 (FD r x)->Cn (bNe (FD r x) 0) (0=qi 0 (ED r n)/\[]=ql 1 (ED r n)/\[C.i 0,C.i 0,C.i 0,C.i 0,C.i 0,C.i 0,C.l []]=sg 0 [0,0,0,0,0,0,3] (Kz r n)/\FD r x=Hg r n) ((AU r=true/\pLe 0 x/\pLe x 65536/\QQ r x)/\(InR .i64 (qi 0 r)/\WL hW (Fq r x)->qi 0 r=qi 0 (ED r n)/\Fq r x=ql 1 (ED r n)/\sg 0 [0,0,0,0,0,0,3] (Hu r x)=sg 0 [0,0,0,0,0,0,3] (Kz r n)/\0=Hg r n)))
def Ag3 (r:List C) (n:Int):Prop:=[C.i 0,C.i 0,C.i 0,C.i 0,C.i 0,C.i 0,C.l []]=sg 0 [0,0,0,0,0,0,3] (Kz r n)
theorem v171 (r:List C) (n:Int):WD hR r/\InR .i64 n->True/\True/\Cn (bNot (AU r)) (0=qi 0 (ED r n)/\[]=ql 1 (ED r n)/\(Ag3 r n)/\1=Hg r n) (Cn (bLt n 0) (0=qi 0 (ED r n)/\[]=ql 1 (ED r n)/\(Ag3 r n)/\2=Hg r n) (Cn (bLt 65536 n) (0=qi 0 (ED r n)/\[]=ql 1 (ED r n)/\(Ag3 r n)/\2=Hg r n) (True/\(InR .i64 (Ap r)->(∃(x:Int),TS r n x/\0=x)/\∀(x:Int),TS r n x->InR .i64 x->Cn (bLt x n) (True/\(InR .i64 (DI (Bd r) x)/\InR .i64 (FM (Bd r) x)/\InR .i64 (BR (Bd r) x)->InR .i64 (iSub (DI (Bd r) x) (qi 4 r))/\Cn (bLe (Ap r) (iSub (DI (Bd r) x) (qi 4 r))) ((Aii r n x)) (InR .i64 (iAdd x 1)/\Sm (sg 0 [0,0,0,0,0,0,3] r)/\Sm n/\Sm (Ap r)/\Sm (sg 0 [0,0,0,0,0,0,3] r)/\∃(y:Int),TS r n y/\iAdd x 1=y/\nLt (n-y).toNat (n-x).toNat))) ((Aii r n x)))))):=by
 intro hw;delta Aii Ag3;have no:∀ {x:Int},x≠0->Hg r n=x->0=qi 0 (ED r n)/\[]=ql 1 (ED r n)/\([C.i 0,C.i 0,C.i 0,C.i 0,C.i 0,C.i 0,C.l []]:List C)=sg 0 [0,0,0,0,0,0,3] (Kz r n)/\x=Hg r n:=λh0 h1=>by
  unfold ED Kz;rw[if_neg (by omega),if_neg (by omega),h1]; exact⟨rfl,rfl,rfl,rfl⟩
 simp only[D,E];refine⟨λh=>no (by omega) (if_pos h),λh=> ?_⟩;have e:¬(n<0∨65536<n)->Hg r n=FD r (O7 r n):=λa=>by unfold Hg; rw[if_neg (by simp[h]),if_neg a]
 have e2:(n<0∨65536<n)->Hg r n=2:=λa=>by unfold Hg; rw[if_neg (by simp[h]),if_pos a]
 refine⟨λa=>no (by omega) (e2 (.inl a)),λa=>⟨λb=>no (by omega) (e2 (.inr b)),λb _=>⟨⟨0,⟨Int.le_refl _,by omega,by omega,by rw[Int.sub_zero]; rfl⟩,rfl⟩,?_⟩⟩⟩;intro x ⟨x0,x1,xw,xk⟩ _;have ee:=e (by omega);rw[Vt h x0 (by omega)];have fin:O7 r n=x->AU r=true/\(WD hR (Hu r x)/\InR .i64 (FD r x)->(¬FD r x=0->0=qi 0 (ED r n)/\[]=ql 1 (ED r n)/\([C.i 0,C.i 0,C.i 0,C.i 0,C.i 0,C.i 0,C.l []]:List C)=sg 0 [0,0,0,0,0,0,3] (Kz r n)/\FD r x=Hg r n)/\(FD r x=0->(AU r=true/\0<=x/\x<=65536/\QQ r x)/\(InR .i64 (qi 0 r)/\WL hW (Fq r x)->qi 0 r=qi 0 (ED r n)/\Fq r x=ql 1 (ED r n)/\sg 0 [0,0,0,0,0,0,3] (Hu r x)=sg 0 [0,0,0,0,0,0,3] (Kz r n)/\0=Hg r n))):=λfx=>by
  rw[fx]at ee;refine⟨h,λ_=>⟨λp=>no p ee,λp=>⟨⟨h,x0,by omega,?_⟩,λ_=> ?_⟩⟩⟩
  · rcases Int.lt_or_eq_of_le x0 with c|c
    · exact .inr (xw c)
    · exact .inl c.symm
  · rw[p]at ee;unfold ED Kz;rw[if_pos ee,if_pos ee,fx,ee]; exact⟨rfl,rfl,rfl,rfl⟩
 have g:=Vo h x0 (show x<=65536 by omega);have rng:∀ {k:Int},-10000000000000000<=k->k<=10000000000000000->InR .i64 k:=λa b=>by simp only[InR]; omega
 refine⟨λhl _=>⟨rng (by omega) (by omega),λc=>fin ?_,λc=>⟨rng (by omega) (by omega),x+1,⟨by omega,by omega,λ_=>by omega,?_⟩,rfl,by omega⟩⟩,λhl=>fin ?_⟩
 · rw[←xk,show(n-x).toNat=(n-x-1).toNat+1 by omega,OD,if_pos c]
 · rw[←xk,show(n-x).toNat=(n- (x+1)).toNat+1 by omega,OD,if_neg (by omega)]
 · rw[←xk,show(n-x).toNat=0 by omega,OD]
def r171:Cr PR:=K0 [r124,r125,r217,r215,r216] 171 8 {ps:=[(true,hR),(false,hI)],rs:=[(true,hK),(true,hR),(false,hI)],pre:=λ_=>True,out:=λa=>[rb [0,3] (ED (arg 0 a) (I a 1 0)),rb [0,0,0,0,0,0,3] (Kz (arg 0 a) (I a 1 0)),[.i (Hg (arg 0 a) (I a 1 0))]]} (λa=>A171 (arg 0 a) (I a 1 0)) λa=>Y (v171 (arg 0 a) (I a 1 0))
end Go.Sx
namespace Go.Sx
theorem v183 (r:List C) (ch:Int) (da:List (List C)):WD hR r/\InR .i64 ch/\WL hW da->True/\(WD hR (DD r ch da)/\InR .i64 (DR r ch da)->Cn (bNe (DR r ch da) 0) (0=qi 0 (Dq r ch da)/\[]=ql 1 (Dq r ch da)/\[C.i 0,C.i 0,C.i 0,C.i 0,C.i 0,C.i 0,C.l []]=sg 0 [0,0,0,0,0,0,3] (PX r ch da)/\DR r ch da=MN r ch da) (True/\(InR .i64 (Ap (DD r ch da))->True/\(InR .i64 (KA r ch da)/\InR .i64 (H9 (Bd (DD r ch da)) (Ap (DD r ch da)))->True/\(InR .i64 (G5 (DD r ch da) (KA r ch da))/\WL hW (F7 (DD r ch da) (KA r ch da))/\WD hR (Jf (DD r ch da) (KA r ch da))/\InR .i64 (EG (DD r ch da) (KA r ch da))->G5 (DD r ch da) (KA r ch da)=qi 0 (Dq r ch da)/\F7 (DD r ch da) (KA r ch da)=ql 1 (Dq r ch da)/\sg 0 [0,0,0,0,0,0,3] (Jf (DD r ch da) (KA r ch da))=sg 0 [0,0,0,0,0,0,3] (PX r ch da)/\EG (DD r ch da) (KA r ch da)=MN r ch da))))):=by
 intro hw;simp only[D,E];unfold Dq PX MN;refine λ_=>⟨λh=>by rw[if_pos h,if_pos h,if_pos h]; exact⟨rfl,rfl,rfl,rfl⟩,λh _ _ _=> ?_⟩
 rw[if_neg (by omega),if_neg (by omega),if_neg (by omega)];exact⟨rfl,rfl,rfl,rfl⟩
def r183:Cr PR:=K0 [r111,r125,r169,r170] 183 6 {ps:=[(true,hR),(true,hK)],rs:=[(true,hK),(true,hR),(false,hI)],pre:=λ_=>True,out:=λa=>[rb [0,3] (Dq (arg 0 a) (I a 1 0) (L a 1 1)),rb [0,0,0,0,0,0,3] (PX (arg 0 a) (I a 1 0) (L a 1 1)),[.i (MN (arg 0 a) (I a 1 0) (L a 1 1))]]} U λa=>Y (v183 (arg 0 a) (I a 1 0) (L a 1 1))
end Go.Sx

