import Derived.Test.YtejdbdegdanecaaGreatSxUse
import Derived.Test.YtejdbdegdanecaaGreatN08
set_option linter.unusedVariables false
set_option linter.unusedSimpArgs false
set_option maxRecDepth 100000
set_option maxHeartbeats 4000000
namespace Go
open Go.Sx
def DU (r:List C):Bool:=decide (1<=qi 1 r/\qi 1 r<=65536/\0<=qi 3 r/\qi 3 r<=qi 2 r/\qi 2 r<=1125899906842624)&&(AO (qi 0 r) (ql 4 r)&&decide (((ql 4 r).length:Int)/qi 0 r=qi 2 r-qi 3 r/\qi 2 r-qi 3 r<=qi 1 r))
def Rf (ch cap:Int):List C:=[.i ch,.i cap,.i 0,.i 0,.l []]
def Og (ch cap:Int):List C:=if DU (Rf ch cap)=true then Rf ch cap else[]
def Rk (ch cap:Int):Int:=if DU (Rf ch cap)=true then 0 else 2
def EM (r:List C):Int:=bif DU r then qi 2 r-qi 3 r else 0
def PP (r:List C) (ch:Int) (da:List (List C)):Int:=min (AQ ch da) (qi 1 r-EM r)
def Ii (r:List C) (ch:Int) (da:List (List C)):Int:=if DU r=false∨AO ch da=false then 1 else if ch≠qi 0 r then 11 else if 1125899906842624<qi 2 r+PP r ch da then 2 else 0
def O7 (r:List C) (ch:Int) (da:List (List C)):List C:=if Ii r ch da=0 then[.i (qi 0 r),.i (qi 1 r),.i (qi 2 r+PP r ch da),.i (qi 3 r),.l (ql 4 r++cutRows da none (some (PP r ch da*ch)))]else[]
def Kq (r:List C) (ch:Int) (da:List (List C)):Int:=if Ii r ch da=0 then AQ ch da-PP r ch da else 0
def QH (r:List C):List C:=if DU r=true then[.i (qi 0 r),.i (qi 1 r),.i (qi 2 r),.i (qi 2 r),.l []]else[]
def TD (r:List C):Int:=if DU r=true then 0 else 1
def O3 (a b:List C):Bool:=bAnd (bEq (qi 0 a) (qi 0 b)) (bAnd (bEq (qi 1 a) (qi 1 b)) (bAnd (bEq (qi 2 a) (qi 2 b)) (bAnd (bEq (qi 3 a) (qi 3 b)) (DD C9 (ql 4 a) (ql 4 b)))))
def Pi (r:List C):Nat->Int->Int
 |0,k=>k
 |m+1,k=>if Ak r<=BX r k then k else Pi r m (k+1)
def PM (r:List C) (n:Int):Int:=Pi r n.toNat 0
def U5 (r:List C) (n z:Int):Prop:=0<=z/\z<=n/\(0<z->1<=Ak r)/\Pi r (n-z).toNat z=PM r n
def Hu (r:List C) (n:Int):Int:=if AX r=false then 1 else if n<0∨65536<n then 2 else FB r (PM r n)
def EO (r:List C) (n:Int):List C:=if Hu r n=0 then[.i (qi 0 r),.l (FQ r (PM r n))]else[]
def LU (r:List C) (n:Int):List C:=if Hu r n=0 then H8 r (PM r n)else[]
def Ls (r:List C) (ch:Int) (da:List (List C)):Int:=Gq (Bg (DW r ch da)) (Ak (DW r ch da))
def ND (r:List C) (ch:Int) (da:List (List C)):Int:=if DZ r ch da≠0 then DZ r ch da else ER (DW r ch da) (Ls r ch da)
def DJ (r:List C) (ch:Int) (da:List (List C)):List C:=if DZ r ch da≠0 then[]else[.i (Hw (DW r ch da) (Ls r ch da)),.l (GK (DW r ch da) (Ls r ch da))]
def Qr (r:List C) (ch:Int) (da:List (List C)):List C:=if DZ r ch da≠0 then[]else Jz (DW r ch da) (Ls r ch da)
theorem TG {r:List C} (h:DU r=true):(1<=qi 1 r/\qi 1 r<=65536/\0<=qi 3 r/\qi 3 r<=qi 2 r/\qi 2 r<=1125899906842624)/\AO (qi 0 r) (ql 4 r)=true/\((ql 4 r).length:Int)/qi 0 r=qi 2 r-qi 3 r/\qi 2 r-qi 3 r<=qi 1 r:=by
 simpa[DU]using h
theorem TS {r:List C} (h:DU r=true):EM r=qi 2 r-qi 3 r:=by unfold EM; rw[h]; rfl
theorem Tt (ch:Int) (da:List (List C)):0<=AQ ch da/\AQ ch da<=65536:=by
 unfold AQ
 cases h:AO ch da
 · exact⟨AlO _,by simp⟩
 · have c:=Df h;exact⟨Al8 (by omega) (by omega),c.2.2.2⟩
theorem XV {ch k:Int} {da:List (List C)} (h:AO ch da=true) (k0:0<=k) (hk:k<=AQ ch da):0<=k*ch/\k*ch<=(da.length:Int)/\(da.length:Int)<=524288:=by
 have c:=Df h;have l:=Eo h;have fe:AQ ch da=(da.length:Int)/ch:=by unfold AQ; rw[h]; rfl
 have a:=AlS (show k<=(da.length:Int)/ch by omega) (show 0<=ch by omega);rw[Amo ((da.length:Int)/ch)]at a;exact⟨Al1 k0 (by omega),by omega,l.2.2⟩
end Go
namespace Go.Sx
theorem v163 (r:List C):WD hQ r->Cn (bLe 1 (qi 1 r)) (Cn (bLe (qi 1 r) 65536) (Cn (bLe 0 (qi 3 r)) (Cn (bLe (qi 3 r) (qi 2 r)) (Cn (bLe (qi 2 r) 1125899906842624) (True/\Cn (AO (qi 0 r) (ql 4 r)) (AnE (ql 4 r)->(pNe (qi 0 r) 0/\AnC (iQuo (iLen (ql 4 r)) (qi 0 r)))/\AnC (iSub (qi 2 r) (qi 3 r))/\Cn (bEq (iQuo (iLen (ql 4 r)) (qi 0 r)) (iSub (qi 2 r) (qi 3 r))) (AnC (iSub (qi 2 r) (qi 3 r))/\bLe (iSub (qi 2 r) (qi 3 r)) (qi 1 r)=DU r) (false=DU r)) (false=DU r)) (false=DU r)) (false=DU r)) (false=DU r)) (false=DU r)) (false=DU r):=by
 intro hw;have n0:=Am6 (ql 4 r).length;have no:¬(1<=qi 1 r/\qi 1 r<=65536/\0<=qi 3 r/\qi 3 r<=qi 2 r/\qi 2 r<=1125899906842624)->false=DU r:=λh=>by unfold DU; rw[AlK h]; rfl
 simp only[D,E,AlI n0];refine⟨λa1=>⟨λa2=>⟨λa3=>⟨λa4=>⟨λa5=> ?_,λ_=>no (by omega)⟩,λ_=>no (by omega)⟩,λ_=>no (by omega)⟩,λ_=>no (by omega)⟩,λ_=>no (by omega)⟩;have e:DU r=(AO (qi 0 r) (ql 4 r)&&decide (((ql 4 r).length:Int)/qi 0 r=qi 2 r-qi 3 r/\qi 2 r-qi 3 r<=qi 1 r)):=by unfold DU; rw[AlL ⟨a1,a2,a3,a4,a5⟩,AlR]
 rw[e];refine⟨λb _=> ?_,λb=>by rw[b]; rfl⟩;have c:=Df b;rw[b,AlR];exact⟨⟨by omega,LW (hw.l 4).1⟩,by simp only[InR]; omega,λd=>⟨by simp only[InR]; omega,by rw[decide_eq_decide]; omega⟩,λd=>(AlK (by omega)).symm⟩
def r163:Cr PR:=K0 [r108] 163 6 {ps:=[(true,hQ)],rs:=[(false,[.bool])],out:=λa=>[[.b (DU (AnQ a))]]} U λa=>Y (v163 (AnQ a))
theorem v103 (ch:Int) (cap:Int):AnC ch/\AnC cap->True/\True/\Cn (bNot (DU [C.i ch,C.i cap,C.i 0,C.i 0,C.l []])) ([C.i 0,C.i 0,C.i 0,C.i 0,C.l []]=sg 0 [0,0,0,0,3] (Og ch cap)/\2=Rk ch cap) ([C.i ch,C.i cap,C.i 0,C.i 0,C.l []]=sg 0 [0,0,0,0,3] (Og ch cap)/\0=Rk ch cap):=by
 intro hw;simp only[D,E];refine⟨λh=> ?_,λh=> ?_⟩
 · have h':¬DU (Rf ch cap)=true:=by rw[show DU (Rf ch cap)=false from h]; simp
   unfold Og Rk;rw[if_neg h',if_neg h']; exact⟨rfl,rfl⟩
 · have h':DU (Rf ch cap)=true:=h;unfold Og Rk;rw[if_pos h',if_pos h']; exact⟨rfl,rfl⟩
def r103:Cr PR:=K0 [r163] 103 6 {ps:=[(false,hI),(false,hI)],rs:=[(true,hQ),(false,hI)],out:=λa=>[rb [0,0,0,0,3] (Og (AnF a) (AnG a)),[.i (Rk (AnF a) (AnG a))]]} U λa=>Y (v103 (AnF a) (AnG a))
theorem v167 (r:List C):WD hQ r->True/\True/\Cn (bNot (DU r)) (0=EM r) (AnC (iSub (qi 2 r) (qi 3 r))/\iSub (qi 2 r) (qi 3 r)=EM r):=by
 intro hw;simp only[D,E];refine⟨λh=>by unfold EM; rw[h]; rfl,λh=> ?_⟩;have v:=TG h;exact⟨by simp only[InR]; omega,(TS h).symm⟩
def r167:Cr PR:=K0 [r163] 167 6 {ps:=[(true,hQ)],rs:=[(false,hI)],out:=λa=>[[.i (EM (AnQ a))]]} U λa=>Y (v167 (AnQ a))
def AgE (r:List C) (ch:Int) (da:List (List C)):Prop:=[C.i 0,C.i 0,C.i 0,C.i 0,C.l []]=sg 0 [0,0,0,0,3] (O7 r ch da)
theorem v184 (r:List C) (ch:Int) (da:List (List C)):WD hQ r/\AnC ch/\WL hW da->True/\True/\Cn (bNot (DU r)) ((AgE r ch da)/\0=Kq r ch da/\1=Ii r ch da) (True/\True/\Cn (bNot (AO ch da)) ((AgE r ch da)/\0=Kq r ch da/\1=Ii r ch da) (Cn (bNe ch (qi 0 r)) ((AgE r ch da)/\0=Kq r ch da/\11=Ii r ch da) (True/\(AnC (AQ ch da)->True/\(AnC (EM r)->AnC (iSub (qi 1 r) (EM r))/\AnC (iAdd (qi 2 r) (iMin (AQ ch da) (iSub (qi 1 r) (EM r))))/\Cn (bLt 1125899906842624 (iAdd (qi 2 r) (iMin (AQ ch da) (iSub (qi 1 r) (EM r))))) ((AgE r ch da)/\0=Kq r ch da/\2=Ii r ch da) (Abb 4 (iLen (ql 4 r))/\AnC (iMul (iMin (AQ ch da) (iSub (qi 1 r) (EM r))) ch)/\geB none (some (iMul (iMin (AQ ch da) (iSub (qi 1 r) (EM r))) ch)) (iLen da)/\Abb 4 (iLen (ql 4 r++cutRows da none (some (iMul (iMin (AQ ch da) (iSub (qi 1 r) (EM r))) ch))))/\AnC (iAdd (qi 2 r) (iMin (AQ ch da) (iSub (qi 1 r) (EM r))))/\AnC (iSub (AQ ch da) (iMin (AQ ch da) (iSub (qi 1 r) (EM r))))/\[C.i (qi 0 r),C.i (qi 1 r),C.i (iAdd (qi 2 r) (iMin (AQ ch da) (iSub (qi 1 r) (EM r)))),C.i (qi 3 r),C.l (ql 4 r++cutRows da none (some (iMul (iMin (AQ ch da) (iSub (qi 1 r) (EM r))) ch)))]=sg 0 [0,0,0,0,3] (O7 r ch da)/\iSub (AQ ch da) (iMin (AQ ch da) (iSub (qi 1 r) (EM r)))=Kq r ch da/\0=Ii r ch da)))))):=by
 intro hw;delta AgE;have no:∀ {x:Int},x≠0->Ii r ch da=x->([C.i 0,C.i 0,C.i 0,C.i 0,C.l []]:List C)=sg 0 [0,0,0,0,3] (O7 r ch da)/\0=Kq r ch da/\x=Ii r ch da:=λh0 h1=>by
  unfold O7 Kq;rw[if_neg (by omega),if_neg (by omega),h1]; exact⟨rfl,rfl,rfl⟩
 simp only[D,E];refine⟨λh=>no (by omega) (if_pos (.inl h)),λh=>⟨λh1=>no (by omega) (if_pos (.inr h1)),λh1=>⟨λh2=>no (by omega) (by unfold Ii; rw[if_neg (by simp[h,h1]),if_pos h2]),λh2 _ _=> ?_⟩⟩⟩;have v:=TG h;have f:=TS h;have n:=Tt ch da;have e:Ii r ch da=if 1125899906842624<qi 2 r+PP r ch da then 2 else 0:=by unfold Ii; rw[if_neg (by simp[h,h1]),if_neg (by simp[h2])]
 have ke:min (AQ ch da) (qi 1 r-EM r)=PP r ch da:=rfl;have kb:0<=PP r ch da/\PP r ch da<=AQ ch da:=by rw[←ke]; omega
 have m:=XV h1 kb.1 kb.2;have l:=(Eo v.2.1).2.2;have rng:∀ {k:Int},-10000000000000000<=k->k<=10000000000000000->AnC k:=λa b=>by simp only[InR]; omega
 rw[ke];refine⟨rng (by omega) (by omega),rng (by omega) (by omega),λh3=>no (by omega) (by rw[e,if_pos h3]),λh3=> ?_⟩;rw[if_neg h3]at e;refine⟨by omega,rng (by omega) (by omega),⟨m.1,m.2.1⟩,?_,rng (by omega) (by omega),rng (by omega) (by omega),?_,?_,e.symm⟩
 · simp only[AlF,cutRows,AlN]; omega
 · unfold O7; rw[if_pos e]; rfl
 · unfold Kq; rw[if_pos e]
def r184:Cr PR:=K0 [r163,r108,r109,r167] 184 6 {ps:=[(true,hQ),(true,hK)],rs:=[(true,hQ),(false,hI),(false,hI)],out:=λa=>[rb [0,0,0,0,3] (O7 (AnQ a) (AnG a) (L a 1 1)),[.i (Kq (AnQ a) (AnG a) (L a 1 1))],[.i (Ii (AnQ a) (AnG a) (L a 1 1))]]} U λa=>Y (v184 (AnQ a) (AnG a) (L a 1 1))
theorem v168 (r:List C):WD hQ r->True/\True/\Cn (bNot (DU r)) ([C.i 0,C.i 0,C.i 0,C.i 0,C.l []]=sg 0 [0,0,0,0,3] (QH r)/\1=TD r) ([C.i (qi 0 r),C.i (qi 1 r),C.i (qi 2 r),C.i (qi 2 r),C.l []]=sg 0 [0,0,0,0,3] (QH r)/\0=TD r):=by
 intro hw;simp only[D,E];unfold QH TD;refine⟨λh=> ?_,λh=> ?_⟩
 · have h':¬DU r=true:=by rw[h]; simp
   rw[if_neg h',if_neg h']; exact⟨rfl,rfl⟩
 · rw[if_pos h,if_pos h]; exact⟨rfl,rfl⟩
def r168:Cr PR:=K0 [r163] 168 6 {ps:=[(true,hQ)],rs:=[(true,hQ),(false,hI)],out:=λa=>[rb [0,0,0,0,3] (QH (AnQ a)),[.i (TD (AnQ a))]]} U λa=>Y (v168 (AnQ a))
theorem v164 (a:List C) (b:List C):WD hQ a/\WD hQ b->Cn (bEq (qi 0 a) (qi 0 b)) (Cn (bEq (qi 1 a) (qi 1 b)) (Cn (bEq (qi 2 a) (qi 2 b)) (Cn (bEq (qi 3 a) (qi 3 b)) (True/\DD C9 (ql 4 a) (ql 4 b)=O3 a b) (false=O3 a b)) (false=O3 a b)) (false=O3 a b)) (false=O3 a b):=by
 intro hw;simp only[Cn_iff,O3];refine⟨λh=>⟨λh1=>⟨λh2=>⟨λh3=>⟨trivial,by rw[h,h1,h2,h3]; rfl⟩,λh3=>by rw[h3]; simp[bAnd]⟩,λh2=>by rw[h2]; simp[bAnd]⟩,λh1=>by rw[h1]; simp[bAnd]⟩,λh=>by rw[h]; rfl⟩
def r164:Cr PR:=K0 [r213] 164 6 {ps:=[(true,hQ),(true,hQ)],rs:=[(false,[.bool])],out:=λa=>[[.b (O3 (AnQ a) (AnR a))]]} U λa=>Y (v164 (AnQ a) (AnR a))
end Go.Sx

namespace Go.Sx
def A171 (r:List C) (n:Int):FuncId->Nat->LoopAnn:=λ_ _=> .inv Int (λz=>U5 r n z) (λz=>[(7,.int .i64 z)]) (λ_=>[]) [] [0,1,2,4,5,6,7,8,9,12,13,16,24,31,46,56] (λz=>(n-z).toNat)
def Ai4 (r:List C) (n:Int) (x:Int):Prop:=AX r=true/\(WD hR (H8 r x)/\AnC (FB r x)->Cn (bNe (FB r x) 0) (0=qi 0 (EO r n)/\[]=ql 1 (EO r n)/\[C.i 0,C.i 0,C.i 0,C.i 0,C.i 0,C.i 0,C.l []]=sg 0 [0,0,0,0,0,0,3] (LU r n)/\FB r x=Hu r n) ((AX r=true/\pLe 0 x/\pLe x 65536/\Rj r x)/\(AnC (qi 0 r)/\WL hW (FQ r x)->qi 0 r=qi 0 (EO r n)/\FQ r x=ql 1 (EO r n)/\sg 0 [0,0,0,0,0,0,3] (H8 r x)=sg 0 [0,0,0,0,0,0,3] (LU r n)/\0=Hu r n)))
def AhN (r:List C) (n:Int):Prop:=[C.i 0,C.i 0,C.i 0,C.i 0,C.i 0,C.i 0,C.l []]=sg 0 [0,0,0,0,0,0,3] (LU r n)
theorem v171 (r:List C) (n:Int):WD hR r/\AnC n->True/\True/\Cn (bNot (AX r)) (0=qi 0 (EO r n)/\[]=ql 1 (EO r n)/\(AhN r n)/\1=Hu r n) (Cn (bLt n 0) (0=qi 0 (EO r n)/\[]=ql 1 (EO r n)/\(AhN r n)/\2=Hu r n) (Cn (bLt 65536 n) (0=qi 0 (EO r n)/\[]=ql 1 (EO r n)/\(AhN r n)/\2=Hu r n) (True/\(AnC (Ak r)->(∃(x:Int),U5 r n x/\0=x)/\∀(x:Int),U5 r n x->AnC x->Cn (bLt x n) (True/\(AnC (DR (Bg r) x)/\AnC (FV (Bg r) x)/\AnC (CE (Bg r) x)->AnC (iSub (DR (Bg r) x) (qi 4 r))/\Cn (bLe (Ak r) (iSub (DR (Bg r) x) (qi 4 r))) ((Ai4 r n x)) (AnC (iAdd x 1)/\Sm (sg 0 [0,0,0,0,0,0,3] r)/\Sm n/\Sm (Ak r)/\Sm (sg 0 [0,0,0,0,0,0,3] r)/\∃(y:Int),U5 r n y/\iAdd x 1=y/\nLt (n-y).toNat (n-x).toNat))) ((Ai4 r n x)))))):=by
 intro hw;delta Ai4 AhN;have no:∀ {x:Int},x≠0->Hu r n=x->0=qi 0 (EO r n)/\[]=ql 1 (EO r n)/\([C.i 0,C.i 0,C.i 0,C.i 0,C.i 0,C.i 0,C.l []]:List C)=sg 0 [0,0,0,0,0,0,3] (LU r n)/\x=Hu r n:=λh0 h1=>by
  unfold EO LU;rw[if_neg (by omega),if_neg (by omega),h1]; exact⟨rfl,rfl,rfl,rfl⟩
 simp only[D,E];refine⟨λh=>no (by omega) (if_pos h),λh=> ?_⟩;have e:¬(n<0∨65536<n)->Hu r n=FB r (PM r n):=λa=>by unfold Hu; rw[if_neg (by simp[h]),if_neg a]
 have e2:(n<0∨65536<n)->Hu r n=2:=λa=>by unfold Hu; rw[if_neg (by simp[h]),if_pos a]
 refine⟨λa=>no (by omega) (e2 (.inl a)),λa=>⟨λb=>no (by omega) (e2 (.inr b)),λb _=>⟨⟨0,⟨AlO _,by omega,by omega,by rw[Int.sub_zero]; rfl⟩,rfl⟩,?_⟩⟩⟩;intro x ⟨x0,x1,xw,xk⟩ _;have ee:=e (by omega);rw[V9 h x0 (by omega)];have fin:PM r n=x->AX r=true/\(WD hR (H8 r x)/\AnC (FB r x)->(¬FB r x=0->0=qi 0 (EO r n)/\[]=ql 1 (EO r n)/\([C.i 0,C.i 0,C.i 0,C.i 0,C.i 0,C.i 0,C.l []]:List C)=sg 0 [0,0,0,0,0,0,3] (LU r n)/\FB r x=Hu r n)/\(FB r x=0->(AX r=true/\0<=x/\x<=65536/\Rj r x)/\(AnC (qi 0 r)/\WL hW (FQ r x)->qi 0 r=qi 0 (EO r n)/\FQ r x=ql 1 (EO r n)/\sg 0 [0,0,0,0,0,0,3] (H8 r x)=sg 0 [0,0,0,0,0,0,3] (LU r n)/\0=Hu r n))):=λfx=>by
  rw[fx]at ee;refine⟨h,λ_=>⟨λp=>no p ee,λp=>⟨⟨h,x0,by omega,?_⟩,λ_=> ?_⟩⟩⟩
  · rcases Anw x0 with c|c
    · exact .inr (xw c)
    · exact .inl c.symm
  · rw[p]at ee;unfold EO LU;rw[if_pos ee,if_pos ee,fx,ee]; exact⟨rfl,rfl,rfl,rfl⟩
 have g:=We h x0 (show x<=65536 by omega);have rng:∀ {k:Int},-10000000000000000<=k->k<=10000000000000000->AnC k:=λa b=>by simp only[InR]; omega
 refine⟨λhl _=>⟨rng (by omega) (by omega),λc=>fin ?_,λc=>⟨rng (by omega) (by omega),x+1,⟨by omega,by omega,λ_=>by omega,?_⟩,rfl,by omega⟩⟩,λhl=>fin ?_⟩
 · rw[←xk,show(n-x).toNat=(n-x-1).toNat+1 by omega,Pi,if_pos c]
 · rw[←xk,show(n-x).toNat=(n- (x+1)).toNat+1 by omega,Pi,if_neg (by omega)]
 · rw[←xk,show(n-x).toNat=0 by omega,Pi]
def r171:Cr PR:=K0 [r124,r125,r217,r215,r216] 171 8 {ps:=[(true,hR),(false,hI)],rs:=[(true,hK),(true,hR),(false,hI)],out:=λa=>[rb [0,3] (EO (AnQ a) (AnG a)),rb [0,0,0,0,0,0,3] (LU (AnQ a) (AnG a)),[.i (Hu (AnQ a) (AnG a))]]} (λa=>A171 (AnQ a) (AnG a)) λa=>Y (v171 (AnQ a) (AnG a))
theorem v183 (r:List C) (ch:Int) (da:List (List C)):WD hR r/\AnC ch/\WL hW da->True/\(WD hR (DW r ch da)/\AnC (DZ r ch da)->Cn (bNe (DZ r ch da) 0) (0=qi 0 (DJ r ch da)/\[]=ql 1 (DJ r ch da)/\[C.i 0,C.i 0,C.i 0,C.i 0,C.i 0,C.i 0,C.l []]=sg 0 [0,0,0,0,0,0,3] (Qr r ch da)/\DZ r ch da=ND r ch da) (True/\(AnC (Ak (DW r ch da))->True/\(AnC (Ls r ch da)/\AnC (Iw (Bg (DW r ch da)) (Ak (DW r ch da)))->True/\(AnC (Hw (DW r ch da) (Ls r ch da))/\WL hW (GK (DW r ch da) (Ls r ch da))/\WD hR (Jz (DW r ch da) (Ls r ch da))/\AnC (ER (DW r ch da) (Ls r ch da))->Hw (DW r ch da) (Ls r ch da)=qi 0 (DJ r ch da)/\GK (DW r ch da) (Ls r ch da)=ql 1 (DJ r ch da)/\sg 0 [0,0,0,0,0,0,3] (Jz (DW r ch da) (Ls r ch da))=sg 0 [0,0,0,0,0,0,3] (Qr r ch da)/\ER (DW r ch da) (Ls r ch da)=ND r ch da))))):=by
 intro hw;simp only[D,E];unfold DJ Qr ND;refine λ_=>⟨λh=>by rw[if_pos h,if_pos h,if_pos h]; exact⟨rfl,rfl,rfl,rfl⟩,λh _ _ _=> ?_⟩
 rw[if_neg (by omega),if_neg (by omega),if_neg (by omega)];exact⟨rfl,rfl,rfl,rfl⟩
def r183:Cr PR:=K0 [r111,r125,r169,r170] 183 6 {ps:=[(true,hR),(true,hK)],rs:=[(true,hK),(true,hR),(false,hI)],out:=λa=>[rb [0,3] (DJ (AnQ a) (AnG a) (L a 1 1)),rb [0,0,0,0,0,0,3] (Qr (AnQ a) (AnG a) (L a 1 1)),[.i (ND (AnQ a) (AnG a) (L a 1 1))]]} U λa=>Y (v183 (AnQ a) (AnG a) (L a 1 1))
end Go.Sx

