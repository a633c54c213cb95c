import Derived.Test.YtejdbdegdanecaaGreatSxUse
import Derived.Test.YtejdbdegdanecaaGreatM15
set_option linter.unusedVariables false
set_option linter.unusedSimpArgs false
set_option maxRecDepth 100000
set_option maxHeartbeats 4000000
namespace Go
open Go.Sx
def Ed (b:List C):List C:=sg 5 [0,0,0,0,0,0,3] b
def VK (b:List C):List C:=sg 6 [0,0,0,0,0] b
def Ci (b:List C):Bool:=AU (Ed b)&&(A7 (qi 1 b) (qi 2 b) (qi 3 b) (qi 4 b)&&decide (1<=qi 0 b/\qi 0 b<=65536/\Ap (Ed b)<=qi 0 b/\0<=qi 12 b/\0<=qi 13 b))
abbrev JK (x:List C):Prop:=([C.i 0,C.i 0,C.i 0,C.i 0,C.i 0,C.i 0,C.i 0,C.i 0,C.i 0,C.i 0,C.i 0,C.l [],C.i 0,C.i 0]:List C)=sg 0 [0,0,0,0,0,0,0,0,0,0,0,3,0,0] x
def Iw (b:List C):Int:=if Ci b=true then Ap (Ed b)else 0
def Zu (ch n d t e g m cap fill:Int):List C:=[.i cap,.i t,.i e,.i g,.i m,.i ch,.i n,.i d,.i 0,.i 0,.i 0,.l (IR (ch*fill)),.i 0,.i 0]
def Gw (ch n d t e g m cap fill:Int):Int:=if cap<1∨65536<cap∨fill<0∨cap<fill then 2 else if AU (J8 ch n d)=false∨A7 t e g m=false then 1 else 0
def JL (ch n d t e g m cap fill:Int):List C:=if Gw ch n d t e g m cap fill=0 then Zu ch n d t e g m cap fill else[]
def FW (b:List C) (ch:Int) (da:List (List C)):Int:=if Ci b=false∨AQ ch da=false then 1 else if ch≠qi 5 b then 11 else 0
def JO (b:List C) (ch:Int) (da:List (List C)):Int:=min ((da.length:Int)/ch) (qi 0 b-Ap (Ed b))
def Jp (b:List C) (ch:Int) (da:List (List C)):Int:=if FW b ch da=0 then(da.length:Int)/ch-JO b ch da else 0
def Dz (b:List C) (ch:Int) (da:List (List C)):List C:=if FW b ch da=0 then sga 0 [0,0,0,0,0,0,0,0,0,0,0] b [.l (ql 11 b++cutRows da none (some (JO b ch da*ch))),.i (Aaj .i64 (qi 12 b+Jp b ch da)),.i (qi 13 b)]else[]
end Go
namespace Go
open Go.Sx
theorem O9 {b:List C} (h:Ci b=true):AU (Ed b)=true/\A7 (qi 1 b) (qi 2 b) (qi 3 b) (qi 4 b)=true/\1<=qi 0 b/\qi 0 b<=65536/\Ap (Ed b)<=qi 0 b/\0<=qi 12 b/\0<=qi 13 b:=by
 simpa only[Ci,Bool.and_eq_true,decide_eq_true_eq]using h
theorem VA {r:List C} (h:AU r=true):0<=Ap r/\Ap r<=65536:=by
 have v:=(Ei h).2;have c:=Du v;rw[MS h];exact⟨(Fb v).2.1,c.2.2.2⟩
theorem Xh (n:Int):(IR n).length=n.toNat:=List.length_replicate
theorem WP {ch n:Int} {da:List (List C)} (h:AQ ch da=true) (h0:0<=n) (h1:n<=(da.length:Int)/ch):AQ ch (da.take (n*ch).toNat)=true/\((da.take (n*ch).toNat).length:Int)=n*ch:=by
 have c:=Du h;have l:=Fb h;have m:=Int.mul_le_mul_of_nonneg_right h1 (show 0<=ch by omega);have m0:=Int.mul_nonneg h0 (show 0<=ch by omega);rw[Int.mul_comm ((da.length:Int)/ch)]at m;have e:((da.take (n*ch).toNat).length:Int)=n*ch:=by rw[List.length_take]; omega
 have q:n*ch/ch=n:=Int.mul_ediv_cancel n (by omega);refine⟨?_,e⟩;rw[Q4 (by rw[e,q,Int.mul_emod_left]; omega)];exact List.all_eq_true.2 λx hx=>List.all_eq_true.1 (Q3 h) x (List.mem_of_mem_take hx)
theorem XL {ch n d:Int} (h:AU (J8 ch n d)=true):J9 ch n d=0/\FC ch n d=J8 ch n d:=⟨if_neg (by simp[h]),if_neg (by simp[h])⟩
theorem Z8 {r:List C} {ch:Int} {da:List (List C)} (h:AU r=true) (h1:AQ ch da=true) (h2:ch=qi 0 r) (h3:Ap r+(da.length:Int)/ch<=65536):DR r ch da=0/\DD r ch da=sga 0 [0,0,0,0,0,0] r [.l (ql 6 r++da)]:=by
 have e:DR r ch da=0:=by
  rw[XW h h1 h2,if_neg];have l1:=Fb (Ei h).2;have l2:=Fb h1;have c:=Du h1;rw[MS h]at h3;rw[h2]at l2 h3 c;rw[show((ql 6 r).length:Int)+(da.length:Int)=qi 0 r*((ql 6 r).length/qi 0 r+(da.length:Int)/qi 0 r) by rw[Int.mul_add]; omega,Int.mul_ediv_cancel_left _ (by omega)];omega
 exact⟨e,if_pos e⟩
end Go
namespace Go.Sx
theorem v131 (b:List C):WD hG b->True/\Cn (AU (Ed b)) (True/\Cn (A7 (qi 1 b) (qi 2 b) (qi 3 b) (qi 4 b)) (Cn (bLe 1 (qi 0 b)) (Cn (bLe (qi 0 b) 65536) (True/\(InR .i64 (Ap (Ed b))->Cn (bLe (Ap (Ed b)) (qi 0 b)) (Cn (bLe 0 (qi 12 b)) (bLe 0 (qi 13 b)=Ci b) (false=Ci b)) (false=Ci b))) (false=Ci b)) (false=Ci b)) (false=Ci b)) (false=Ci b):=by
 intro hw;simp only[D,E,Ci]
 cases AU (Ed b)
 · simp
 cases A7 (qi 1 b) (qi 2 b) (qi 3 b) (qi 4 b)
 · simp
 simp only[Bool.true_and,E]
 repeat' (first|apply And.intro|intro _)
 all_goals (first|contradiction|(simp only[decide_eq_decide]; omega)|(symm; simp only[decide_eq_false_iff_not]; omega))
def r131:Cr PR:=K0 [r197,r198,r199] 131 6 {ps:=[(true,hG)],rs:=[(false,[.bool])],pre:=λ_=>True,out:=λa=>[[.b (Ci (arg 0 a))]]} U λa=>Y (v131 (arg 0 a))
end Go.Sx
namespace Go.Sx
theorem v72 (b:List C):WD hG b->True/\Cn (AU (Ed b)) (True/\Cn (A7 (qi 1 b) (qi 2 b) (qi 3 b) (qi 4 b)) (Cn (bLe 1 (qi 0 b)) (Cn (bLe (qi 0 b) 65536) (True/\(InR .i64 (Ap (Ed b))->Cn (bLe (Ap (Ed b)) (qi 0 b)) (Cn (bLe 0 (qi 12 b)) (bLe 0 (qi 13 b)=Ci b) (false=Ci b)) (false=Ci b))) (false=Ci b)) (false=Ci b)) (false=Ci b)) (false=Ci b):=by
 intro hw;simp only[D,E,Ci]
 cases AU (Ed b)
 · simp
 cases A7 (qi 1 b) (qi 2 b) (qi 3 b) (qi 4 b)
 · simp
 simp only[Bool.true_and,E]
 repeat' (first|apply And.intro|intro _)
 all_goals (first|contradiction|(simp only[decide_eq_decide]; omega)|(symm; simp only[decide_eq_false_iff_not]; omega))
def r72:Cr PR:=K0 [r124,r98,r125] 72 6 {ps:=[(true,hG)],rs:=[(false,[.bool])],pre:=λ_=>True,out:=λa=>[[.b (Ci (arg 0 a))]]} U λa=>Y (v72 (arg 0 a))
end Go.Sx
namespace Go.Sx
theorem v221 (b:List C):WD hG b->True/\True/\Cn (bNot (Ci b)) (0=Iw b) (True/\(InR .i64 (Ap (Ed b))->Ap (Ed b)=Iw b)):=by
 intro hw;simp only[D,E,Iw];exact⟨λh=>(if_neg (by simp[h])).symm,λh _=>(if_pos h).symm⟩
def r221:Cr PR:=K0 [r72,r125] 221 6 {ps:=[(true,hG)],rs:=[(false,hI)],pre:=λ_=>True,out:=λa=>[[.i (Iw (arg 0 a))]]} U λa=>Y (v221 (arg 0 a))
end Go.Sx
namespace Go.Sx
theorem v47 (ch:Int) (n:Int) (d:Int) (t:Int) (e:Int) (g:Int) (m:Int) (cap:Int) (fill:Int):InR .i64 ch/\InR .i64 n/\InR .i64 d/\InR .i64 t/\InR .i64 e/\InR .i64 g/\InR .i64 m/\InR .i64 cap/\InR .i64 fill->Cn (bLt cap 1) (JK (JL ch n d t e g m cap fill)/\2=Gw ch n d t e g m cap fill) (Cn (bLt 65536 cap) (JK (JL ch n d t e g m cap fill)/\2=Gw ch n d t e g m cap fill) (Cn (bLt fill 0) (JK (JL ch n d t e g m cap fill)/\2=Gw ch n d t e g m cap fill) (Cn (bLt cap fill) (JK (JL ch n d t e g m cap fill)/\2=Gw ch n d t e g m cap fill) (True/\(WD hR (FC ch n d)/\InR .i64 (J9 ch n d)->True/\True/\Cn (bNot (A7 t e g m)) (JK (JL ch n d t e g m cap fill)/\1=Gw ch n d t e g m cap fill) (Cn (bNe (J9 ch n d) 0) (JK (JL ch n d t e g m cap fill)/\1=Gw ch n d t e g m cap fill) (InR .i64 (iMul ch fill)/\(pLe 0 (iMul ch fill)/\pLe (iMul ch fill) (iMul ch fill)/\Aar 4 (iMul ch fill))/\C.i cap::C.i t::C.i e::C.i g::C.i m::sga 0 [0,0,0,0,0,0] (FC ch n d) [C.l (List.replicate (iMul ch fill).toNat [C.i 0]),C.i 0,C.i 0]=sg 0 [0,0,0,0,0,0,0,0,0,0,0,3,0,0] (JL ch n d t e g m cap fill)/\0=Gw ch n d t e g m cap fill))))))):=by
 intro hw;have no:∀ {x:Int},x≠0->Gw ch n d t e g m cap fill=x->([C.i 0,C.i 0,C.i 0,C.i 0,C.i 0,C.i 0,C.i 0,C.i 0,C.i 0,C.i 0,C.i 0,C.l [],C.i 0,C.i 0]:List C)=sg 0 [0,0,0,0,0,0,0,0,0,0,0,3,0,0] (JL ch n d t e g m cap fill)/\x=Gw ch n d t e g m cap fill:=λh h1=>⟨by unfold JL; rw[if_neg (by omega)]; rfl,h1.symm⟩
 have n2:cap<1∨65536<cap∨fill<0∨cap<fill->Gw ch n d t e g m cap fill=2:=λh=>if_pos h;have n1:¬(cap<1∨65536<cap∨fill<0∨cap<fill)->AU (J8 ch n d)=false∨A7 t e g m=false->Gw ch n d t e g m cap fill=1:=λh h1=>by unfold Gw; rw[if_neg h,if_pos h1]
 have y0:¬(cap<1∨65536<cap∨fill<0∨cap<fill)->AU (J8 ch n d)=true->A7 t e g m=true->Zu ch n d t e g m cap fill=sg 0 [0,0,0,0,0,0,0,0,0,0,0,3,0,0] (JL ch n d t e g m cap fill)/\0=Gw ch n d t e g m cap fill:=λh h1 h2=>by
  have e:Gw ch n d t e g m cap fill=0:=by unfold Gw; rw[if_neg h,if_neg (by simp[h1,h2])]
  exact⟨by unfold JL; rw[if_pos e]; rfl,e.symm⟩
 have r1:J9 ch n d≠0->AU (J8 ch n d)=false:=λh=>by
  cases hv:AU (J8 ch n d)
  · rfl
  · exact(h (XL hv).1).elim
 have r2:J9 ch n d=0->AU (J8 ch n d)=true:=λh=>by
  cases hv:AU (J8 ch n d)
  · unfold J9 at h; rw[if_pos hv]at h; cases h
  · rfl
 simp only[D,E];refine⟨λh=>no (by omega) (n2 (by omega)),λh0=>⟨λh=>no (by omega) (n2 (by omega)),λh1=>⟨λh=>no (by omega) (n2 (by omega)),λh2=>⟨λh=>no (by omega) (n2 (by omega)),λh3 _=> ?_⟩⟩⟩⟩;refine⟨λh5=>no (by omega) (n1 (by omega) (.inr h5)),λh5=>⟨λh4=>no (by omega) (n1 (by omega) (.inl (r1 h4))),λh4=> ?_⟩⟩;have hv:=r2 (by omega);have c:=Du (Ei hv).2;have c0:1<=ch/\ch<=8:=⟨c.1,c.2.1⟩
 have b:=Aap (x:=ch) (X:=8) (y:=fill) (Y:=65536) (by omega) (by omega) (by omega) (by omega);rw[(XL hv).2];exact⟨by simp only[InR]; omega,⟨b.1,Int.le_refl _,by omega⟩,y0 (by omega) hv h5⟩
def r47:Cr PR:=K0 [r97,r98] 47 6 {ps:=[(false,hI),(true,hII),(true,hA),(false,hI),(false,hI)],rs:=[(true,hG),(false,hI)],pre:=λ_=>True,out:=λa=>[rb [0,0,0,0,0,0,0,0,0,0,0,3,0,0] (JL (I a 0 0) (I a 1 0) (I a 1 1) (I a 2 0) (I a 2 1) (I a 2 2) (I a 2 3) (I a 3 0) (I a 4 0)),[.i (Gw (I a 0 0) (I a 1 0) (I a 1 1) (I a 2 0) (I a 2 1) (I a 2 2) (I a 2 3) (I a 3 0) (I a 4 0))]]} U λa=>Y (v47 (I a 0 0) (I a 1 0) (I a 1 1) (I a 2 0) (I a 2 1) (I a 2 2) (I a 2 3) (I a 3 0) (I a 4 0))
end Go.Sx
namespace Go.Sx
theorem v176 (b:List C) (ch:Int) (da:List (List C)):WD hG b/\InR .i64 ch/\WL hW da->True->True/\True/\Cn (bNot (Ci b)) (JK (Dz b ch da)/\0=Jp b ch da/\1=FW b ch da) (True/\True/\Cn (bNot (AQ ch da)) (JK (Dz b ch da)/\0=Jp b ch da/\1=FW b ch da) (Cn (bNe ch (qi 5 b)) (JK (Dz b ch da)/\0=Jp b ch da/\11=FW b ch da) (True/\(InR .i64 (AO ch da)->True/\(InR .i64 (Iw b)->(pLe 0 0/\pLe 0 (iMin (AO ch da) (Aaj .i64 (iSub (qi 0 b) (Iw b))))/\pLe 1 ch/\pLe (iMul (iMin (AO ch da) (Aaj .i64 (iSub (qi 0 b) (Iw b)))) ch) (iLen da)/\pLe (iLen da) 1000000000)/\(InR .i64 ch/\WL hW (cutRows da (some (iMul 0 ch)) (some (iMul (iMin (AO ch da) (Aaj .i64 (iSub (qi 0 b) (Iw b)))) ch)))->True/\(WD hR (DD (Ed b) ch (cutRows da (some (iMul 0 ch)) (some (iMul (iMin (AO ch da) (Aaj .i64 (iSub (qi 0 b) (Iw b)))) ch))))/\InR .i64 (DR (Ed b) ch (cutRows da (some (iMul 0 ch)) (some (iMul (iMin (AO ch da) (Aaj .i64 (iSub (qi 0 b) (Iw b)))) ch))))->sga 0 [0,0,0,0,0] b (sga 0 [0,0,0,0,0,0,3] (DD (Ed b) ch (cutRows da (some (iMul 0 ch)) (some (iMul (iMin (AO ch da) (Aaj .i64 (iSub (qi 0 b) (Iw b)))) ch)))) [C.i (Aaj .i64 (iAdd (qi 12 b) (Aaj .i64 (iSub (AO ch da) (iMin (AO ch da) (Aaj .i64 (iSub (qi 0 b) (Iw b)))))))),C.i (qi 13 b)])=sg 0 [0,0,0,0,0,0,0,0,0,0,0,3,0,0] (Dz b ch da)/\Aaj .i64 (iSub (AO ch da) (iMin (AO ch da) (Aaj .i64 (iSub (qi 0 b) (Iw b)))))=Jp b ch da/\0=FW b ch da))))))):=by
 intro hw hp;have no:∀ {x:Int},x≠0->FW b ch da=x->([C.i 0,C.i 0,C.i 0,C.i 0,C.i 0,C.i 0,C.i 0,C.i 0,C.i 0,C.i 0,C.i 0,C.l [],C.i 0,C.i 0]:List C)=sg 0 [0,0,0,0,0,0,0,0,0,0,0,3,0,0] (Dz b ch da)/\0=Jp b ch da/\x=FW b ch da:=λh h1=>⟨by unfold Dz; rw[if_neg (by omega)]; rfl,(if_neg (by omega)).symm,h1.symm⟩
 simp only[D,E];refine⟨λh=>no (by omega) (if_pos (.inl h)),λh=>⟨λh1=>no (by omega) (if_pos (.inr h1)),λh1=>⟨λh2=>no (by omega) (by unfold FW; rw[if_neg (by simp[h,h1]),if_pos h2]),λh2=> ?_⟩⟩⟩;have e:FW b ch da=0:=by unfold FW; rw[if_neg (by simp[h,h1]),if_neg (by omega)]
 have v:=O9 h;have w:=VA v.1;have c:=Du h1;have l:=Fb h1;have n0:0<=JO b ch da/\JO b ch da<=65536/\JO b ch da<=(da.length:Int)/ch/\JO b ch da<=qi 0 b-Ap (Ed b):=by unfold JO; omega
 have t:=WP h1 n0.1 n0.2.2.1;have tl:Ap (Ed b)+((da.take (JO b ch da*ch).toNat).length:Int)/ch<=65536:=by rw[t.2,Int.mul_ediv_cancel _ (by omega)]; omega
 have f:=Z8 v.1 t.1 (by show ch=qi 5 b; omega) tl;have m:=Aap (x:=JO b ch da) (X:=65536) (y:=ch) (Y:=8) (by omega) (by omega) (by omega) (by omega);have m1:JO b ch da*ch<=(da.length:Int):=by rw[←t.2,List.length_take]; omega
 have eL:Jp b ch da=(da.length:Int)/ch-JO b ch da:=if_pos e;intro _ _;rw[show AO ch da=(da.length:Int)/ch by unfold AO; rw[h1]; rfl,show Iw b=Ap (Ed b)from if_pos h,GY (e:=qi 0 b-Ap (Ed b)) (by omega) (by omega)];rw[show min ((da.length:Int)/ch) (qi 0 b-Ap (Ed b))=JO b ch da from rfl,←eL,GY (e:=Jp b ch da) (by omega) (by omega),Int.zero_mul];rw[show cutRows da (some 0) (some (JO b ch da*ch))=da.take (JO b ch da*ch).toNat from rfl];refine⟨by omega,λ_ _=>⟨?_,rfl,e.symm⟩⟩;rw[f.2]; unfold Dz; rw[if_pos e]; rfl
def r176:Cr PR:=Kw (λ_=>true) [r72,r108,r109,r221,r222,r111] 176 6 {ps:=[(true,hG),(true,hK)],rs:=[(true,hG),(false,hI),(false,hI)],pre:=λ_=>True,out:=λa=>[rb [0,0,0,0,0,0,0,0,0,0,0,3,0,0] (Dz (arg 0 a) (I a 1 0) (L a 1 1)),[.i (Jp (arg 0 a) (I a 1 0) (L a 1 1))],[.i (FW (arg 0 a) (I a 1 0) (L a 1 1))]]} U λa=>Y (v176 (arg 0 a) (I a 1 0) (L a 1 1))
end Go.Sx

set_option linter.unusedVariables false
set_option linter.unusedSimpArgs false
set_option maxRecDepth 100000
set_option maxHeartbeats 4000000
namespace Go
open Go.Sx
def Qr (b:List C):Int:=Iq (qi 1 b) (qi 2 b) (qi 3 b) (qi 4 b) (Ap (Ed b))
def L8 (b:List C):List C:=MO (VK b) (Qr b)
def Ht (b:List C):List C:= .i (qi 5 b)::sga 0 [0,0,0,0,0] (L8 b) [.l (ql 11 b)]
def Dw (b:List C) (n:Int):Int:=iMin (GR (L8 b) (Ap (Ed b))) n
def UD (b:List C):Int:=Iq (qi 1 b) (qi 2 b) (qi 3 b) (qi 4 b) (Iw b)
def Rh (b:List C):List C:=MO (VK b) (UD b)
def JS (b:List C):List C:= .i (qi 5 b)::sga 0 [0,0,0,0,0] (Rh b) [.l (ql 11 b)]
def Gg (b:List C) (n:Int):Int:=iMin (GR (Rh b) (Ap (JS b))) n
def Ew (b:List C) (n:Int):Int:=if Ci b=false then 1 else if n<0∨65536<n then 2 else FD (Ht b) (Dw b n)
def Jv (b:List C) (n:Int):Int:=if Ew b n=0 then qi 5 b else 0
def Jj (b:List C) (n:Int):List (List C):=if Ew b n=0 then Fq (Ht b) (Dw b n)++IR (qi 5 b*(n-Dw b n))else[]
def Jd (b:List C) (n:Int):Int:=if Ew b n=0 then n-Dw b n else 0
def Ig (b:List C) (n:Int):List C:=if Ew b n=0 then sga 0 [0,0,0,0,0] b (sga 0 [0,0,0,0,0,0,3] (Hu (Ht b) (Dw b n)) [.i (qi 12 b),.i (Aaj .i64 (qi 13 b+(n-Dw b n)))])else[]
end Go
namespace Go
open Go.Sx
theorem YT {b:List C} (h:Ci b=true): -4096<=Qr b/\Qr b<=4096:=by
 have v:=(O9 h).2.1;simp only[A7,decide_eq_true_eq]at v;have m1:=Int.mul_nonneg (show 0<=max 0 (qi 1 b-Ap (Ed b)-qi 2 b) by omega) (show 0<=qi 3 b by omega);have m2:=Int.mul_nonneg (show 0<=max 0 (Ap (Ed b)-qi 1 b-qi 2 b) by omega) (show 0<=qi 3 b by omega);unfold Qr Iq;split
 · omega
 · split<;>omega
theorem Zp {b:List C} (h:Ci b=true):L8 b=[.i (qi 6 b),.i (qi 7 b),.i (Qr b),.i (qi 9 b),.i (qi 10 b)]/\Bf (L8 b)=true:=by
 have v:Bf (VK b)=true:=(Ei (O9 h).1).1;have a:=YT h;have e:L8 b=[.i (qi 6 b),.i (qi 7 b),.i (Qr b),.i (qi 9 b),.i (qi 10 b)]:=if_pos (by unfold JY; rw[if_neg (by simp[v]),if_neg (by omega)]);refine⟨e,?_⟩;rw[e];unfold Bf AX at v ⊢;rw[Bool.and_eq_true,decide_eq_true_eq]at v ⊢;exact⟨v.1,v.2.1,v.2.2.1,a.1,a.2,v.2.2.2.2.2⟩
theorem ZM {b:List C} {n:Int} (h:Ci b=true) (h0:0<=n) (h1:n<=65536):AU (Ht b)=true/\Ap (Ht b)=Ap (Ed b)/\Bd (Ht b)=L8 b/\0<=Dw b n/\Dw b n<=n/\KE (L8 b) (Dw b n)<=Ap (Ed b)/\Ew b n=FD (Ht b) (Dw b n):=by
 have p:=Zp h;have v:=(O9 h).1;have er:Bd (Ht b)=L8 b:=by unfold Ht; rw[p.1]; rfl
 have ev:AU (Ht b)=true:=by unfold AU; rw[er,p.2]; exact(Ei v).2
 have w:=VA v;have em:GR (L8 b) (Ap (Ed b))=MI (L8 b) (Ap (Ed b)):=if_pos (VU p.2 w.1 (by omega));have mb:=Rz (L8 b) (Ap (Ed b));have M:Dw b n=min (MI (L8 b) (Ap (Ed b))) n:=by unfold Dw; rw[em]
 refine⟨ev,by rw[MS ev,MS v]; rfl,er,by omega,by omega,(UE p.2 w.1 (by omega) (by omega)).2 (by omega),?_⟩;unfold Ew; rw[if_neg (by simp[h]),if_neg (by omega)]
theorem Q8 {b:List C} {n x:Int} (h:x≠0) (h1:Ew b n=x):0=Jv b n/\[]=Jj b n/\0=Jd b n/\JK (Ig b n)/\x=Ew b n:=by
 have e:¬Ew b n=0:=by omega
 unfold Jv Jj Jd Ig;rw[if_neg e,if_neg e,if_neg e,if_neg e];exact⟨rfl,rfl,rfl,rfl,h1.symm⟩
theorem Yi {b:List C} {n:Int} (h:Ew b n=0):Jv b n=qi 5 b/\Jj b n=Fq (Ht b) (Dw b n)++IR (qi 5 b*(n-Dw b n))/\Jd b n=n-Dw b n/\Ig b n=sga 0 [0,0,0,0,0] b (sga 0 [0,0,0,0,0,0,3] (Hu (Ht b) (Dw b n)) [.i (qi 12 b),.i (Aaj .i64 (qi 13 b+(n-Dw b n)))]):=⟨if_pos h,if_pos h,if_pos h,if_pos h⟩
theorem Yy {b:List C} {n:Int} (h:Ci b=true) (h1:n<0∨65536<n):Ew b n=2:=by unfold Ew; rw[if_neg (by simp[h]),if_pos h1]
end Go
namespace Go.Sx
def AcZ (b:List C) (n:Int):List C:=(Jf (JS b) (Gg b n))
theorem v177 (b:List C) (n:Int):WD hG b/\InR .i64 n->True->True/\True/\Cn (bNot (Ci b)) (0=Jv b n/\[]=Jj b n/\0=Jd b n/\JK (Ig b n)/\1=Ew b n) (Cn (bLt n 0) (0=Jv b n/\[]=Jj b n/\0=Jd b n/\JK (Ig b n)/\2=Ew b n) (Cn (bLt 65536 n) (0=Jv b n/\[]=Jj b n/\0=Jd b n/\JK (Ig b n)/\2=Ew b n) (True/\(InR .i64 (Iw b)->True/\(InR .i64 (UD b)->True/\(WD hP (Rh b)/\InR .i64 (JY (VK b) (UD b))->True/\(InR .i64 (Ap (JS b))->True/\(InR .i64 (GR (Rh b) (Ap (JS b)))/\InR .i64 (H9 (Rh b) (Ap (JS b)))->True/\(InR .i64 (G5 (JS b) (Gg b n))/\WL hW (F7 (JS b) (Gg b n))/\WD hR (AcZ b n)/\InR .i64 (EG (JS b) (Gg b n))->Cn (bNe (EG (JS b) (Gg b n)) 0) (0=Jv b n/\[]=Jj b n/\0=Jd b n/\JK (Ig b n)/\EG (JS b) (Gg b n)=Ew b n) (True/\(InR .i64 (JE (qi 0 (AcZ b n)) (Aaj .i64 (iSub n (Gg b n))))/\WL hW (EI (qi 0 (AcZ b n)) (Aaj .i64 (iSub n (Gg b n))))/\InR .i64 (I9 (qi 0 (AcZ b n)) (Aaj .i64 (iSub n (Gg b n))))->(pLe (iLen (F7 (JS b) (Gg b n))) 1000000000/\pLe (iLen (EI (qi 0 (AcZ b n)) (Aaj .i64 (iSub n (Gg b n))))) 1000000000)/\(InR .i64 (G5 (JS b) (Gg b n))/\WL hW (F7 (JS b) (Gg b n)++EI (qi 0 (AcZ b n)) (Aaj .i64 (iSub n (Gg b n))))->G5 (JS b) (Gg b n)=Jv b n/\F7 (JS b) (Gg b n)++EI (qi 0 (AcZ b n)) (Aaj .i64 (iSub n (Gg b n)))=Jj b n/\Aaj .i64 (iSub n (Gg b n))=Jd b n/\sga 0 [0,0,0,0,0] b (sga 0 [0,0,0,0,0,0,3] (AcZ b n) [C.i (qi 12 b),C.i (Aaj .i64 (iAdd (qi 13 b) (Aaj .i64 (iSub n (Gg b n)))))])=sg 0 [0,0,0,0,0,0,0,0,0,0,0,3,0,0] (Ig b n)/\0=Ew b n)))))))))))):=by
 intro hw hp;delta AcZ;simp only[D,E];refine⟨λh=>Q8 (by omega) (if_pos h),λh=>⟨λh1=>Q8 (by omega) (Yy h (.inl h1)),λh1=>⟨λh2=>Q8 (by omega) (Yy h (.inr h2)),λh2 _ _ _ _ _ _=> ?_⟩⟩⟩;have q:=ZM (n:=n) h (by omega) (by omega);have c:=Du (Ei q.1).2;have c0:1<=qi 5 b/\qi 5 b<=8:=⟨c.1,c.2.1⟩
 have ew:=GY (e:=n-Dw b n) (by omega) (by omega);have z:=Aap (x:=qi 5 b) (X:=8) (y:=n-Dw b n) (Y:=65536) (by omega) (by omega) (by omega) (by omega);have t:=XH (n:=Dw b n) q.1 (by omega) (by omega);rw[q.2.1,q.2.2.1,if_neg (by omega),←q.2.2.2.2.2.2]at t;have eB:UD b=Qr b:=by unfold UD Qr; rw[show Iw b=Ap (Ed b)from if_pos h]
 have eS:Rh b=L8 b:=by unfold Rh L8; rw[eB]
 have eT:JS b=Ht b:=by unfold JS Ht; rw[eS]
 have eO:Gg b n=Dw b n:=by unfold Gg Dw; rw[eS,eT,q.2.1]
 rw[eT,eO,ew];refine⟨λh3=>Q8 h3 t.symm,λh3 _=> ?_⟩;have e0:Ew b n=0:=by omega
 have y:=Yi e0;have ev:Jf (Ht b) (Dw b n)=Hu (Ht b) (Dw b n):=if_pos h3;have e5:qi 0 (Hu (Ht b) (Dw b n))=qi 5 b:=by unfold Hu; rw[if_pos (by omega)]; rfl
 have es:I9 (qi 5 b) (n-Dw b n)=0:=if_pos (by omega);have ln:=Q7 (Ht b) (Dw b n) (by omega);have lb:=Aap (x:=((Dw b n).toNat:Int)) (X:=65536) (y:=qi 0 (Ht b)) (Y:=8) (by omega) (by omega) (by omega) (by omega);rw[ev,e5,show EI (qi 5 b) (n-Dw b n)=IR (qi 5 b*(n-Dw b n))from if_pos es,show F7 (Ht b) (Dw b n)=Fq (Ht b) (Dw b n)from if_pos h3,show G5 (Ht b) (Dw b n)=qi 5 b from if_pos h3,y.1,y.2.1,y.2.2.1,y.2.2.2];exact⟨⟨by omega,by rw[Xh]; omega⟩,λ_=>⟨rfl,rfl,rfl,rfl,e0.symm⟩⟩
def r177:Cr PR:=Kw (λff=>true) [r72,r221,r125,r224,r223,r169,r170,r172,r173] 177 6 {ps:=[(true,hG),(false,hI)],rs:=[(true,hK),(false,hI),(true,hG),(false,hI)],pre:=λ_=>True,out:=λa=>[[.i (Jv (arg 0 a) (I a 1 0)),.l (Jj (arg 0 a) (I a 1 0))],[.i (Jd (arg 0 a) (I a 1 0))],rb [0,0,0,0,0,0,0,0,0,0,0,3,0,0] (Ig (arg 0 a) (I a 1 0)),[.i (Ew (arg 0 a) (I a 1 0))]]} U λa=>Y (v177 (arg 0 a) (I a 1 0))
end Go.Sx

