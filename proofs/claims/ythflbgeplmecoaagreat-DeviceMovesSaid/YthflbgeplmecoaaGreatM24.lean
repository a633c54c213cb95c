import Derived.Test.YthflbgeplmecoaaGreatSxUse
import Derived.Test.YthflbgeplmecoaaGreatM23
import Derived.Test.YthflbgeplmecoaaGreatM20
set_option linter.unusedVariables false
set_option linter.unusedSimpArgs false
set_option maxRecDepth 100000
set_option maxHeartbeats 4000000
namespace Go
open Go.Sx
def Sp.hlt (d:List C):List C:=sga 0 [0,2,0,0,0,0,0,3,0,0,3,0,0,0,3] (sg 0 [0,2,0,0,0,0,0,3,0,0,3,0,0,0,3,1,0,0,0,0,0,0,0,0,0,0,0,0,3,0,0] d) (.b false::sg 0 [0,0,0,0,0,0,0,0,0,0,0,0,3,0,0] (sg 16 [0,0,0,0,0,0,0,0,0,0,0,0,3,0,0] d))
end Go
namespace Go
open Go.Sx
theorem Sp.wv_ok {s ch n:Int} (c0:1≤ch) (c1:ch≤8) (n0:0≤n) (n1:n≤65536):Sp.blk ch (Sp.wv s ch n)=true∧((Sp.wv s ch n).length:Int)=n*ch∧((Sp.wv s ch n).length:Int)/ch=n:=by
 have l:=Sp.wv_len s ch n
 rw[Int.toNat_of_nonneg n0,Int.toNat_of_nonneg (show 0≤ch by omega)]at l
 have q:((Sp.wv s ch n).length:Int)/ch=n:=by rw[l,Int.mul_ediv_cancel _ (by omega)]
 refine⟨?_,l,q⟩
 rw[Sp.blk_yes ⟨c0,c1,by rw[l,Int.mul_emod_left],by rw[q]; exact n1⟩]
 refine List.all_eq_true.2 fun x hx=> ?_
 obtain⟨i,_,hx⟩:=List.mem_flatMap.1 hx
 obtain⟨c,_,rfl⟩:=List.mem_map.1 hx
 refine decide_eq_true ?_
 show-8388608≤(((i:Int)*7919+(c:Int)*104729+s*15485863) % 4001-2000)*1000∧(((i:Int)*7919+(c:Int)*104729+s*15485863) % 4001-2000)*1000≤8388607
 omega
theorem Sp.mp_self (m:List C):Sp.mpE (Sp.nM m) m=true:=Sp.rl_self (g:=Sp.e0) (fun _=>decide_eq_true rfl) (ql 0 m)
theorem Sp.rl_map {g:List C→List C→Bool} {f:List C→List C} (h:∀x,g (f x) x=true):∀xs:List (List C),Sp.rl g (xs.map f) xs=true
 |[]=>rfl
 |x::r=>by rw[List.map_cons,Sp.rl,h,Sp.rl_map h r]; rfl
theorem Sp.sp_self (x:List C):Sp.spE x x=true:=by unfold Sp.spE; simp[bAnd,bEq]
theorem Sp.bx_self (x:List C):Sp.bxE (Sp.nB x) x=true:=by
 show(decide (qi 0 x=qi 0 x)&&(Sp.rl Sp.spE (ql 1 x) (ql 1 x)&&(Sp.rl Sp.spE (ql 3 x) (ql 3 x)&&Sp.rl Sp.mpE ((ql 2 x).map Sp.nM) (ql 2 x))))=true
 rw[Sp.rl_self Sp.sp_self,Sp.rl_self Sp.sp_self,Sp.rl_map Sp.mp_self,decide_eq_true rfl]; rfl
theorem Sp.sC_self:∀xs:List (List C),Sp.sameC xs xs=true
 |[]=>rfl
 |x::r=>by simp[Sp.sameC,Sp.sC_self r]
theorem Sp.bg_self (b:List C):Sp.bgS b b=true:=by
 have:Sp.rsS (Sp.br b) (Sp.br b)=true:=by unfold Sp.rsS; rw[Sp.rl_self (g:=Sp.e0) (fun _=>decide_eq_true rfl)]; simp[bAnd,bEq]
 unfold Sp.bgS; rw[this]; simp[bAnd,bEq]
theorem Sp.dvS_nV (d:List C):Sp.dvS (Sp.nV d) d=true:=by
 have e:Sp.dvS (Sp.nV d) d=bAnd (bAnd (bEq (qi 0 d) (qi 0 d)) (bAnd (sSame (qs 1 d) (qs 1 d)) (bAnd (bEq (qi 2 d) (qi 2 d)) (bAnd (bEq (qi 3 d) (qi 3 d)) (bAnd (bEq (qi 4 d) (qi 4 d)) (bAnd (bEq (qi 5 d) (qi 5 d)) (bAnd (bEq (qi 6 d) (qi 6 d)) (Sp.rl Sp.bxE ((ql 7 d).map Sp.nB) (ql 7 d)))))))))
  (bAnd (bAnd (bEq (qi 11 d) (qi 11 d)) (bAnd (bEq (qi 8 d) (qi 8 d)) (bAnd (bEq (qi 9 d) (qi 9 d)) (Sp.rl Sp.e0 (ql 10 d) (ql 10 d))))) (bAnd (bEq (qi 12 d) (qi 12 d)) (bAnd (bEq (qi 13 d) (qi 13 d)) (bAnd (Sp.sameC (ql 14 d) (ql 14 d)) (bAnd (bSame (qb 15 d) (qb 15 d)) (bAnd (bEq (qi 16 d) (qi 16 d)) (Sp.bgS (Sp.dg d) (Sp.dg d)))))))):=by kernel_rfl
 rw[e,Sp.rl_map Sp.bx_self,Sp.rl_self (g:=Sp.e0) (fun _=>decide_eq_true rfl),Sp.sC_self,Sp.bg_self]
 simp[bAnd,bEq,sSame,bSame]
end Go
namespace Go.Sx
end Go.Sx

set_option linter.unusedVariables false
set_option linter.unusedSimpArgs false
set_option maxRecDepth 100000
set_option maxHeartbeats 4000000
namespace Go
open Go.Sx
def Sp.cnJ (n i:Int) (d:List C) (t bf:Int):Prop:=(0≤i∧i≤n)∧(Sp.dvV d=true∧qb 15 d=true∧qi 2 d=1)∧qi 13 d≤32∧(t=qi 16 d+i*qi 13 d∧qi 16 d≤100)∧bf=Sp.rsW (Sp.br (Sp.dg d))+qi 26 d∧(0≤qi 26 d∧qi 26 d≤65536*i∧qi 29 d≤50*i∧qi 30 d≤2000*i)
def Sp.cnD (s:List (List C)):List C:=Sp.mdV (cutRows s none (some (iMin (iLen s) 300))) 1
end Go
namespace Go
open Go.Sx
theorem Sp.md_run {l:List (List C)} {r:Int} (h:qb 15 (Sp.mdV l r)=true):Sp.mdE l r=0∧Sp.mdV l r=Sp.run (Sp.mdO l r) (Sp.mdQ l r*Sp.dN (Sp.md7 l r) 3)∧Sp.dvV (Sp.mdV l r)=true:=by
 unfold Sp.mdV at h ⊢
 by_cases he:Sp.mdE l r≠0
 · rw[if_pos he]at h; cases h
 have e0:Sp.mdE l r=0:=Classical.not_not.1 he
 have o:Sp.mdO l r=_:=if_pos e0
 rw[if_neg he]at h ⊢
 by_cases hd:Sp.dN (Sp.md6 l r) 4≤0
 · rw[if_pos hd,o]at h; cases h
 · rw[if_neg hd]at h ⊢
   by_cases hs:Sp.stE (Sp.mdO l r) (iMul (qi 13 (Sp.mdO l r)) (Sp.dN (Sp.md7 l r) 3))=0
   · have i:=Sp.st_in hs
     have q:qi 13 (Sp.mdO l r)=Sp.mdQ l r:=by rw[o]; rfl
     rw[q]at i ⊢
     exact⟨e0,i.2.2.2.2.1,by rw[i.2.2.2.2.1]; exact i.2.2.2.2.2⟩
   · unfold Sp.stR at h; rw[if_neg hs]at h; cases h
theorem Sp.md_f {l:List (List C)} {r:Int} (h:qb 15 (Sp.mdV l r)=true):qi 2 (Sp.mdV l r)=r∧qi 13 (Sp.mdV l r)=Sp.mdQ l r∧(0≤qi 16 (Sp.mdV l r)∧qi 16 (Sp.mdV l r)≤64)∧qi 26 (Sp.mdV l r)=0∧qi 27 (Sp.mdV l r)=0∧qi 29 (Sp.mdV l r)=0∧qi 30 (Sp.mdV l r)=0:=by
 obtain⟨e,m,_⟩:=Sp.md_run h
 have v:=Sp.op_v e
 have o:Sp.mdO l r=_:=v.2.2.2.1
 have bo:=(Sp.bn_ok v.2.2.1).1
 have bo:Sp.oBV (Sp.opU (Sp.dsM l r) (qi 0 (Sp.mdC l r)) (qi 1 (Sp.mdC l r)) (ql 2 (Sp.mdC l r)) (qi 3 (Sp.mdC l r)) (Sp.mdK l r) (Sp.mdR l) (Sp.mdQ l r))=_:=bo
 have Q:=Sp.mdQ_b l r
 have d:=Sp.dN_bd (l:=Sp.md7 l r) (n:=3) (by omega)
 have b:=mul_bd (x:=Sp.mdQ l r) (X:=32) (y:=Sp.dN (Sp.md7 l r) 3) (Y:=2) (by omega) (by omega) (by omega) (by omega)
 rw[m,o,bo]
 exact⟨rfl,rfl,b,rfl,rfl,rfl,rfl⟩
theorem Sp.run_ck {d:List C} {k ch:Int} {da:List (List C)} {a b:Int} (hv:Sp.dvV d=true) (hb:Sp.blk ch da=true) (hk:qi 2 d=k) (hc:ch=((ql 10 d).length:Int)) (he:Sp.duE d a b=0):Sp.ckE d k ch da a b=0∧Sp.ckV d k ch da a b=Sp.duV d a b:=by
 have e:Sp.ckE d k ch da a b=0:=by
  unfold Sp.ckE
  rw[if_neg (by rw[hv,hb]; simp[hk]),if_neg (by omega)]
  exact he
 exact⟨e,if_pos e⟩
theorem Sp.run_py {d:List C} {ch:Int} {da:List (List C)} {a b:Int} (hr:qb 15 d=true) (hc:Sp.ckE d 1 ch da a b=0) (hw:Sp.ckV d 1 ch da a b=Sp.duV d a b):Sp.pyE d ch da a b=Sp.mvE d ch da (Sp.duV d a b)∧Sp.pyC d ch da a b=Sp.mvC d ch da (Sp.duV d a b)∧Sp.pyD d ch da a b=Sp.mvD d ch da (Sp.duV d a b)∧Sp.pyL d ch da a b=Sp.mvL d ch da (Sp.duV d a b)∧Sp.pyM d ch da a b=Sp.mvM d ch da (Sp.duV d a b)∧Sp.pyV d ch da a b=Sp.mvV d ch da (Sp.duV d a b):=by
 have n:¬Sp.ckE d 1 ch da a b≠0:=by omega
 unfold Sp.pyE Sp.pyC Sp.pyD Sp.pyL Sp.pyM Sp.pyV
 rw[if_neg n,if_neg n,if_neg n,if_neg n,if_neg n,if_neg n,hr,hw]
 exact⟨rfl,rfl,rfl,rfl,rfl,rfl⟩
end Go
namespace Go.Sx
def A4 (xs:List (List C)):FuncId→Nat→LoopAnn:=fun _ _=> .on (fun sv0=>match sv0.tmps.getD 5 .undef with| .ref kk _=> .inv (Int×List C×Int×Int) (fun z=>Sp.cnJ (iLen xs) z.1 z.2.1 z.2.2.1 z.2.2.2) (fun z=>[(46,.int .i64 z.1),(7,.int .i64 z.2.2.1),(6,.int .i64 z.2.2.2)]) (fun z=>[(kk,.box (ofCs hV z.2.1) 48)]) [kk] [0,1,4,5,6,7,8,9,10,11,12,13,14,15,16,17,19,22,38,44,45,46,47,76,137] (fun z=>(xs.length-z.1.toNat))|_=> .unroll 0)
def m4_1 (xs:List (List C)) (x:Int×List C×Int×Int):List (List C):=(Sp.wv x.1 (iLen (ql 10 x.2.1)) (iRem (qi 0 (rGet xs x.1)) 50))
def m4_2 (xs:List (List C)) (x:Int×List C×Int×Int):Int:=(Sp.pyL x.2.1 (iLen (ql 10 x.2.1)) (m4_1 xs x) x.2.2.1 (iAdd x.2.2.1 (qi 13 x.2.1)))
def m4_3 (xs:List (List C)) (x:Int×List C×Int×Int):Int:=(Sp.pyM x.2.1 (iLen (ql 10 x.2.1)) (m4_1 xs x) x.2.2.1 (iAdd x.2.2.1 (qi 13 x.2.1)))
def m4_4 (xs:List (List C)) (x:Int×List C×Int×Int):List C:=(Sp.pyV x.2.1 (iLen (ql 10 x.2.1)) (m4_1 xs x) x.2.2.1 (iAdd x.2.2.1 (qi 13 x.2.1)))
def m4_5 (xs:List (List C)) (x:Int×List C×Int×Int):Int:=(Sp.frm (Sp.pyC x.2.1 (iLen (ql 10 x.2.1)) (m4_1 xs x) x.2.2.1 (iAdd x.2.2.1 (qi 13 x.2.1))) (Sp.pyD x.2.1 (iLen (ql 10 x.2.1)) (m4_1 xs x) x.2.2.1 (iAdd x.2.2.1 (qi 13 x.2.1))))
def m4_6 (x:Int×List C×Int×Int):Int:=(Sp.duV x.2.1 x.2.2.1 (iAdd x.2.2.1 (qi 13 x.2.1)))
def m4_0 (s:List (List C)) (xs:List (List C)) (x:Int×List C×Int×Int):Prop:=InR .i64 (iAdd x.2.2.1 (qi 13 x.2.1))∧True∧(InR .i64 (Sp.pyC x.2.1 (iLen (ql 10 x.2.1)) (m4_1 xs x) x.2.2.1 (iAdd x.2.2.1 (qi 13 x.2.1)))∧WL hW (Sp.pyD x.2.1 (iLen (ql 10 x.2.1)) (m4_1 xs x) x.2.2.1 (iAdd x.2.2.1 (qi 13 x.2.1)))∧InR .i64 (m4_2 xs x)∧InR .i64 (m4_3 xs x)∧WD hV (m4_4 xs x)∧InR .i64 (Sp.pyE x.2.1 (iLen (ql 10 x.2.1)) (m4_1 xs x) x.2.2.1 (iAdd x.2.2.1 (qi 13 x.2.1)))→Cn (bNe (Sp.duE x.2.1 x.2.2.1 (iAdd x.2.2.1 (qi 13 x.2.1))) 0) (false=true) (Cn (bNe (Sp.pyE x.2.1 (iLen (ql 10 x.2.1)) (m4_1 xs x) x.2.2.1 (iAdd x.2.2.1 (qi 13 x.2.1))) 0) (false=true) (True∧(InR .i64 (m4_5 xs x)→Cn (bNe (m4_5 xs x) (m4_6 x)) (false=true) (Cn (bLt (m4_2 xs x) 0) (false=true) (Cn (bLt (m4_3 xs x) 0) (false=true) (Cn (bLt (m4_6 x) (m4_3 xs x)) (false=true) (InR .i64 (iAdd (qi 30 x.2.1) (m4_3 xs x))∧Cn (bNe (qi 30 (m4_4 xs x)) (iAdd (qi 30 x.2.1) (m4_3 xs x))) (false=true) (InR .i64 (iAdd (qi 29 x.2.1) (m4_2 xs x))∧Cn (bNe (qi 29 (m4_4 xs x)) (iAdd (qi 29 x.2.1) (m4_2 xs x))) (false=true) (pNe 50 0∧InR .i64 (iSub (iRem (qi 0 (rGet xs x.1)) 50) (m4_2 xs x))∧InR .i64 (iAdd x.2.2.2 (iSub (iRem (qi 0 (rGet xs x.1)) 50) (m4_2 xs x)))∧InR .i64 (iAdd x.2.2.1 (qi 13 x.2.1))∧InR .i64 (iAdd x.1 1)∧Sm s∧Sm xs∧Sm xs∧Sm (iLen xs)∧Sm [C.l (Sp.mdT (cutRows s none (some (iMin (iLen s) 300))) 1)]∧∃(y:Int×List C×Int×Int),Sp.cnJ (iLen xs) y.1 y.2.1 y.2.2.1 y.2.2.2∧iAdd x.1 1=y.1∧iAdd x.2.2.1 (qi 13 x.2.1)=y.2.2.1∧iAdd x.2.2.2 (iSub (iRem (qi 0 (rGet xs x.1)) 50) (m4_2 xs x))=y.2.2.2∧sg 0 [0,2,0,0,0,0,0,3,0,0,3,0,0,0,3,1,0,0,0,0,0,0,0,0,0,0,0,0,3,0,0] (m4_4 xs x)=sg 0 [0,2,0,0,0,0,0,3,0,0,3,0,0,0,3,1,0,0,0,0,0,0,0,0,0,0,0,0,3,0,0] y.2.1∧nLt (xs.length-y.1.toNat) (xs.length-x.1.toNat)))))))))))
theorem v4 (s:List (List C)) (xs:List (List C)):WL hB s∧WL hB xs→True∧True∧Cn (bNot true) (false=true) (pLe (iLen xs) 9223372036854775807→Cn (bLt 12 (iLen xs)) (Sm true) (pLe (iLen s) 9223372036854775807→geB none (some (iMin (iLen s) 300)) (iLen s)∧(Sm (1:Int)∨(1:Int)=2)∧(WD hV (Sp.cnD s)→True∧Cn (bNot (qb 15 (Sp.cnD s))) (Sm true) (InR .i64 (iMul 4 (qi 12 (Sp.cnD s)))∧Cn (bLt (iMul 4 (qi 12 (Sp.cnD s))) (qi 9 (Sp.cnD s))) (Sm true) (True∧(InR .i64 (Sp.bgF (sg 17 [0,0,0,0,0,0,0,0,0,0,0,3,0,0] (Sp.cnD s)))→pLe (iLen xs) 9223372036854775807→(∃(x:Int×List C×Int×Int),Sp.cnJ (iLen xs) x.1 x.2.1 x.2.2.1 x.2.2.2∧0=x.1∧qi 16 (Sp.cnD s)=x.2.2.1∧Sp.bgF (sg 17 [0,0,0,0,0,0,0,0,0,0,0,3,0,0] (Sp.cnD s))=x.2.2.2∧sg 0 [0,2,0,0,0,0,0,3,0,0,3,0,0,0,3,1,0,0,0,0,0,0,0,0,0,0,0,0,3,0,0] (Sp.cnD s)=sg 0 [0,2,0,0,0,0,0,3,0,0,3,0,0,0,3,1,0,0,0,0,0,0,0,0,0,0,0,0,3,0,0] x.2.1)∧∀(x:Int×List C×Int×Int),Sp.cnJ (iLen xs) x.1 x.2.1 x.2.2.1 x.2.2.2→InR .i64 x.1∧InR .i64 x.2.2.1∧InR .i64 x.2.2.2∧WD hV x.2.1→Cn (bLt x.1 (iLen xs)) (pIn 0 (iLen xs) x.1∧(InR .u8 (qi 0 (rGet xs x.1))→pLe (iLen (ql 10 x.2.1)) 9223372036854775807→pNe 50 0∧(Sm (0:Int)∧pLe 0 x.1∧pLe x.1 100∧pLe (iLen (ql 10 x.2.1)) 12∧pLe (iRem (qi 0 (rGet xs x.1)) 50) 70000)∧(InR .i64 (iLen (ql 10 x.2.1))∧WL hW (m4_1 xs x)→InR .i64 (iAdd x.2.2.1 (qi 13 x.2.1))∧True∧(InR .i64 (m4_6 x)∧InR .i64 (Sp.duE x.2.1 x.2.2.1 (iAdd x.2.2.1 (qi 13 x.2.1)))→Cn (bEq (Sp.duE x.2.1 x.2.2.1 (iAdd x.2.2.1 (qi 13 x.2.1))) 0) (Cn (bLt 2000 (m4_6 x)) (Sm true) ((m4_0 s xs x))) ((m4_0 s xs x)))))) (True∧(InR .i64 (Sp.bgF (sg 17 [0,0,0,0,0,0,0,0,0,0,0,3,0,0] x.2.1))→InR .i64 (iAdd (Sp.bgF (sg 17 [0,0,0,0,0,0,0,0,0,0,0,3,0,0] x.2.1)) (qi 26 x.2.1))∧Cn (bEq x.2.2.2 (iAdd (Sp.bgF (sg 17 [0,0,0,0,0,0,0,0,0,0,0,3,0,0] x.2.1)) (qi 26 x.2.1))) (True∧Sp.dvV x.2.1=true) (false=true))))))))):=by
 intro hw
 have R:∀x:Int×List C×Int×Int,x.1<(xs.length:Int)→(xs.length:Int)≤12→InR .u8 (qi 0 (rGet xs x.1))→Sp.cnJ (xs.length:Int) x.1 x.2.1 x.2.2.1 x.2.2.2→Sp.duV x.2.1 x.2.2.1 (x.2.2.1+qi 13 x.2.1)≤2000→m4_0 s xs x:=by
  rintro⟨i,d,t,bf⟩ hl lx u8 ⟨⟨i0,i1⟩,⟨hv,hr,h2⟩,hP,⟨ht,hs⟩,hb,p0,p1,p2,p3⟩ hd
  simp only at hl lx u8 i0 i1 hv hr h2 hP ht hs hb p0 p1 p2 p3 hd
  have v:=Sp.dvV_of hv
  have b1:=Sp.dv_b hv
  have ch:=Sp.ofH_ch v.1.2.1
  have im:=mul_bd (x:=i) (X:=12) (y:=qi 13 d) (Y:=32) i0 (by omega) (by omega) hP
  have du:=Sp.du_q (a:=t) (p:=qi 13 d) hv hr (by omega) (by omega) (by omega) (by omega)
  simp only[InR]at u8
  have nm:(qi 0 (rGet xs i)).tmod 50=qi 0 (rGet xs i) % 50:=Int.tmod_eq_emod_of_nonneg (by omega)
  have w:=Sp.wv_ok (s:=i) (ch:=((ql 10 d).length:Int)) (n:=(qi 0 (rGet xs i)).tmod 50) (by omega) (by omega) (by omega) (by omega)
  obtain⟨c1,c2⟩:=Sp.run_ck (k:=1) hv w.1 h2 rfl du.1
  obtain⟨y1,y2,y3,y4,y5,y6⟩:=Sp.run_py hr c1 c2
  obtain⟨m1,m2,m3,m4,m5,m6,m7,m8,m9,m10,m11,m12,m13⟩:=Sp.mv_ok hv w.1 rfl du.2.2.1 du.2.2.2 (by omega) (by omega) (by omega)
  have W:=(Sp.bgV_of m9.1).2.2
  have l0:0≤qi 29 d:=(Sp.bgV_of v.2.2.1).2.2.2.2.2.1
  have l1:0≤qi 30 d:=(Sp.bgV_of v.2.2.1).2.2.2.2.2.2
  have B0:qi 0 (Sp.mvB d ((ql 10 d).length:Int) (Sp.wv i ((ql 10 d).length:Int) ((qi 0 (rGet xs i)).tmod 50)))=qi 17 d:=by rw[m9.2.2]; rfl
  have rng:∀ {k:Int},-1000000000000≤k→k≤1000000000000→InR .i64 k:=fun a b=>by simp only[InR]; omega
  rw[w.2.2]at m3 m8 m13
  delta m4_1 m4_2 m4_3 m4_4 m4_5 m4_6 m4_0
  simp only[D,E]
  rw[du.1,y1,y2,y3,y4,y5,y6,m1,m2,m3,m4,m5]
  simp only[E,F]
  generalize Sp.puN (Sp.dg d) ((ql 10 d).length:Int) (Sp.wv i ((ql 10 d).length:Int) ((qi 0 (rGet xs i)).tmod 50))=N at*
  have hV:qb 15 (Sp.mvV d ((ql 10 d).length:Int) (Sp.wv i ((ql 10 d).length:Int) ((qi 0 (rGet xs i)).tmod 50)) (Sp.duV d t (t+qi 13 d)))=true∧qi 2 (Sp.mvV d ((ql 10 d).length:Int) (Sp.wv i ((ql 10 d).length:Int) ((qi 0 (rGet xs i)).tmod 50)) (Sp.duV d t (t+qi 13 d)))=1∧qi 13 (Sp.mvV d ((ql 10 d).length:Int) (Sp.wv i ((ql 10 d).length:Int) ((qi 0 (rGet xs i)).tmod 50)) (Sp.duV d t (t+qi 13 d)))=qi 13 d∧qi 16 (Sp.mvV d ((ql 10 d).length:Int) (Sp.wv i ((ql 10 d).length:Int) ((qi 0 (rGet xs i)).tmod 50)) (Sp.duV d t (t+qi 13 d)))=qi 16 d:=by
   rw[m6]; exact⟨hr,h2,rfl,rfl⟩
  generalize Sp.mvV d ((ql 10 d).length:Int) (Sp.wv i ((ql 10 d).length:Int) ((qi 0 (rGet xs i)).tmod 50)) (Sp.duV d t (t+qi 13 d))=d' at*
  generalize Sp.mvB d ((ql 10 d).length:Int) (Sp.wv i ((ql 10 d).length:Int) ((qi 0 (rGet xs i)).tmod 50))=B at*
  generalize Sp.duV d t (t+qi 13 d)=n at*
  generalize Sp.plM B n=M at*
  generalize Sp.frK (Sp.pR B) M=K at*
  have z1:(i+1)*qi 13 d=i*qi 13 d+qi 13 d:=by rw[Int.add_mul,Int.one_mul]
  obtain⟨r1,r2,r3,r4⟩:=hV
  obtain⟨q1,q2,q3,q4⟩:=m13
  refine⟨rng (by omega) (by omega),fun _ _=>⟨fun h=>by omega,fun _=>⟨fun h=>by omega,fun _=>⟨fun h=>by omega,fun _=>⟨rng (by omega) (by omega),fun h=>h q4,fun _=>⟨rng (by omega) (by omega),fun h=>h q3,fun _=>⟨by decide,rng (by omega) (by omega),rng (by omega) (by omega),rng (by omega) (by omega),rng (by omega) (by omega),(i+1,d',_,_),⟨⟨by simp only; omega,by simp only; omega⟩,⟨m7,r1,r2⟩,by simp only; omega,⟨by simp only; rw[r3,r4,z1]; omega,by simp only; omega⟩,by simp only; omega,by simp only; omega,by simp only; omega,by simp only; omega,by simp only; omega⟩,rfl,rfl,rfl,rfl,by simp only; omega⟩⟩⟩⟩⟩⟩⟩
 simp only[D,E,F]
 refine fun hx hx1 hs=>⟨⟨by omega,by omega⟩,fun _ hr=> ?_⟩
 have f:=Sp.md_f (r:=1) hr
 have m:=Sp.md_run (r:=1) hr
 have hv:Sp.dvV (Sp.cnD s)=true:=m.2.2
 have Q:=Sp.mdQ_b (cutRows s none (some (iMin (iLen s) 300))) 1
 have f2:qi 2 (Sp.cnD s)=1:=f.1
 have f3:qi 13 (Sp.cnD s)=Sp.mdQ (cutRows s none (some (iMin (iLen s) 300))) 1:=f.2.1
 have f4:0≤qi 16 (Sp.cnD s)∧qi 16 (Sp.cnD s)≤64:=f.2.2.1
 have f5:qi 26 (Sp.cnD s)=0:=f.2.2.2.1
 have f6:qi 29 (Sp.cnD s)=0:=f.2.2.2.2.2.1
 have f7:qi 30 (Sp.cnD s)=0:=f.2.2.2.2.2.2
 have v:=Sp.dvV_of hv
 have b:=Sp.dv_b hv
 have bF:∀d,Sp.dvV d=true→Sp.bgF (sg 17 [0,0,0,0,0,0,0,0,0,0,0,3,0,0] d)=Sp.rsW (Sp.br (Sp.dg d)):=fun d h=>if_pos (Sp.dvV_of h).2.2.1
 refine⟨by simp only[InR]; omega,fun _ _ _=>⟨⟨(0,Sp.cnD s,qi 16 (Sp.cnD s),Sp.bgF (sg 17 [0,0,0,0,0,0,0,0,0,0,0,3,0,0] (Sp.cnD s))),⟨⟨Int.le_refl _,by simp only; omega⟩,⟨hv,hr,f2⟩,by simp only; omega,⟨by simp only; omega,by simp only; omega⟩,?_,by simp only; omega,by simp only; omega,by simp only; omega,by simp only; omega⟩,rfl,rfl,rfl,rfl⟩,?_⟩⟩
 · simp only
   rw[bF _ hv,f5,Int.add_zero]
 rintro⟨i,d,t,bf⟩ hJ _
 have hJ':=hJ
 obtain⟨⟨i0,i1⟩,⟨jv,jr,j2⟩,jP,⟨jt,js⟩,jb,p0,p1,p2,p3⟩:=hJ
 simp only at i0 i1 jv jr j2 jP jt js jb p0 p1 p2 p3 ⊢
 have jb1:=Sp.dv_b jv
 have jch:=Sp.ofH_ch (Sp.dvV_of jv).1.2.1
 have js0:=(Sp.dvV_of jv).2.1
 have im:=mul_bd (x:=i) (X:=12) (y:=qi 13 d) (Y:=32) i0 (by omega) (by omega) jP
 have W:=(Sp.bgV_of (Sp.dvV_of jv).2.2.1).2.2
 have wb:=Sp.rsW_bd (Sp.bgV_of (Sp.dvV_of jv).2.2.1).1
 rw[bF d jv]
 refine⟨fun hl=>⟨⟨i0,hl⟩,fun u8 _=>⟨by decide,⟨i0,by omega,by omega,?_⟩,fun _=>⟨by simp only[InR]; omega,fun _=>⟨fun _ h=> ?_,fun h=> ?_⟩⟩⟩⟩,fun hl _=>⟨by simp only[InR]; omega,fun _=>jv,fun h=>h (by omega)⟩⟩
 · simp only[InR]at u8
   rw[Int.tmod_eq_emod_of_nonneg (by omega)]; omega
 · exact R (i,d,t,bf) hl (by omega) u8 hJ' (Int.not_lt.1 h)
 · exact(h (Sp.du_q (a:=t) (p:=qi 13 d) jv jr (by omega) (by omega) (by omega) (by omega)).1).elim
theorem u4 (s:List (List C)) (xs:List (List C)):Holds (hyp (wfP.go [.sl [.int .u8] s,.sl [.int .u8] xs]) (vcF PR (look (tbR [r11,r22,r15,r23,r24,r18,r21,r25])) (fun _=>false) (A4 xs) 8 4 [.sl [.int .u8] s,.sl [.int .u8] xs] [] (fun sv _=>isTrue sv))):=Y (v4 s xs)
end Go.Sx

set_option linter.unusedVariables false
set_option linter.unusedSimpArgs false
set_option maxRecDepth 100000
set_option maxHeartbeats 4000000
namespace Go
open Go.Sx
def Sp.i3 (z:Int):Prop:=0≤z∧z≤3
end Go
namespace Go
open Go.Sx
theorem cNe (a:Int) {X Y:Prop} (h:Y):Cn (bNe a a) X Y:=Cn_iff.2 ⟨fun h'=>absurd h' (by simp[bNe]),fun _=>h⟩
theorem cNot {b:Bool} (hb:b=true) {X Y:Prop} (h:Y):Cn (bNot b) X Y:=Cn_iff.2 ⟨fun h'=>absurd h' (by rw[hb]; simp[bNot]),fun _=>h⟩
theorem tm_b (a k:Int) (h:0<k): -k<a.tmod k∧a.tmod k<k:=by
 rcases Int.le_total 0 a with h0|h0
 · rw[Int.tmod_eq_emod_of_nonneg h0]
   exact⟨by have:=Int.emod_nonneg a (show k≠0 by omega); omega,Int.emod_lt_of_pos a h⟩
 · have e:a.tmod k= -((-a) % k):=by rw[←Int.tmod_eq_emod_of_nonneg (show 0≤-a by omega),Int.neg_tmod,Int.neg_neg]
   have:=Int.emod_nonneg (-a) (show k≠0 by omega)
   have:=Int.emod_lt_of_pos (-a) h
   omega
theorem Sp.dvS_nl:Sp.dvS [] []=true:=by kernel_rfl
theorem Sp.dvS_brd (d g:List C):Sp.dvS (Sp.brd (Sp.nV d) g) (Sp.brd d g)=true:=by
 have e:Sp.dvS (Sp.brd (Sp.nV d) g) (Sp.brd d g)=bAnd (bAnd (bEq (qi 0 d) (qi 0 d)) (bAnd (sSame (qs 1 d) (qs 1 d)) (bAnd (bEq (qi 2 d) (qi 2 d)) (bAnd (bEq (qi 3 d) (qi 3 d)) (bAnd (bEq (qi 4 d) (qi 4 d)) (bAnd (bEq (qi 5 d) (qi 5 d)) (bAnd (bEq (qi 6 d) (qi 6 d)) (Sp.rl Sp.bxE ((ql 7 d).map Sp.nB) (ql 7 d)))))))))
  (bAnd (bAnd (bEq (qi 11 d) (qi 11 d)) (bAnd (bEq (qi 8 d) (qi 8 d)) (bAnd (bEq (qi 9 d) (qi 9 d)) (Sp.rl Sp.e0 (ql 10 d) (ql 10 d))))) (bAnd (bEq (qi 12 d) (qi 12 d)) (bAnd (bEq (qi 13 d) (qi 13 d)) (bAnd (Sp.sameC (ql 14 d) (ql 14 d)) (bAnd (bSame (qb 15 d) (qb 15 d)) (bAnd (bEq (qi 16 d) (qi 16 d)) (Sp.bgS (Sp.dg (Sp.brd d g)) (Sp.dg (Sp.brd d g))))))))):=by kernel_rfl
 rw[e,Sp.rl_map Sp.bx_self,Sp.rl_self (g:=Sp.e0) (fun _=>decide_eq_true rfl),Sp.sC_self,Sp.bg_self]
 simp[bAnd,bEq,sSame,bSame]
theorem Sp.dvS_mv (d:List C) (ch:Int) (da:List (List C)) (n:Int):Sp.dvS (Sp.mvV d ch da n) (Sp.mvR d ch da n)=true:=by
 unfold Sp.mvV Sp.mvR
 by_cases h:Sp.mvE d ch da n=0
 · rw[if_pos h,if_pos h]; exact Sp.dvS_brd d _
 · rw[if_neg h,if_neg h]; exact Sp.dvS_nl
theorem Sp.dvS_py (d:List C) (ch:Int) (da:List (List C)) (a b:Int):Sp.dvS (Sp.pyV d ch da a b) (Sp.pyR d ch da a b)=true:=by
 unfold Sp.pyV Sp.pyR
 by_cases h:Sp.ckE d 1 ch da a b≠0
 · rw[if_pos h,if_pos h]; exact Sp.dvS_nl
 · rw[if_neg h,if_neg h]
   cases qb 15 d
   · exact Sp.dvS_nV d
   · exact Sp.dvS_mv d ch da _
theorem Sp.dvS_rc (d:List C) (ch:Int) (da:List (List C)) (n a b:Int):Sp.dvS (Sp.rcV d ch da n a b) (Sp.rcR d ch da n a b)=true:=by
 unfold Sp.rcV Sp.rcR
 by_cases h:Sp.rcE d ch da n a b≠0
 · rw[if_pos h,if_pos h]; exact Sp.dvS_nl
 · rw[if_neg h,if_neg h]
   cases qb 15 d
   · exact Sp.dvS_nV d
   · exact Sp.dvS_mv d ch da _
theorem Sp.md_ch (l:List (List C)) (r:Int):((ql 10 (Sp.mdV l r)).length:Int)≤12:=by
 have nil:((ql 10 ([]:List C)).length:Int)≤12:=by decide
 have ok:∀ {d:List C},Sp.dvV d=true→((ql 10 d).length:Int)≤12:=fun h=>by
  have:=Sp.ofH_ch (Sp.dvV_of h).1.2.1; omega
 unfold Sp.mdV
 by_cases he:Sp.mdE l r≠0
 · rw[if_pos he]; exact nil
 have e0:Sp.mdE l r=0:=Classical.not_not.1 he
 have vo:Sp.dvV (Sp.mdO l r)=true:=(Sp.op_v e0).2.2.2.2
 rw[if_neg he]
 by_cases hd:Sp.dN (Sp.md6 l r) 4≤0
 · rw[if_pos hd]; exact ok vo
 · rw[if_neg hd]
   by_cases hs:Sp.stE (Sp.mdO l r) (iMul (qi 13 (Sp.mdO l r)) (Sp.dN (Sp.md7 l r) 3))=0
   · have i:=Sp.st_in hs
     rw[i.2.2.2.2.1]; exact ok i.2.2.2.2.2
   · unfold Sp.stR; rw[if_neg hs]; exact nil
theorem Sp.kp_ch {d:List C} (h:Sp.kpD d=true):((ql 10 d).length:Int)≤12:=by
 unfold Sp.kpD at h
 simp only[Bool.and_eq_true,decide_eq_true_eq]at h
 exact h.2.2.2
theorem Sp.dvS_pyg (d:List C) (ch:Int) (da:List (List C)) (a b:Int):Sp.dvS (Sp.pyV d ch da a b) (Sp.pyR (sg 0 [0,2,0,0,0,0,0,3,0,0,3,0,0,0,3,1,0,0,0,0,0,0,0,0,0,0,0,0,3,0,0] d) ch da a b)=true:=by
 have e:Sp.pyV d ch da a b=Sp.pyV (sg 0 [0,2,0,0,0,0,0,3,0,0,3,0,0,0,3,1,0,0,0,0,0,0,0,0,0,0,0,0,3,0,0] d) ch da a b:=by kernel_rfl
 rw[e]; exact Sp.dvS_py _ ch da a b
theorem Sp.dvS_rcg (d:List C) (ch:Int) (da:List (List C)) (n a b:Int):Sp.dvS (Sp.rcV d ch da n a b) (Sp.rcR (sg 0 [0,2,0,0,0,0,0,3,0,0,3,0,0,0,3,1,0,0,0,0,0,0,0,0,0,0,0,0,3,0,0] d) ch da n a b)=true:=by
 have e:Sp.rcV d ch da n a b=Sp.rcV (sg 0 [0,2,0,0,0,0,0,3,0,0,3,0,0,0,3,1,0,0,0,0,0,0,0,0,0,0,0,0,3,0,0] d) ch da n a b:=by kernel_rfl
 rw[e]; exact Sp.dvS_rc _ ch da n a b
end Go
namespace Go.Sx
def A5 (d:List C):FuncId→Nat→LoopAnn:=fun _ ii=>bif Nat.beq ii 7 then .settle (.inv Int (fun z=>Sp.i3 z) (fun z=>[(61,.int .i64 z)]) (fun _=>[]) [] [0,1,2,3,4,5,6,7,12,13,15,17,18,19,20,21,23,24,25,26,27,28,29,30,31,32,33,35,51,59,60,61,62,77,78,79,80,108,114,132,133,134,135,188,241] (fun z=>(3-z).toNat))else bif Nat.beq ii 10 then .settle (.inv Int (fun z=>Sp.i3 z) (fun z=>[(79,.int .i64 z)]) (fun _=>[]) [] [0,1,2,3,4,5,6,7,12,13,15,17,18,19,20,21,23,24,25,26,27,28,29,30,31,32,33,35,51,59,60,61,62,77,78,79,80,108,114,132,133,134,135,188,241] (fun z=>(3-z).toNat))else bif Nat.beq ii 18 then .settle (.inv Int (fun z=>Sp.i3 z) (fun z=>[(134,.int .i64 z)]) (fun _=>[]) [] [0,1,2,3,4,5,6,7,12,13,15,17,18,19,20,21,23,24,25,26,27,28,29,30,31,32,33,35,51,59,60,61,62,77,78,79,80,108,114,132,133,134,135,188,241] (fun z=>(3-z).toNat))else bif Nat.beq ii 1000005 then .cut Unit (fun _=>Sp.kpD d=true) (fun _=>[]) (fun _=>[]) [] [0,1,2,3,4,5,6,7,12,13,15,17,18,19,20,21,23,24,25,26,27,28,29,30,31,32,33,35,51,59,60,61,62,77,78,79,80,108,114,132,133,134,135,188,241]else bif Nat.beq ii 1000017 then .on (fun sv0=>match sv0.tmps.getD 18 .undef with| .int _ v=> .cut Unit (fun _=>pLe v 70000) (fun _=>[]) (fun _=>[]) [] [0,1,2,3,4,5,6,7,12,13,15,17,18,19,20,21,23,24,25,26,27,28,29,30,31,32,33,35,51,59,60,61,62,77,78,79,80,108,114,132,133,134,135,188,241]|_=> .unroll 0)else .unroll 0
def m5_8 (s:List (List C)):List (List C):=(Sp.mdT (cutRows s none (some (iMin (iLen s) 300))) 1)
def m5_5 (s:List (List C)):List (List C):=(m5_8 s)
def m5_0 (d:List C) (s:List (List C)) (x:Int):List C:=(rGet [sg 0 [0,2,0,0,0,0,0,3,0,0,3,0,0,0,3,1,0,0,0,0,0,0,0,0,0,0,0,0,3,0,0] d,sg 0 [0,2,0,0,0,0,0,3,0,0,3,0,0,0,3,1,0,0,0,0,0,0,0,0,0,0,0,0,3,0,0] (Sp.cnD s),sg 0 [0,2,0,0,0,0,0,3,0,0,3,0,0,0,3,1,0,0,0,0,0,0,0,0,0,0,0,0,3,0,0] (Sp.mdV (m5_5 s) 2)] x)
def m5_4 (d:List C) (ch:Int) (da:List (List C)) (s:List (List C)) (n:Int) (a:Int) (b:Int) (x:Int) (x_1:Int):Prop:=InR .i64 (iAdd x_1 1)∧Sm (sg 0 [0,2,0,0,0,0,0,3,0,0,3,0,0,0,3,1,0,0,0,0,0,0,0,0,0,0,0,0,3,0,0] d)∧Sm [C.i ch,C.l da]∧Sm s∧Sm n∧Sm a∧Sm b∧Sm [sg 0 [0,2,0,0,0,0,0,3,0,0,3,0,0,0,3,1,0,0,0,0,0,0,0,0,0,0,0,0,3,0,0] d,sg 0 [0,2,0,0,0,0,0,3,0,0,3,0,0,0,3,1,0,0,0,0,0,0,0,0,0,0,0,0,3,0,0] (Sp.cnD s),sg 0 [0,2,0,0,0,0,0,3,0,0,3,0,0,0,3,1,0,0,0,0,0,0,0,0,0,0,0,0,3,0,0] (Sp.mdV (m5_8 s) 2)]∧Sm (iLen [sg 0 [0,2,0,0,0,0,0,3,0,0,3,0,0,0,3,1,0,0,0,0,0,0,0,0,0,0,0,0,3,0,0] d,sg 0 [0,2,0,0,0,0,0,3,0,0,3,0,0,0,3,1,0,0,0,0,0,0,0,0,0,0,0,0,3,0,0] (Sp.cnD s),sg 0 [0,2,0,0,0,0,0,3,0,0,3,0,0,0,3,1,0,0,0,0,0,0,0,0,0,0,0,0,3,0,0] (Sp.mdV (m5_8 s) 2)])∧Sm x∧Sm a∧Sm b∧Sm (iRem a 200)∧Sm (iAdd (iRem a 200) (iRem b 100))∧Sm (sg 0 [0,2,0,0,0,0,0,3,0,0,3,0,0,0,3,1,0,0,0,0,0,0,0,0,0,0,0,0,3,0,0] d)∧Sm [C.i ch,C.l da]∧Sm [C.l (Sp.mdT (m5_8 s) 2)]∧Sm [sg 0 [0,2,0,0,0,0,0,3,0,0,3,0,0,0,3,1,0,0,0,0,0,0,0,0,0,0,0,0,3,0,0] d,sg 0 [0,2,0,0,0,0,0,3,0,0,3,0,0,0,3,1,0,0,0,0,0,0,0,0,0,0,0,0,3,0,0] (Sp.cnD s),sg 0 [0,2,0,0,0,0,0,3,0,0,3,0,0,0,3,1,0,0,0,0,0,0,0,0,0,0,0,0,3,0,0] (Sp.mdV (m5_8 s) 2)]∧Sm (sg 0 [0,2,0,0,0,0,0,3,0,0,3,0,0,0,3,1,0,0,0,0,0,0,0,0,0,0,0,0,3,0,0] (m5_0 d s x))∧∃(y:Int),Sp.i3 y∧iAdd x_1 1=y∧nLt (3-y).toNat (3-x_1).toNat
def m5_7 (d:List C) (s:List (List C)) (x:Int):List (List C):=(Sp.wv 1 (iLen (ql 10 (m5_0 d s x))) (iRem (qi 13 (m5_0 d s x)) 300))
def m5_10 (d:List C) (ch:Int) (da:List (List C)) (s:List (List C)) (n:Int) (a:Int) (b:Int):Prop:=Sm (sg 0 [0,2,0,0,0,0,0,3,0,0,3,0,0,0,3,1,0,0,0,0,0,0,0,0,0,0,0,0,3,0,0] d)∧Sm [C.i ch,C.l da]∧Sm s∧Sm n∧Sm a∧Sm b∧Sm (sg 0 [0,2,0,0,0,0,0,3,0,0,3,0,0,0,3,1,0,0,0,0,0,0,0,0,0,0,0,0,3,0,0] d)∧Sm [C.i ch,C.l da]∧∃(y:Unit),Sp.kpD d=true
def m5_21 (a:Int) (b:Int) (x_1:Int):List C:=(rGet [[C.i a,C.i b],[C.i (iRem a 200),C.i (iAdd (iRem a 200) (iRem b 100))],[C.i 0,C.i 32]] x_1)
def m5_1 (d:List C) (ch:Int) (da:List (List C)) (s:List (List C)) (a:Int) (b:Int) (x:Int) (x_1:Int) (x_3:Int):List C:=(rGet [[C.i ch,C.l da],[C.i (iLen (ql 10 (m5_0 d s x))),C.l (m5_7 d s x)],[C.i (iLen (ql 10 (m5_0 d s x))),C.l (Sp.wv 2 (iLen (ql 10 (m5_0 d s x))) (Sp.duV (m5_0 d s x) (qi 0 (m5_21 a b x_1)) (qi 1 (m5_21 a b x_1))))]] x_3)
def m5_2 (a:Int) (b:Int) (x_1:Int):List C:=(m5_21 a b x_1)
def m5_6 (d:List C) (s:List (List C)) (a:Int) (b:Int) (x:Int) (x_1:Int):Int:=(Sp.duV (m5_0 d s x) (qi 0 (m5_2 a b x_1)) (qi 1 (m5_2 a b x_1)))
def m5_9 (d:List C) (s:List (List C)) (a:Int) (b:Int) (x:Int) (x_1:Int):Int:=(Sp.duE (m5_0 d s x) (qi 0 (m5_2 a b x_1)) (qi 1 (m5_2 a b x_1)))
def m5_3 (d:List C) (ch:Int) (da:List (List C)) (s:List (List C)) (n:Int) (a:Int) (b:Int) (x:Int) (x_1:Int):Prop:=Sm (sg 0 [0,2,0,0,0,0,0,3,0,0,3,0,0,0,3,1,0,0,0,0,0,0,0,0,0,0,0,0,3,0,0] d)∧Sm [C.i ch,C.l da]∧Sm s∧Sm n∧Sm a∧Sm b∧Sm (m5_6 d s a b x x_1)∧Sm (m5_9 d s a b x x_1)∧Sm (m5_6 d s a b x x_1)∧Sm (m5_9 d s a b x x_1)∧Sm [sg 0 [0,2,0,0,0,0,0,3,0,0,3,0,0,0,3,1,0,0,0,0,0,0,0,0,0,0,0,0,3,0,0] d,sg 0 [0,2,0,0,0,0,0,3,0,0,3,0,0,0,3,1,0,0,0,0,0,0,0,0,0,0,0,0,3,0,0] (Sp.cnD s),sg 0 [0,2,0,0,0,0,0,3,0,0,3,0,0,0,3,1,0,0,0,0,0,0,0,0,0,0,0,0,3,0,0] (Sp.mdV (m5_8 s) 2)]∧Sm (iLen [sg 0 [0,2,0,0,0,0,0,3,0,0,3,0,0,0,3,1,0,0,0,0,0,0,0,0,0,0,0,0,3,0,0] d,sg 0 [0,2,0,0,0,0,0,3,0,0,3,0,0,0,3,1,0,0,0,0,0,0,0,0,0,0,0,0,3,0,0] (Sp.cnD s),sg 0 [0,2,0,0,0,0,0,3,0,0,3,0,0,0,3,1,0,0,0,0,0,0,0,0,0,0,0,0,3,0,0] (Sp.mdV (m5_8 s) 2)])∧Sm x∧Sm a∧Sm b∧Sm (iRem a 200)∧Sm (iAdd (iRem a 200) (iRem b 100))∧Sm x_1∧Sm (sg 0 [0,2,0,0,0,0,0,3,0,0,3,0,0,0,3,1,0,0,0,0,0,0,0,0,0,0,0,0,3,0,0] d)∧Sm [C.i ch,C.l da]∧Sm [C.l (Sp.mdT (m5_8 s) 2)]∧Sm [sg 0 [0,2,0,0,0,0,0,3,0,0,3,0,0,0,3,1,0,0,0,0,0,0,0,0,0,0,0,0,3,0,0] d,sg 0 [0,2,0,0,0,0,0,3,0,0,3,0,0,0,3,1,0,0,0,0,0,0,0,0,0,0,0,0,3,0,0] (Sp.cnD s),sg 0 [0,2,0,0,0,0,0,3,0,0,3,0,0,0,3,1,0,0,0,0,0,0,0,0,0,0,0,0,3,0,0] (Sp.mdV (m5_8 s) 2)]∧Sm (sg 0 [0,2,0,0,0,0,0,3,0,0,3,0,0,0,3,1,0,0,0,0,0,0,0,0,0,0,0,0,3,0,0] (m5_0 d s x))∧Sm (sg 0 [0,0] (m5_2 a b x_1))∧∃(y:Unit),pLe (m5_6 d s a b x x_1) 70000
def m5_11 (d:List C) (ch:Int) (da:List (List C)) (s:List (List C)) (a:Int) (b:Int) (x:Int) (x_1:Int) (x_3:Int):Int:=(Sp.pyC (m5_0 d s x) (qi 0 (m5_1 d ch da s a b x x_1 x_3)) (ql 1 (m5_1 d ch da s a b x x_1 x_3)) (qi 0 (m5_2 a b x_1)) (qi 1 (m5_2 a b x_1)))
def m5_12 (d:List C) (ch:Int) (da:List (List C)) (s:List (List C)) (a:Int) (b:Int) (x:Int) (x_1:Int) (x_3:Int):Int:=(Sp.pyL (m5_0 d s x) (qi 0 (m5_1 d ch da s a b x x_1 x_3)) (ql 1 (m5_1 d ch da s a b x x_1 x_3)) (qi 0 (m5_2 a b x_1)) (qi 1 (m5_2 a b x_1)))
def m5_13 (d:List C) (ch:Int) (da:List (List C)) (s:List (List C)) (a:Int) (b:Int) (x:Int) (x_1:Int) (x_3:Int):Int:=(Sp.pyM (m5_0 d s x) (qi 0 (m5_1 d ch da s a b x x_1 x_3)) (ql 1 (m5_1 d ch da s a b x x_1 x_3)) (qi 0 (m5_2 a b x_1)) (qi 1 (m5_2 a b x_1)))
def m5_14 (d:List C) (ch:Int) (da:List (List C)) (s:List (List C)) (a:Int) (b:Int) (x:Int) (x_1:Int) (x_3:Int):Int:=(Sp.pyE (m5_0 d s x) (qi 0 (m5_1 d ch da s a b x x_1 x_3)) (ql 1 (m5_1 d ch da s a b x x_1 x_3)) (qi 0 (m5_2 a b x_1)) (qi 1 (m5_2 a b x_1)))
def m5_15 (d:List C) (ch:Int) (da:List (List C)) (s:List (List C)) (a:Int) (b:Int) (x:Int) (x_1:Int) (x_3:Int):List (List C):=(Sp.pyD (m5_0 d s x) (qi 0 (m5_1 d ch da s a b x x_1 x_3)) (ql 1 (m5_1 d ch da s a b x x_1 x_3)) (qi 0 (m5_2 a b x_1)) (qi 1 (m5_2 a b x_1)))
def m5_16 (d:List C) (ch:Int) (da:List (List C)) (s:List (List C)) (n:Int) (a:Int) (b:Int) (x:Int) (x_1:Int) (x_3:Int):Int:=(Sp.rcC (m5_0 d s x) (qi 0 (m5_1 d ch da s a b x x_1 x_3)) (ql 1 (m5_1 d ch da s a b x x_1 x_3)) n (qi 0 (m5_2 a b x_1)) (qi 1 (m5_2 a b x_1)))
def m5_17 (d:List C) (ch:Int) (da:List (List C)) (s:List (List C)) (n:Int) (a:Int) (b:Int) (x:Int) (x_1:Int) (x_3:Int):Int:=(Sp.rcL (m5_0 d s x) (qi 0 (m5_1 d ch da s a b x x_1 x_3)) (ql 1 (m5_1 d ch da s a b x x_1 x_3)) n (qi 0 (m5_2 a b x_1)) (qi 1 (m5_2 a b x_1)))
def m5_18 (d:List C) (ch:Int) (da:List (List C)) (s:List (List C)) (n:Int) (a:Int) (b:Int) (x:Int) (x_1:Int) (x_3:Int):Int:=(Sp.rcM (m5_0 d s x) (qi 0 (m5_1 d ch da s a b x x_1 x_3)) (ql 1 (m5_1 d ch da s a b x x_1 x_3)) n (qi 0 (m5_2 a b x_1)) (qi 1 (m5_2 a b x_1)))
def m5_19 (d:List C) (ch:Int) (da:List (List C)) (s:List (List C)) (n:Int) (a:Int) (b:Int) (x:Int) (x_1:Int) (x_3:Int):Int:=(Sp.rcE (m5_0 d s x) (qi 0 (m5_1 d ch da s a b x x_1 x_3)) (ql 1 (m5_1 d ch da s a b x x_1 x_3)) n (qi 0 (m5_2 a b x_1)) (qi 1 (m5_2 a b x_1)))
def m5_20 (d:List C) (ch:Int) (da:List (List C)) (s:List (List C)) (n:Int) (a:Int) (b:Int) (x:Int) (x_1:Int) (x_3:Int):List (List C):=(Sp.rcD (m5_0 d s x) (qi 0 (m5_1 d ch da s a b x x_1 x_3)) (ql 1 (m5_1 d ch da s a b x x_1 x_3)) n (qi 0 (m5_2 a b x_1)) (qi 1 (m5_2 a b x_1)))
def m5_22 (d:List C) (s:List (List C)) (a:Int) (b:Int) (x:Int) (x_1:Int):List (List C):=(Sp.wv 2 (iLen (ql 10 (m5_0 d s x))) (m5_6 d s a b x x_1))
theorem v5 (d:List C) (ch:Int) (da:List (List C)) (s:List (List C)) (n:Int) (a:Int) (b:Int):WD hV d∧InR .i64 ch∧WL hW da∧WL hB s∧InR .i64 n∧InR .i64 a∧InR .i64 b→True∧True∧Cn (bNot true) (false=true) ((True∧True∧Cn (bNot (Sp.kpD d)) (Sm true) (pLe (iLen da) 9223372036854775807→True∧Cn (bNot (bLe (iLen da) 300)) (Sm true) (Cn (bLt 500 n) (Cn (bLe n 65536) (Sm true) ((m5_10 d ch da s n a b))) ((m5_10 d ch da s n a b)))))∧∀(x:Unit),Sp.kpD d=true→pLe (iLen s) 9223372036854775807→geB none (some (iMin (iLen s) 300)) (iLen s)∧(Sm (1:Int)∨(1:Int)=2)∧(WD hV (Sp.cnD s)→((2:Int)=1∨Sm (2:Int))∧(WD hV (Sp.mdV (m5_5 s) 2)→pLe (iLen [sg 0 [0,2,0,0,0,0,0,3,0,0,3,0,0,0,3,1,0,0,0,0,0,0,0,0,0,0,0,0,3,0,0] d,sg 0 [0,2,0,0,0,0,0,3,0,0,3,0,0,0,3,1,0,0,0,0,0,0,0,0,0,0,0,0,3,0,0] (Sp.cnD s),sg 0 [0,2,0,0,0,0,0,3,0,0,3,0,0,0,3,1,0,0,0,0,0,0,0,0,0,0,0,0,3,0,0] (Sp.mdV (m5_5 s) 2)]) 9223372036854775807→(∃(x:Int),Sp.i3 x∧0=x)∧∀(x:Int),Sp.i3 x→InR .i64 x→Cn (bLt x (iLen [sg 0 [0,2,0,0,0,0,0,3,0,0,3,0,0,0,3,1,0,0,0,0,0,0,0,0,0,0,0,0,3,0,0] d,sg 0 [0,2,0,0,0,0,0,3,0,0,3,0,0,0,3,1,0,0,0,0,0,0,0,0,0,0,0,0,3,0,0] (Sp.cnD s),sg 0 [0,2,0,0,0,0,0,3,0,0,3,0,0,0,3,1,0,0,0,0,0,0,0,0,0,0,0,0,3,0,0] (Sp.mdV (m5_5 s) 2)])) (pIn 0 (iLen [sg 0 [0,2,0,0,0,0,0,3,0,0,3,0,0,0,3,1,0,0,0,0,0,0,0,0,0,0,0,0,3,0,0] d,sg 0 [0,2,0,0,0,0,0,3,0,0,3,0,0,0,3,1,0,0,0,0,0,0,0,0,0,0,0,0,3,0,0] (Sp.cnD s),sg 0 [0,2,0,0,0,0,0,3,0,0,3,0,0,0,3,1,0,0,0,0,0,0,0,0,0,0,0,0,3,0,0] (Sp.mdV (m5_5 s) 2)]) x∧(WD [Sh.int .u64,Sh.str,Sh.int .i64,Sh.int .i64,Sh.int .i64,Sh.int .i64,Sh.int .i64,Sh.sl (hI++([Sh.sl (hI++(hI++[]))]++[]++([Sh.sl [Sh.sl hI]]++([Sh.sl (hI++(hI++[]))]++[]++[])))),Sh.int .i64,Sh.int .i64,Sh.sl hI,Sh.int .i64,Sh.int .i64,Sh.int .i64,Sh.sl (hI++(hI++(hI++[])++[])),Sh.bool,Sh.int .i64,Sh.int .i64,Sh.int .i64,Sh.int .i64,Sh.int .i64,Sh.int .i64,Sh.int .i64,Sh.int .i64,Sh.int .i64,Sh.int .i64,Sh.int .i64,Sh.int .i64,Sh.sl hW,Sh.int .i64,Sh.int .i64] (m5_0 d s x)→pNe 200 0∧pNe 200 0∧pNe 100 0∧InR .i64 (iAdd (iRem a 200) (iRem b 100))∧(∃(x:Int),Sp.i3 x∧0=x)∧∀(x_1:Int),Sp.i3 x_1→InR .i64 x_1→Cn (bLt x_1 ↑3) (pIn 0 (↑3) x_1∧(InR .i64 (qi 0 (m5_2 a b x_1))∧InR .i64 (qi 1 (m5_2 a b x_1))→True∧(InR .i64 (m5_6 d s a b x x_1)∧InR .i64 (m5_9 d s a b x x_1)→True∧(InR .i64 (m5_6 d s a b x x_1)∧InR .i64 (m5_9 d s a b x x_1)→Cn (bNe (m5_6 d s a b x x_1) (m5_6 d s a b x x_1)) (false=true) (Cn (bNe (m5_9 d s a b x x_1) (m5_9 d s a b x x_1)) (false=true) (Cn (bEq (m5_9 d s a b x x_1) 0) (Cn (bLt 3000 (m5_6 d s a b x x_1)) ((m5_4 d ch da s n a b x x_1)) ((m5_3 d ch da s n a b x x_1))) ((m5_3 d ch da s n a b x x_1))∧∀(x_2:Unit),pLe (m5_6 d s a b x x_1) 70000→pLe (iLen (ql 10 (m5_0 d s x))) 9223372036854775807→pNe 300 0∧(Sm (0:Int)∧pLe 0 1∧pLe 1 100∧pLe (iLen (ql 10 (m5_0 d s x))) 12∧pLe (iRem (qi 13 (m5_0 d s x)) 300) 70000)∧(InR .i64 (iLen (ql 10 (m5_0 d s x)))∧WL hW (m5_7 d s x)→pLe (iLen (ql 10 (m5_0 d s x))) 9223372036854775807→(Sm (0:Int)∧pLe 0 2∧pLe 2 100∧pLe (iLen (ql 10 (m5_0 d s x))) 12∧pLe (m5_6 d s a b x x_1) 70000)∧(InR .i64 (iLen (ql 10 (m5_0 d s x)))∧WL hW (m5_22 d s a b x x_1)→pLe (iLen [[C.i ch,C.l da],[C.i (iLen (ql 10 (m5_0 d s x))),C.l (m5_7 d s x)],[C.i (iLen (ql 10 (m5_0 d s x))),C.l (m5_22 d s a b x x_1)]]) 9223372036854775807→(∃(x:Int),Sp.i3 x∧0=x)∧∀(x_3:Int),Sp.i3 x_3→InR .i64 x_3→Cn (bLt x_3 (iLen [[C.i ch,C.l da],[C.i (iLen (ql 10 (m5_0 d s x))),C.l (m5_7 d s x)],[C.i (iLen (ql 10 (m5_0 d s x))),C.l (m5_22 d s a b x x_1)]])) (pIn 0 (iLen [[C.i ch,C.l da],[C.i (iLen (ql 10 (m5_0 d s x))),C.l (m5_7 d s x)],[C.i (iLen (ql 10 (m5_0 d s x))),C.l (m5_22 d s a b x x_1)]]) x_3∧(InR .i64 (qi 0 (m5_1 d ch da s a b x x_1 x_3))∧WL hW (ql 1 (m5_1 d ch da s a b x x_1 x_3))→True∧(InR .i64 (m5_11 d ch da s a b x x_1 x_3)∧WL hW (m5_15 d ch da s a b x x_1 x_3)∧InR .i64 (m5_12 d ch da s a b x x_1 x_3)∧InR .i64 (m5_13 d ch da s a b x x_1 x_3)∧WD hV (Sp.pyV (m5_0 d s x) (qi 0 (m5_1 d ch da s a b x x_1 x_3)) (ql 1 (m5_1 d ch da s a b x x_1 x_3)) (qi 0 (m5_2 a b x_1)) (qi 1 (m5_2 a b x_1)))∧InR .i64 (m5_14 d ch da s a b x x_1 x_3)→True∧(InR .i64 (m5_11 d ch da s a b x x_1 x_3)∧WL hW (m5_15 d ch da s a b x x_1 x_3)∧InR .i64 (m5_12 d ch da s a b x x_1 x_3)∧InR .i64 (m5_13 d ch da s a b x x_1 x_3)∧WD hV (Sp.pyR (sg 0 [0,2,0,0,0,0,0,3,0,0,3,0,0,0,3,1,0,0,0,0,0,0,0,0,0,0,0,0,3,0,0] (m5_0 d s x)) (qi 0 (m5_1 d ch da s a b x x_1 x_3)) (ql 1 (m5_1 d ch da s a b x x_1 x_3)) (qi 0 (m5_2 a b x_1)) (qi 1 (m5_2 a b x_1)))∧InR .i64 (m5_14 d ch da s a b x x_1 x_3)→Cn (bNe (m5_12 d ch da s a b x x_1 x_3) (m5_12 d ch da s a b x x_1 x_3)) (false=true) (Cn (bNe (m5_13 d ch da s a b x x_1 x_3) (m5_13 d ch da s a b x x_1 x_3)) (false=true) (Cn (bNe (m5_14 d ch da s a b x x_1 x_3) (m5_14 d ch da s a b x x_1 x_3)) (false=true) (True∧True∧Cn (bNot (Sp.dvS (Sp.pyV (m5_0 d s x) (qi 0 (m5_1 d ch da s a b x x_1 x_3)) (ql 1 (m5_1 d ch da s a b x x_1 x_3)) (qi 0 (m5_2 a b x_1)) (qi 1 (m5_2 a b x_1))) (Sp.pyR (sg 0 [0,2,0,0,0,0,0,3,0,0,3,0,0,0,3,1,0,0,0,0,0,0,0,0,0,0,0,0,3,0,0] (m5_0 d s x)) (qi 0 (m5_1 d ch da s a b x x_1 x_3)) (ql 1 (m5_1 d ch da s a b x x_1 x_3)) (qi 0 (m5_2 a b x_1)) (qi 1 (m5_2 a b x_1))))) (false=true) (True∧True∧Cn (bNot (bAnd (bEq (m5_11 d ch da s a b x x_1 x_3) (m5_11 d ch da s a b x x_1 x_3)) (Sp.rl Sp.e0 (m5_15 d ch da s a b x x_1 x_3) (m5_15 d ch da s a b x x_1 x_3)))) (false=true) (True∧(InR .i64 (m5_16 d ch da s n a b x x_1 x_3)∧WL hW (m5_20 d ch da s n a b x x_1 x_3)∧InR .i64 (m5_17 d ch da s n a b x x_1 x_3)∧InR .i64 (m5_18 d ch da s n a b x x_1 x_3)∧WD hV (Sp.rcV (m5_0 d s x) (qi 0 (m5_1 d ch da s a b x x_1 x_3)) (ql 1 (m5_1 d ch da s a b x x_1 x_3)) n (qi 0 (m5_2 a b x_1)) (qi 1 (m5_2 a b x_1)))∧InR .i64 (m5_19 d ch da s n a b x x_1 x_3)→True∧(InR .i64 (m5_16 d ch da s n a b x x_1 x_3)∧WL hW (m5_20 d ch da s n a b x x_1 x_3)∧InR .i64 (m5_17 d ch da s n a b x x_1 x_3)∧InR .i64 (m5_18 d ch da s n a b x x_1 x_3)∧WD hV (Sp.rcR (sg 0 [0,2,0,0,0,0,0,3,0,0,3,0,0,0,3,1,0,0,0,0,0,0,0,0,0,0,0,0,3,0,0] (m5_0 d s x)) (qi 0 (m5_1 d ch da s a b x x_1 x_3)) (ql 1 (m5_1 d ch da s a b x x_1 x_3)) n (qi 0 (m5_2 a b x_1)) (qi 1 (m5_2 a b x_1)))∧InR .i64 (m5_19 d ch da s n a b x x_1 x_3)→Cn (bNe (m5_17 d ch da s n a b x x_1 x_3) (m5_17 d ch da s n a b x x_1 x_3)) (false=true) (Cn (bNe (m5_18 d ch da s n a b x x_1 x_3) (m5_18 d ch da s n a b x x_1 x_3)) (false=true) (Cn (bNe (m5_19 d ch da s n a b x x_1 x_3) (m5_19 d ch da s n a b x x_1 x_3)) (false=true) (True∧True∧Cn (bNot (Sp.dvS (Sp.rcV (m5_0 d s x) (qi 0 (m5_1 d ch da s a b x x_1 x_3)) (ql 1 (m5_1 d ch da s a b x x_1 x_3)) n (qi 0 (m5_2 a b x_1)) (qi 1 (m5_2 a b x_1))) (Sp.rcR (sg 0 [0,2,0,0,0,0,0,3,0,0,3,0,0,0,3,1,0,0,0,0,0,0,0,0,0,0,0,0,3,0,0] (m5_0 d s x)) (qi 0 (m5_1 d ch da s a b x x_1 x_3)) (ql 1 (m5_1 d ch da s a b x x_1 x_3)) n (qi 0 (m5_2 a b x_1)) (qi 1 (m5_2 a b x_1))))) (false=true) (True∧True∧Cn (bNot (bAnd (bEq (m5_16 d ch da s n a b x x_1 x_3) (m5_16 d ch da s n a b x x_1 x_3)) (Sp.rl Sp.e0 (m5_20 d ch da s n a b x x_1 x_3) (m5_20 d ch da s n a b x x_1 x_3)))) (false=true) (InR .i64 (iAdd x_3 1)∧Sm (sg 0 [0,2,0,0,0,0,0,3,0,0,3,0,0,0,3,1,0,0,0,0,0,0,0,0,0,0,0,0,3,0,0] d)∧Sm [C.i ch,C.l da]∧Sm s∧Sm n∧Sm a∧Sm b∧Sm (m5_6 d s a b x x_1)∧Sm (m5_9 d s a b x x_1)∧Sm (m5_6 d s a b x x_1)∧Sm (m5_9 d s a b x x_1)∧Sm [sg 0 [0,2,0,0,0,0,0,3,0,0,3,0,0,0,3,1,0,0,0,0,0,0,0,0,0,0,0,0,3,0,0] d,sg 0 [0,2,0,0,0,0,0,3,0,0,3,0,0,0,3,1,0,0,0,0,0,0,0,0,0,0,0,0,3,0,0] (Sp.cnD s),sg 0 [0,2,0,0,0,0,0,3,0,0,3,0,0,0,3,1,0,0,0,0,0,0,0,0,0,0,0,0,3,0,0] (Sp.mdV (m5_5 s) 2)]∧Sm (iLen [sg 0 [0,2,0,0,0,0,0,3,0,0,3,0,0,0,3,1,0,0,0,0,0,0,0,0,0,0,0,0,3,0,0] d,sg 0 [0,2,0,0,0,0,0,3,0,0,3,0,0,0,3,1,0,0,0,0,0,0,0,0,0,0,0,0,3,0,0] (Sp.cnD s),sg 0 [0,2,0,0,0,0,0,3,0,0,3,0,0,0,3,1,0,0,0,0,0,0,0,0,0,0,0,0,3,0,0] (Sp.mdV (m5_5 s) 2)])∧Sm x∧Sm a∧Sm b∧Sm (iRem a 200)∧Sm (iAdd (iRem a 200) (iRem b 100))∧Sm x_1∧Sm [[C.i ch,C.l da],[C.i (iLen (ql 10 (m5_0 d s x))),C.l (m5_7 d s x)],[C.i (iLen (ql 10 (m5_0 d s x))),C.l (m5_22 d s a b x x_1)]]∧Sm (iLen [[C.i ch,C.l da],[C.i (iLen (ql 10 (m5_0 d s x))),C.l (m5_7 d s x)],[C.i (iLen (ql 10 (m5_0 d s x))),C.l (m5_22 d s a b x x_1)]])∧Sm (sg 0 [0,2,0,0,0,0,0,3,0,0,3,0,0,0,3,1,0,0,0,0,0,0,0,0,0,0,0,0,3,0,0] d)∧Sm [C.i ch,C.l da]∧Sm [C.l (Sp.mdT (m5_5 s) 2)]∧Sm [sg 0 [0,2,0,0,0,0,0,3,0,0,3,0,0,0,3,1,0,0,0,0,0,0,0,0,0,0,0,0,3,0,0] d,sg 0 [0,2,0,0,0,0,0,3,0,0,3,0,0,0,3,1,0,0,0,0,0,0,0,0,0,0,0,0,3,0,0] (Sp.cnD s),sg 0 [0,2,0,0,0,0,0,3,0,0,3,0,0,0,3,1,0,0,0,0,0,0,0,0,0,0,0,0,3,0,0] (Sp.mdV (m5_5 s) 2)]∧Sm (sg 0 [0,2,0,0,0,0,0,3,0,0,3,0,0,0,3,1,0,0,0,0,0,0,0,0,0,0,0,0,3,0,0] (m5_0 d s x))∧Sm (sg 0 [0,0] (m5_2 a b x_1))∧Sm [[C.i ch,C.l da],[C.i (iLen (ql 10 (m5_0 d s x))),C.l (m5_7 d s x)],[C.i (iLen (ql 10 (m5_0 d s x))),C.l (m5_22 d s a b x x_1)]]∧∃(y:Int),Sp.i3 y∧iAdd x_3 1=y∧nLt (3-y).toNat (3-x_3).toNat)))))))))))))))) ((m5_4 d ch da s n a b x x_1)))))))))) (InR .i64 (iAdd x 1)∧Sm (sg 0 [0,2,0,0,0,0,0,3,0,0,3,0,0,0,3,1,0,0,0,0,0,0,0,0,0,0,0,0,3,0,0] d)∧Sm [C.i ch,C.l da]∧Sm s∧Sm n∧Sm a∧Sm b∧Sm [sg 0 [0,2,0,0,0,0,0,3,0,0,3,0,0,0,3,1,0,0,0,0,0,0,0,0,0,0,0,0,3,0,0] d,sg 0 [0,2,0,0,0,0,0,3,0,0,3,0,0,0,3,1,0,0,0,0,0,0,0,0,0,0,0,0,3,0,0] (Sp.cnD s),sg 0 [0,2,0,0,0,0,0,3,0,0,3,0,0,0,3,1,0,0,0,0,0,0,0,0,0,0,0,0,3,0,0] (Sp.mdV (m5_5 s) 2)]∧Sm (iLen [sg 0 [0,2,0,0,0,0,0,3,0,0,3,0,0,0,3,1,0,0,0,0,0,0,0,0,0,0,0,0,3,0,0] d,sg 0 [0,2,0,0,0,0,0,3,0,0,3,0,0,0,3,1,0,0,0,0,0,0,0,0,0,0,0,0,3,0,0] (Sp.cnD s),sg 0 [0,2,0,0,0,0,0,3,0,0,3,0,0,0,3,1,0,0,0,0,0,0,0,0,0,0,0,0,3,0,0] (Sp.mdV (m5_5 s) 2)])∧Sm (sg 0 [0,2,0,0,0,0,0,3,0,0,3,0,0,0,3,1,0,0,0,0,0,0,0,0,0,0,0,0,3,0,0] d)∧Sm [C.i ch,C.l da]∧Sm [C.l (Sp.mdT (m5_5 s) 2)]∧Sm [sg 0 [0,2,0,0,0,0,0,3,0,0,3,0,0,0,3,1,0,0,0,0,0,0,0,0,0,0,0,0,3,0,0] d,sg 0 [0,2,0,0,0,0,0,3,0,0,3,0,0,0,3,1,0,0,0,0,0,0,0,0,0,0,0,0,3,0,0] (Sp.cnD s),sg 0 [0,2,0,0,0,0,0,3,0,0,3,0,0,0,3,1,0,0,0,0,0,0,0,0,0,0,0,0,3,0,0] (Sp.mdV (m5_5 s) 2)]∧∃(y:Int),Sp.i3 y∧iAdd x 1=y∧nLt (3-y).toNat (3-x).toNat))) (Sm true)))):=by
 intro hw
 have i64:∀ {z:Int},-1000≤z→z≤1000→InR .i64 z:=fun a b=>by simp only[InR]; omega
 have fin:∀ {z:Int},Sp.i3 z→z<3→InR .i64 (iAdd z 1)∧∃y:Int,Sp.i3 y∧iAdd z 1=y∧nLt (3-y).toNat (3-z).toNat:=fun {z} h hl=>by
  unfold Sp.i3 at h
  exact⟨i64 (by simp only[iAdd]; omega) (by simp only[iAdd]; omega),z+1,⟨by omega,by omega⟩,rfl,by simp only[nLt]; omega⟩
 have z3:∃x:Int,Sp.i3 x∧0=x:=⟨0,⟨Int.le_refl 0,by decide⟩,rfl⟩
 have h7:∀x x_1,Sp.i3 x_1→x_1<3→m5_4 d ch da s n a b x x_1:=fun x x_1 h hl=>by
  have f:=fin h hl
  delta m5_4
  simp only[Sm_iff,true_and]
  exact f
 have h3:∀x x_1,m5_6 d s a b x x_1≤70000→m5_3 d ch da s n a b x x_1:=fun x x_1 h=>by
  delta m5_3
  simp only[Sm_iff,true_and]
  exact⟨(),h⟩
 have h10:Sp.kpD d=true→m5_10 d ch da s n a b:=fun h=>by
  delta m5_10
  simp only[Sm_iff,true_and]
  exact⟨(),h⟩
 have nk:bNot (Sp.kpD d)=false→Sp.kpD d=true:=fun hk=>by
  revert hk; cases Sp.kpD d<;>simp[bNot]
 refine⟨trivial,trivial,Cn_iff.2 ⟨fun h=>absurd h (by decide),fun _=>⟨⟨trivial,trivial,Cn_iff.2 ⟨fun _=>rfl,fun hk _=>⟨trivial,Cn_iff.2 ⟨fun _=>rfl,fun _=>Cn_iff.2 ⟨fun _=>Cn_iff.2 ⟨fun _=>rfl,fun _=>h10 (nk hk)⟩,fun _=>h10 (nk hk)⟩⟩⟩⟩⟩,fun _ kp hs=> ?_⟩⟩⟩
 have hc:∀x,Sp.i3 x→x<3→iLen (ql 10 (m5_0 d s x))≤12:=fun x h hl=>by
  have h:=h.1
  rcases(show x=0∨x=1∨x=2 by omega)with e|e|e
  · subst e; exact Sp.kp_ch kp
  · subst e; exact Sp.md_ch _ 1
  · subst e; exact Sp.md_ch _ 2
 refine⟨by simp only[geB,iMin,iLen]; omega,.inl rfl,fun _=>⟨.inr rfl,fun _ _=>⟨z3,fun x x0 _=>Cn_iff.2 ⟨fun hb=> ?_,fun _=>rfl⟩⟩⟩⟩
 have hl:x<3:=of_decide_eq_true (p:=x<((3:Nat):Int)) hb
 have f:=fin x0 hl
 have t1:=tm_b a 200 (by decide)
 have t2:=tm_b b 100 (by decide)
 have c12:=hc x x0 hl
 have t3:=tm_b (qi 13 (m5_0 d s x)) 300 (by decide)
 refine⟨⟨x0.1,hl⟩,fun _=>⟨by decide,by decide,by decide,i64 (by simp only[iAdd,iRem]; omega) (by simp only[iAdd,iRem]; omega),z3,fun x_1 k0 _=>Cn_iff.2 ⟨fun kb=> ?_,fun _=> ?_⟩⟩⟩
 · have kl:x_1<3:=of_decide_eq_true (p:=x_1<((3:Nat):Int)) kb
   refine⟨⟨k0.1,kl⟩,fun _=>⟨trivial,fun _=>⟨trivial,fun _=>cNe _ (cNe _ ⟨Cn_iff.2 ⟨fun he=>Cn_iff.2 ⟨fun _=>h7 x x_1 k0 kl,fun hb=>h3 x x_1 ?_⟩,fun he=>h3 x x_1 ?_⟩,fun _ hd _=>⟨by decide,⟨rfl,by decide,by decide,c12,by show(qi 13 (m5_0 d s x)).tmod 300≤70000; omega⟩,fun _ _=>⟨⟨rfl,by decide,by decide,c12,hd⟩,fun _ _=>⟨z3,fun x_2 h0 _=>Cn_iff.2 ⟨fun hb=> ?_,fun _=>h7 x x_1 k0 kl⟩⟩⟩⟩⟩)⟩⟩⟩
   · have hb:=of_decide_eq_false hb
     omega
   · have he:=of_decide_eq_false he
     show Sp.duV _ _ _≤70000
     unfold Sp.duV
     rw[if_neg (fun h=>he h.1)]
     decide
   · have hl:x_2<3:=of_decide_eq_true (p:=x_2<((3:Nat):Int)) hb
     have f:=fin h0 hl
     refine⟨⟨h0.1,hl⟩,fun _=>⟨trivial,fun _=>⟨trivial,fun _=>cNe _ (cNe _ (cNe _ ⟨trivial,trivial,cNot (Sp.dvS_pyg _ _ _ _ _) ⟨trivial,trivial,cNot ?_ ⟨trivial,fun _=>⟨trivial,fun _=>cNe _ (cNe _ (cNe _ ⟨trivial,trivial,cNot (Sp.dvS_rcg _ _ _ _ _ _) ⟨trivial,trivial,cNot ?_ ?_⟩⟩))⟩⟩⟩⟩))⟩⟩⟩
     · rw[Sp.rl_self (g:=Sp.e0) (fun _=>decide_eq_true rfl)]; simp[bAnd,bEq]
     · rw[Sp.rl_self (g:=Sp.e0) (fun _=>decide_eq_true rfl)]; simp[bAnd,bEq]
     · simp only[Sm_iff,true_and]
       exact f
 · simp only[Sm_iff,true_and]
   exact f
theorem u5 (d:List C) (ch:Int) (da:List (List C)) (s:List (List C)) (n:Int) (a:Int) (b:Int):Holds (hyp (wfP.go [.agg (ofCs hV d),.agg [.int .i64 ch,.sl [.int .i32] da],.sl [.int .u8] s,.int .i64 n,.int .i64 a,.int .i64 b]) (vcF PR (look (tbR [r11,r26,r22,r24,r28,r23,r18,r29,r30,r31,r32,r33,(mark 1000074),(mark 1000077)])) (fun _=>false) (A5 d) 8 5 [.agg (ofCs hV d),.agg [.int .i64 ch,.sl [.int .i32] da],.sl [.int .u8] s,.int .i64 n,.int .i64 a,.int .i64 b] [] (fun sv _=>isTrue sv))):=Y (v5 d ch da s n a b)
end Go.Sx

