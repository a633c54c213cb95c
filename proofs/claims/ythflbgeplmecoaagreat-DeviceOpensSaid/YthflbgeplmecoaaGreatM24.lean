import Derived.Test.YthflbgeplmecoaaGreatSxUse
import Derived.Test.YthflbgeplmecoaaGreatM23
import Derived.Test.YthflbgeplmecoaaGreatM20
set_option linter.unusedVariables false
set_option linter.unusedSimpArgs false
set_option maxRecDepth 100000
set_option maxHeartbeats 4000000
namespace Go
open Go.Sx
def Sp.hlt (d:List C):List C:=sga 0 [0,2,0,0,0,0,0,3,0,0,3,0,0,0,3] (sg 0 [0,2,0,0,0,0,0,3,0,0,3,0,0,0,3,1,0,0,0,0,0,0,0,0,0,0,0,0,3,0,0] d) (.b false::sg 0 [0,0,0,0,0,0,0,0,0,0,0,0,3,0,0] (sg 16 [0,0,0,0,0,0,0,0,0,0,0,0,3,0,0] d))
def Sp.rsD (s:List (List C)) (dr:Int):List C:=Sp.mdV (cutRows s none (some (iMin (iLen s) 300))) (iAdd 1 (iRem dr 2))
end Go
namespace Go
open Go.Sx
theorem Sp.wv_ok {s ch n:Int} (c0:1≤ch) (c1:ch≤8) (n0:0≤n) (n1:n≤65536):Sp.blk ch (Sp.wv s ch n)=true∧((Sp.wv s ch n).length:Int)=n*ch∧((Sp.wv s ch n).length:Int)/ch=n:=by
 have l:=Sp.wv_len s ch n
 rw[Int.toNat_of_nonneg n0,Int.toNat_of_nonneg (show 0≤ch by omega)]at l
 have q:((Sp.wv s ch n).length:Int)/ch=n:=by rw[l,Int.mul_ediv_cancel _ (by omega)]
 refine⟨?_,l,q⟩
 rw[Sp.blk_yes ⟨c0,c1,by rw[l,Int.mul_emod_left],by rw[q]; exact n1⟩]
 refine List.all_eq_true.2 fun x hx=> ?_
 obtain⟨i,_,hx⟩:=List.mem_flatMap.1 hx
 obtain⟨c,_,rfl⟩:=List.mem_map.1 hx
 refine decide_eq_true ?_
 show-8388608≤(((i:Int)*7919+(c:Int)*104729+s*15485863) % 4001-2000)*1000∧(((i:Int)*7919+(c:Int)*104729+s*15485863) % 4001-2000)*1000≤8388607
 omega
theorem Sp.mp_self (m:List C):Sp.mpE (Sp.nM m) m=true:=Sp.rl_self (g:=Sp.e0) (fun _=>decide_eq_true rfl) (ql 0 m)
theorem Sp.rl_map {g:List C→List C→Bool} {f:List C→List C} (h:∀x,g (f x) x=true):∀xs:List (List C),Sp.rl g (xs.map f) xs=true
 |[]=>rfl
 |x::r=>by rw[List.map_cons,Sp.rl,h,Sp.rl_map h r]; rfl
theorem Sp.sp_self (x:List C):Sp.spE x x=true:=by unfold Sp.spE; simp[bAnd,bEq]
theorem Sp.bx_self (x:List C):Sp.bxE (Sp.nB x) x=true:=by
 show(decide (qi 0 x=qi 0 x)&&(Sp.rl Sp.spE (ql 1 x) (ql 1 x)&&(Sp.rl Sp.spE (ql 3 x) (ql 3 x)&&Sp.rl Sp.mpE ((ql 2 x).map Sp.nM) (ql 2 x))))=true
 rw[Sp.rl_self Sp.sp_self,Sp.rl_self Sp.sp_self,Sp.rl_map Sp.mp_self,decide_eq_true rfl]; rfl
theorem Sp.sC_self:∀xs:List (List C),Sp.sameC xs xs=true
 |[]=>rfl
 |x::r=>by simp[Sp.sameC,Sp.sC_self r]
theorem Sp.bg_self (b:List C):Sp.bgS b b=true:=by
 have:Sp.rsS (Sp.br b) (Sp.br b)=true:=by unfold Sp.rsS; rw[Sp.rl_self (g:=Sp.e0) (fun _=>decide_eq_true rfl)]; simp[bAnd,bEq]
 unfold Sp.bgS; rw[this]; simp[bAnd,bEq]
theorem Sp.dvS_nV (d:List C):Sp.dvS (Sp.nV d) d=true:=by
 have e:Sp.dvS (Sp.nV d) d=bAnd (bAnd (bEq (qi 0 d) (qi 0 d)) (bAnd (sSame (qs 1 d) (qs 1 d)) (bAnd (bEq (qi 2 d) (qi 2 d)) (bAnd (bEq (qi 3 d) (qi 3 d)) (bAnd (bEq (qi 4 d) (qi 4 d)) (bAnd (bEq (qi 5 d) (qi 5 d)) (bAnd (bEq (qi 6 d) (qi 6 d)) (Sp.rl Sp.bxE ((ql 7 d).map Sp.nB) (ql 7 d)))))))))
  (bAnd (bAnd (bEq (qi 11 d) (qi 11 d)) (bAnd (bEq (qi 8 d) (qi 8 d)) (bAnd (bEq (qi 9 d) (qi 9 d)) (Sp.rl Sp.e0 (ql 10 d) (ql 10 d))))) (bAnd (bEq (qi 12 d) (qi 12 d)) (bAnd (bEq (qi 13 d) (qi 13 d)) (bAnd (Sp.sameC (ql 14 d) (ql 14 d)) (bAnd (bSame (qb 15 d) (qb 15 d)) (bAnd (bEq (qi 16 d) (qi 16 d)) (Sp.bgS (Sp.dg d) (Sp.dg d)))))))):=by kernel_rfl
 rw[e,Sp.rl_map Sp.bx_self,Sp.rl_self (g:=Sp.e0) (fun _=>decide_eq_true rfl),Sp.sC_self,Sp.bg_self]
 simp[bAnd,bEq,sSame,bSame]
theorem Sp.md_ok {l:List (List C)} {r:Int} (h:¬qi 13 (Sp.mdV l r)=0):Sp.mdE l r=0∧Sp.dvV (Sp.mdO l r)=true∧Sp.dvV (Sp.mdV l r)=true∧(Sp.mdV l r=Sp.mdO l r∨∃t,Sp.stE (Sp.mdO l r) t=0∧Sp.mdV l r=Sp.run (Sp.mdO l r) t):=by
 unfold Sp.mdV at h ⊢
 by_cases he:Sp.mdE l r≠0
 · rw[if_pos he]at h; exact(h rfl).elim
 have e0:Sp.mdE l r=0:=Classical.not_not.1 he
 have vo:Sp.dvV (Sp.mdO l r)=true:=(Sp.op_v e0).2.2.2.2
 rw[if_neg he]at h ⊢
 by_cases hd:Sp.dN (Sp.md6 l r) 4≤0
 · rw[if_pos hd]
   exact⟨e0,vo,vo,.inl rfl⟩
 · rw[if_neg hd]at h ⊢
   by_cases hs:Sp.stE (Sp.mdO l r) (iMul (qi 13 (Sp.mdO l r)) (Sp.dN (Sp.md7 l r) 3))=0
   · have i:=Sp.st_in hs
     rw[i.2.2.2.2.1]
     exact⟨e0,vo,i.2.2.2.2.2,.inr ⟨_,hs,rfl⟩⟩
   · unfold Sp.stR at h; rw[if_neg hs]at h; exact(h rfl).elim
theorem Sp.hlt_v (d:List C):Sp.dvV (Sp.hlt d)=Sp.dvV d:=by kernel_rfl
theorem Sp.hlt_du {d:List C} {a b:Int} (h:Sp.dvV d=true) (h0:0≤a) (h1:a≤b) (h2:b≤1099511627776):Sp.duE (Sp.hlt d) a b=0∧Sp.duV (Sp.hlt d) a b=0:=by
 have r:qb 15 (Sp.hlt d)=false:=rfl
 refine⟨?_,?_⟩
 · unfold Sp.duE
   rw[if_neg (by rw[Sp.hlt_v,h]; simp),if_neg (by omega),if_neg (fun x=>by rw[r]at x; cases x.1)]
 · unfold Sp.duV
   rw[if_neg (fun x=>by rw[r]at x; cases x.2.1)]
theorem Sp.hlt_ck {d:List C} {k ch:Int} {da:List (List C)} {a b:Int} (h:Sp.dvV d=true) (h0:0≤a) (h1:a≤b) (h2:b≤1099511627776) (hb:Sp.blk ch da=true) (hk:qi 2 d=k) (hc:ch=((ql 10 d).length:Int)):Sp.ckE (Sp.hlt d) k ch da a b=0:=by
 have q:qi 2 (Sp.hlt d)=qi 2 d:=rfl
 have l:ql 10 (Sp.hlt d)=ql 10 d:=rfl
 unfold Sp.ckE
 rw[if_neg (by rw[Sp.hlt_v,h,hb,q]; simp[hk]),if_neg (by rw[l]; omega)]
 exact(Sp.hlt_du h h0 h1 h2).1
theorem Sp.hlt_py {d:List C} {ch:Int} {da:List (List C)} {a b:Int} (c:Sp.ckE (Sp.hlt d) 1 ch da a b=0):Sp.pyE (Sp.hlt d) ch da a b=0∧Sp.pyC (Sp.hlt d) ch da a b=ch∧Sp.pyD (Sp.hlt d) ch da a b=[]∧Sp.pyL (Sp.hlt d) ch da a b=0∧Sp.pyM (Sp.hlt d) ch da a b=0∧Sp.pyV (Sp.hlt d) ch da a b=Sp.nV (Sp.hlt d):=by
 have n:¬Sp.ckE (Sp.hlt d) 1 ch da a b≠0:=by omega
 have r:qb 15 (Sp.hlt d)=false:=rfl
 unfold Sp.pyE Sp.pyC Sp.pyD Sp.pyL Sp.pyM Sp.pyV
 rw[if_neg n,if_neg n,if_neg n,if_neg n,if_neg n,if_neg n,r]
 exact⟨rfl,rfl,rfl,rfl,rfl,rfl⟩
theorem Sp.hlt_rc {d:List C} {ch n:Int} {da:List (List C)} {a b:Int} (c:Sp.ckE (Sp.hlt d) 2 ch da a b=0) (h0:0≤n) (h1:n≤65536):Sp.rcE (Sp.hlt d) ch da n a b=0∧Sp.rcC (Sp.hlt d) ch da n a b=Sp.silC ch n∧Sp.rcD (Sp.hlt d) ch da n a b=Sp.silD ch n∧Sp.rcL (Sp.hlt d) ch da n a b=0∧Sp.rcM (Sp.hlt d) ch da n a b=0∧Sp.rcV (Sp.hlt d) ch da n a b=Sp.nV (Sp.hlt d):=by
 have r:qb 15 (Sp.hlt d)=false:=rfl
 have e:Sp.rcE (Sp.hlt d) ch da n a b=0:=by
  unfold Sp.rcE
  rw[if_neg (by omega),if_neg (fun x=>by rw[r]at x; cases x.1),if_neg (by omega),r]; rfl
 have n:¬Sp.rcE (Sp.hlt d) ch da n a b≠0:=by omega
 refine⟨e,?_⟩
 unfold Sp.rcC Sp.rcD Sp.rcL Sp.rcM Sp.rcV
 rw[if_neg n,if_neg n,if_neg n,if_neg n,if_neg n,r]
 exact⟨rfl,rfl,rfl,rfl,rfl⟩
end Go
namespace Go.Sx
def m7_1 (s:List (List C)) (dr:Int):List (List C):=(Sp.wv 1 (iLen (ql 10 (Sp.rsD s dr))) (qi 13 (Sp.rsD s dr)))
def m7_2 (s:List (List C)) (dr:Int) (c:Int):List (List C):=(Sp.wv 1 (iLen (ql 10 (Sp.rsD s dr))) (iRem c 9))
def m7_3 (s:List (List C)) (dr:Int):List C:=(Sp.hlt (Sp.rsD s dr))
def m7_0 (s:List (List C)) (dr:Int) (a:Int) (b:Int) (c:Int):Prop:=pLe (iLen (ql 10 (Sp.rsD s dr))) 9223372036854775807→True∧(InR .i64 (Sp.duV (m7_3 s dr) a (iAdd (iAdd a b) c))∧InR .i64 (Sp.duE (m7_3 s dr) a (iAdd (iAdd a b) c))→Cn (bEq (qi 2 (Sp.rsD s dr)) 1) ((Sm (0:Int)∧pLe 0 1∧pLe 1 100∧pLe (iLen (ql 10 (Sp.rsD s dr))) 12∧pLe (qi 13 (Sp.rsD s dr)) 70000)∧(InR .i64 (iLen (ql 10 (Sp.rsD s dr)))∧WL hW (m7_1 s dr)→True∧(InR .i64 (Sp.pyC (m7_3 s dr) (iLen (ql 10 (Sp.rsD s dr))) (m7_1 s dr) a (iAdd a b))∧WL hW (Sp.pyD (m7_3 s dr) (iLen (ql 10 (Sp.rsD s dr))) (m7_1 s dr) a (iAdd a b))∧InR .i64 (Sp.pyL (m7_3 s dr) (iLen (ql 10 (Sp.rsD s dr))) (m7_1 s dr) a (iAdd a b))∧InR .i64 (Sp.pyM (m7_3 s dr) (iLen (ql 10 (Sp.rsD s dr))) (m7_1 s dr) a (iAdd a b))∧WD hV (Sp.pyV (m7_3 s dr) (iLen (ql 10 (Sp.rsD s dr))) (m7_1 s dr) a (iAdd a b))∧InR .i64 (Sp.pyE (m7_3 s dr) (iLen (ql 10 (Sp.rsD s dr))) (m7_1 s dr) a (iAdd a b))→Cn (bEq (Sp.duE (m7_3 s dr) a (iAdd (iAdd a b) c)) 0) (Cn (bEq (Sp.duV (m7_3 s dr) a (iAdd (iAdd a b) c)) 0) (Cn (bEq (Sp.pyE (m7_3 s dr) (iLen (ql 10 (Sp.rsD s dr))) (m7_1 s dr) a (iAdd a b)) 0) (InR .i64 (iAdd (Sp.pyL (m7_3 s dr) (iLen (ql 10 (Sp.rsD s dr))) (m7_1 s dr) a (iAdd a b)) (Sp.pyM (m7_3 s dr) (iLen (ql 10 (Sp.rsD s dr))) (m7_1 s dr) a (iAdd a b)))∧Cn (bEq (iAdd (Sp.pyL (m7_3 s dr) (iLen (ql 10 (Sp.rsD s dr))) (m7_1 s dr) a (iAdd a b)) (Sp.pyM (m7_3 s dr) (iLen (ql 10 (Sp.rsD s dr))) (m7_1 s dr) a (iAdd a b))) 0) (Cn (bEq (Sp.pyC (m7_3 s dr) (iLen (ql 10 (Sp.rsD s dr))) (m7_1 s dr) a (iAdd a b)) (iLen (ql 10 (Sp.rsD s dr)))) (pLe (iLen (Sp.pyD (m7_3 s dr) (iLen (ql 10 (Sp.rsD s dr))) (m7_1 s dr) a (iAdd a b))) 9223372036854775807→Cn (bEq (iLen (Sp.pyD (m7_3 s dr) (iLen (ql 10 (Sp.rsD s dr))) (m7_1 s dr) a (iAdd a b))) 0) (True∧Sp.dvS (Sp.pyV (m7_3 s dr) (iLen (ql 10 (Sp.rsD s dr))) (m7_1 s dr) a (iAdd a b)) (m7_3 s dr)=true) (false=true)) (false=true)) (false=true)) (false=true)) (false=true)) (false=true)))) (pNe 9 0∧(Sm (0:Int)∧pLe 0 1∧pLe 1 100∧pLe (iLen (ql 10 (Sp.rsD s dr))) 12∧pLe (iRem c 9) 70000)∧(InR .i64 (iLen (ql 10 (Sp.rsD s dr)))∧WL hW (m7_2 s dr c)→True∧(InR .i64 (Sp.rcC (m7_3 s dr) (iLen (ql 10 (Sp.rsD s dr))) (m7_2 s dr c) (qi 13 (Sp.rsD s dr)) a (iAdd a b))∧WL hW (Sp.rcD (m7_3 s dr) (iLen (ql 10 (Sp.rsD s dr))) (m7_2 s dr c) (qi 13 (Sp.rsD s dr)) a (iAdd a b))∧InR .i64 (Sp.rcL (m7_3 s dr) (iLen (ql 10 (Sp.rsD s dr))) (m7_2 s dr c) (qi 13 (Sp.rsD s dr)) a (iAdd a b))∧InR .i64 (Sp.rcM (m7_3 s dr) (iLen (ql 10 (Sp.rsD s dr))) (m7_2 s dr c) (qi 13 (Sp.rsD s dr)) a (iAdd a b))∧WD hV (Sp.rcV (m7_3 s dr) (iLen (ql 10 (Sp.rsD s dr))) (m7_2 s dr c) (qi 13 (Sp.rsD s dr)) a (iAdd a b))∧InR .i64 (Sp.rcE (m7_3 s dr) (iLen (ql 10 (Sp.rsD s dr))) (m7_2 s dr c) (qi 13 (Sp.rsD s dr)) a (iAdd a b))→True∧(InR .i64 (Sp.silC (iLen (ql 10 (Sp.rsD s dr))) (qi 13 (Sp.rsD s dr)))∧WL hW (Sp.silD (iLen (ql 10 (Sp.rsD s dr))) (qi 13 (Sp.rsD s dr)))∧InR .i64 (Sp.silE (iLen (ql 10 (Sp.rsD s dr))) (qi 13 (Sp.rsD s dr)))→Cn (bEq (Sp.duE (m7_3 s dr) a (iAdd (iAdd a b) c)) 0) (Cn (bEq (Sp.duV (m7_3 s dr) a (iAdd (iAdd a b) c)) 0) (Cn (bEq (Sp.rcE (m7_3 s dr) (iLen (ql 10 (Sp.rsD s dr))) (m7_2 s dr c) (qi 13 (Sp.rsD s dr)) a (iAdd a b)) 0) (InR .i64 (iAdd (Sp.rcL (m7_3 s dr) (iLen (ql 10 (Sp.rsD s dr))) (m7_2 s dr c) (qi 13 (Sp.rsD s dr)) a (iAdd a b)) (Sp.rcM (m7_3 s dr) (iLen (ql 10 (Sp.rsD s dr))) (m7_2 s dr c) (qi 13 (Sp.rsD s dr)) a (iAdd a b)))∧Cn (bEq (iAdd (Sp.rcL (m7_3 s dr) (iLen (ql 10 (Sp.rsD s dr))) (m7_2 s dr c) (qi 13 (Sp.rsD s dr)) a (iAdd a b)) (Sp.rcM (m7_3 s dr) (iLen (ql 10 (Sp.rsD s dr))) (m7_2 s dr c) (qi 13 (Sp.rsD s dr)) a (iAdd a b))) 0) (True∧Cn (bAnd (bEq (Sp.rcC (m7_3 s dr) (iLen (ql 10 (Sp.rsD s dr))) (m7_2 s dr c) (qi 13 (Sp.rsD s dr)) a (iAdd a b)) (Sp.silC (iLen (ql 10 (Sp.rsD s dr))) (qi 13 (Sp.rsD s dr)))) (Sp.rl Sp.e0 (Sp.rcD (m7_3 s dr) (iLen (ql 10 (Sp.rsD s dr))) (m7_2 s dr c) (qi 13 (Sp.rsD s dr)) a (iAdd a b)) (Sp.silD (iLen (ql 10 (Sp.rsD s dr))) (qi 13 (Sp.rsD s dr))))) (True∧Sp.dvS (Sp.rcV (m7_3 s dr) (iLen (ql 10 (Sp.rsD s dr))) (m7_2 s dr c) (qi 13 (Sp.rsD s dr)) a (iAdd a b)) (m7_3 s dr)=true) (false=true)) (false=true)) (false=true)) (false=true)) (false=true))))))
theorem v7 (s:List (List C)) (dr:Int) (a:Int) (b:Int) (c:Int):WL hB s∧InR .u8 dr∧InR .u8 a∧InR .u8 b∧InR .u8 c→True∧True∧Cn (bNot true) (false=true) (pLe (iLen s) 9223372036854775807→geB none (some (iMin (iLen s) 300)) (iLen s)∧pNe 2 0∧InR .i64 (iAdd 1 (iRem dr 2))∧(iAdd 1 (iRem dr 2)=1∨iAdd 1 (iRem dr 2)=2)∧(WD hV (Sp.rsD s dr)→Cn (bEq (qi 13 (Sp.rsD s dr)) 0) (Sm true) (InR .i64 (iAdd a b)∧InR .i64 (iAdd (iAdd a b) c)∧True∧(InR .i64 (Sp.duV (Sp.rsD s dr) a (iAdd a b))∧InR .i64 (Sp.duE (Sp.rsD s dr) a (iAdd a b))→True∧(InR .i64 (Sp.duV (Sp.rsD s dr) (iAdd a b) (iAdd (iAdd a b) c))∧InR .i64 (Sp.duE (Sp.rsD s dr) (iAdd a b) (iAdd (iAdd a b) c))→True∧(InR .i64 (Sp.duV (Sp.rsD s dr) a (iAdd (iAdd a b) c))∧InR .i64 (Sp.duE (Sp.rsD s dr) a (iAdd (iAdd a b) c))→Cn (bEq (Sp.duE (Sp.rsD s dr) a (iAdd (iAdd a b) c)) 0) (Cn (bNe (Sp.duE (Sp.rsD s dr) a (iAdd a b)) 0) (false=true) (Cn (bNe (Sp.duE (Sp.rsD s dr) (iAdd a b) (iAdd (iAdd a b) c)) 0) (false=true) (InR .i64 (iAdd (Sp.duV (Sp.rsD s dr) a (iAdd a b)) (Sp.duV (Sp.rsD s dr) (iAdd a b) (iAdd (iAdd a b) c)))∧Cn (bNe (iAdd (Sp.duV (Sp.rsD s dr) a (iAdd a b)) (Sp.duV (Sp.rsD s dr) (iAdd a b) (iAdd (iAdd a b) c))) (Sp.duV (Sp.rsD s dr) a (iAdd (iAdd a b) c))) (false=true) (Cn (bLe (iAdd (iAdd a b) c) (qi 16 (Sp.rsD s dr))) (Cn (bNe (Sp.duV (Sp.rsD s dr) a (iAdd (iAdd a b) c)) 0) (false=true) ((m7_0 s dr a b c))) ((m7_0 s dr a b c)))))) ((m7_0 s dr a b c)))))))):=by
 intro hw
 have a0:0≤a∧a≤255:=by have:=hw.2.2.1; simp only[InR]at this; omega
 have b0:0≤b∧b≤255:=by have:=hw.2.2.2.1; simp only[InR]at this; omega
 have c0:0≤c∧c≤255:=by have:=hw.2.2.2.2; simp only[InR]at this; omega
 have d0:0≤dr∧dr≤255:=by have:=hw.2.1; simp only[InR]at this; omega
 have R:Sp.dvV (Sp.rsD s dr)=true→m7_0 s dr a b c:=fun hv=>by
  delta m7_0 m7_1 m7_2 m7_3
  have v:=Sp.dvV_of hv
  have b1:=Sp.dv_b hv
  have ch:=Sp.ofH_ch v.1.2.1
  have du:=Sp.hlt_du (a:=a) (b:=a+b+c) hv a0.1 (by omega) (by omega)
  have w1:=Sp.wv_ok (s:=1) (ch:=((ql 10 (Sp.rsD s dr)).length:Int)) (n:=qi 13 (Sp.rsD s dr)) (by omega) (by omega) (by omega) (by omega)
  have w2:=Sp.wv_ok (s:=1) (ch:=((ql 10 (Sp.rsD s dr)).length:Int)) (n:=c.tmod 9) (by omega) (by omega) (by rw[Int.tmod_eq_emod_of_nonneg c0.1]; omega) (by rw[Int.tmod_eq_emod_of_nonneg c0.1]; omega)
  have cm:c.tmod 9=c % 9:=Int.tmod_eq_emod_of_nonneg c0.1
  have z:InR .i64 (0+0:Int):=by simp only[InR]; omega
  simp only[D,E]
  refine fun _ _=>⟨fun h=>⟨⟨by decide,by decide,by omega,by omega⟩,fun _ _=> ?_⟩,fun h=>⟨by decide,⟨by decide,by decide,by omega,by omega⟩,fun _ _ _=> ?_⟩⟩
  · obtain⟨p1,p2,p3,p4,p5,p6⟩:=Sp.hlt_py (Sp.hlt_ck (k:=1) (b:=a+b) hv a0.1 (by omega) (by omega) w1.1 h rfl)
    rw[du.1,du.2,p1,p2,p3,p4,p5,p6,Sp.dvS_nV]
    simp only[E,F,List.length_nil]
    exact⟨z,fun _ _ h=>h rfl,fun h=>h rfl⟩
  · obtain⟨p1,p2,p3,p4,p5,p6⟩:=Sp.hlt_rc (n:=qi 13 (Sp.rsD s dr)) (Sp.hlt_ck (k:=2) (b:=a+b) hv a0.1 (by omega) (by omega) w2.1 (by omega) rfl) (by omega) (by omega)
    rw[du.1,du.2,p1,p2,p3,p4,p5,p6,Sp.dvS_nV,Sp.rl_self (g:=Sp.e0) (fun _=>decide_eq_true rfl)]
    simp only[E,F]
    exact⟨z,fun _ h=>by simp at h,fun h=>h rfl⟩
 simp only[D,E,F]
 have dm:dr.tmod 2=dr % 2:=Int.tmod_eq_emod_of_nonneg d0.1
 have rng:∀ {k:Int},-100000≤k→k≤100000→InR .i64 k:=fun a b=>by simp only[InR]; omega
 refine fun _=>⟨⟨by omega,by omega⟩,by decide,by rw[dm]; exact rng (by omega) (by omega),by omega,fun _ hp=>⟨rng (by omega) (by omega),rng (by omega) (by omega),fun _ _ hz=> ?_⟩⟩
 have hv:Sp.dvV (Sp.rsD s dr)=true:=(Sp.md_ok hp).2.2.1
 refine⟨fun h=> ?_,fun _=>R hv⟩
 obtain⟨e1,e2,e3,e4⟩:=Sp.du_add (t:=a+b) hv a0.1 (by omega) (by omega) (by omega) h
 exact⟨fun g=>g e1,fun _=>⟨fun g=>g e2,fun _=>⟨by rw[e3]; exact hz.1,fun g=>g e3,fun _=>⟨fun g=>⟨fun k=>k (e4 g),fun _=>R hv⟩,fun _=>R hv⟩⟩⟩⟩
end Go.Sx

