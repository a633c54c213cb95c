import Derived.Test.YthflbgeplmecoaaGreatSxUse
import Derived.Test.YthflbgeplmecoaaGreatM23
import Derived.Test.YthflbgeplmecoaaGreatM20
set_option linter.unusedVariables false
set_option linter.unusedSimpArgs false
set_option maxRecDepth 100000
set_option maxHeartbeats 4000000
namespace Go
open Go.Sx
def Sp.hlt (d:List C):List C:=sga 0 [0,2,0,0,0,0,0,3,0,0,3,0,0,0,3] (sg 0 [0,2,0,0,0,0,0,3,0,0,3,0,0,0,3,1,0,0,0,0,0,0,0,0,0,0,0,0,3,0,0] d) (.b false::sg 0 [0,0,0,0,0,0,0,0,0,0,0,0,3,0,0] (sg 16 [0,0,0,0,0,0,0,0,0,0,0,0,3,0,0] d))
def Sp.rsD (s:List (List C)) (dr:Int):List C:=Sp.mdV (cutRows s none (some (iMin (iLen s) 300))) (iAdd 1 (iRem dr 2))
end Go
namespace Go
open Go.Sx
theorem Sp.wv_ok {s ch n:Int} (c0:1≤ch) (c1:ch≤8) (n0:0≤n) (n1:n≤65536):Sp.blk ch (Sp.wv s ch n)=true∧((Sp.wv s ch n).length:Int)=n*ch∧((Sp.wv s ch n).length:Int)/ch=n:=by
 have l:=Sp.wv_len s ch n
 rw[Int.toNat_of_nonneg n0,Int.toNat_of_nonneg (show 0≤ch by omega)]at l
 have q:((Sp.wv s ch n).length:Int)/ch=n:=by rw[l,Int.mul_ediv_cancel _ (by omega)]
 refine⟨?_,l,q⟩
 rw[Sp.blk_yes ⟨c0,c1,by rw[l,Int.mul_emod_left],by rw[q]; exact n1⟩]
 refine List.all_eq_true.2 fun x hx=> ?_
 obtain⟨i,_,hx⟩:=List.mem_flatMap.1 hx
 obtain⟨c,_,rfl⟩:=List.mem_map.1 hx
 refine decide_eq_true ?_
 show-8388608≤(((i:Int)*7919+(c:Int)*104729+s*15485863) % 4001-2000)*1000∧(((i:Int)*7919+(c:Int)*104729+s*15485863) % 4001-2000)*1000≤8388607
 omega
end Go
namespace Go.Sx
end Go.Sx

set_option linter.unusedVariables false
set_option linter.unusedSimpArgs false
set_option maxRecDepth 100000
set_option maxHeartbeats 4000000
namespace Go
open Go.Sx
def Sp.cnJ (n i:Int) (d:List C) (t bf:Int):Prop:=(0≤i∧i≤n)∧(Sp.dvV d=true∧qb 15 d=true∧qi 2 d=1)∧qi 13 d≤32∧(t=qi 16 d+i*qi 13 d∧qi 16 d≤100)∧bf=Sp.rsW (Sp.br (Sp.dg d))+qi 26 d∧(0≤qi 26 d∧qi 26 d≤65536*i∧qi 29 d≤50*i∧qi 30 d≤2000*i)
def Sp.cnD (s:List (List C)):List C:=Sp.mdV (cutRows s none (some (iMin (iLen s) 300))) 1
end Go
namespace Go
open Go.Sx
theorem Sp.md_run {l:List (List C)} {r:Int} (h:qb 15 (Sp.mdV l r)=true):Sp.mdE l r=0∧Sp.mdV l r=Sp.run (Sp.mdO l r) (Sp.mdQ l r*Sp.dN (Sp.md7 l r) 3)∧Sp.dvV (Sp.mdV l r)=true:=by
 unfold Sp.mdV at h ⊢
 by_cases he:Sp.mdE l r≠0
 · rw[if_pos he]at h; cases h
 have e0:Sp.mdE l r=0:=Classical.not_not.1 he
 have o:Sp.mdO l r=_:=if_pos e0
 rw[if_neg he]at h ⊢
 by_cases hd:Sp.dN (Sp.md6 l r) 4≤0
 · rw[if_pos hd,o]at h; cases h
 · rw[if_neg hd]at h ⊢
   by_cases hs:Sp.stE (Sp.mdO l r) (iMul (qi 13 (Sp.mdO l r)) (Sp.dN (Sp.md7 l r) 3))=0
   · have i:=Sp.st_in hs
     have q:qi 13 (Sp.mdO l r)=Sp.mdQ l r:=by rw[o]; rfl
     rw[q]at i ⊢
     exact⟨e0,i.2.2.2.2.1,by rw[i.2.2.2.2.1]; exact i.2.2.2.2.2⟩
   · unfold Sp.stR at h; rw[if_neg hs]at h; cases h
theorem Sp.md_f {l:List (List C)} {r:Int} (h:qb 15 (Sp.mdV l r)=true):qi 2 (Sp.mdV l r)=r∧qi 13 (Sp.mdV l r)=Sp.mdQ l r∧(0≤qi 16 (Sp.mdV l r)∧qi 16 (Sp.mdV l r)≤64)∧qi 26 (Sp.mdV l r)=0∧qi 27 (Sp.mdV l r)=0∧qi 29 (Sp.mdV l r)=0∧qi 30 (Sp.mdV l r)=0:=by
 obtain⟨e,m,_⟩:=Sp.md_run h
 have v:=Sp.op_v e
 have o:Sp.mdO l r=_:=v.2.2.2.1
 have bo:=(Sp.bn_ok v.2.2.1).1
 have bo:Sp.oBV (Sp.opU (Sp.dsM l r) (qi 0 (Sp.mdC l r)) (qi 1 (Sp.mdC l r)) (ql 2 (Sp.mdC l r)) (qi 3 (Sp.mdC l r)) (Sp.mdK l r) (Sp.mdR l) (Sp.mdQ l r))=_:=bo
 have Q:=Sp.mdQ_b l r
 have d:=Sp.dN_bd (l:=Sp.md7 l r) (n:=3) (by omega)
 have b:=mul_bd (x:=Sp.mdQ l r) (X:=32) (y:=Sp.dN (Sp.md7 l r) 3) (Y:=2) (by omega) (by omega) (by omega) (by omega)
 rw[m,o,bo]
 exact⟨rfl,rfl,b,rfl,rfl,rfl,rfl⟩
theorem Sp.run_ck {d:List C} {k ch:Int} {da:List (List C)} {a b:Int} (hv:Sp.dvV d=true) (hb:Sp.blk ch da=true) (hk:qi 2 d=k) (hc:ch=((ql 10 d).length:Int)) (he:Sp.duE d a b=0):Sp.ckE d k ch da a b=0∧Sp.ckV d k ch da a b=Sp.duV d a b:=by
 have e:Sp.ckE d k ch da a b=0:=by
  unfold Sp.ckE
  rw[if_neg (by rw[hv,hb]; simp[hk]),if_neg (by omega)]
  exact he
 exact⟨e,if_pos e⟩
theorem Sp.run_py {d:List C} {ch:Int} {da:List (List C)} {a b:Int} (hr:qb 15 d=true) (hc:Sp.ckE d 1 ch da a b=0) (hw:Sp.ckV d 1 ch da a b=Sp.duV d a b):Sp.pyE d ch da a b=Sp.mvE d ch da (Sp.duV d a b)∧Sp.pyC d ch da a b=Sp.mvC d ch da (Sp.duV d a b)∧Sp.pyD d ch da a b=Sp.mvD d ch da (Sp.duV d a b)∧Sp.pyL d ch da a b=Sp.mvL d ch da (Sp.duV d a b)∧Sp.pyM d ch da a b=Sp.mvM d ch da (Sp.duV d a b)∧Sp.pyV d ch da a b=Sp.mvV d ch da (Sp.duV d a b):=by
 have n:¬Sp.ckE d 1 ch da a b≠0:=by omega
 unfold Sp.pyE Sp.pyC Sp.pyD Sp.pyL Sp.pyM Sp.pyV
 rw[if_neg n,if_neg n,if_neg n,if_neg n,if_neg n,if_neg n,hr,hw]
 exact⟨rfl,rfl,rfl,rfl,rfl,rfl⟩
end Go
namespace Go.Sx
def A4 (xs:List (List C)):FuncId→Nat→LoopAnn:=fun _ _=> .on (fun sv0=>match sv0.tmps.getD 5 .undef with| .ref kk _=> .inv (Int×List C×Int×Int) (fun z=>Sp.cnJ (iLen xs) z.1 z.2.1 z.2.2.1 z.2.2.2) (fun z=>[(46,.int .i64 z.1),(7,.int .i64 z.2.2.1),(6,.int .i64 z.2.2.2)]) (fun z=>[(kk,.box (ofCs hV z.2.1) 48)]) [kk] [0,1,4,5,6,7,8,9,10,11,12,13,14,15,16,17,19,22,38,44,45,46,47,76,137] (fun z=>(xs.length-z.1.toNat))|_=> .unroll 0)
def m4_1 (xs:List (List C)) (x:Int×List C×Int×Int):List (List C):=(Sp.wv x.1 (iLen (ql 10 x.2.1)) (iRem (qi 0 (rGet xs x.1)) 50))
def m4_2 (xs:List (List C)) (x:Int×List C×Int×Int):Int:=(Sp.pyL x.2.1 (iLen (ql 10 x.2.1)) (m4_1 xs x) x.2.2.1 (iAdd x.2.2.1 (qi 13 x.2.1)))
def m4_3 (xs:List (List C)) (x:Int×List C×Int×Int):Int:=(Sp.pyM x.2.1 (iLen (ql 10 x.2.1)) (m4_1 xs x) x.2.2.1 (iAdd x.2.2.1 (qi 13 x.2.1)))
def m4_4 (xs:List (List C)) (x:Int×List C×Int×Int):List C:=(Sp.pyV x.2.1 (iLen (ql 10 x.2.1)) (m4_1 xs x) x.2.2.1 (iAdd x.2.2.1 (qi 13 x.2.1)))
def m4_5 (xs:List (List C)) (x:Int×List C×Int×Int):Int:=(Sp.frm (Sp.pyC x.2.1 (iLen (ql 10 x.2.1)) (m4_1 xs x) x.2.2.1 (iAdd x.2.2.1 (qi 13 x.2.1))) (Sp.pyD x.2.1 (iLen (ql 10 x.2.1)) (m4_1 xs x) x.2.2.1 (iAdd x.2.2.1 (qi 13 x.2.1))))
def m4_6 (x:Int×List C×Int×Int):Int:=(Sp.duV x.2.1 x.2.2.1 (iAdd x.2.2.1 (qi 13 x.2.1)))
def m4_0 (s:List (List C)) (xs:List (List C)) (x:Int×List C×Int×Int):Prop:=InR .i64 (iAdd x.2.2.1 (qi 13 x.2.1))∧True∧(InR .i64 (Sp.pyC x.2.1 (iLen (ql 10 x.2.1)) (m4_1 xs x) x.2.2.1 (iAdd x.2.2.1 (qi 13 x.2.1)))∧WL hW (Sp.pyD x.2.1 (iLen (ql 10 x.2.1)) (m4_1 xs x) x.2.2.1 (iAdd x.2.2.1 (qi 13 x.2.1)))∧InR .i64 (m4_2 xs x)∧InR .i64 (m4_3 xs x)∧WD hV (m4_4 xs x)∧InR .i64 (Sp.pyE x.2.1 (iLen (ql 10 x.2.1)) (m4_1 xs x) x.2.2.1 (iAdd x.2.2.1 (qi 13 x.2.1)))→Cn (bNe (Sp.duE x.2.1 x.2.2.1 (iAdd x.2.2.1 (qi 13 x.2.1))) 0) (false=true) (Cn (bNe (Sp.pyE x.2.1 (iLen (ql 10 x.2.1)) (m4_1 xs x) x.2.2.1 (iAdd x.2.2.1 (qi 13 x.2.1))) 0) (false=true) (True∧(InR .i64 (m4_5 xs x)→Cn (bNe (m4_5 xs x) (m4_6 x)) (false=true) (Cn (bLt (m4_2 xs x) 0) (false=true) (Cn (bLt (m4_3 xs x) 0) (false=true) (Cn (bLt (m4_6 x) (m4_3 xs x)) (false=true) (InR .i64 (iAdd (qi 30 x.2.1) (m4_3 xs x))∧Cn (bNe (qi 30 (m4_4 xs x)) (iAdd (qi 30 x.2.1) (m4_3 xs x))) (false=true) (InR .i64 (iAdd (qi 29 x.2.1) (m4_2 xs x))∧Cn (bNe (qi 29 (m4_4 xs x)) (iAdd (qi 29 x.2.1) (m4_2 xs x))) (false=true) (pNe 50 0∧InR .i64 (iSub (iRem (qi 0 (rGet xs x.1)) 50) (m4_2 xs x))∧InR .i64 (iAdd x.2.2.2 (iSub (iRem (qi 0 (rGet xs x.1)) 50) (m4_2 xs x)))∧InR .i64 (iAdd x.2.2.1 (qi 13 x.2.1))∧InR .i64 (iAdd x.1 1)∧Sm s∧Sm xs∧Sm xs∧Sm (iLen xs)∧Sm [C.l (Sp.mdT (cutRows s none (some (iMin (iLen s) 300))) 1)]∧∃(y:Int×List C×Int×Int),Sp.cnJ (iLen xs) y.1 y.2.1 y.2.2.1 y.2.2.2∧iAdd x.1 1=y.1∧iAdd x.2.2.1 (qi 13 x.2.1)=y.2.2.1∧iAdd x.2.2.2 (iSub (iRem (qi 0 (rGet xs x.1)) 50) (m4_2 xs x))=y.2.2.2∧sg 0 [0,2,0,0,0,0,0,3,0,0,3,0,0,0,3,1,0,0,0,0,0,0,0,0,0,0,0,0,3,0,0] (m4_4 xs x)=sg 0 [0,2,0,0,0,0,0,3,0,0,3,0,0,0,3,1,0,0,0,0,0,0,0,0,0,0,0,0,3,0,0] y.2.1∧nLt (xs.length-y.1.toNat) (xs.length-x.1.toNat)))))))))))
theorem v4 (s:List (List C)) (xs:List (List C)):WL hB s∧WL hB xs→True∧True∧Cn (bNot true) (false=true) (pLe (iLen xs) 9223372036854775807→Cn (bLt 12 (iLen xs)) (Sm true) (pLe (iLen s) 9223372036854775807→geB none (some (iMin (iLen s) 300)) (iLen s)∧(Sm (1:Int)∨(1:Int)=2)∧(WD hV (Sp.cnD s)→True∧Cn (bNot (qb 15 (Sp.cnD s))) (Sm true) (InR .i64 (iMul 4 (qi 12 (Sp.cnD s)))∧Cn (bLt (iMul 4 (qi 12 (Sp.cnD s))) (qi 9 (Sp.cnD s))) (Sm true) (True∧(InR .i64 (Sp.bgF (sg 17 [0,0,0,0,0,0,0,0,0,0,0,3,0,0] (Sp.cnD s)))→pLe (iLen xs) 9223372036854775807→(∃(x:Int×List C×Int×Int),Sp.cnJ (iLen xs) x.1 x.2.1 x.2.2.1 x.2.2.2∧0=x.1∧qi 16 (Sp.cnD s)=x.2.2.1∧Sp.bgF (sg 17 [0,0,0,0,0,0,0,0,0,0,0,3,0,0] (Sp.cnD s))=x.2.2.2∧sg 0 [0,2,0,0,0,0,0,3,0,0,3,0,0,0,3,1,0,0,0,0,0,0,0,0,0,0,0,0,3,0,0] (Sp.cnD s)=sg 0 [0,2,0,0,0,0,0,3,0,0,3,0,0,0,3,1,0,0,0,0,0,0,0,0,0,0,0,0,3,0,0] x.2.1)∧∀(x:Int×List C×Int×Int),Sp.cnJ (iLen xs) x.1 x.2.1 x.2.2.1 x.2.2.2→InR .i64 x.1∧InR .i64 x.2.2.1∧InR .i64 x.2.2.2∧WD hV x.2.1→Cn (bLt x.1 (iLen xs)) (pIn 0 (iLen xs) x.1∧(InR .u8 (qi 0 (rGet xs x.1))→pLe (iLen (ql 10 x.2.1)) 9223372036854775807→pNe 50 0∧(Sm (0:Int)∧pLe 0 x.1∧pLe x.1 100∧pLe (iLen (ql 10 x.2.1)) 12∧pLe (iRem (qi 0 (rGet xs x.1)) 50) 70000)∧(InR .i64 (iLen (ql 10 x.2.1))∧WL hW (m4_1 xs x)→InR .i64 (iAdd x.2.2.1 (qi 13 x.2.1))∧True∧(InR .i64 (m4_6 x)∧InR .i64 (Sp.duE x.2.1 x.2.2.1 (iAdd x.2.2.1 (qi 13 x.2.1)))→Cn (bEq (Sp.duE x.2.1 x.2.2.1 (iAdd x.2.2.1 (qi 13 x.2.1))) 0) (Cn (bLt 2000 (m4_6 x)) (Sm true) ((m4_0 s xs x))) ((m4_0 s xs x)))))) (True∧(InR .i64 (Sp.bgF (sg 17 [0,0,0,0,0,0,0,0,0,0,0,3,0,0] x.2.1))→InR .i64 (iAdd (Sp.bgF (sg 17 [0,0,0,0,0,0,0,0,0,0,0,3,0,0] x.2.1)) (qi 26 x.2.1))∧Cn (bEq x.2.2.2 (iAdd (Sp.bgF (sg 17 [0,0,0,0,0,0,0,0,0,0,0,3,0,0] x.2.1)) (qi 26 x.2.1))) (True∧Sp.dvV x.2.1=true) (false=true))))))))):=by
 intro hw
 have R:∀x:Int×List C×Int×Int,x.1<(xs.length:Int)→(xs.length:Int)≤12→InR .u8 (qi 0 (rGet xs x.1))→Sp.cnJ (xs.length:Int) x.1 x.2.1 x.2.2.1 x.2.2.2→Sp.duV x.2.1 x.2.2.1 (x.2.2.1+qi 13 x.2.1)≤2000→m4_0 s xs x:=by
  rintro⟨i,d,t,bf⟩ hl lx u8 ⟨⟨i0,i1⟩,⟨hv,hr,h2⟩,hP,⟨ht,hs⟩,hb,p0,p1,p2,p3⟩ hd
  simp only at hl lx u8 i0 i1 hv hr h2 hP ht hs hb p0 p1 p2 p3 hd
  have v:=Sp.dvV_of hv
  have b1:=Sp.dv_b hv
  have ch:=Sp.ofH_ch v.1.2.1
  have im:=mul_bd (x:=i) (X:=12) (y:=qi 13 d) (Y:=32) i0 (by omega) (by omega) hP
  have du:=Sp.du_q (a:=t) (p:=qi 13 d) hv hr (by omega) (by omega) (by omega) (by omega)
  simp only[InR]at u8
  have nm:(qi 0 (rGet xs i)).tmod 50=qi 0 (rGet xs i) % 50:=Int.tmod_eq_emod_of_nonneg (by omega)
  have w:=Sp.wv_ok (s:=i) (ch:=((ql 10 d).length:Int)) (n:=(qi 0 (rGet xs i)).tmod 50) (by omega) (by omega) (by omega) (by omega)
  obtain⟨c1,c2⟩:=Sp.run_ck (k:=1) hv w.1 h2 rfl du.1
  obtain⟨y1,y2,y3,y4,y5,y6⟩:=Sp.run_py hr c1 c2
  obtain⟨m1,m2,m3,m4,m5,m6,m7,m8,m9,m10,m11,m12,m13⟩:=Sp.mv_ok hv w.1 rfl du.2.2.1 du.2.2.2 (by omega) (by omega) (by omega)
  have W:=(Sp.bgV_of m9.1).2.2
  have l0:0≤qi 29 d:=(Sp.bgV_of v.2.2.1).2.2.2.2.2.1
  have l1:0≤qi 30 d:=(Sp.bgV_of v.2.2.1).2.2.2.2.2.2
  have B0:qi 0 (Sp.mvB d ((ql 10 d).length:Int) (Sp.wv i ((ql 10 d).length:Int) ((qi 0 (rGet xs i)).tmod 50)))=qi 17 d:=by rw[m9.2.2]; rfl
  have rng:∀ {k:Int},-1000000000000≤k→k≤1000000000000→InR .i64 k:=fun a b=>by simp only[InR]; omega
  rw[w.2.2]at m3 m8 m13
  delta m4_1 m4_2 m4_3 m4_4 m4_5 m4_6 m4_0
  simp only[D,E]
  rw[du.1,y1,y2,y3,y4,y5,y6,m1,m2,m3,m4,m5]
  simp only[E,F]
  generalize Sp.puN (Sp.dg d) ((ql 10 d).length:Int) (Sp.wv i ((ql 10 d).length:Int) ((qi 0 (rGet xs i)).tmod 50))=N at*
  have hV:qb 15 (Sp.mvV d ((ql 10 d).length:Int) (Sp.wv i ((ql 10 d).length:Int) ((qi 0 (rGet xs i)).tmod 50)) (Sp.duV d t (t+qi 13 d)))=true∧qi 2 (Sp.mvV d ((ql 10 d).length:Int) (Sp.wv i ((ql 10 d).length:Int) ((qi 0 (rGet xs i)).tmod 50)) (Sp.duV d t (t+qi 13 d)))=1∧qi 13 (Sp.mvV d ((ql 10 d).length:Int) (Sp.wv i ((ql 10 d).length:Int) ((qi 0 (rGet xs i)).tmod 50)) (Sp.duV d t (t+qi 13 d)))=qi 13 d∧qi 16 (Sp.mvV d ((ql 10 d).length:Int) (Sp.wv i ((ql 10 d).length:Int) ((qi 0 (rGet xs i)).tmod 50)) (Sp.duV d t (t+qi 13 d)))=qi 16 d:=by
   rw[m6]; exact⟨hr,h2,rfl,rfl⟩
  generalize Sp.mvV d ((ql 10 d).length:Int) (Sp.wv i ((ql 10 d).length:Int) ((qi 0 (rGet xs i)).tmod 50)) (Sp.duV d t (t+qi 13 d))=d' at*
  generalize Sp.mvB d ((ql 10 d).length:Int) (Sp.wv i ((ql 10 d).length:Int) ((qi 0 (rGet xs i)).tmod 50))=B at*
  generalize Sp.duV d t (t+qi 13 d)=n at*
  generalize Sp.plM B n=M at*
  generalize Sp.frK (Sp.pR B) M=K at*
  have z1:(i+1)*qi 13 d=i*qi 13 d+qi 13 d:=by rw[Int.add_mul,Int.one_mul]
  obtain⟨r1,r2,r3,r4⟩:=hV
  obtain⟨q1,q2,q3,q4⟩:=m13
  refine⟨rng (by omega) (by omega),fun _ _=>⟨fun h=>by omega,fun _=>⟨fun h=>by omega,fun _=>⟨fun h=>by omega,fun _=>⟨rng (by omega) (by omega),fun h=>h q4,fun _=>⟨rng (by omega) (by omega),fun h=>h q3,fun _=>⟨by decide,rng (by omega) (by omega),rng (by omega) (by omega),rng (by omega) (by omega),rng (by omega) (by omega),(i+1,d',_,_),⟨⟨by simp only; omega,by simp only; omega⟩,⟨m7,r1,r2⟩,by simp only; omega,⟨by simp only; rw[r3,r4,z1]; omega,by simp only; omega⟩,by simp only; omega,by simp only; omega,by simp only; omega,by simp only; omega,by simp only; omega⟩,rfl,rfl,rfl,rfl,by simp only; omega⟩⟩⟩⟩⟩⟩⟩
 simp only[D,E,F]
 refine fun hx hx1 hs=>⟨⟨by omega,by omega⟩,fun _ hr=> ?_⟩
 have f:=Sp.md_f (r:=1) hr
 have m:=Sp.md_run (r:=1) hr
 have hv:Sp.dvV (Sp.cnD s)=true:=m.2.2
 have Q:=Sp.mdQ_b (cutRows s none (some (iMin (iLen s) 300))) 1
 have f2:qi 2 (Sp.cnD s)=1:=f.1
 have f3:qi 13 (Sp.cnD s)=Sp.mdQ (cutRows s none (some (iMin (iLen s) 300))) 1:=f.2.1
 have f4:0≤qi 16 (Sp.cnD s)∧qi 16 (Sp.cnD s)≤64:=f.2.2.1
 have f5:qi 26 (Sp.cnD s)=0:=f.2.2.2.1
 have f6:qi 29 (Sp.cnD s)=0:=f.2.2.2.2.2.1
 have f7:qi 30 (Sp.cnD s)=0:=f.2.2.2.2.2.2
 have v:=Sp.dvV_of hv
 have b:=Sp.dv_b hv
 have bF:∀d,Sp.dvV d=true→Sp.bgF (sg 17 [0,0,0,0,0,0,0,0,0,0,0,3,0,0] d)=Sp.rsW (Sp.br (Sp.dg d)):=fun d h=>if_pos (Sp.dvV_of h).2.2.1
 refine⟨by simp only[InR]; omega,fun _ _ _=>⟨⟨(0,Sp.cnD s,qi 16 (Sp.cnD s),Sp.bgF (sg 17 [0,0,0,0,0,0,0,0,0,0,0,3,0,0] (Sp.cnD s))),⟨⟨Int.le_refl _,by simp only; omega⟩,⟨hv,hr,f2⟩,by simp only; omega,⟨by simp only; omega,by simp only; omega⟩,?_,by simp only; omega,by simp only; omega,by simp only; omega,by simp only; omega⟩,rfl,rfl,rfl,rfl⟩,?_⟩⟩
 · simp only
   rw[bF _ hv,f5,Int.add_zero]
 rintro⟨i,d,t,bf⟩ hJ _
 have hJ':=hJ
 obtain⟨⟨i0,i1⟩,⟨jv,jr,j2⟩,jP,⟨jt,js⟩,jb,p0,p1,p2,p3⟩:=hJ
 simp only at i0 i1 jv jr j2 jP jt js jb p0 p1 p2 p3 ⊢
 have jb1:=Sp.dv_b jv
 have jch:=Sp.ofH_ch (Sp.dvV_of jv).1.2.1
 have js0:=(Sp.dvV_of jv).2.1
 have im:=mul_bd (x:=i) (X:=12) (y:=qi 13 d) (Y:=32) i0 (by omega) (by omega) jP
 have W:=(Sp.bgV_of (Sp.dvV_of jv).2.2.1).2.2
 have wb:=Sp.rsW_bd (Sp.bgV_of (Sp.dvV_of jv).2.2.1).1
 rw[bF d jv]
 refine⟨fun hl=>⟨⟨i0,hl⟩,fun u8 _=>⟨by decide,⟨i0,by omega,by omega,?_⟩,fun _=>⟨by simp only[InR]; omega,fun _=>⟨fun _ h=> ?_,fun h=> ?_⟩⟩⟩⟩,fun hl _=>⟨by simp only[InR]; omega,fun _=>jv,fun h=>h (by omega)⟩⟩
 · simp only[InR]at u8
   rw[Int.tmod_eq_emod_of_nonneg (by omega)]; omega
 · exact R (i,d,t,bf) hl (by omega) u8 hJ' (Int.not_lt.1 h)
 · exact(h (Sp.du_q (a:=t) (p:=qi 13 d) jv jr (by omega) (by omega) (by omega) (by omega)).1).elim
theorem u4 (s:List (List C)) (xs:List (List C)):Holds (hyp (wfP.go [.sl [.int .u8] s,.sl [.int .u8] xs]) (vcF PR (look (tbR [r11,r22,r15,r23,r24,r18,r21,r25])) (fun _=>false) (A4 xs) 8 4 [.sl [.int .u8] s,.sl [.int .u8] xs] [] (fun sv _=>isTrue sv))):=Y (v4 s xs)
end Go.Sx

