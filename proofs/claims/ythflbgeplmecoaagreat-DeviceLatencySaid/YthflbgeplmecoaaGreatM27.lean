import Derived.Test.YthflbgeplmecoaaGreatSxUse
import Derived.Test.YthflbgeplmecoaaGreatM26
set_option linter.unusedVariables false
set_option linter.unusedSimpArgs false
set_option maxRecDepth 100000
set_option maxHeartbeats 4000000
namespace Go
open Go.Sx
def Sp.laT (d:List C) (i:Int):Int:=Sp.rsW (Sp.br (Sp.dg d))+(Sp.hoU d i-Sp.hoU d (-1))
def Sp.laL (d:List C) (n:Int):List (List C):=(List.range n.toNat).map fun(i:Nat)=>[.i (Sp.laT d i)]
def Sp.laJ (d0:List C) (k:Int) (d:List C) (t:Int):Prop:=Sp.hoJ d0 k d∧t=Sp.laT d0 (k-1)∧qi 26 d+Sp.rsW (Sp.br (Sp.dg d))=t
def Sp.laI (k i:Int):Prop:=0≤i∧i≤k+1
end Go
namespace Go
open Go.Sx Go.Proofs
theorem Sp.laL_len (d:List C) {n:Int} (h:0≤n):((Sp.laL d n).length:Int)=n:=by
 unfold Sp.laL; rw[List.length_map,List.length_range]; omega
theorem Sp.laL_s (d:List C) {n:Int} (h:0≤n):Sp.laL d n++[[.i (Sp.laT d n)]]=Sp.laL d (n+1):=by
 unfold Sp.laL
 rw[show(n+1).toNat=n.toNat+1 by omega,List.range_succ,List.map_append,List.map_singleton,Int.toNat_of_nonneg h]
theorem Sp.laL_at (d:List C) {n i:Int} (h:0≤i) (h1:i<n):qi 0 (rGet (Sp.laL d n) i)=Sp.laT d i:=by
 have e:rGet (Sp.laL d n) i=[.i (Sp.laT d i)]:=by
  unfold Sp.laL rGet
  simp[List.getD_eq_getElem?_getD,show i.toNat<n.toNat by omega,Int.toNat_of_nonneg h]
 rw[e]; rfl
theorem Sp.cei_nn {n a b:Int} (h:0≤n) (ha:0≤a) (hb:0<b):0≤Sp.ceiV n a b:=by
 unfold Sp.ceiV
 split
 · refine Classical.byContradiction fun q=> ?_
   have:=(Sp.ceiLe (m:=n) (n:= -1) (a:=a) hb).1 (by omega)
   have:=Int.mul_nonneg h ha
   omega
 · exact Int.le_refl _
theorem Sp.la_q {D:List C} {k i:Int} (hv:Sp.dvV D=true) (hk:Sp.krB (ql 14 D) (Sp.nN D) (Sp.nD D) (qi 5 D) (qi 6 D) (qi 13 D) (qi 16 D) (qi 16 D+30*qi 13 D)=true) (i0:0≤i) (ik:i≤k) (k1:k≤29) (h:Sp.qnt D≤k-i):qi 17 D≤Sp.hoU D k-Sp.hoU D i:=by
 have pd:=(Sp.dvV_of hv).1
 have b:=Sp.dv_b hv
 have nm:=Sp.nm_b pd
 obtain⟨kb,kw⟩:=Sp.kr_win hk (by omega) (by omega)
 by_cases h2:qi 2 D=1
 · have q:Sp.qnt D=Sp.up (qi 17 D) (qi 13 D):=if_pos h2
   have u:=(Sp.up_ge (a:=qi 17 D) (b:=qi 13 D) (by omega)).1
   have m:=Int.mul_le_mul_of_nonneg_right (show Sp.up (qi 17 D) (qi 13 D)≤k-i by omega) (show 0≤qi 13 D by omega)
   have U:∀x,Sp.hoU D x=qi 13 D*(x+1):=fun x=>if_pos h2
   rw[U,U,←Int.mul_sub,show k+1- (i+1)=k-i by omega,Int.mul_comm]
   omega
 · have ib:=(Sp.in_b pd).1
   have qn:=Sp.qn_b hv h2
   have cr:=Sp.hoX pd h2
   have j:Sp.jt D=qi 6 D+1:=if_neg h2
   have q:Sp.qnt D=Sp.up ((qi 17 D+Sp.jt D)*65536*Sp.iD D) (Sp.iN D*(65536-qi 5 D)):=if_neg h2
   have u:=(Sp.up_ge (a:=(qi 17 D+Sp.jt D)*65536*Sp.iD D) (b:=Sp.iN D*(65536-qi 5 D)) (by omega)).1
   have m:=Int.mul_le_mul_of_nonneg_right (show Sp.qnt D≤k-i by omega) (show 0≤Sp.iN D*(65536-qi 5 D) by omega)
   rw[←q]at u
   have n:=Int.mul_le_mul_of_nonneg_left (Int.le_trans u m) (show 0≤Sp.nD D by omega)
   have e1:Sp.nD D*((k-i)*(Sp.iN D*(65536-qi 5 D)))=(k-i)*qi 13 D*(Sp.nN D*(65536-qi 5 D))*Sp.iD D:=by
    have:Sp.nD D*((k-i)*(Sp.iN D*(65536-qi 5 D)))=(Sp.nD D*Sp.iN D)*((k-i)*(65536-qi 5 D)):=by grind
    rw[this,←cr]; grind
   have e2:Sp.nD D*((qi 17 D+Sp.jt D)*65536*Sp.iD D)=(qi 17 D+Sp.jt D)*(Sp.nD D*65536)*Sp.iD D:=by grind
   rw[e1,e2]at n
   have n:=Int.le_of_mul_le_mul_right n (by omega)
   obtain⟨_,w,_⟩:=kw (i+1) (k+1) (by omega) (by omega) (by omega)
   rw[show k+1- (i+1)=k-i by omega]at w
   have c:=Int.le_of_mul_le_mul_right (Int.le_trans n w) (show 0<Sp.nD D*65536 by omega)
   have U:∀x,Sp.hoU D x=Sp.tau D (x+1):=fun x=>if_neg h2
   rw[U,U]; omega
theorem Sp.la_in {D d:List C} {k i:Int} (hv:Sp.dvV D=true) (hk:Sp.krB (ql 14 D) (Sp.nN D) (Sp.nD D) (qi 5 D) (qi 6 D) (qi 13 D) (qi 16 D) (qi 16 D+30*qi 13 D)=true) (hj:Sp.hoJ D (k+1) d) (hc:qi 26 d+Sp.rsW (Sp.br (Sp.dg d))=Sp.laT D k) (i0:0≤i) (ik:i≤k) (hg:Sp.ltV D≤(k-i+1)*qi 13 d):Sp.laT D i≤qi 26 d:=by
 obtain⟨⟨_,k1⟩,⟨jv,_⟩,⟨_,g13,_⟩,_,_,g17,_⟩:=Sp.ho_in hj
 have b:=Sp.dv_b hv
 have nm:=Sp.nm_b (Sp.dvV_of hv).1
 have W:Sp.rsW (Sp.br (Sp.dg d))≤qi 17 d:=(Sp.bgV_of (Sp.dvV_of jv).2.2.1).2.2.2.2.1
 have l:Sp.ltV D=(Sp.qnt D+1)*qi 13 D+Sp.lat D:=if_pos hv
 have l0:0≤Sp.lat D:=by
  have e:∀v,Sp.invV (Sp.nN D) (Sp.nD D) v=v:=fun v=>by unfold Sp.invV; rw[nm.2.1]; rfl
  unfold Sp.lat
  rw[e,e]
  exact Sp.cei_nn (by omega) (by omega) (by omega)
 have q:=Int.le_of_mul_le_mul_right (show(Sp.qnt D+1)*qi 13 D≤(k-i+1)*qi 13 D by rw[g13]at hg; omega) (by omega)
 have c:=Sp.la_q hv hk i0 ik (by omega) (show Sp.qnt D≤k-i by omega)
 unfold Sp.laT at hc ⊢
 omega
end Go
namespace Go.Sx
def A9 (s:List (List C)) (dr:Int):FuncId→Nat→LoopAnn:=fun _ ii=>bif Nat.beq ii 16 then .ghost 12 hI 2 (.on (fun sv0=>match sv0.tmps.getD 5 .undef with| .ref kk _=>(match sv0.tmps.getD 12 .undef with| .own rr _=> .inv (Int×List C×Int) (fun z=>Sp.laJ (Sp.rsD s dr) z.1 z.2.1 z.2.2) (fun z=>[(91,.int .i64 z.1),(11,.int .i64 z.2.2),(12,.own rr 0)]) (fun z=>[(kk,.box (ofCs hV z.2.1) 48),(rr,.row hI 2 0 (Sp.laL (Sp.rsD s dr) z.1))]) [kk,rr] [0,1,4,5,6,8,9,10,11,12,13,14,15,16,17,18,19,21,41,58,79,89,90,91,92,110,150,155,156,157,158,179] (fun z=>(30-z.1).toNat)|_=> .unroll 0)|_=> .unroll 0))else .on (fun sv0=>match sv0.tmps.getD 12 .undef with| .own rr _=>(match sv0.tmps.getD 13 .undef with| .int _ ci=> .inv Int (fun z=>Sp.laI ci z) (fun z=>[(157,.int .i64 z)]) (fun _=>[]) [] ([0,1,4,5,6,8,9,10,11,12,13,14,15,16,17,18,19,21,41,58,79,89,90,91,92,110,150,155,156,157,158,179]++[1000000+rr]) (fun z=>(ci+1-z).toNat)|_=> .unroll 0)|_=> .unroll 0)
def m9_5 (s:List (List C)) (dr:Int):List (List C):=(Sp.duL (Sp.rsD s dr) 30)
def m9_4 (s:List (List C)) (dr:Int) (x:Int×List C×Int):List (List C):=(Sp.wv x.1 (iLen (ql 10 (Sp.rsD s dr))) (qi 0 (rGet (m9_5 s dr) x.1)))
def m9_6 (s:List (List C)) (dr:Int) (x:Int×List C×Int):Int:=(Sp.pyE x.2.1 (iLen (ql 10 (Sp.rsD s dr))) (Sp.wv x.1 (iLen (ql 10 (Sp.rsD s dr))) (qi 13 x.2.1)) (iAdd (qi 16 x.2.1) (iMul x.1 (qi 13 x.2.1))) (iAdd (iAdd (qi 16 x.2.1) (iMul x.1 (qi 13 x.2.1))) (qi 13 x.2.1)))
def m9_7 (s:List (List C)) (dr:Int):Int:=(Sp.mkV (qi 9 (Sp.rsD s dr)) (qi 12 (Sp.rsD s dr)) (qi 12 (Sp.rsD s dr)))
def m9_8 (s:List (List C)) (dr:Int):Int:=(Sp.mkV (qi 9 (Sp.rsD s dr)) (qi 12 (Sp.rsD s dr)) (qi 9 (Sp.rsD s dr)))
def m9_9 (s:List (List C)) (dr:Int) (x:Int×List C×Int):List (List C):=(Sp.wv x.1 (iLen (ql 10 (Sp.rsD s dr))) (qi 13 x.2.1))
def m9_0 (s:List (List C)) (dr:Int) (x:Int×List C×Int):List C:=(Sp.pyV x.2.1 (iLen (ql 10 (Sp.rsD s dr))) (m9_9 s dr x) (iAdd (qi 16 x.2.1) (iMul x.1 (qi 13 x.2.1))) (iAdd (iAdd (qi 16 x.2.1) (iMul x.1 (qi 13 x.2.1))) (qi 13 x.2.1)))
def m9_10 (s:List (List C)) (dr:Int) (x:Int×List C×Int):List C:=(Sp.rcV x.2.1 (iLen (ql 10 (Sp.rsD s dr))) (Sp.wv x.1 (iLen (ql 10 (Sp.rsD s dr))) (qi 0 (rGet (m9_5 s dr) x.1))) (qi 13 x.2.1) (iAdd (qi 16 x.2.1) (iMul x.1 (qi 13 x.2.1))) (iAdd (iAdd (qi 16 x.2.1) (iMul x.1 (qi 13 x.2.1))) (qi 13 x.2.1)))
def m9_2 (s:List (List C)) (dr:Int) (x:Int×List C×Int):List C:=(m9_10 s dr x)
def m9_11 (s:List (List C)) (dr:Int):List (List C):=(Sp.mdT (cutRows s none (some (iMin (iLen s) 300))) (iAdd 1 (iRem dr 2)))
def m9_1 (s:List (List C)) (dr:Int) (x:Int×List C×Int) (x_1:Int):Prop:=InR .i64 (iAdd x_1 1)∧Sm s∧Sm dr∧Sm (Sp.ltV (Sp.rsD s dr))∧Sm (Sp.vE (Sp.rsD s dr))∧Sm (iLen (ql 10 (Sp.rsD s dr)))∧Sm (iAdd x.2.2 (qi 0 (rGet (m9_5 s dr) x.1)))∧Sm x.1∧Sm (qi 0 (rGet (m9_5 s dr) x.1))∧Sm (iAdd (qi 16 x.2.1) (iMul x.1 (qi 13 x.2.1)))∧Sm (iAdd (iAdd (qi 16 x.2.1) (iMul x.1 (qi 13 x.2.1))) (qi 13 x.2.1))∧Sm (Sp.rcE x.2.1 (iLen (ql 10 (Sp.rsD s dr))) (Sp.wv x.1 (iLen (ql 10 (Sp.rsD s dr))) (qi 0 (rGet (m9_5 s dr) x.1))) (qi 13 x.2.1) (iAdd (qi 16 x.2.1) (iMul x.1 (qi 13 x.2.1))) (iAdd (iAdd (qi 16 x.2.1) (iMul x.1 (qi 13 x.2.1))) (qi 13 x.2.1)))∧Sm (m9_5 s dr)∧Sm (iLen (m9_5 s dr))∧Sm x.1∧Sm (iLen (Sp.laL (Sp.rsD s dr) x.1++[[C.i (iAdd x.2.2 (qi 0 (rGet (m9_5 s dr) x.1)))]]))∧Sm [C.l (m9_11 s dr)]∧Sm (sg 0 [0,2,0,0,0,0,0,3,0,0,3,0,0,0,3,1,0,0,0,0,0,0,0,0,0,0,0,0,3,0,0] (m9_10 s dr x))∧Sm [C.i (m9_8 s dr),C.i (m9_7 s dr)]∧Sm (Sp.laL (Sp.rsD s dr) x.1++[[C.i (iAdd x.2.2 (qi 0 (rGet (m9_5 s dr) x.1)))]])∧∃(y:Int),Sp.laI x.1 y∧iAdd x_1 1=y∧nLt (x.1+1-y).toNat (x.1+1-x_1).toNat
def m9_3 (s:List (List C)) (dr:Int) (x:Int×List C×Int) (x_1:Int):Prop:=InR .i64 (iAdd x_1 1)∧Sm s∧Sm dr∧Sm (Sp.ltV (Sp.rsD s dr))∧Sm (Sp.vE (Sp.rsD s dr))∧Sm (iLen (ql 10 (Sp.rsD s dr)))∧Sm (iAdd x.2.2 (qi 13 (m9_0 s dr x)))∧Sm x.1∧Sm (qi 0 (rGet (m9_5 s dr) x.1))∧Sm (iAdd (qi 16 x.2.1) (iMul x.1 (qi 13 x.2.1)))∧Sm (iAdd (iAdd (qi 16 x.2.1) (iMul x.1 (qi 13 x.2.1))) (qi 13 x.2.1))∧Sm (m9_6 s dr x)∧Sm (m9_5 s dr)∧Sm (iLen (m9_5 s dr))∧Sm x.1∧Sm (iLen (Sp.laL (Sp.rsD s dr) x.1++[[C.i (iAdd x.2.2 (qi 13 (m9_0 s dr x)))]]))∧Sm [C.l (m9_11 s dr)]∧Sm (sg 0 [0,2,0,0,0,0,0,3,0,0,3,0,0,0,3,1,0,0,0,0,0,0,0,0,0,0,0,0,3,0,0] (m9_0 s dr x))∧Sm [C.i (m9_8 s dr),C.i (m9_7 s dr)]∧Sm (Sp.laL (Sp.rsD s dr) x.1++[[C.i (iAdd x.2.2 (qi 13 (m9_0 s dr x)))]])∧∃(y:Int),Sp.laI x.1 y∧iAdd x_1 1=y∧nLt (x.1+1-y).toNat (x.1+1-x_1).toNat
def m9_12 (s:List (List C)) (dr:Int) (x:Int×List C×Int):Int:=(Sp.rcE x.2.1 (iLen (ql 10 (Sp.rsD s dr))) (m9_4 s dr x) (qi 13 x.2.1) (iAdd (qi 16 x.2.1) (iMul x.1 (qi 13 x.2.1))) (iAdd (iAdd (qi 16 x.2.1) (iMul x.1 (qi 13 x.2.1))) (qi 13 x.2.1)))
theorem v9 (s:List (List C)) (dr:Int):WL hB s∧InR .u8 dr→True∧True∧Cn (bNot true) (false=true) (pLe (iLen s) 9223372036854775807→geB none (some (iMin (iLen s) 300)) (iLen s)∧pNe 2 0∧InR .i64 (iAdd 1 (iRem dr 2))∧(iAdd 1 (iRem dr 2)=1∨iAdd 1 (iRem dr 2)=2)∧(WD hV (Sp.rsD s dr)→True∧Cn (bNot (qb 15 (Sp.rsD s dr))) (Sm true) (InR .i64 (iMul 4 (qi 12 (Sp.rsD s dr)))∧Cn (bLt (iMul 4 (qi 12 (Sp.rsD s dr))) (qi 9 (Sp.rsD s dr))) (Sm true) (True∧(InR .i64 (m9_8 s dr)∧InR .i64 (m9_7 s dr)∧InR .i64 (Sp.mkE (qi 9 (Sp.rsD s dr)) (qi 12 (Sp.rsD s dr)))→True∧(InR .i64 (Sp.ltV (Sp.rsD s dr))∧InR .i64 (Sp.vE (Sp.rsD s dr))→Cn (bNe (Sp.vE (Sp.rsD s dr)) 0) (false=true) (InR .i64 (iMul 30 (qi 13 (Sp.rsD s dr)))∧InR .i64 (iAdd (qi 16 (Sp.rsD s dr)) (iMul 30 (qi 13 (Sp.rsD s dr))))∧True∧True∧Cn (bNot (Sp.krB (ql 14 (Sp.rsD s dr)) (m9_8 s dr) (m9_7 s dr) (qi 5 (Sp.rsD s dr)) (qi 6 (Sp.rsD s dr)) (qi 13 (Sp.rsD s dr)) (qi 16 (Sp.rsD s dr)) (iAdd (qi 16 (Sp.rsD s dr)) (iMul 30 (qi 13 (Sp.rsD s dr)))))) (Sm true) (pLe (iLen (ql 10 (Sp.rsD s dr))) 9223372036854775807→True∧(InR .i64 (Sp.bgF (sg 17 [0,0,0,0,0,0,0,0,0,0,0,3,0,0] (Sp.rsD s dr)))→(Sp.dvV (Sp.rsD s dr)=true∧pLe 0 30∧pLe 30 1000)∧(WL hI (m9_5 s dr)→pLe (iLen (m9_5 s dr)) 9223372036854775807→(∃(x:Int×List C×Int),Sp.laJ (Sp.rsD s dr) x.1 x.2.1 x.2.2∧0=x.1∧Sp.bgF (sg 17 [0,0,0,0,0,0,0,0,0,0,0,3,0,0] (Sp.rsD s dr))=x.2.2∧sg 0 [0,2,0,0,0,0,0,3,0,0,3,0,0,0,3,1,0,0,0,0,0,0,0,0,0,0,0,0,3,0,0] (Sp.rsD s dr)=sg 0 [0,2,0,0,0,0,0,3,0,0,3,0,0,0,3,1,0,0,0,0,0,0,0,0,0,0,0,0,3,0,0] x.2.1∧[]=Sp.laL (Sp.rsD s dr) x.1)∧∀(x:Int×List C×Int),Sp.laJ (Sp.rsD s dr) x.1 x.2.1 x.2.2→InR .i64 x.1∧InR .i64 x.2.2∧WD hV x.2.1∧WL hI (Sp.laL (Sp.rsD s dr) x.1)→Cn (bLt x.1 (iLen (m9_5 s dr))) (pIn 0 (iLen (m9_5 s dr)) x.1∧(InR .i64 (qi 0 (rGet (m9_5 s dr) x.1))→InR .i64 (iMul x.1 (qi 13 x.2.1))∧InR .i64 (iAdd (qi 16 x.2.1) (iMul x.1 (qi 13 x.2.1)))∧InR .i64 (iAdd (iAdd (qi 16 x.2.1) (iMul x.1 (qi 13 x.2.1))) (qi 13 x.2.1))∧Cn (bEq (qi 2 x.2.1) 1) ((Sm (0:Int)∧pLe 0 x.1∧pLe x.1 100∧pLe (iLen (ql 10 (Sp.rsD s dr))) 12∧pLe (qi 13 x.2.1) 70000)∧(InR .i64 (iLen (ql 10 (Sp.rsD s dr)))∧WL hW (m9_9 s dr x)→True∧(InR .i64 (Sp.pyC x.2.1 (iLen (ql 10 (Sp.rsD s dr))) (m9_9 s dr x) (iAdd (qi 16 x.2.1) (iMul x.1 (qi 13 x.2.1))) (iAdd (iAdd (qi 16 x.2.1) (iMul x.1 (qi 13 x.2.1))) (qi 13 x.2.1)))∧WL hW (Sp.pyD x.2.1 (iLen (ql 10 (Sp.rsD s dr))) (m9_9 s dr x) (iAdd (qi 16 x.2.1) (iMul x.1 (qi 13 x.2.1))) (iAdd (iAdd (qi 16 x.2.1) (iMul x.1 (qi 13 x.2.1))) (qi 13 x.2.1)))∧InR .i64 (Sp.pyL x.2.1 (iLen (ql 10 (Sp.rsD s dr))) (m9_9 s dr x) (iAdd (qi 16 x.2.1) (iMul x.1 (qi 13 x.2.1))) (iAdd (iAdd (qi 16 x.2.1) (iMul x.1 (qi 13 x.2.1))) (qi 13 x.2.1)))∧InR .i64 (Sp.pyM x.2.1 (iLen (ql 10 (Sp.rsD s dr))) (m9_9 s dr x) (iAdd (qi 16 x.2.1) (iMul x.1 (qi 13 x.2.1))) (iAdd (iAdd (qi 16 x.2.1) (iMul x.1 (qi 13 x.2.1))) (qi 13 x.2.1)))∧WD hV (m9_0 s dr x)∧InR .i64 (m9_6 s dr x)→InR .i64 (iAdd x.2.2 (qi 13 (m9_0 s dr x)))∧Cn (bNe (m9_6 s dr x) 0) (false=true) (pRoom 8 (iLen (Sp.laL (Sp.rsD s dr) x.1++[[C.i (iAdd x.2.2 (qi 13 (m9_0 s dr x)))]]))∧(pLe (iLen (Sp.laL (Sp.rsD s dr) x.1++[[C.i (iAdd x.2.2 (qi 13 (m9_0 s dr x)))]])) 9223372036854775807→(∃(x_1:Int),Sp.laI x.1 x_1∧0=x_1)∧∀(x_1:Int),Sp.laI x.1 x_1→InR .i64 x_1→Cn (bLt x_1 (iLen (Sp.laL (Sp.rsD s dr) x.1++[[C.i (iAdd x.2.2 (qi 13 (m9_0 s dr x)))]]))) (pIn 0 (iLen (Sp.laL (Sp.rsD s dr) x.1++[[C.i (iAdd x.2.2 (qi 13 (m9_0 s dr x)))]])) x_1∧(InR .i64 (qi 0 (rGet (Sp.laL (Sp.rsD s dr) x.1++[[C.i (iAdd x.2.2 (qi 13 (m9_0 s dr x)))]]) x_1))→InR .i64 (iSub x.1 x_1)∧InR .i64 (iAdd (iSub x.1 x_1) 1)∧InR .i64 (iMul (iAdd (iSub x.1 x_1) 1) (qi 13 (m9_0 s dr x)))∧Cn (bLe (Sp.ltV (Sp.rsD s dr)) (iMul (iAdd (iSub x.1 x_1) 1) (qi 13 (m9_0 s dr x)))) (Cn (bLt (qi 26 (m9_0 s dr x)) (qi 0 (rGet (Sp.laL (Sp.rsD s dr) x.1++[[C.i (iAdd x.2.2 (qi 13 (m9_0 s dr x)))]]) x_1))) (false=true) ((m9_3 s dr x x_1))) ((m9_3 s dr x x_1)))) (InR .i64 (iAdd x.1 1)∧Sm s∧Sm dr∧Sm (Sp.ltV (Sp.rsD s dr))∧Sm (Sp.vE (Sp.rsD s dr))∧Sm (iLen (ql 10 (Sp.rsD s dr)))∧Sm (m9_5 s dr)∧Sm (iLen (m9_5 s dr))∧Sm [C.l (m9_11 s dr)]∧Sm [C.i (m9_8 s dr),C.i (m9_7 s dr)]∧∃(y:Int×List C×Int),Sp.laJ (Sp.rsD s dr) y.1 y.2.1 y.2.2∧iAdd x.1 1=y.1∧iAdd x.2.2 (qi 13 (m9_0 s dr x))=y.2.2∧sg 0 [0,2,0,0,0,0,0,3,0,0,3,0,0,0,3,1,0,0,0,0,0,0,0,0,0,0,0,0,3,0,0] (m9_0 s dr x)=sg 0 [0,2,0,0,0,0,0,3,0,0,3,0,0,0,3,1,0,0,0,0,0,0,0,0,0,0,0,0,3,0,0] y.2.1∧Sp.laL (Sp.rsD s dr) x.1++[[C.i (iAdd x.2.2 (qi 13 (m9_0 s dr x)))]]=Sp.laL (Sp.rsD s dr) y.1∧nLt (30-y.1).toNat (30-x.1).toNat)))))) ((Sm (0:Int)∧pLe 0 x.1∧pLe x.1 100∧pLe (iLen (ql 10 (Sp.rsD s dr))) 12∧pLe (qi 0 (rGet (m9_5 s dr) x.1)) 70000)∧(InR .i64 (iLen (ql 10 (Sp.rsD s dr)))∧WL hW (m9_4 s dr x)→True∧(InR .i64 (Sp.rcC x.2.1 (iLen (ql 10 (Sp.rsD s dr))) (m9_4 s dr x) (qi 13 x.2.1) (iAdd (qi 16 x.2.1) (iMul x.1 (qi 13 x.2.1))) (iAdd (iAdd (qi 16 x.2.1) (iMul x.1 (qi 13 x.2.1))) (qi 13 x.2.1)))∧WL hW (Sp.rcD x.2.1 (iLen (ql 10 (Sp.rsD s dr))) (m9_4 s dr x) (qi 13 x.2.1) (iAdd (qi 16 x.2.1) (iMul x.1 (qi 13 x.2.1))) (iAdd (iAdd (qi 16 x.2.1) (iMul x.1 (qi 13 x.2.1))) (qi 13 x.2.1)))∧InR .i64 (Sp.rcL x.2.1 (iLen (ql 10 (Sp.rsD s dr))) (m9_4 s dr x) (qi 13 x.2.1) (iAdd (qi 16 x.2.1) (iMul x.1 (qi 13 x.2.1))) (iAdd (iAdd (qi 16 x.2.1) (iMul x.1 (qi 13 x.2.1))) (qi 13 x.2.1)))∧InR .i64 (Sp.rcM x.2.1 (iLen (ql 10 (Sp.rsD s dr))) (m9_4 s dr x) (qi 13 x.2.1) (iAdd (qi 16 x.2.1) (iMul x.1 (qi 13 x.2.1))) (iAdd (iAdd (qi 16 x.2.1) (iMul x.1 (qi 13 x.2.1))) (qi 13 x.2.1)))∧WD hV (m9_2 s dr x)∧InR .i64 (m9_12 s dr x)→InR .i64 (iAdd x.2.2 (qi 0 (rGet (m9_5 s dr) x.1)))∧Cn (bNe (m9_12 s dr x) 0) (false=true) (pRoom 8 (iLen (Sp.laL (Sp.rsD s dr) x.1++[[C.i (iAdd x.2.2 (qi 0 (rGet (m9_5 s dr) x.1)))]]))∧(pLe (iLen (Sp.laL (Sp.rsD s dr) x.1++[[C.i (iAdd x.2.2 (qi 0 (rGet (m9_5 s dr) x.1)))]])) 9223372036854775807→(∃(x_1:Int),Sp.laI x.1 x_1∧0=x_1)∧∀(x_1:Int),Sp.laI x.1 x_1→InR .i64 x_1→Cn (bLt x_1 (iLen (Sp.laL (Sp.rsD s dr) x.1++[[C.i (iAdd x.2.2 (qi 0 (rGet (m9_5 s dr) x.1)))]]))) (pIn 0 (iLen (Sp.laL (Sp.rsD s dr) x.1++[[C.i (iAdd x.2.2 (qi 0 (rGet (m9_5 s dr) x.1)))]])) x_1∧(InR .i64 (qi 0 (rGet (Sp.laL (Sp.rsD s dr) x.1++[[C.i (iAdd x.2.2 (qi 0 (rGet (m9_5 s dr) x.1)))]]) x_1))→InR .i64 (iSub x.1 x_1)∧InR .i64 (iAdd (iSub x.1 x_1) 1)∧InR .i64 (iMul (iAdd (iSub x.1 x_1) 1) (qi 13 (m9_2 s dr x)))∧Cn (bLe (Sp.ltV (Sp.rsD s dr)) (iMul (iAdd (iSub x.1 x_1) 1) (qi 13 (m9_2 s dr x)))) (Cn (bLt (qi 26 (m9_2 s dr x)) (qi 0 (rGet (Sp.laL (Sp.rsD s dr) x.1++[[C.i (iAdd x.2.2 (qi 0 (rGet (m9_5 s dr) x.1)))]]) x_1))) (false=true) ((m9_1 s dr x x_1))) ((m9_1 s dr x x_1)))) (InR .i64 (iAdd x.1 1)∧Sm s∧Sm dr∧Sm (Sp.ltV (Sp.rsD s dr))∧Sm (Sp.vE (Sp.rsD s dr))∧Sm (iLen (ql 10 (Sp.rsD s dr)))∧Sm (m9_5 s dr)∧Sm (iLen (m9_5 s dr))∧Sm [C.l (m9_11 s dr)]∧Sm [C.i (m9_8 s dr),C.i (m9_7 s dr)]∧∃(y:Int×List C×Int),Sp.laJ (Sp.rsD s dr) y.1 y.2.1 y.2.2∧iAdd x.1 1=y.1∧iAdd x.2.2 (qi 0 (rGet (m9_5 s dr) x.1))=y.2.2∧sg 0 [0,2,0,0,0,0,0,3,0,0,3,0,0,0,3,1,0,0,0,0,0,0,0,0,0,0,0,0,3,0,0] (m9_2 s dr x)=sg 0 [0,2,0,0,0,0,0,3,0,0,3,0,0,0,3,1,0,0,0,0,0,0,0,0,0,0,0,0,3,0,0] y.2.1∧Sp.laL (Sp.rsD s dr) x.1++[[C.i (iAdd x.2.2 (qi 0 (rGet (m9_5 s dr) x.1)))]]=Sp.laL (Sp.rsD s dr) y.1∧nLt (30-y.1).toNat (30-x.1).toNat)))))))) (Sm true))))))))))):=by
 intro hw
 have d0:0≤dr∧dr≤255:=by have:=hw.2; simp only[InR]at this; omega
 have dm:dr.tmod 2=dr % 2:=Int.tmod_eq_emod_of_nonneg d0.1
 have rng:∀ {k:Int},-1000000000000≤k→k≤1000000000000→InR .i64 k:=fun a b=>by simp only[InR]; omega
 delta m9_1 m9_3
 simp only[D,E,F]
 refine fun _=>⟨⟨by omega,by omega⟩,by decide,rng (by omega) (by omega),by omega,fun _ hr=> ?_⟩
 have f:=Sp.md_f (r:=iAdd 1 (iRem dr 2)) hr
 have hv:Sp.dvV (Sp.rsD s dr)=true:=(Sp.md_run (r:=iAdd 1 (iRem dr 2)) hr).2.2
 have Q:=Sp.mdQ_b (cutRows s none (some (iMin (iLen s) 300))) (iAdd 1 (iRem dr 2))
 have f2:qi 2 (Sp.rsD s dr)=1+dr.tmod 2:=f.1
 have f3:qi 13 (Sp.rsD s dr)=Sp.mdQ (cutRows s none (some (iMin (iLen s) 300))) (iAdd 1 (iRem dr 2)):=f.2.1
 have f4:0≤qi 16 (Sp.rsD s dr)∧qi 16 (Sp.rsD s dr)≤64:=f.2.2.1
 have f5:qi 26 (Sp.rsD s dr)=0:=f.2.2.2.1
 have b:=Sp.dv_b hv
 have bF:Sp.bgF (sg 17 [0,0,0,0,0,0,0,0,0,0,0,3,0,0] (Sp.rsD s dr))=Sp.rsW (Sp.br (Sp.dg (Sp.rsD s dr))):=if_pos (Sp.dvV_of hv).2.2.1
 have T0:Sp.laT (Sp.rsD s dr) (-1)=Sp.rsW (Sp.br (Sp.dg (Sp.rsD s dr))):=by unfold Sp.laT; omega
 refine⟨rng (by omega) (by omega),fun _ _ _=>⟨fun h=>(h (if_pos hv)).elim,fun _=>⟨rng (by omega) (by omega),rng (by omega) (by omega),fun hk _ _=>⟨⟨hv,by decide,by decide⟩,fun _ _=>⟨⟨(0,Sp.rsD s dr,Sp.rsW (Sp.br (Sp.dg (Sp.rsD s dr)))),⟨Sp.ho_md hr hk,T0.symm,by show qi 26 (Sp.rsD s dr)+Sp.rsW (Sp.br (Sp.dg (Sp.rsD s dr)))=Sp.rsW (Sp.br (Sp.dg (Sp.rsD s dr))); omega⟩,rfl,bF,rfl,rfl⟩,?_⟩⟩⟩⟩⟩
 have L:=Sp.duL_len (Sp.rsD s dr) (n:=30) (by decide)
 have L':((m9_5 s dr).length:Int)=30:=L
 rw[L']
 rintro⟨k,d,t⟩ ⟨hj,ht,hs⟩ _
 simp only at hj ht hs ⊢
 obtain⟨⟨k0,k1⟩,⟨jv,jr⟩,⟨g2,g13,g16,g14,g10⟩,l1,l2,_⟩:=Sp.ho_in hj
 have oc:=Sp.ofH_ch (Sp.dvV_of hv).1.2.1
 refine fun hl=>⟨⟨k0,hl⟩,fun _=> ?_⟩
 have km:=mul_bd (x:=k) (X:=30) (y:=qi 13 d) (Y:=63) k0 (by omega) (by omega) (by omega)
 have du:=Sp.ho_due hj (by omega) (by omega) (by omega)
 have at_:qi 0 (rGet (m9_5 s dr) k)=Sp.tau (Sp.rsD s dr) (k+1)-Sp.tau (Sp.rsD s dr) k:=(Sp.duL_at (Sp.rsD s dr) (n:=30) k0 hl).trans du.2.2.2.2
 have lk:=Sp.laL_len (Sp.rsD s dr) k0
 have tk:Sp.laT (Sp.rsD s dr) k=t+(Sp.hoU (Sp.rsD s dr) k-Sp.hoU (Sp.rsD s dr) (k-1)):=by rw[ht]; unfold Sp.laT; omega
 rw[at_]
 refine⟨rng (by omega) (by omega),rng (by omega) (by omega),rng (by omega) (by omega),fun h2=>⟨⟨k0,by omega,by omega,by omega⟩,fun _ _=> ?_⟩,fun h2=>⟨⟨k0,by omega,by omega,by omega⟩,fun _ _=> ?_⟩⟩
 · have U:∀x,Sp.hoU (Sp.rsD s dr) x=qi 13 (Sp.rsD s dr)*(x+1):=fun x=>if_pos (g2.symm.trans h2)
   have y:=Sp.ho_py (s:=k) (ch:=((ql 10 (Sp.rsD s dr)).length:Int)) hj (by omega) (by omega) (by omega) (g2.symm.trans h2) rfl
   have eV:m9_0 s dr (k,d,t)=Sp.pyV d ((ql 10 (Sp.rsD s dr)).length:Int) (Sp.wv k ((ql 10 (Sp.rsD s dr)).length:Int) (qi 13 d)) (qi 16 d+k*qi 13 d) (qi 16 d+k*qi 13 d+qi 13 d):=rfl
   delta m9_6
   simp only[D]
   rw[eV]
   obtain⟨⟨_,_⟩,⟨jv',_⟩,⟨_,g13',_⟩,_,_,g17',p0,p1⟩:=Sp.ho_in y.2.2.2.2.1
   have W:=(Sp.bgV_of (Sp.dvV_of jv').2.2.1).2.2
   have wb:=Sp.rsW_bd (Sp.bgV_of (Sp.dvV_of jv').2.2.1).1
   have hc:=y.2.2.2.2.2
   generalize Sp.pyV d ((ql 10 (Sp.rsD s dr)).length:Int) (Sp.wv k ((ql 10 (Sp.rsD s dr)).length:Int) (qi 13 d)) (qi 16 d+k*qi 13 d) (qi 16 d+k*qi 13 d+qi 13 d)=d' at*
   have eT:t+qi 13 d'=Sp.laT (Sp.rsD s dr) k:=by rw[tk,U,U,g13',←Int.mul_sub,show k+1- (k-1+1)=1 by omega,Int.mul_one]
   rw[eT,Sp.laL_s _ k0,Sp.laL_len _ (show 0≤k+1 by omega)]
   refine⟨rng (by omega) (by omega),fun h=>(h y.1).elim,fun _=>⟨by omega,fun _=>⟨⟨0,⟨by omega,by omega⟩,rfl⟩,fun i hi _=>⟨fun hl=>⟨⟨hi.1,hl⟩,fun _=> ?_⟩,fun _=>⟨rng (by omega) (by omega),(k+1,d',Sp.laT (Sp.rsD s dr) k),⟨y.2.2.2.2.1,by show _=Sp.laT _ (k+1-1); rw[Int.add_sub_cancel],by show qi 26 d'+Sp.rsW (Sp.br (Sp.dg d'))=Sp.laT (Sp.rsD s dr) k; omega⟩,rfl,rfl,rfl,rfl,by simp only; omega⟩⟩⟩⟩⟩
   have i0:=hi.1
   have im:=mul_bd (x:=k-i+1) (X:=31) (y:=qi 13 d') (Y:=63) (by omega) (by omega) (by omega) (by omega)
   rw[Sp.laL_at _ hi.1 hl]
   exact⟨rng (by omega) (by omega),rng (by omega) (by omega),rng (by omega) (by omega),fun hg=>⟨fun hb=>absurd (Sp.la_in hv hk y.2.2.2.2.1 (by omega) i0 (by omega) hg) (by omega),fun _=>⟨rng (by omega) (by omega),i+1,⟨by omega,by omega⟩,rfl,by omega⟩⟩,fun _=>⟨rng (by omega) (by omega),i+1,⟨by omega,by omega⟩,rfl,by omega⟩⟩
 · have n2:¬qi 2 (Sp.rsD s dr)=1:=fun h=>h2 (g2.trans h)
   have U:∀x,Sp.hoU (Sp.rsD s dr) x=Sp.tau (Sp.rsD s dr) (x+1):=fun x=>if_neg n2
   have y:=Sp.ho_rc (s:=k) (ch:=((ql 10 (Sp.rsD s dr)).length:Int)) hj (by omega) (by omega) (by omega) (by omega) rfl rfl
   have eV:m9_2 s dr (k,d,t)=Sp.rcV d ((ql 10 (Sp.rsD s dr)).length:Int) (Sp.wv k ((ql 10 (Sp.rsD s dr)).length:Int) (Sp.tau (Sp.rsD s dr) (k+1)-Sp.tau (Sp.rsD s dr) k)) (qi 13 d) (qi 16 d+k*qi 13 d) (qi 16 d+k*qi 13 d+qi 13 d):=by
    show Sp.rcV d _ (Sp.wv k _ (qi 0 (rGet (m9_5 s dr) k))) _ _ _=_
    rw[at_]
   have eE:m9_12 s dr (k,d,t)=Sp.rcE d ((ql 10 (Sp.rsD s dr)).length:Int) (Sp.wv k ((ql 10 (Sp.rsD s dr)).length:Int) (Sp.tau (Sp.rsD s dr) (k+1)-Sp.tau (Sp.rsD s dr) k)) (qi 13 d) (qi 16 d+k*qi 13 d) (qi 16 d+k*qi 13 d+qi 13 d):=by
    show Sp.rcE d _ (Sp.wv k _ (qi 0 (rGet (m9_5 s dr) k))) _ _ _=_
    rw[at_]
   rw[eE,eV]
   obtain⟨⟨_,_⟩,⟨jv',_⟩,⟨_,g13',_⟩,_,_,g17',p0,p1⟩:=Sp.ho_in y.2.2.2.2.1
   have W:=(Sp.bgV_of (Sp.dvV_of jv').2.2.1).2.2
   have wb:=Sp.rsW_bd (Sp.bgV_of (Sp.dvV_of jv').2.2.1).1
   have hc:=y.2.2.2.2.2
   generalize Sp.rcV d ((ql 10 (Sp.rsD s dr)).length:Int) (Sp.wv k ((ql 10 (Sp.rsD s dr)).length:Int) (Sp.tau (Sp.rsD s dr) (k+1)-Sp.tau (Sp.rsD s dr) k)) (qi 13 d) (qi 16 d+k*qi 13 d) (qi 16 d+k*qi 13 d+qi 13 d)=d' at*
   have eT:t+(Sp.tau (Sp.rsD s dr) (k+1)-Sp.tau (Sp.rsD s dr) k)=Sp.laT (Sp.rsD s dr) k:=by rw[tk,U,U,Int.sub_add_cancel]
   rw[eT,Sp.laL_s _ k0,Sp.laL_len _ (show 0≤k+1 by omega)]
   refine⟨rng (by omega) (by omega),fun h=>(h y.1).elim,fun _=>⟨by omega,fun _=>⟨⟨0,⟨by omega,by omega⟩,rfl⟩,fun i hi _=>⟨fun hl=>⟨⟨hi.1,hl⟩,fun _=> ?_⟩,fun _=>⟨rng (by omega) (by omega),(k+1,d',Sp.laT (Sp.rsD s dr) k),⟨y.2.2.2.2.1,by show _=Sp.laT _ (k+1-1); rw[Int.add_sub_cancel],by show qi 26 d'+Sp.rsW (Sp.br (Sp.dg d'))=Sp.laT (Sp.rsD s dr) k; omega⟩,rfl,rfl,rfl,rfl,by simp only; omega⟩⟩⟩⟩⟩
   have i0:=hi.1
   have im:=mul_bd (x:=k-i+1) (X:=31) (y:=qi 13 d') (Y:=63) (by omega) (by omega) (by omega) (by omega)
   rw[Sp.laL_at _ hi.1 hl]
   exact⟨rng (by omega) (by omega),rng (by omega) (by omega),rng (by omega) (by omega),fun hg=>⟨fun hb=>absurd (Sp.la_in hv hk y.2.2.2.2.1 (by omega) i0 (by omega) hg) (by omega),fun _=>⟨rng (by omega) (by omega),i+1,⟨by omega,by omega⟩,rfl,by omega⟩⟩,fun _=>⟨rng (by omega) (by omega),i+1,⟨by omega,by omega⟩,rfl,by omega⟩⟩
theorem u9 (s:List (List C)) (dr:Int):Holds (hyp (wfP.go [.sl [.int .u8] s,.int .u8 dr]) (vcF PR (look (tbR [r11,r22,r34,r45,r35,r15,r36,r23,r18,r32])) (fun _=>false) (A9 s dr) 8 9 [.sl [.int .u8] s,.int .u8 dr] [] (fun sv _=>isTrue sv))):=Y (v9 s dr)
end Go.Sx

