import Derived.Test.YthflbgeplmecoaaGreatSxUse
import Derived.Test.YthflbgeplmecoaaGreatM25
import Derived.Test.YthflbgeplmecoaaGreatM18
set_option linter.unusedVariables false
set_option linter.unusedSimpArgs false
set_option maxRecDepth 100000
set_option maxHeartbeats 4000000
noncomputable section
namespace Go
open Go.Sx
def Sp.wkV (d:List C) (xs:List (List C)):Bool:=Sp.dvV d&&Sp.zdecld (Sp.bN d) (Sp.bD d) (Sp.iN d) (Sp.iD d) (qi 5 d) (Sp.jt d) xs
def Sp.wk0 (s:List (List C)):List (List C):=cutRows s none (some (iMin (iLen s) 300))
def Sp.wk1 (s:List (List C)):List C:=Sp.mdV (Sp.dT (Sp.wk0 s) 2) (iAdd 1 (Sp.dN (Sp.wk0 s) 2))
def Sp.wk2 (s:List (List C)):List (List C):=Sp.mdT (Sp.dT (Sp.wk0 s) 2) (iAdd 1 (Sp.dN (Sp.wk0 s) 2))
def Sp.wkI (k:Int) (ms:List (List C)):Prop:=0≤k∧k≤11∧(ms.length:Int)+k≤11
end Go
namespace Go.Sx
theorem v51 (d:List C) (xs:List (List C)):WD hV d∧WL hII xs→True∧Cn (Sp.dvV d) (True∧(InR .i64 (Sp.bN d)∧InR .i64 (Sp.bD d)→(pLe 0 (qi 13 d)∧pLe (qi 13 d) 8192∧pLe 0 (qi 9 d)∧pLe (qi 9 d) 768000)∧(InR .i64 (Sp.iN d)∧InR .i64 (Sp.iD d)→(pLe 0 (qi 6 d)∧pLe (qi 6 d) 4096)∧(InR .i64 (Sp.jt d)→True∧Sp.zdecld (Sp.bN d) (Sp.bD d) (Sp.iN d) (Sp.iD d) (qi 5 d) (Sp.jt d) xs=Sp.wkV d xs)))) (false=Sp.wkV d xs):=by
 intro hw
 simp only[D,E,Sp.wkV]
 cases hv:Sp.dvV d
 · exact⟨fun h=>(by cases h),fun _=>rfl⟩
 have b:=Sp.dv_b hv
 simp only[Bool.true_and]
 exact⟨fun _ _=>⟨⟨by omega,by omega,by omega,by omega⟩,fun _=>⟨⟨by omega,by omega⟩,fun _=>trivial⟩⟩,fun h=>(by cases h)⟩
def r51:Cr PR:=K0 [r64,r103,r86,r87,r110] 51 6 {ps:=[(true,hV),(false,[.sl hII])],rs:=[(false,[.bool])],pre:=fun _=>True,out:=fun a=>[[.b (Sp.wkV (arg 0 a) (L a 1 0))]]} U fun a=>Y (v51 (arg 0 a) (L a 1 0))
end Go.Sx
namespace Go.Sx
theorem v52 (d:List C) (xs:List (List C)):WD hV d∧WL hII xs→True∧Cn (Sp.dvV d) (True∧(InR .i64 (Sp.bN d)∧InR .i64 (Sp.bD d)→(pLe 16 (qi 13 d)∧pLe (qi 13 d) 8192∧pLe 1 (qi 9 d)∧pLe (qi 9 d) 768000∧pLe 1 (qi 12 d)∧pLe (qi 12 d) 192000∧(qi 2 d=1∨qi 2 d=2))∧(InR .i64 (Sp.iN d)∧InR .i64 (Sp.iD d)→(pLe 0 (qi 6 d)∧pLe (qi 6 d) 4096∧(qi 2 d=1∨qi 2 d=2))∧(InR .i64 (Sp.jt d)→True∧Sp.zrdecl (Sp.bN d) (Sp.bD d) (Sp.iN d) (Sp.iD d) (qi 5 d) (Sp.jt d) xs=Sp.wkV d xs)))) (false=Sp.wkV d xs):=by
 intro hw
 simp only[D,E,Sp.wkV]
 cases hv:Sp.dvV d
 · exact⟨fun h=>(by cases h),fun _=>rfl⟩
 have b:=Sp.dv_b hv
 simp only[Bool.true_and]
 exact⟨fun _ _=>⟨⟨by omega,by omega,by omega,by omega,by omega,by omega,by omega⟩,fun _=>⟨⟨by omega,by omega,by omega⟩,fun _=>(Sp.zdecld_eq _ _ _ _ _ _ _).symm⟩⟩,fun h=>(by cases h)⟩
def r52:Cr PR:=K0 [r47,r95,r106,r108,r111] 52 6 {ps:=[(true,hV),(false,[.sl hII])],rs:=[(false,[.bool])],pre:=fun _=>True,out:=fun a=>[[.b (Sp.wkV (arg 0 a) (L a 1 0))]]} U fun a=>Y (v52 (arg 0 a) (L a 1 0))
end Go.Sx
namespace Go.Sx
def A10:FuncId→Nat→LoopAnn:=fun _ _=> .ghost 9 hII 100 (.on (fun sv0=>match sv0.tmps.getD 9 .undef with| .own rr _=>(match sv0.tmps.getD 7 .undef with| .ref kk _=> .inv (Int×List (List C)×List (List C)) (fun z=>Sp.wkI z.1 z.2.2) (fun z=>[(11,.int .i64 z.1),(9,.own rr 0)]) (fun z=>[(kk,.box [.sl [.int .u8] z.2.1] 117),(rr,.row hII 100 0 z.2.2)]) [kk,rr] [0,1,2,3,6,7,8,9,10,11,13,21,38,52] (fun z=>z.1.toNat)|_=> .unroll 0)|_=> .unroll 0))
def m10_0 (d:List C) (s:List (List C)) (xs:List (List C)):Prop:=True∧True∧Cn (bSame (Sp.wkV d xs) (Sp.wkV d xs)) (True∧True∧Cn (bSame (Sp.wkV (Sp.wk1 s) xs) (Sp.wkV (Sp.wk1 s) xs)) (True∧True∧bSame (Sp.wkV (Sp.wk1 s) []) (Sp.wkV (Sp.wk1 s) [])=true) (false=true)) (false=true)
theorem v10 (d:List C) (s:List (List C)) (xs:List (List C)):WD hV d∧WL hB s∧WL hII xs→True∧True∧Cn (bNot true) (false=true) (True∧True∧Cn (bNot (Sp.kpD d)) (Sm true) (pLe (iLen xs) 9223372036854775807→Cn (bLt 20 (iLen xs)) (Sm true) (True∧True∧(InR .i64 (Sp.dN (Sp.wk0 s) 2)→InR .i64 (iAdd 1 (Sp.dN (Sp.wk0 s) 2))∧(iAdd 1 (Sp.dN (Sp.wk0 s) 2)=1∨iAdd 1 (Sp.dN (Sp.wk0 s) 2)=2)∧(WD hV (Sp.wk1 s)→Cn (bLt 0 (qi 13 (Sp.wk1 s))) (Cn (bLt 0 (qi 9 (Sp.wk1 s))) (InR .i64 (iMul (qi 13 (Sp.wk1 s)) (qi 9 (Sp.wk1 s)))∧(pNe (qi 12 (Sp.wk1 s)) 0∧InR .i64 (iQuo (iMul (qi 13 (Sp.wk1 s)) (qi 9 (Sp.wk1 s))) (qi 12 (Sp.wk1 s))))∧True∧(InR .i64 (Sp.dN (Sp.wk2 s) 12)→(∃(x:Int×List (List C)×List (List C)),Sp.wkI x.1 x.2.2∧Sp.dN (Sp.wk2 s) 12=x.1∧Sp.dT (Sp.wk2 s) 12=x.2.1∧[]=x.2.2)∧∀(x:Int×List (List C)×List (List C)),Sp.wkI x.1 x.2.2→InR .i64 x.1∧WL hB x.2.1∧WL hII x.2.2→Cn (bLt 0 x.1) (True∧(InR .i64 (Sp.dN x.2.1 3)→InR .i64 (iAdd (iQuo (iMul (qi 13 (Sp.wk1 s)) (qi 9 (Sp.wk1 s))) (qi 12 (Sp.wk1 s))) (Sp.dN x.2.1 3))∧True∧(InR .i64 (Sp.dN (Sp.dT x.2.1 3) 2)→InR .i64 (iSub (iAdd (iQuo (iMul (qi 13 (Sp.wk1 s)) (qi 9 (Sp.wk1 s))) (qi 12 (Sp.wk1 s))) (Sp.dN x.2.1 3)) (Sp.dN (Sp.dT x.2.1 3) 2))∧True∧(InR .i64 (Sp.dN (Sp.dT (Sp.dT x.2.1 3) 2) 3)→(pNe 2 0∧InR .i64 (iQuo (Sp.dN (Sp.dT (Sp.dT x.2.1 3) 2) 3) 2))∧InR .i64 (iAdd (qi 13 (Sp.wk1 s)) (iQuo (Sp.dN (Sp.dT (Sp.dT x.2.1 3) 2) 3) 2))∧pRoom 16 (iLen (x.2.2++[[C.i (iSub (iAdd (iQuo (iMul (qi 13 (Sp.wk1 s)) (qi 9 (Sp.wk1 s))) (qi 12 (Sp.wk1 s))) (Sp.dN x.2.1 3)) (Sp.dN (Sp.dT x.2.1 3) 2)),C.i (iAdd (qi 13 (Sp.wk1 s)) (iQuo (Sp.dN (Sp.dT (Sp.dT x.2.1 3) 2) 3) 2))]]))∧InR .i64 (iSub x.1 1)∧Sm (sg 0 [0,2,0,0,0,0,0,3,0,0,3,0,0,0,3,1,0,0,0,0,0,0,0,0,0,0,0,0,3,0,0] d)∧Sm s∧Sm xs∧Sm (iQuo (iMul (qi 13 (Sp.wk1 s)) (qi 9 (Sp.wk1 s))) (qi 12 (Sp.wk1 s)))∧Sm (sg 0 [0,2,0,0,0,0,0,3,0,0,3,0,0,0,3,1,0,0,0,0,0,0,0,0,0,0,0,0,3,0,0] d)∧Sm (sg 0 [0,2,0,0,0,0,0,3,0,0,3,0,0,0,3,1,0,0,0,0,0,0,0,0,0,0,0,0,3,0,0] (Sp.wk1 s))∧∃(y:Int×List (List C)×List (List C)),Sp.wkI y.1 y.2.2∧iSub x.1 1=y.1∧Sp.dT (Sp.dT (Sp.dT x.2.1 3) 2) 3=y.2.1∧x.2.2++[[C.i (iSub (iAdd (iQuo (iMul (qi 13 (Sp.wk1 s)) (qi 9 (Sp.wk1 s))) (qi 12 (Sp.wk1 s))) (Sp.dN x.2.1 3)) (Sp.dN (Sp.dT x.2.1 3) 2)),C.i (iAdd (qi 13 (Sp.wk1 s)) (iQuo (Sp.dN (Sp.dT (Sp.dT x.2.1 3) 2) 3) 2))]]=y.2.2∧nLt y.1.toNat x.1.toNat)))) (True∧True∧Cn (bSame (Sp.wkV d xs) (Sp.wkV d xs)) (True∧True∧Cn (bSame (Sp.wkV (Sp.wk1 s) xs) (Sp.wkV (Sp.wk1 s) xs)) (True∧True∧bSame (Sp.wkV (Sp.wk1 s) x.2.2) (Sp.wkV (Sp.wk1 s) x.2.2)=true) (false=true)) (false=true)))) ((m10_0 d s xs))) ((m10_0 d s xs))))))):=by
 intro hw
 have rng:∀ {k:Int},-1000000000000≤k→k≤1000000000000→InR .i64 k:=fun a b=>by simp only[InR]; omega
 have bs:∀a,bSame a a=true:=fun a=>by simp[bSame]
 have c0:m10_0 d s xs:=by
  delta m10_0
  simp only[D,bs,E]
  simp
 have n2:=Sp.dN_bd (l:=Sp.wk0 s) (n:=2) (by decide)
 have n12:=Sp.dN_bd (l:=Sp.wk2 s) (n:=12) (by decide)
 simp only[D,E,F]
 refine fun _ _ _ _=>⟨rng (by omega) (by omega),by omega,fun _=>⟨fun hp=>⟨fun hr=> ?_,fun _=>c0⟩,fun _=>c0⟩⟩
 have hv:Sp.dvV (Sp.wk1 s)=true:=(Sp.md_ok (l:=Sp.dT (Sp.wk0 s) 2) (r:=iAdd 1 (Sp.dN (Sp.wk0 s) 2)) (show¬qi 13 (Sp.wk1 s)=0 by omega)).2.2.1
 have b:=Sp.dv_b hv
 have pm:=mul_bd (x:=qi 13 (Sp.wk1 s)) (X:=8192) (y:=qi 9 (Sp.wk1 s)) (Y:=768000) (by omega) (by omega) (by omega) (by omega)
 rw[Int.tdiv_eq_ediv_of_nonneg pm.1]
 have q0:=Int.ediv_nonneg (b:=qi 12 (Sp.wk1 s)) pm.1 (by omega)
 have q1:=Int.ediv_le_self (qi 12 (Sp.wk1 s)) pm.1
 refine⟨rng (by omega) (by omega),⟨by omega,rng (by omega) (by omega)⟩,fun _=>⟨⟨(Sp.dN (Sp.wk2 s) 12,Sp.dT (Sp.wk2 s) 12,[]),⟨by simp only; omega,by simp only; omega,by simp only[List.length_nil]; omega⟩,rfl,rfl,rfl⟩,?_⟩⟩
 rintro⟨k,l,ms⟩ ⟨k0,k1,k2⟩ _
 simp only at k0 k1 k2 ⊢
 have a1:=Sp.dN_bd (l:=l) (n:=3) (by decide)
 have a2:=Sp.dN_bd (l:=Sp.dT l 3) (n:=2) (by decide)
 have a3:=Sp.dN_bd (l:=Sp.dT (Sp.dT l 3) 2) (n:=3) (by decide)
 rw[Int.tdiv_eq_ediv_of_nonneg a3.1]
 refine⟨fun hk _=>⟨rng (by omega) (by omega),fun _=>⟨rng (by omega) (by omega),fun _=>⟨⟨by decide,rng (by omega) (by omega)⟩,rng (by omega) (by omega),by rw[List.length_append,List.length_singleton]; omega,rng (by omega) (by omega),(k-1,_,_),⟨by simp only; omega,by simp only; omega,by simp only; rw[List.length_append,List.length_singleton]; omega⟩,rfl,rfl,rfl,by simp only; omega⟩⟩⟩,fun _=>⟨fun _=>⟨fun _=>bs _,fun h=>by rw[bs]at h; cases h⟩,fun h=>by rw[bs]at h; cases h⟩⟩
theorem u10 (d:List C) (s:List (List C)) (xs:List (List C)):Holds (hyp (wfP.go [.agg (ofCs hV d),.sl [.int .u8] s,.sl [.int .i64,.int .i64] xs]) (vcF PR (look (tbR [r11,r26,r16,r40,r22,r51,r52])) (fun _=>false) (A10) 8 10 [.agg (ofCs hV d),.sl [.int .u8] s,.sl [.int .i64,.int .i64] xs] [] (fun sv _=>isTrue sv))):=Y (v10 d s xs)
end Go.Sx

