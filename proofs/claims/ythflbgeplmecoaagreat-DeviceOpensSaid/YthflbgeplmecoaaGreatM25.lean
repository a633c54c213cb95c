import Derived.Test.YthflbgeplmecoaaGreatSxUse
import Derived.Test.YthflbgeplmecoaaGreatM24
import Derived.Test.YthflbgeplmecoaaGreatM20
set_option linter.unusedVariables false
set_option linter.unusedSimpArgs false
set_option maxRecDepth 100000
set_option maxHeartbeats 4000000
noncomputable section
namespace Go.Sx
def KN (u:List (Cr PR)) (f n:Nat) (ct:Ct) {t:TypeId} {e:List Sh} (A:List (List C)→FuncId→Nat→LoopAnn)
 (h:∀args,Holds (hyp (wfP.go (ofRess ct.ps args)) (vcF PR (look (tbR u)) (fun _=>false) (A args) n f (ofRess ct.ps args) [] fun sv heap=>GivesN t e ((((ct.out args).headD []).headD default).list) sv heap)))
 (h1:∀args,∃y,(((ct.out args).headD []).headD default).list=[y]:=by exact fun _=>⟨_,rfl⟩)
 (hbx:ct.bx=none:=by rfl) (how:ct.ow=none:=by rfl) (hfr:ct.fr=some (t,e):=by rfl) (hfm:ct.fm=some .bx:=by rfl):Cr PR:=
 ⟨f,ct,contractKN followsMixed (tbR_ok u) (fun _=>false) A n f ct (fun a=>⟨hyp_pre (h a).out⟩) h1 hbx how hfr hfm⟩
end Go.Sx
namespace Go.Sx
theorem v16 (s:List (List C)):WL hB s→pLe (iLen s) 9223372036854775807→geB none (some (iMin (iLen s) 300)) (iLen s)∧Sm (cutRows s none (some (iMin (iLen s) 300))):=by
 intro hw
 simp only[D,E]
 exact fun _=>⟨by omega,by omega⟩
def r16:Cr PR:=KN [] 16 6 {ps:=[(false,[.sl hB])],rs:=[],pre:=fun _=>True,out:=fun a=>[[.l [[.l (cutRows (L a 0 0) none (some (iMin (iLen (L a 0 0)) 300)))]]]],fr:=some (117,[.sl hB]),fm:=some .bx} U fun a=>Y (v16 (L a 0 0))
end Go.Sx
namespace Go
open Go.Sx
def Sp.hcA:List (List C):=[[.i 44100],[.i 48000],[.i 8000],[.i 40000],[.i 96000]]
def Sp.hcB:List (List C):=[[.i 16],[.i 64],[.i 100],[.i 1024],[.i 2048]]
def Sp.hc1 (l:List (List C)):List (List C):=Sp.dT l 7
def Sp.hc2 (l:List (List C)):List (List C):=Sp.dT (Sp.hc1 l) 5
def Sp.hc3 (l:List (List C)):List (List C):=Sp.dT (Sp.hc2 l) 7
def Sp.hc4 (l:List (List C)):List (List C):=Sp.dT (Sp.hc3 l) 5
def Sp.hc5 (l:List (List C)):List (List C):=Sp.dT (Sp.hc4 l) 4
def Sp.hcR (l:List (List C)):Int:=qi 0 (rGet Sp.hcA (Sp.dN (Sp.hc1 l) 5))
def Sp.hcS (l:List (List C)):Int:=qi 0 (rGet Sp.hcB (Sp.dN (Sp.hc3 l) 5))
def Sp.hcV (l:List (List C)):List C:=[.i (iAdd 1 (Sp.dN l 7)),.i (Sp.hcR l),.l (Sp.mpV (Sp.dN (Sp.hc2 l) 7)),.i (Sp.hcS l)]
def Sp.hcX (l xs:List (List C)):List C:=Sp.beV (Sp.hcV l) (cutRows xs (some (Sp.dN (Sp.hc5 l) (iLen xs))) none)
def Sp.hcW (l xs:List (List C)):List C:=if 0<iLen xs∧0<Sp.dN (Sp.hc4 l) 4∧qb 4 (Sp.hcX l xs)=true then Sp.hcX l xs else Sp.hcV l
def Sp.hcT (l xs:List (List C)):List (List C):=if 0<iLen xs then(if 0<Sp.dN (Sp.hc4 l) 4 then Sp.dT (Sp.hc5 l) (iLen xs)else Sp.hc5 l)else Sp.hc4 l
end Go
namespace Go.Sx
def m41_0 (l:List (List C)) (xs:List (List C)):List C:=(Sp.beV [C.i (iAdd 1 (Sp.dN l 7)),C.i (qi 0 (rGet Sp.hcA (Sp.dN (Sp.hc1 l) 5))),C.l (Sp.mpV (Sp.dN (Sp.hc2 l) 7)),C.i (qi 0 (rGet Sp.hcB (Sp.dN (Sp.hc3 l) 5)))] (cutRows xs (some (Sp.dN (Sp.hc5 l) (iLen xs))) none))
def m41_1 (l:List (List C)) (xs:List (List C)):Prop:=iAdd 1 (Sp.dN l 7)=qi 0 (Sp.hcW l xs)∧qi 0 (rGet Sp.hcA (Sp.dN (Sp.hc1 l) 5))=qi 1 (Sp.hcW l xs)∧Sp.mpV (Sp.dN (Sp.hc2 l) 7)=ql 2 (Sp.hcW l xs)∧qi 0 (rGet Sp.hcB (Sp.dN (Sp.hc3 l) 5))=qi 3 (Sp.hcW l xs)
theorem v41 (l:List (List C)) (xs:List (List C)):WL hB l∧WL hX xs→True→True∧(InR .i64 (Sp.dN l 7)→InR .i64 (iAdd 1 (Sp.dN l 7))∧True∧(InR .i64 (Sp.dN (Sp.hc1 l) 5)→pIn 0 (iLen Sp.hcA) (Sp.dN (Sp.hc1 l) 5)∧(InR .i64 (qi 0 (rGet Sp.hcA (Sp.dN (Sp.hc1 l) 5)))→True∧(WL hI (Sp.mpV (Sp.dN (Sp.hc2 l) 7))→True∧(InR .i64 (Sp.dN (Sp.hc3 l) 5)→pIn 0 (iLen Sp.hcB) (Sp.dN (Sp.hc3 l) 5)∧(InR .i64 (qi 0 (rGet Sp.hcB (Sp.dN (Sp.hc3 l) 5)))→pLe (iLen xs) 9223372036854775807→Cn (bLt 0 (iLen xs)) (True∧(InR .i64 (Sp.dN (Sp.hc4 l) 4)→Cn (bLt 0 (Sp.dN (Sp.hc4 l) 4)) (pLe (iLen xs) 9223372036854775807→True∧(InR .i64 (Sp.dN (Sp.hc5 l) (iLen xs))→geB (some (Sp.dN (Sp.hc5 l) (iLen xs))) none (iLen xs)∧pLe (iLen (ql 2 [C.i (iAdd 1 (Sp.dN l 7)),C.i (qi 0 (rGet Sp.hcA (Sp.dN (Sp.hc1 l) 5))),C.l (Sp.mpV (Sp.dN (Sp.hc2 l) 7)),C.i (qi 0 (rGet Sp.hcB (Sp.dN (Sp.hc3 l) 5)))])) 1000∧(InR .i64 (qi 0 (m41_0 l xs))∧InR .i64 (qi 1 (m41_0 l xs))∧WL hI (ql 2 (m41_0 l xs))∧InR .i64 (qi 3 (m41_0 l xs))→Cn (qb 4 (m41_0 l xs)) (Sp.dT (Sp.hc5 l) (iLen xs)=Sp.hcT l xs∧qi 0 (m41_0 l xs)=qi 0 (Sp.hcW l xs)∧qi 1 (m41_0 l xs)=qi 1 (Sp.hcW l xs)∧ql 2 (m41_0 l xs)=ql 2 (Sp.hcW l xs)∧qi 3 (m41_0 l xs)=qi 3 (Sp.hcW l xs)) (Sp.dT (Sp.hc5 l) (iLen xs)=Sp.hcT l xs∧(m41_1 l xs))))) (Sp.dT (Sp.hc4 l) 4=Sp.hcT l xs∧(m41_1 l xs)))) (Sp.dT (Sp.hc3 l) 5=Sp.hcT l xs∧(m41_1 l xs)))))))):=by
 intro hw hp
 delta m41_0 m41_1
 have a:=Sp.dN_bd (l:=l) (n:=7) (by omega)
 have b:=Sp.dN_bd (l:=Sp.hc1 l) (n:=5) (by omega)
 have c:=Sp.dN_bd (l:=Sp.hc2 l) (n:=7) (by omega)
 have d:=Sp.dN_bd (l:=Sp.hc3 l) (n:=5) (by omega)
 have ml:=Sp.mpV_len c.1 c.2
 simp only[D,E]
 refine fun _=>⟨by simp only[InR]; omega,fun _=>⟨b,fun _ _ _=>⟨d,fun _ h=>⟨fun h1 _=>⟨fun h2 _=> ?_,fun h2=> ?_⟩,fun h1=> ?_⟩⟩⟩⟩
 · have e:=Sp.dN_bd (l:=Sp.hc5 l) (n:=iLen xs) (by simp only[iLen]; omega)
   simp only[iLen]at e
   refine fun _=>⟨⟨by omega,by omega⟩,by show((Sp.mpV (Sp.dN (Sp.hc2 l) 7)).length:Int)≤1000; omega,fun _=>⟨fun h3=> ?_,fun h3=> ?_⟩⟩
   · unfold Sp.hcT Sp.hcW
     rw[if_pos h1,if_pos h2,if_pos ⟨h1,h2,h3⟩]
     exact⟨rfl,rfl,rfl,rfl,rfl⟩
   · unfold Sp.hcT Sp.hcW
     rw[if_pos h1,if_pos h2,if_neg (fun hh=>absurd (h3.symm.trans hh.2.2) (by decide))]
     exact⟨rfl,rfl,rfl,rfl,rfl⟩
 · unfold Sp.hcT Sp.hcW
   rw[if_pos h1,if_neg h2,if_neg (fun hh=>h2 hh.2.1)]
   exact⟨rfl,rfl,rfl,rfl,rfl⟩
 · unfold Sp.hcT Sp.hcW
   rw[if_neg h1,if_neg (fun hh=>h1 hh.1)]
   exact⟨rfl,rfl,rfl,rfl,rfl⟩
def r41:Cr PR:=KB [r40,r81,(mark 1000028),r61] 41 8 {ps:=[(false,[.sl hX])],rs:=[(true,hC)],pre:=fun _=>True,out:=fun a=>[[.l (Sp.hcT (L a 0 0) (L a 1 0))],rb [0,0,3,0] (Sp.hcW (L a 0 0) (L a 1 0))],bx:=some (117,[.sl hB])} U fun a=>Y (v41 (L a 0 0) (L a 1 0))
end Go.Sx
namespace Go
open Go.Sx
theorem Sp.dvS_run (d:List C) (t:Int):Sp.dvS (Sp.run (Sp.nV d) t) (Sp.run d t)=true:=by
 have e:Sp.dvS (Sp.run (Sp.nV d) t) (Sp.run d t)=bAnd (bAnd (bEq (qi 0 d) (qi 0 d)) (bAnd (sSame (qs 1 d) (qs 1 d)) (bAnd (bEq (qi 2 d) (qi 2 d)) (bAnd (bEq (qi 3 d) (qi 3 d)) (bAnd (bEq (qi 4 d) (qi 4 d)) (bAnd (bEq (qi 5 d) (qi 5 d)) (bAnd (bEq (qi 6 d) (qi 6 d)) (Sp.rl Sp.bxE ((ql 7 d).map Sp.nB) (ql 7 d)))))))))
  (bAnd (bAnd (bEq (qi 11 d) (qi 11 d)) (bAnd (bEq (qi 8 d) (qi 8 d)) (bAnd (bEq (qi 9 d) (qi 9 d)) (Sp.rl Sp.e0 (ql 10 d) (ql 10 d))))) (bAnd (bEq (qi 12 d) (qi 12 d)) (bAnd (bEq (qi 13 d) (qi 13 d)) (bAnd (Sp.sameC (ql 14 d) (ql 14 d)) (bAnd (bSame true true) (bAnd (bEq t t) (Sp.bgS (Sp.dg d) (Sp.dg d)))))))):=by kernel_rfl
 rw[e,Sp.rl_map Sp.bx_self,Sp.rl_self (g:=Sp.e0) (fun _=>decide_eq_true rfl),Sp.sC_self,Sp.bg_self]
 simp[bAnd,bEq,sSame,bSame]
theorem Sp.dvS_nil:Sp.dvS [] []=true:=by kernel_rfl
theorem Sp.dvS_st (d:List C) (t:Int):Sp.dvS (Sp.stV d t) (Sp.stR d t)=true:=by
 unfold Sp.stV Sp.stR
 by_cases h:Sp.stE d t=0
 · rw[if_pos h,if_pos h]; exact Sp.dvS_run d t
 · rw[if_neg h,if_neg h]; exact Sp.dvS_nil
theorem Sp.mp_selfr (m:List C):Sp.mpE m (Sp.nM m)=true:=Sp.rl_self (g:=Sp.e0) (fun _=>decide_eq_true rfl) (ql 0 m)
theorem Sp.rl_mapr {g:List C→List C→Bool} {f:List C→List C} (h:∀x,g x (f x)=true):∀xs:List (List C),Sp.rl g xs (xs.map f)=true
 |[]=>rfl
 |x::r=>by rw[List.map_cons,Sp.rl,h,Sp.rl_mapr h r]; rfl
theorem Sp.bx_selfr (x:List C):Sp.bxE x (Sp.nB x)=true:=by
 show(decide (qi 0 x=qi 0 x)&&(Sp.rl Sp.spE (ql 1 x) (ql 1 x)&&(Sp.rl Sp.spE (ql 3 x) (ql 3 x)&&Sp.rl Sp.mpE (ql 2 x) ((ql 2 x).map Sp.nM))))=true
 rw[Sp.rl_self Sp.sp_self,Sp.rl_self Sp.sp_self,Sp.rl_mapr Sp.mp_selfr,decide_eq_true rfl]; rfl
theorem Sp.dvS_nVr (d:List C):Sp.dvS d (Sp.nV d)=true:=by
 have e:Sp.dvS d (Sp.nV d)=bAnd (bAnd (bEq (qi 0 d) (qi 0 d)) (bAnd (sSame (qs 1 d) (qs 1 d)) (bAnd (bEq (qi 2 d) (qi 2 d)) (bAnd (bEq (qi 3 d) (qi 3 d)) (bAnd (bEq (qi 4 d) (qi 4 d)) (bAnd (bEq (qi 5 d) (qi 5 d)) (bAnd (bEq (qi 6 d) (qi 6 d)) (Sp.rl Sp.bxE (ql 7 d) ((ql 7 d).map Sp.nB)))))))))
  (bAnd (bAnd (bEq (qi 11 d) (qi 11 d)) (bAnd (bEq (qi 8 d) (qi 8 d)) (bAnd (bEq (qi 9 d) (qi 9 d)) (Sp.rl Sp.e0 (ql 10 d) (ql 10 d))))) (bAnd (bEq (qi 12 d) (qi 12 d)) (bAnd (bEq (qi 13 d) (qi 13 d)) (bAnd (Sp.sameC (ql 14 d) (ql 14 d)) (bAnd (bSame (qb 15 d) (qb 15 d)) (bAnd (bEq (qi 16 d) (qi 16 d)) (Sp.bgS (Sp.dg d) (Sp.dg d)))))))):=by kernel_rfl
 rw[e,Sp.rl_mapr Sp.bx_selfr,Sp.rl_self (g:=Sp.e0) (fun _=>decide_eq_true rfl),Sp.sC_self,Sp.bg_self]
 simp[bAnd,bEq,sSame,bSame]
theorem Sp.dvS_op (x:List C) (n r:Int) (m:List (List C)) (z:Int) (k:List (List C)) (q p:Int):Sp.dvS (Sp.opV x n r m z k q p) (Sp.opR x n r m z k q p)=true∧Sp.dvS (Sp.opR x n r m z k q p) (Sp.opV x n r m z k q p)=true:=by
 unfold Sp.opV Sp.opR
 by_cases h:Sp.opE x n r m z k q p=0
 · rw[if_pos h,if_pos h]; exact⟨Sp.dvS_nV _,Sp.dvS_nVr _⟩
 · rw[if_neg h,if_neg h]; exact⟨Sp.dvS_nil,Sp.dvS_nil⟩
end Go

set_option linter.unusedVariables false
set_option linter.unusedSimpArgs false
set_option maxRecDepth 100000
set_option maxHeartbeats 4000000
namespace Go
open Go.Sx
def Sp.o3 (z:Int):Prop:=0≤z∧z≤3
def Sp.ob0 (s:List (List C)):List (List C):=cutRows s none (some (iMin (iLen s) 300))
def Sp.ob1 (s:List (List C)):List C:=Sp.dsM (Sp.dT (Sp.ob0 s) 2) (iWrap .i64 (iAdd 1 (Sp.dN (Sp.ob0 s) 2)))
def Sp.ob2 (s:List (List C)):List (List C):=Sp.dsT (Sp.dT (Sp.ob0 s) 2)
def Sp.ob3 (s:List (List C)):List C:=Sp.hcW (Sp.ob2 s) (ql 7 (Sp.ob1 s))
def Sp.ob4 (s:List (List C)):List (List C):=Sp.hcT (Sp.ob2 s) (ql 7 (Sp.ob1 s))
def Sp.ob5 (s:List (List C)):List C:=Sp.mdV (Sp.dT (Sp.ob4 s) 2) (iWrap .i64 (iAdd 1 (Sp.dN (Sp.ob4 s) 2)))
def Sp.ob6 (s:List (List C)):List (List C):=Sp.mdT (Sp.dT (Sp.ob4 s) 2) (iWrap .i64 (iAdd 1 (Sp.dN (Sp.ob4 s) 2)))
def Sp.ob7 (d:List C) (s:List (List C)):List (List C):=[sg 0 [0,2,0,0,0,0,0,3,0,0,3,0,0,0,3,1,0,0,0,0,0,0,0,0,0,0,0,0,3,0,0] d,sg 0 [0,2,0,0,0,0,0,3,0,0,3,0,0,0,3,1,0,0,0,0,0,0,0,0,0,0,0,0,3,0,0] (Sp.ob5 s)]
def Sp.ob8 (y:List C) (t:Int):List (List C):=[[.i t],[.i (iWrap .i64 (iMul (qi 13 y) (iRem t 100)))],[.i (iRem t 1000)]]
def Sp.ob9:List (List C):=cutRows [] none (some (iMin (iLen ([]:List (List C))) 300))
end Go
namespace Go.Sx
def A8 (z:Int):FuncId→Nat→LoopAnn:=fun _ ii=>bif Nat.beq ii 9 then .settle (.inv Int (fun z=>Sp.o3 z) (fun z=>[(95,.int .i64 z)]) (fun _=>[]) [] [0,1,2,3,4,5,6,7,8,9,10,11,16,17,18,19,21,23,24,25,26,27,28,29,30,31,32,33,34,35,36,37,38,39,40,41,42,43,44,45,46,48,75,93,94,95,96,107,108,109,110,133,179,237,243] (fun z=>(3-z).toNat))else .settle (.inv Int (fun z=>Sp.o3 z) (fun z=>[(109,.int .i64 z)]) (fun _=>[]) [] [0,1,2,3,4,5,6,7,8,9,10,11,16,17,18,19,21,23,24,25,26,27,28,29,30,31,32,33,34,35,36,37,38,39,40,41,42,43,44,45,46,48,75,93,94,95,96,107,108,109,110,133,179,237,243] (fun z=>(3-z).toNat))
def m8_0 (x:List C) (n:Int) (r:Int) (m:List (List C)) (z:Int) (k:List (List C)) (q:Int) (p:Int):Prop:=True∧(WD hV (Sp.opV x n r m z k q p)∧InR .i64 (Sp.opE x n r m z k q p)→True∧(WD hV (Sp.opR x n r m z k q p)∧InR .i64 (Sp.opE x n r m z k q p)→Cn (bEq (Sp.opE x n r m z k q p) (Sp.opE x n r m z k q p)) (True∧Sp.dvS (Sp.opV x n r m z k q p) (Sp.opR x n r m z k q p)=true) (false=true)))
def m8_1 (d:List C) (s:List (List C)) (x_1:Int):List C:=(rGet (Sp.ob7 d s) x_1)
def m8_2 (q:Int):List C:=(rGet [[C.i 48000],[C.i 44100],[C.i 7999],[C.i 192000]] (iRem (iWrap .i64 (iAdd (iRem q 4) 4)) 4))
def m8_3 (p:Int):List C:=(rGet [[C.i 16],[C.i 15],[C.i 64],[C.i 200]] (iRem (iWrap .i64 (iAdd (iRem p 4) 4)) 4))
def m8_4 (s:List (List C)):Int:=(Sp.opE (Sp.ob1 s) (qi 0 (Sp.ob3 s)) (qi 1 (Sp.ob3 s)) (ql 2 (Sp.ob3 s)) (qi 3 (Sp.ob3 s)) (Sp.mkC Sp.ob9) 48000 16)
theorem v8 (d:List C) (x:List C) (n:Int) (r:Int) (m:List (List C)) (z:Int) (k:List (List C)) (s:List (List C)) (q:Int) (p:Int) (t:Int):WD hV d∧WD hD x∧InR .i64 n∧InR .i64 r∧WL hI m∧InR .i64 z∧WL hS k∧WL hB s∧InR .i64 q∧InR .i64 p∧InR .i64 t→True∧True∧Cn (bNot true) (false=true) (True∧True∧Cn (bNot (Sp.kpD d)) (Sm true) (True∧True∧Cn (bNot (Sp.kpB (ql 7 x) 9)) (Sm true) (pLe (iLen k) 9223372036854775807→True∧Cn (bNot (bLe (iLen k) 66)) (Sm true) (pLe (iLen m) 9223372036854775807→Cn (bLt 12 (iLen m)) (Sm true) (pLe (iSize (qs 1 x)) 9223372036854775807→Cn (bLt 100 (iSize (qs 1 x))) (Sm true) (True∧True∧(InR .i64 (Sp.dN (Sp.ob0 s) 2)→True∧(WD hD (Sp.ob1 s)→True∧(InR .i64 (qi 0 (Sp.ob3 s))∧InR .i64 (qi 1 (Sp.ob3 s))∧WL hI (ql 2 (Sp.ob3 s))∧InR .i64 (qi 3 (Sp.ob3 s))→True∧(InR .i64 (Sp.dN (Sp.ob4 s) 2)→(iWrap .i64 (iAdd 1 (Sp.dN (Sp.ob4 s) 2))=1∨iWrap .i64 (iAdd 1 (Sp.dN (Sp.ob4 s) 2))=2)∧(WD hV (Sp.ob5 s)→pLe (iLen (Sp.ob7 d s)) 9223372036854775807→(∃(x:Int),Sp.o3 x∧0=x)∧∀(x_1:Int),Sp.o3 x_1→InR .i64 x_1→Cn (bLt x_1 (iLen (Sp.ob7 d s))) (pIn 0 (iLen (Sp.ob7 d s)) x_1∧(WD [Sh.int .u64,Sh.str,Sh.int .i64,Sh.int .i64,Sh.int .i64,Sh.int .i64,Sh.int .i64,Sh.sl (hI++([Sh.sl (hI++(hI++[]))]++[]++([Sh.sl [Sh.sl hI]]++([Sh.sl (hI++(hI++[]))]++[]++[])))),Sh.int .i64,Sh.int .i64,Sh.sl hI,Sh.int .i64,Sh.int .i64,Sh.int .i64,Sh.sl (hI++(hI++(hI++[])++[])),Sh.bool,Sh.int .i64,Sh.int .i64,Sh.int .i64,Sh.int .i64,Sh.int .i64,Sh.int .i64,Sh.int .i64,Sh.int .i64,Sh.int .i64,Sh.int .i64,Sh.int .i64,Sh.int .i64,Sh.sl hW,Sh.int .i64,Sh.int .i64] (m8_1 d s x_1)→pNe 100 0∧pNe 1000 0∧(pLe (iLen (Sp.ob8 (m8_1 d s x_1) t)) 9223372036854775807→(∃(x:Int),Sp.o3 x∧0=x)∧∀(x_2:Int),Sp.o3 x_2→InR .i64 x_2→Cn (bLt x_2 (iLen (Sp.ob8 (m8_1 d s x_1) t))) (pIn 0 (iLen (Sp.ob8 (m8_1 d s x_1) t)) x_2∧(InR .i64 (qi 0 (rGet (Sp.ob8 (m8_1 d s x_1) t) x_2))→True∧(WD hV (Sp.stV (m8_1 d s x_1) (qi 0 (rGet (Sp.ob8 (m8_1 d s x_1) t) x_2)))∧InR .i64 (Sp.stE (m8_1 d s x_1) (qi 0 (rGet (Sp.ob8 (m8_1 d s x_1) t) x_2)))→True∧(WD hV (Sp.stR (m8_1 d s x_1) (qi 0 (rGet (Sp.ob8 (m8_1 d s x_1) t) x_2)))∧InR .i64 (Sp.stE (m8_1 d s x_1) (qi 0 (rGet (Sp.ob8 (m8_1 d s x_1) t) x_2)))→Cn (bNe (Sp.stE (m8_1 d s x_1) (qi 0 (rGet (Sp.ob8 (m8_1 d s x_1) t) x_2))) (Sp.stE (m8_1 d s x_1) (qi 0 (rGet (Sp.ob8 (m8_1 d s x_1) t) x_2)))) (false=true) (True∧True∧Cn (bNot (Sp.dvS (Sp.stV (m8_1 d s x_1) (qi 0 (rGet (Sp.ob8 (m8_1 d s x_1) t) x_2))) (Sp.stR (m8_1 d s x_1) (qi 0 (rGet (Sp.ob8 (m8_1 d s x_1) t) x_2))))) (false=true) (Sm (sg 0 [0,2,0,0,0,0,0,3,0,0,3,0,0,0,3,1,0,0,0,0,0,0,0,0,0,0,0,0,3,0,0] d)∧Sm (sg 0 [0,2,0,0,0,0,0,3] x)∧Sm [C.i n,C.i r,C.l m,C.i z]∧Sm [C.l k]∧Sm s∧Sm q∧Sm p∧Sm t∧Sm (Sp.ob7 d s)∧Sm (iLen (Sp.ob7 d s))∧Sm x_1∧Sm (Sp.ob8 (m8_1 d s x_1) t)∧Sm (iLen (Sp.ob8 (m8_1 d s x_1) t))∧Sm (sg 0 [0,2,0,0,0,0,0,3,0,0,3,0,0,0,3,1,0,0,0,0,0,0,0,0,0,0,0,0,3,0,0] d)∧Sm (sg 0 [0,2,0,0,0,0,0,3] x)∧Sm [C.i n,C.i r,C.l m,C.i z]∧Sm [C.l k]∧Sm [C.l k]∧Sm [C.l (Sp.ob6 s)]∧Sm (sg 0 [0,2,0,0,0,0,0,3] (Sp.ob1 s))∧Sm (sg 0 [0,0,3,0] (Sp.ob3 s))∧Sm (Sp.ob7 d s)∧Sm (sg 0 [0,2,0,0,0,0,0,3,0,0,3,0,0,0,3,1,0,0,0,0,0,0,0,0,0,0,0,0,3,0,0] (m8_1 d s x_1))∧Sm (Sp.ob8 (m8_1 d s x_1) t)∧∃(y:Int),Sp.o3 y∧iWrap .i64 (iAdd x_2 1)=y∧nLt (3-y).toNat (3-x_2).toNat)))))) (True∧(InR .i64 (Sp.nmN (m8_1 d s x_1))∧InR .i64 (Sp.nmD (m8_1 d s x_1))∧InR .i64 (Sp.vE (m8_1 d s x_1))→True∧(InR .i64 (Sp.nmN (m8_1 d s x_1))∧InR .i64 (Sp.nmD (m8_1 d s x_1))∧InR .i64 (Sp.nmE (m8_1 d s x_1))→True∧(InR .i64 (Sp.ltV (m8_1 d s x_1))∧InR .i64 (Sp.vE (m8_1 d s x_1))→True∧(InR .i64 (Sp.ltV (m8_1 d s x_1))∧InR .i64 (Sp.vE (m8_1 d s x_1))→Cn (bNot (bAnd (bEq (Sp.nmN (m8_1 d s x_1)) (Sp.nmN (m8_1 d s x_1))) (bEq (Sp.nmD (m8_1 d s x_1)) (Sp.nmD (m8_1 d s x_1))))) (false=true) (Cn (bNe (Sp.vE (m8_1 d s x_1)) (Sp.nmE (m8_1 d s x_1))) (false=true) (Cn (bNe (Sp.ltV (m8_1 d s x_1)) (Sp.ltV (m8_1 d s x_1))) (false=true) (Cn (bNe (Sp.vE (m8_1 d s x_1)) (Sp.vE (m8_1 d s x_1))) (false=true) (True∧True∧Cn (bDiff (Sp.dvV (m8_1 d s x_1)) (Sp.dvV (m8_1 d s x_1))) (false=true) (Sm (sg 0 [0,2,0,0,0,0,0,3,0,0,3,0,0,0,3,1,0,0,0,0,0,0,0,0,0,0,0,0,3,0,0] d)∧Sm (sg 0 [0,2,0,0,0,0,0,3] x)∧Sm [C.i n,C.i r,C.l m,C.i z]∧Sm [C.l k]∧Sm s∧Sm q∧Sm p∧Sm t∧Sm (Sp.ob7 d s)∧Sm (iLen (Sp.ob7 d s))∧Sm (sg 0 [0,2,0,0,0,0,0,3,0,0,3,0,0,0,3,1,0,0,0,0,0,0,0,0,0,0,0,0,3,0,0] d)∧Sm (sg 0 [0,2,0,0,0,0,0,3] x)∧Sm [C.i n,C.i r,C.l m,C.i z]∧Sm [C.l k]∧Sm [C.l k]∧Sm [C.l (Sp.ob6 s)]∧Sm (sg 0 [0,2,0,0,0,0,0,3] (Sp.ob1 s))∧Sm (sg 0 [0,0,3,0] (Sp.ob3 s))∧Sm (Sp.ob7 d s)∧∃(y:Int),Sp.o3 y∧iWrap .i64 (iAdd x_1 1)=y∧nLt (3-y).toNat (3-x_1).toNat))))))))))))) (pNe 4 0∧pNe 4 0∧pIn 0 (iLen [[C.i 16],[C.i 15],[C.i 64],[C.i 200]]) (iRem (iWrap .i64 (iAdd (iRem p 4) 4)) 4)∧(InR .i64 (qi 0 (m8_3 p))→True∧(WL hS (Sp.mkC (Sp.ob6 s))→pNe 4 0∧pNe 4 0∧pIn 0 (iLen [[C.i 48000],[C.i 44100],[C.i 7999],[C.i 192000]]) (iRem (iWrap .i64 (iAdd (iRem q 4) 4)) 4)∧(InR .i64 (qi 0 (m8_2 q))→True∧(WD hV (Sp.opV (Sp.ob1 s) (qi 0 (Sp.ob3 s)) (qi 1 (Sp.ob3 s)) (ql 2 (Sp.ob3 s)) (qi 3 (Sp.ob3 s)) (Sp.mkC (Sp.ob6 s)) (qi 0 (m8_2 q)) (qi 0 (m8_3 p)))∧InR .i64 (Sp.opE (Sp.ob1 s) (qi 0 (Sp.ob3 s)) (qi 1 (Sp.ob3 s)) (ql 2 (Sp.ob3 s)) (qi 3 (Sp.ob3 s)) (Sp.mkC (Sp.ob6 s)) (qi 0 (m8_2 q)) (qi 0 (m8_3 p)))→True∧True∧(WL hS (Sp.mkC Sp.ob9)→True∧(WD hV (Sp.opR (Sp.ob1 s) (qi 0 (Sp.ob3 s)) (qi 1 (Sp.ob3 s)) (ql 2 (Sp.ob3 s)) (qi 3 (Sp.ob3 s)) (Sp.mkC Sp.ob9) 48000 16)∧InR .i64 (m8_4 s)→True∧True∧(WL hS (Sp.mkC Sp.ob9)→True∧(WD hV (Sp.opV (Sp.ob1 s) (qi 0 (Sp.ob3 s)) (qi 1 (Sp.ob3 s)) (ql 2 (Sp.ob3 s)) (qi 3 (Sp.ob3 s)) (Sp.mkC Sp.ob9) 48000 16)∧InR .i64 (m8_4 s)→Cn (bNe (m8_4 s) (m8_4 s)) (false=true) (True∧True∧Cn (bNot (Sp.dvS (Sp.opR (Sp.ob1 s) (qi 0 (Sp.ob3 s)) (qi 1 (Sp.ob3 s)) (ql 2 (Sp.ob3 s)) (qi 3 (Sp.ob3 s)) (Sp.mkC Sp.ob9) 48000 16) (Sp.opV (Sp.ob1 s) (qi 0 (Sp.ob3 s)) (qi 1 (Sp.ob3 s)) (ql 2 (Sp.ob3 s)) (qi 3 (Sp.ob3 s)) (Sp.mkC Sp.ob9) 48000 16))) (false=true) (Cn (bEq (Sp.opE (Sp.ob1 s) (qi 0 (Sp.ob3 s)) (qi 1 (Sp.ob3 s)) (ql 2 (Sp.ob3 s)) (qi 3 (Sp.ob3 s)) (Sp.mkC (Sp.ob6 s)) (qi 0 (m8_2 q)) (qi 0 (m8_3 p))) 0) (True∧True∧Cn (bNot (Sp.dvV (Sp.opV (Sp.ob1 s) (qi 0 (Sp.ob3 s)) (qi 1 (Sp.ob3 s)) (ql 2 (Sp.ob3 s)) (qi 3 (Sp.ob3 s)) (Sp.mkC (Sp.ob6 s)) (qi 0 (m8_2 q)) (qi 0 (m8_3 p))))) (false=true) (Cn (bLt 300 p) (Cn (bLe p 8192) (Sm true) ((m8_0 x n r m z k q p))) ((m8_0 x n r m z k q p)))) (Cn (bLt 300 p) (Cn (bLe p 8192) (Sm true) ((m8_0 x n r m z k q p))) ((m8_0 x n r m z k q p))))))))))))))))))))))))):=by
 intro hw
 delta m8_0 m8_1 m8_4
 have wr:∀ {k:Int},0≤k→k≤100→iWrap .i64 k=k:=fun a b=>InR.wrap (by simp only[InR]; omega)
 have nx:∀ {i l:Int},Sp.o3 i→i<l→l≤3→∃y,Sp.o3 y∧iWrap .i64 (i+1)=y∧(3-y).toNat<(3-i).toNat:=fun h hl h3=>by
  have h0:=h.1
  exact⟨_,⟨by omega,by omega⟩,wr (by omega) (by omega),by omega⟩
 have ix:∀p:Int,0≤(iWrap .i64 (p.tmod 4+4)).tmod 4∧(iWrap .i64 (p.tmod 4+4)).tmod 4<4:=fun p=>by
  have b:=rem_bd p (show(0:Int)<4 by decide)
  rw[wr (by omega) (by omega),Int.tmod_eq_emod_of_nonneg (by omega)]; omega
 have ve:∀y,Sp.vE y=Sp.nmE y:=fun y=>by
  unfold Sp.vE Sp.nmE
  by_cases h:Sp.dvV y=true
  · rw[if_pos h,if_pos h,(Sp.nm_b (Sp.dvV_of h).1).1]
  · rw[if_neg h,if_neg h]
 have nv:∀d,Sp.dvV d=true→Sp.dvV (Sp.nV d)=true:=fun d h=>by
  have v:=Sp.dvV_of h
  have e:Sp.dvV (Sp.nV d)=Sp.dvV (Sp.brd (Sp.nV d) (Sp.dg d)):=by kernel_rfl
  rw[e]; exact Sp.dv_brd h v.2.2.1 rfl rfl rfl
 have l7:((Sp.ob7 d s).length:Int)=2:=rfl
 have l8:∀y,((Sp.ob8 y t).length:Int)=3:=fun _=>rfl
 have dn:=Sp.dN_bd (l:=Sp.ob4 s) (n:=2) (by decide)
 simp only[D,E,F]
 refine fun _ _ _ _ _ _ _ _ _ _ _ _=>⟨by rw[wr (by omega) (by omega)]; omega,fun _ _=>⟨⟨0,⟨by decide,by decide⟩,rfl⟩,fun i hi _=>⟨fun hl=>⟨⟨hi.1,hl⟩,fun _=>⟨by decide,by decide,fun _=>⟨⟨0,⟨by decide,by decide⟩,rfl⟩,fun j hj _=>⟨fun hk=>⟨⟨hj.1,hk⟩,fun _ _ _=>⟨fun h=> ?_,fun _=>nx hj hk (by rw[l8]; decide)⟩⟩,fun _ _ _ _ _=>⟨fun h=>by simp at h,fun _=>⟨fun h=>h (ve _),fun _=>⟨fun h=>by simp at h,fun _=>nx hi hl (by rw[l7]; decide)⟩⟩⟩⟩⟩⟩⟩,fun _=>⟨by decide,by decide,ix p,fun _ _=>⟨by decide,by decide,ix q,fun _ _ _ _ _ _=>⟨fun h=> ?_,fun _=>⟨fun he=>⟨fun h=> ?_,fun _=>⟨fun _ _ _ _=>(Sp.dvS_op x n r m z k q p).1,fun _ _ _=>(Sp.dvS_op x n r m z k q p).1⟩⟩,fun _=>⟨fun _ _ _ _=>(Sp.dvS_op x n r m z k q p).1,fun _ _ _=>(Sp.dvS_op x n r m z k q p).1⟩⟩⟩⟩⟩⟩⟩⟩
 · rw[Sp.dvS_st]at h; cases h
 · rw[(Sp.dvS_op _ _ _ _ _ _ _ _).2]at h; cases h
 · have v:=(Sp.op_v he).2.2.2.2
   have e:Sp.opV (Sp.ob1 s) (qi 0 (Sp.ob3 s)) (qi 1 (Sp.ob3 s)) (ql 2 (Sp.ob3 s)) (qi 3 (Sp.ob3 s)) (Sp.mkC (Sp.ob6 s)) (qi 0 (m8_2 q)) (qi 0 (m8_3 p))=Sp.nV _:=if_pos he
   have o:Sp.opR (Sp.ob1 s) (qi 0 (Sp.ob3 s)) (qi 1 (Sp.ob3 s)) (ql 2 (Sp.ob3 s)) (qi 3 (Sp.ob3 s)) (Sp.mkC (Sp.ob6 s)) (qi 0 (m8_2 q)) (qi 0 (m8_3 p))=_:=if_pos he
   rw[o]at v
   rw[e,nv _ v]at h; cases h
theorem u8 (d:List C) (x:List C) (n:Int) (r:Int) (m:List (List C)) (z:Int) (k:List (List C)) (s:List (List C)) (q:Int) (p:Int) (t:Int):Holds (hyp (wfP.go [.agg (ofCs hV d),.agg (ofCs hD x),.agg [.int .i64 n,.int .i64 r,.sl [.int .i64] m,.int .i64 z],.agg [.sl [.int .i64,.int .i64,.int .i64] k],.sl [.int .u8] s,.int .i64 q,.int .i64 p,.int .i64 t]) (vcF PR (look (tbR [r11,r26,r37,r16,r40,r39,r41,r22,r13,r42,r30,r43,r44,r45,r46,r25,r47,r49,r48,r50,(mark 1000028),(mark 1000074),(mark 1000092)])) (fun f=>Nat.beq f 8) (A8 z) 8 8 [.agg (ofCs hV d),.agg (ofCs hD x),.agg [.int .i64 n,.int .i64 r,.sl [.int .i64] m,.int .i64 z],.agg [.sl [.int .i64,.int .i64,.int .i64] k],.sl [.int .u8] s,.int .i64 q,.int .i64 p,.int .i64 t] [] (fun sv _=>isTrue sv))):=Y (v8 d x n r m z k s q p t)
end Go.Sx

