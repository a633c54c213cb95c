import Derived.Test.YthflbgeplmecoaaGreatSxUse
import Derived.Test.YthflbgeplmecoaaGreatM24
set_option linter.unusedVariables false
set_option linter.unusedSimpArgs false
set_option maxRecDepth 100000
set_option maxHeartbeats 4000000
noncomputable section
namespace Go.Sx
def KN (u:List (Cr PR)) (f n:Nat) (ct:Ct) {t:TypeId} {e:List Sh} (A:List (List C)→FuncId→Nat→LoopAnn)
 (h:∀args,Holds (hyp (wfP.go (ofRess ct.ps args)) (vcF PR (look (tbR u)) (fun _=>false) (A args) n f (ofRess ct.ps args) [] fun sv heap=>GivesN t e ((((ct.out args).headD []).headD default).list) sv heap)))
 (h1:∀args,∃y,(((ct.out args).headD []).headD default).list=[y]:=by exact fun _=>⟨_,rfl⟩)
 (hbx:ct.bx=none:=by rfl) (how:ct.ow=none:=by rfl) (hfr:ct.fr=some (t,e):=by rfl) (hfm:ct.fm=some .bx:=by rfl):Cr PR:=
 ⟨f,ct,contractKN followsMixed (tbR_ok u) (fun _=>false) A n f ct (fun a=>⟨hyp_pre (h a).out⟩) h1 hbx how hfr hfm⟩
end Go.Sx
namespace Go.Sx
theorem v16 (s:List (List C)):WL hB s→pLe (iLen s) 9223372036854775807→geB none (some (iMin (iLen s) 300)) (iLen s)∧Sm (cutRows s none (some (iMin (iLen s) 300))):=by
 intro hw
 simp only[D,E]
 exact fun _=>⟨by omega,by omega⟩
def r16:Cr PR:=KN [] 16 6 {ps:=[(false,[.sl hB])],rs:=[],pre:=fun _=>True,out:=fun a=>[[.l [[.l (cutRows (L a 0 0) none (some (iMin (iLen (L a 0 0)) 300)))]]]],fr:=some (117,[.sl hB]),fm:=some .bx} U fun a=>Y (v16 (L a 0 0))
end Go.Sx
namespace Go
open Go.Sx
def Sp.hc1 (l:List (List C)):List (List C):=Sp.dT l 7
def Sp.hc2 (l:List (List C)):List (List C):=Sp.dT (Sp.hc1 l) 5
def Sp.hc3 (l:List (List C)):List (List C):=Sp.dT (Sp.hc2 l) 7
def Sp.hc4 (l:List (List C)):List (List C):=Sp.dT (Sp.hc3 l) 5
end Go
namespace Go.Sx
end Go.Sx
namespace Go
open Go.Sx
end Go

