import Derived.Test.YthflbgeplmecoaaGreatSxUse
import Derived.Test.YthflbgeplmecoaaGreatM23
import Derived.Test.YthflbgeplmecoaaGreatM20
set_option linter.unusedVariables false
set_option linter.unusedSimpArgs false
set_option maxRecDepth 100000
set_option maxHeartbeats 4000000
namespace Go
open Go.Sx
def Sp.hlt (d:List C):List C:=sga 0 [0,2,0,0,0,0,0,3,0,0,3,0,0,0,3] (sg 0 [0,2,0,0,0,0,0,3,0,0,3,0,0,0,3,1,0,0,0,0,0,0,0,0,0,0,0,0,3,0,0] d) (.b false::sg 0 [0,0,0,0,0,0,0,0,0,0,0,0,3,0,0] (sg 16 [0,0,0,0,0,0,0,0,0,0,0,0,3,0,0] d))
end Go
namespace Go
open Go.Sx
theorem Sp.md_ok {l:List (List C)} {r:Int} (h:¬qi 13 (Sp.mdV l r)=0):Sp.mdE l r=0∧Sp.dvV (Sp.mdO l r)=true∧Sp.dvV (Sp.mdV l r)=true∧(Sp.mdV l r=Sp.mdO l r∨∃t,Sp.stE (Sp.mdO l r) t=0∧Sp.mdV l r=Sp.run (Sp.mdO l r) t):=by
 unfold Sp.mdV at h ⊢
 by_cases he:Sp.mdE l r≠0
 · rw[if_pos he]at h; exact(h rfl).elim
 have e0:Sp.mdE l r=0:=Classical.not_not.1 he
 have vo:Sp.dvV (Sp.mdO l r)=true:=(Sp.op_v e0).2.2.2.2
 rw[if_neg he]at h ⊢
 by_cases hd:Sp.dN (Sp.md6 l r) 4≤0
 · rw[if_pos hd]
   exact⟨e0,vo,vo,.inl rfl⟩
 · rw[if_neg hd]at h ⊢
   by_cases hs:Sp.stE (Sp.mdO l r) (iMul (qi 13 (Sp.mdO l r)) (Sp.dN (Sp.md7 l r) 3))=0
   · have i:=Sp.st_in hs
     rw[i.2.2.2.2.1]
     exact⟨e0,vo,i.2.2.2.2.2,.inr ⟨_,hs,rfl⟩⟩
   · unfold Sp.stR at h; rw[if_neg hs]at h; exact(h rfl).elim
end Go
namespace Go.Sx
end Go.Sx

