import Derived.Test.YtejdbdegdanecaaGreatSxUse
import Derived.Test.YtejdbdegdanecaaGreatM23
import Derived.Test.YtejdbdegdanecaaGreatM18
set_option linter.unusedVariables false
set_option linter.unusedSimpArgs false
set_option maxRecDepth 100000
set_option maxHeartbeats 4000000
noncomputable section
namespace Go
open Go.Sx
def IE (d:List C) (xs:List (List C)):Bool:=Be d&&Dh (Bf d) (AU d) (Bo d) (BF d) (qi 5 d) (EZ d) xs
end Go
namespace Go.Sx
theorem v33 (d:List C) (xs:List (List C)):WD hV d/\WL hII xs->True/\Cn (Be d) (True/\(AnC (Bf d)/\AnC (AU d)->(pLe 0 (qi 13 d)/\pLe (qi 13 d) 8192/\pLe 0 (qi 9 d)/\pLe (qi 9 d) 768000)/\(AnC (Bo d)/\AnC (BF d)->(pLe 0 (qi 6 d)/\pLe (qi 6 d) 4096)/\(AnC (EZ d)->True/\Dh (Bf d) (AU d) (Bo d) (BF d) (qi 5 d) (EZ d) xs=IE d xs)))) (false=IE d xs):=by
 intro hw;simp only[D,E,IE]
 cases hv:Be d
 · exact⟨λh=>(by cases h),λ_=>rfl⟩
 have b:=OB hv;simp only[AlR];exact⟨λ_ _=>⟨⟨by omega,by omega,by omega,by omega⟩,λ_=>⟨⟨by omega,by omega⟩,λ_=>trivial⟩⟩,λh=>(by cases h)⟩
def r33:Cr PR:=K0 [r74,r76,r77,r78,r75] 33 6 {ps:=[(true,hV),(false,[.sl hII])],rs:=[(false,[.bool])],out:=λa=>[[.b (IE (AnQ a) (L a 1 0))]]} U λa=>Y (v33 (AnQ a) (L a 1 0))
theorem v35 (d:List C) (xs:List (List C)):WD hV d/\WL hII xs->True/\Cn (Be d) (True/\(AnC (Bf d)/\AnC (AU d)->(pLe 16 (qi 13 d)/\pLe (qi 13 d) 8192/\pLe 1 (qi 9 d)/\pLe (qi 9 d) 768000/\pLe 1 (qi 12 d)/\pLe (qi 12 d) 192000/\(qi 2 d=1∨qi 2 d=2))/\(AnC (Bo d)/\AnC (BF d)->(pLe 0 (qi 6 d)/\pLe (qi 6 d) 4096/\(qi 2 d=1∨qi 2 d=2))/\(AnC (EZ d)->True/\CV (Bf d) (AU d) (Bo d) (BF d) (qi 5 d) (EZ d) xs=IE d xs)))) (false=IE d xs):=by
 intro hw;simp only[D,E,IE]
 cases hv:Be d
 · exact⟨λh=>(by cases h),λ_=>rfl⟩
 have b:=OB hv;simp only[AlR];exact⟨λ_ _=>⟨⟨by omega,by omega,by omega,by omega,by omega,by omega,by omega⟩,λ_=>⟨⟨by omega,by omega,by omega⟩,λ_=>(WB _ _ _ _ _ _ _).symm⟩⟩,λh=>(by cases h)⟩
def r35:Cr PR:=K0 [r30,r48,r44,r46,r79] 35 6 {ps:=[(true,hV),(false,[.sl hII])],rs:=[(false,[.bool])],out:=λa=>[[.b (IE (AnQ a) (L a 1 0))]]} U λa=>Y (v35 (AnQ a) (L a 1 0))
end Go.Sx

