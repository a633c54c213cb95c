/- Contracts and conditions, continued. -/
import Derived.Test.YtfdpnjjlhbpbiaaSxUse
import Derived.Test.YtfdpnjjlhbpbiaaC03e
import Derived.KernelRfl
set_option linter.unusedVariables false
set_option linter.unusedSimpArgs false
set_option maxRecDepth 100000
set_option maxHeartbeats 4000000

namespace Go.Sx
/-! ### function 3: law03.RatioMakes -/
def tb3 : List (Nat × Ct) := [(10, ct10), (11, ct11), (12, ct12), (13, ct13), (14, ct14), (15, ct15)]
theorem e3 (a : Int) (b : Int) (p : Int) (q : Int) : vcF Go.Proofs.Try.prog (look tb3) (fun _ => false) (fun _ _ => LoopAnn.unroll 200) 8 3 [.agg [.int .i64 a, .int .i64 b], .int .i64 p, .int .i64 q] [] (fun sv _ => isTrue sv) = (True ∧ (True → True ∧ (bNot true = true → false = true) ∧ (bNot true = false → True ∧ ((InR IntKind.i64 (Sp.mkV p q p) ∧ InR IntKind.i64 (Sp.mkV p q q) ∧ True) ∧ InR IntKind.i64 (Sp.mkE p q) ∧ True → True ∧ ((InR IntKind.i64 (Sp.mkV p q p) ∧ InR IntKind.i64 (Sp.mkV p q q) ∧ True) ∧ InR IntKind.i64 (Sp.mkE p q) ∧ True → True ∧ (True → True ∧ (True → (bSame (Sp.rvalid a b) (Sp.rvalid a b) = true → True ∧ (InR IntKind.i64 (Sp.mA p q) ∧ InR IntKind.i64 (Sp.mB p q) ∧ True → True ∧ (True → (Sp.rvalid (Sp.mA p q) (Sp.mB p q) = true → (bAnd (bEq (Sp.mkV p q p) (Sp.mkV p q p)) (bEq (Sp.mkV p q q) (Sp.mkV p q q)) = true → bEq (Sp.mkE p q) (Sp.mkE p q) = true) ∧ (bAnd (bEq (Sp.mkV p q p) (Sp.mkV p q p)) (bEq (Sp.mkV p q q) (Sp.mkV p q q)) = false → false = true)) ∧ (Sp.rvalid (Sp.mA p q) (Sp.mB p q) = false → false = true)))) ∧ (bSame (Sp.rvalid a b) (Sp.rvalid a b) = false → false = true)))))))) := by kernel_rfl
theorem v3 (a : Int) (b : Int) (p : Int) (q : Int) : Holds (Wfs [.agg [.int .i64 a, .int .i64 b], .int .i64 p, .int .i64 q] → True → vcF Go.Proofs.Try.prog (look tb3) (fun _ => false) (fun _ _ => LoopAnn.unroll 200) 8 3 [.agg [.int .i64 a, .int .i64 b], .int .i64 p, .int .i64 q] [] (fun sv _ => isTrue sv)) := by
  refine ⟨fun hw hp => ?_⟩
  rw [e3]
  have h := Sp.made_bd p q
  simp [h, bEq, bAnd, bSame]
end Go.Sx

