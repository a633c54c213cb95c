import Derived.Test.YtphaelepnjekoaaGreatSxUse
import Derived.Test.YtphaelepnjekoaaGreatZ27h
import Derived.KernelRfl
set_option linter.unusedVariables false
set_option linter.unusedSimpArgs false
set_option maxRecDepth 100000
set_option maxHeartbeats 4000000
namespace Go
open Go.Sx
theorem Sp.allI_all {p : Int → Bool} {n : Nat} (h : ∀ k : Int, 0 ≤ k → k < (n : Int) → p k = true) : Sp.allI p n = true := by
 have : ∀ m : Nat, m ≤ n → Sp.aI p n (m : Int) := fun m => by
  induction m with
  | zero => intro _; exact Sp.aI_init
  | succ m ih => intro hm; have := Sp.aI_step (ih (by omega)) (by omega) (h (m : Int) (by omega) (by omega)); rwa [Int.natCast_succ]
 exact Sp.aI_end (this n (Nat.le_refl _)) (by omega)
theorem Sp.allB {b : Bool} (h : b ≠ true) : b = false := by cases b; rfl; exact absurd rfl h
end Go
