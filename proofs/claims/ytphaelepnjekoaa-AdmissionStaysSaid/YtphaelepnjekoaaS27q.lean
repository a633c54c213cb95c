import Derived.Test.YtphaelepnjekoaaSxUse
import Derived.Test.YtphaelepnjekoaaS27h
import Derived.KernelRfl
set_option linter.unusedVariables false
set_option linter.unusedSimpArgs false
set_option maxRecDepth 100000
set_option maxHeartbeats 4000000
namespace Go
open Go.Sx
theorem Sp.allI_all {p : Int → Bool} {n : Nat} (h : ∀ k : Int, 0 ≤ k → k < (n : Int) → p k = true) : Sp.allI p n = true := by
  have : ∀ m : Nat, m ≤ n → Sp.aI p n (m : Int) := fun m => by
    induction m with
    | zero => intro _; exact Sp.aI_init
    | succ m ih => intro hm; have := Sp.aI_step (ih (by omega)) (by omega) (h (m : Int) (by omega) (by omega)); rwa [Int.natCast_succ]
  exact Sp.aI_end (this n (Nat.le_refl _)) (by omega)
theorem Sp.sameB_ok {w c p : Int} {ds ss ds2 ss2 : List (List C)} (h1 : ds.map Sp.r2 = ds2.map Sp.r2) (h2 : ss.map Sp.r4 = ss2.map Sp.r4) : Sp.sameB w c p ds ss w c p ds2 ss2 = true := by
  have l1 : ds.length = ds2.length := by have := congrArg List.length h1; rwa [List.length_map, List.length_map] at this
  have l2 : ss.length = ss2.length := by have := congrArg List.length h2; rwa [List.length_map, List.length_map] at this
  have e1 : Sp.allI (Sp.eq2 ds ds2) ds.length = true := Sp.allI_all fun k k0 k1 => by
    unfold Sp.eq2
    rw [← Sp.m2_0 (xs := ds), ← Sp.m2_1 (xs := ds), h1, Sp.m2_0, Sp.m2_1]
    simp
  have e2 : Sp.allI (Sp.eq4 ss ss2) ss.length = true := Sp.allI_all fun k k0 k1 => by
    unfold Sp.eq4
    rw [← Sp.m4_0 (xs := ss), ← Sp.m4_1 (xs := ss), ← Sp.m4_2 (xs := ss), ← Sp.m4_3 (xs := ss), h2, Sp.m4_0, Sp.m4_1, Sp.m4_2, Sp.m4_3]
    simp
  unfold Sp.sameB
  rw [e1, e2, decide_eq_true ⟨⟨rfl, rfl, rfl⟩, l1, l2⟩]; rfl
theorem Sp.allB {b : Bool} (h : b ≠ true) : b = false := by cases b; rfl; exact absurd rfl h
end Go
