/- Contracts and conditions, continued. -/
import Derived.Test.YtphaelepnjekoaaSxUse
import Derived.Test.YtphaelepnjekoaaS27h
import Derived.KernelRfl
set_option linter.unusedVariables false
set_option linter.unusedSimpArgs false
set_option maxRecDepth 100000
set_option maxHeartbeats 4000000

namespace Go
open Go.Sx
theorem Sp.allI_all {p : Int → Bool} {n : Nat} (h : ∀ k : Int, 0 ≤ k → k < (n : Int) → p k = true) : Sp.allI p n = true := by
  have : ∀ m : Nat, m ≤ n → Sp.aI p n (m : Int) := fun m => by
    induction m with
    | zero => intro _; exact Sp.aI_init
    | succ m ih => intro hm; have := Sp.aI_step (ih (by omega)) (by omega) (h (m : Int) (by omega) (by omega)); rwa [Int.natCast_succ]
  exact Sp.aI_end (this n (Nat.le_refl _)) (by omega)
theorem Sp.sameB_ok {w c p : Int} {ds ss ds2 ss2 : List (List C)} (h1 : ds.map Sp.r2 = ds2.map Sp.r2) (h2 : ss.map Sp.r4 = ss2.map Sp.r4) : Sp.sameB w c p ds ss w c p ds2 ss2 = true := by
  have l1 : ds.length = ds2.length := by have := congrArg List.length h1; rwa [List.length_map, List.length_map] at this
  have l2 : ss.length = ss2.length := by have := congrArg List.length h2; rwa [List.length_map, List.length_map] at this
  have e1 : Sp.allI (Sp.eq2 ds ds2) ds.length = true := Sp.allI_all fun k k0 k1 => by
    unfold Sp.eq2
    rw [← Sp.m2_0 (xs := ds), ← Sp.m2_1 (xs := ds), h1, Sp.m2_0, Sp.m2_1]
    simp
  have e2 : Sp.allI (Sp.eq4 ss ss2) ss.length = true := Sp.allI_all fun k k0 k1 => by
    unfold Sp.eq4
    rw [← Sp.m4_0 (xs := ss), ← Sp.m4_1 (xs := ss), ← Sp.m4_2 (xs := ss), ← Sp.m4_3 (xs := ss), h2, Sp.m4_0, Sp.m4_1, Sp.m4_2, Sp.m4_3]
    simp
  unfold Sp.sameB
  rw [e1, e2, decide_eq_true ⟨⟨rfl, rfl, rfl⟩, l1, l2⟩]; rfl
theorem Sp.sameB_z {e w c p : Int} {ds ss ds2 ss2 : List (List C)} (h1 : e = 0 → ds.map Sp.r2 = ds2.map Sp.r2) (h2 : e = 0 → ss.map Sp.r4 = ss2.map Sp.r4) :
    Sp.sameB (Sp.zI e w) (Sp.zI e c) (Sp.zI e p) (Sp.zL e ds) (Sp.zL e ss) (Sp.zI e w) (Sp.zI e c) (Sp.zI e p) (Sp.zL e ds2) (Sp.zL e ss2) = true := by
  refine Sp.sameB_ok ?_ ?_
  · unfold Sp.zL
    by_cases h : e = 0
    · rw [decide_eq_true h]; exact h1 h
    · rw [decide_eq_false h]; rfl
  · unfold Sp.zL
    by_cases h : e = 0
    · rw [decide_eq_true h]; exact h2 h
    · rw [decide_eq_false h]; rfl
theorem Sp.allB {b : Bool} (h : b ≠ true) : b = false := by cases b; rfl; exact absurd rfl h
section
variable {w c p : Int} {ds ss : List (List C)}
theorem Sp.ho_same {id ch : Int} : Sp.sameB (Sp.zI (Sp.hoE w c p ds ss id ch) w) (Sp.zI (Sp.hoE w c p ds ss id ch) c) (Sp.zI (Sp.hoE w c p ds ss id ch) p) (Sp.zL (Sp.hoE w c p ds ss id ch) (Sp.inD ds id ch)) (Sp.zL (Sp.hoE w c p ds ss id ch) ss)
    (Sp.zI (Sp.hoE w c p ds ss id ch) w) (Sp.zI (Sp.hoE w c p ds ss id ch) c) (Sp.zI (Sp.hoE w c p ds ss id ch) p) (Sp.zL (Sp.hoE w c p ds ss id ch) (Sp.wH ds id ch)) (Sp.zL (Sp.hoE w c p ds ss id ch) ss) = true := by
  refine Sp.sameB_z (fun h => ?_) fun _ => rfl
  by_cases hb : Sp.bval w c p ds ss = true
  · exact (Sp.inD_m (Sp.bval_asc hb).1).symm
  · rw [Sp.ho1 (Sp.allB hb)] at h; omega
theorem Sp.dr_same {id : Int} : Sp.sameB (Sp.zI (Sp.drE w c p ds ss id) w) (Sp.zI (Sp.drE w c p ds ss id) c) (Sp.zI (Sp.drE w c p ds ss id) p) (Sp.zL (Sp.drE w c p ds ss id) (Sp.del ds (Sp.bsx ds id) (Sp.bsx ds id + 1))) (Sp.zL (Sp.drE w c p ds ss id) ss)
    (Sp.zI (Sp.drE w c p ds ss id) w) (Sp.zI (Sp.drE w c p ds ss id) c) (Sp.zI (Sp.drE w c p ds ss id) p) (Sp.zL (Sp.drE w c p ds ss id) (Sp.del ds (Sp.nix ds id) (Sp.nix ds id + 1))) (Sp.zL (Sp.drE w c p ds ss id) ss) = true := by
  refine Sp.sameB_z (fun h => ?_) fun _ => rfl
  by_cases hb : Sp.bval w c p ds ss = true
  · by_cases h2 : Sp.has ds id = true
    · rw [Sp.bsx_nix (Sp.bval_asc hb).1 h2]
    · rw [Sp.dr7 hb (Sp.allB h2)] at h; omega
  · rw [Sp.dr1 (Sp.allB hb)] at h; omega
theorem Sp.ad_same {s0 s1 s2 s3 n : Int} : Sp.sameB (Sp.zI (Sp.adE w c p ds ss s0 s1 s2 s3 n) w) (Sp.zI (Sp.adE w c p ds ss s0 s1 s2 s3 n) c) (Sp.zI (Sp.adE w c p ds ss s0 s1 s2 s3 n) p) (Sp.zL (Sp.adE w c p ds ss s0 s1 s2 s3 n) ds) (Sp.zL (Sp.adE w c p ds ss s0 s1 s2 s3 n) (Sp.inS ss s0 s1 s2 n))
    (Sp.zI (Sp.adE w c p ds ss s0 s1 s2 s3 n) w) (Sp.zI (Sp.adE w c p ds ss s0 s1 s2 s3 n) c) (Sp.zI (Sp.adE w c p ds ss s0 s1 s2 s3 n) p) (Sp.zL (Sp.adE w c p ds ss s0 s1 s2 s3 n) ds) (Sp.zL (Sp.adE w c p ds ss s0 s1 s2 s3 n) (Sp.wS ss s0 s1 s2 n)) = true := by
  refine Sp.sameB_z (fun _ => rfl) fun h => ?_
  by_cases hb : Sp.bval w c p ds ss = true
  · exact (Sp.inS_m (Sp.bval_asc hb).2).symm
  · rw [Sp.ad1 (Sp.allB hb)] at h; omega
theorem Sp.le_same {id : Int} : Sp.sameB (Sp.zI (Sp.leE w c p ds ss id) w) (Sp.zI (Sp.leE w c p ds ss id) c) (Sp.zI (Sp.leE w c p ds ss id) p) (Sp.zL (Sp.leE w c p ds ss id) ds) (Sp.zL (Sp.leE w c p ds ss id) (Sp.del ss (Sp.bsx ss id) (Sp.bsx ss id + 1)))
    (Sp.zI (Sp.leE w c p ds ss id) w) (Sp.zI (Sp.leE w c p ds ss id) c) (Sp.zI (Sp.leE w c p ds ss id) p) (Sp.zL (Sp.leE w c p ds ss id) ds) (Sp.zL (Sp.leE w c p ds ss id) (Sp.del ss (Sp.nix ss id) (Sp.nix ss id + 1))) = true := by
  refine Sp.sameB_z (fun _ => rfl) fun h => ?_
  by_cases hb : Sp.bval w c p ds ss = true
  · by_cases h2 : Sp.has ss id = true
    · rw [Sp.bsx_nix (Sp.bval_asc hb).2 h2]
    · rw [Sp.le7 hb (Sp.allB h2)] at h; omega
  · rw [Sp.le1 (Sp.allB hb)] at h; omega
theorem Sp.mo_same {id dv : Int} : Sp.sameB (Sp.zI (Sp.moE w c p ds ss id dv) w) (Sp.zI (Sp.moE w c p ds ss id dv) c) (Sp.zI (Sp.moE w c p ds ss id dv) p) (Sp.zL (Sp.moE w c p ds ss id dv) ds) (Sp.zL (Sp.moE w c p ds ss id dv) (Sp.mvS ss id dv))
    (Sp.zI (Sp.moE w c p ds ss id dv) w) (Sp.zI (Sp.moE w c p ds ss id dv) c) (Sp.zI (Sp.moE w c p ds ss id dv) p) (Sp.zL (Sp.moE w c p ds ss id dv) ds) (Sp.zL (Sp.moE w c p ds ss id dv) (Sp.wS (Sp.del ss (Sp.nix ss id) (Sp.nix ss id + 1)) (Sp.c0 (rGet ss (Sp.nix ss id))) dv (Sp.c2 (rGet ss (Sp.nix ss id))) (Sp.c3 (rGet ss (Sp.nix ss id))))) = true := by
  refine Sp.sameB_z (fun _ => rfl) fun h => ?_
  by_cases hb : Sp.bval w c p ds ss = true
  · by_cases h2 : Sp.has ss id = true
    · exact (Sp.mvS_m (Sp.bval_asc hb).2 h2).symm
    · rw [Sp.mo7 hb (.inl (Sp.allB h2))] at h; omega
  · rw [Sp.mo1 (Sp.allB hb)] at h; omega
theorem Sp.sameG_self {ns ls : List (List C)} : Sp.sameG ns ls ns ls = true := by
  have e : ∀ xs : List (List C), Sp.allI (Sp.eq4 xs xs) xs.length = true := fun xs => Sp.allI_all fun k _ _ => by unfold Sp.eq4; simp
  unfold Sp.sameG
  rw [e, e]; simp
end
end Go

