/- Contracts and conditions, continued. -/
import Derived.Test.YtfeejcmeibfomaaSxUse
import Derived.Test.YtfeejcmeibfomaaP31q
import Derived.KernelRfl
set_option linter.unusedVariables false
set_option linter.unusedSimpArgs false
set_option maxRecDepth 100000
set_option maxHeartbeats 4000000

namespace Go
open Go.Sx
section
variable {rs mm ws ks act cls : List (List C)} {wr : ByteArray} {wd wp x : Int}
theorem Sp.dcs_len : (Sp.dcs rs mm ws ks).length = ws.length := by unfold Sp.dcs; exact List.length_map ..
theorem Sp.rGet_in {xs : List (List C)} {x : Int} (h0 : 0 ≤ x) (h : x < (xs.length : Int)) : rGet xs x = xs[x.toNat]'(by omega) := by
  show xs.getD x.toNat [] = _
  rw [List.getD_eq_getElem?_getD, List.getElem?_eq_getElem (by omega)]; rfl
theorem Sp.dcs_get (h0 : 0 ≤ x) (h : x < (ws.length : Int)) : rGet (Sp.dcs rs mm ws ks) x = Sp.dcR rs mm ks (Sp.rls ws) (Sp.cls ks) (rGet ws x) := by
  rw [Sp.rGet_in h0 (by rw [Sp.dcs_len]; exact h), Sp.rGet_in h0 h]
  unfold Sp.dcs
  rw [List.getElem_map]
theorem Sp.fi_any {p : List C → Bool} {xs : List (List C)} : 0 ≤ Sp.fi p xs ↔ ∃ x ∈ xs, p x = true := by
  rw [Sp.fi_ge]
  constructor
  · rintro ⟨i, h, hp⟩; exact ⟨_, List.getElem_mem h, hp⟩
  · rintro ⟨y, hy, hp⟩
    obtain ⟨i, h, rfl⟩ := List.mem_iff_getElem.1 hy
    exact ⟨i, h, hp⟩
theorem Sp.fi_two {p : List C → Bool} {xs : List (List C)} : Sp.fi p xs = -1 ∨ (0 ≤ Sp.fi p xs ∧ Sp.fi p xs < (xs.length : Int) ∧ p (rGet xs (Sp.fi p xs)) = true) := by
  by_cases h : 0 ≤ Sp.fi p xs
  · obtain ⟨h1, h2, _⟩ := Sp.fi_at rfl h
    exact .inr ⟨h, by omega, by rw [Sp.rGet_in h (by omega)]; exact h2⟩
  · refine .inl (Sp.fi_all fun y hy => ?_)
    cases e : p y with
    | false => rfl
    | true => exact absurd (Sp.fi_any.2 ⟨y, hy, e⟩) h
theorem Sp.okS_any {c : ByteArray} {z : List C} (h : Sp.okS wd c z = true) : Sp.okS wd Sp.any3 z = true := by
  unfold Sp.okS at h ⊢
  rw [Sp.mts_any]
  simp only [Bool.and_eq_true, Bool.and_true] at h ⊢
  exact ⟨h.1, h.2.1⟩
theorem Sp.ids_mem {c : ByteArray} {v : Int} : v ∈ Sp.ids ks wd c ↔ ∃ z ∈ ks, Sp.okS wd c z = true ∧ Sp.i0 z = v := by
  unfold Sp.ids
  simp only [List.mem_map, List.mem_filter, and_assoc]
theorem Sp.stR_has {c : ByteArray} {v : Int} : Sp.has (Sp.stR ks wd c) v = true ↔ ∃ z ∈ ks, Sp.okS wd c z = true ∧ Sp.i0 z = v := by
  rw [Sp.has_iff, Sp.stR, Sp.map_row, Sp.sst_mem, Sp.ids_mem]
theorem Sp.stR_first {c : ByteArray} (h : 0 < (Sp.stR ks wd c).length) : ∃ z ∈ ks, Sp.okS wd c z = true ∧ Sp.i0 z = Sp.i0 (rGet (Sp.stR ks wd c) 0) := by
  rw [← Sp.stR_has, Sp.has_iff, List.mem_map]
  exact ⟨_, by rw [Sp.rGet_in (by omega) (by omega)]; exact List.getElem_mem _, rfl⟩
theorem Sp.stR_pos {c : ByteArray} : 0 < (Sp.stR ks wd c).length ↔ ∃ z ∈ ks, Sp.okS wd c z = true := by
  constructor
  · intro h; obtain ⟨z, h1, h2, _⟩ := Sp.stR_first h; exact ⟨z, h1, h2⟩
  · rintro ⟨z, h1, h2⟩
    have h3 : Sp.has (Sp.stR ks wd c) (Sp.i0 z) = true := Sp.stR_has.2 ⟨z, h1, h2, rfl⟩
    cases e : Sp.stR ks wd c with
    | nil => rw [Sp.has_nil (by rw [e]; rfl)] at h3; cases h3
    | cons => simp
end
end Go

