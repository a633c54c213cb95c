/- Contracts and conditions, continued. -/
import Derived.Test.YtbobgakeaoigeaaSxUse
import Derived.Test.YtbobgakeaoigeaaC22j
import Derived.KernelRfl
set_option linter.unusedVariables false
set_option linter.unusedSimpArgs false
set_option maxRecDepth 100000
set_option maxHeartbeats 4000000

namespace Go
open Go.Sx
def Sp.bkI (r : List (List C)) (a : Int) (f0 : Bool) (j : Int) (f : Bool) : Prop := 0 ≤ j ∧ j ≤ (r.length : Int) ∧ f = (f0 || Sp.has (r.take j.toNat) a)
end Go

noncomputable section
namespace Go
open Go.Sx
variable {ns ls ls' xs out : List (List C)} {i k n o a b c b0 b1 b2 b3 : Int}
theorem Sp.Rch_trans (h1 : Sp.Rch ls a b) (h2 : Sp.Rch ls b c) : Sp.Rch ls a c := by
  induction h2 with
  | one l h e => exact .more l h (by rw [e]; exact h1)
  | more l h _ ih => exact .more l h ih
theorem Sp.Rch_mono (hs : ∀ l ∈ ls, l ∈ ls') (h : Sp.Rch ls a b) : Sp.Rch ls' a b := by
  induction h with
  | one l h e => exact .one l (hs l h) e
  | more l h _ ih => exact .more l (hs l h) ih
theorem Sp.Rch_rk (r : Int → Nat) (hr : ∀ l ∈ ls, r (Sp.c0 l) < r (Sp.c2 l)) (h : Sp.Rch ls a b) : r a < r b := by
  induction h with
  | one l h e => have := hr l h; rw [e] at this; exact this
  | more l h _ ih => have := hr l h; omega
theorem Sp.Rch_node (hv : Sp.vld ns ls = true) (h : Sp.Rch ls a b) : Sp.has ns b = true := by
  cases h with
  | one l hl he => exact (Sp.vld_link hv hl).2
  | more l hl _ => exact (Sp.vld_link hv hl).2
theorem Sp.mem_rch (hv : Sp.vld ns ls = true) : Sp.has (Sp.rch ns ls a) n = true ↔ n ≠ a ∧ Sp.Rch ls a n := by
  unfold Sp.rch
  rw [hv, cond_true, Sp.has_iff]
  constructor
  · rintro ⟨x, hx, rfl⟩
    obtain ⟨y, hy, rfl⟩ := List.mem_map.1 hx
    have := (List.mem_filter.1 hy).2
    rw [Bool.and_eq_true, Bool.not_eq_true', decide_eq_false_iff_not, Sp.rB_iff] at this
    exact this
  · rintro ⟨h1, h2⟩
    obtain ⟨y, hy, rfl⟩ := Sp.has_iff.1 (Sp.Rch_node hv h2)
    exact ⟨[.i (Sp.c0 y)], List.mem_map.2 ⟨y, List.mem_filter.2 ⟨hy, by rw [decide_eq_false h1, Sp.rB_iff.2 h2]; rfl⟩, rfl⟩, rfl⟩
theorem Sp.rch_nil (hv : Sp.vld ns ls = false) : Sp.rch ns ls a = [] := by unfold Sp.rch; rw [hv]; rfl
theorem Sp.Rch_ne (hv : Sp.vld ns ls = true) (h : Sp.Rch ls a b) : b ≠ a := fun e => by
  have := Sp.Rch_rk (Sp.rk ns ls) (fun l hl => Sp.rk_lt hv hl) h
  rw [e] at this
  omega
theorem Sp.ends_has (h : Sp.ends ns b0 b1 b2 b3 = true) : Sp.has ns b0 = true ∧ Sp.has ns b2 = true := by
  rw [Sp.ends_eq, decide_eq_true_eq] at h
  refine ⟨?_, ?_⟩
  · cases hh : Sp.has ns b0
    · rw [Sp.nd_no hh] at h
      have : Sp.c3 ([] : List C) = 0 := rfl
      omega
    · rfl
  · cases hh : Sp.has ns b2
    · rw [Sp.nd_no hh] at h
      have : Sp.c2 ([] : List C) = 0 := rfl
      omega
    · rfl
theorem Sp.con_parts12 (h : Sp.vld ns ls = true) (he : Sp.conE ns ls b0 b1 b2 b3 = 12) : Sp.ends ns b0 b1 b2 b3 = true ∧ (Sp.ord ns (Sp.insL ls b0 b1 b2 b3)).length < ns.length := by
  have h1 : Sp.ends ns b0 b1 b2 b3 = true := by
    cases hf : Sp.ends ns b0 b1 b2 b3
    · rw [Sp.con7 h hf] at he; omega
    · rfl
  have h2 : Sp.h4 ls b0 b1 b2 b3 = false := by
    cases hf : Sp.h4 ls b0 b1 b2 b3
    · rfl
    · rw [Sp.con8 h h1 hf] at he; omega
  have h3 : ¬ 256 ≤ ls.length := fun hf => by rw [Sp.con3 h h1 h2 hf] at he; omega
  have h4 : Sp.crd ns ls b0 b1 b2 b3 = false := by
    cases hf : Sp.crd ns ls b0 b1 b2 b3
    · rfl
    · rw [Sp.con10 h h1 h2 h3 hf] at he; omega
  refine ⟨h1, ?_⟩
  apply Nat.lt_of_not_le
  intro hf
  rw [Sp.con0 h h1 h2 h3 h4 (by omega)] at he; omega
def Sp.bck (ns ls : List (List C)) (a c : Int) : Bool := decide (a = c) || Sp.has (Sp.rch ns ls c) a
open Classical in
theorem Sp.cyc12 (hv : Sp.vld ns ls = true) (he : Sp.conE ns ls b0 b1 b2 b3 = 12) : Sp.bck ns ls b0 b2 = true := by
  apply Classical.byContradiction
  intro hb
  unfold Sp.bck at hb
  rw [Bool.or_eq_true, decide_eq_true_eq, Sp.mem_rch hv] at hb
  obtain ⟨p1, p2⟩ := Sp.con_parts12 hv he
  have hne : ¬ b0 = b2 := fun e => hb (.inl e)
  have hnr : ¬ Sp.Rch ls b2 b0 := fun e => hb (.inr ⟨hne, e⟩)
  have rle : ∀ n, Sp.rk ns ls n ≤ (Sp.ord ns ls).length := fun n => by
    unfold Sp.rk
    have := List.idxOf_le_length (a := n) (l := (Sp.ord ns ls).map Sp.c0)
    rwa [List.length_map] at this
  have hm : ∀ x, x ∈ Sp.insL ls b0 b1 b2 b3 ↔ x = [C.i b0, C.i b1, C.i b2, C.i b3] ∨ x ∈ ls := fun x => Sp.mem_ins
  have := Sp.ord_full (ns := ns) (ls := Sp.insL ls b0 b1 b2 b3) (Sp.asc_nd (Sp.vl_of hv).asc) (fun l hl => by
      rcases (hm l).1 hl with rfl | hl
      · exact (Sp.ends_has p1).1
      · exact (Sp.vld_link hv hl).1)
    (fun n => Sp.rk ns ls n + (if n = b2 ∨ Sp.Rch ls b2 n then (Sp.ord ns ls).length + 1 else 0)) (fun l hl => by
      rcases (hm l).1 hl with rfl | hl
      · show Sp.rk ns ls b0 + (if b0 = b2 ∨ Sp.Rch ls b2 b0 then _ else 0) < Sp.rk ns ls b2 + (if b2 = b2 ∨ Sp.Rch ls b2 b2 then _ else 0)
        rw [if_neg (fun h => h.elim hne hnr), if_pos (.inl rfl)]
        have := rle b0
        omega
      · have h1 := Sp.rk_lt hv hl
        by_cases hr : Sp.c0 l = b2 ∨ Sp.Rch ls b2 (Sp.c0 l)
        · have hr2 : Sp.Rch ls b2 (Sp.c2 l) := by
            rcases hr with hr | hr
            · exact .one l hl hr
            · exact .more l hl hr
          rw [if_pos hr, if_pos (.inr hr2)]
          omega
        · rw [if_neg hr]
          omega)
  omega
theorem Sp.cyc0 (hv : Sp.vld ns ls = true) (he : Sp.conE ns ls b0 b1 b2 b3 = 0) : Sp.bck ns ls b0 b2 = false ∧ Sp.has (Sp.rch (Sp.conN ns ls b0 b1 b2 b3) (Sp.conL ns ls b0 b1 b2 b3) b0) b2 = true ∧ Sp.vld (Sp.conN ns ls b0 b1 b2 b3) (Sp.conL ns ls b0 b1 b2 b3) = true := by
  have hw := Sp.con_vld hv he
  obtain ⟨⟨e1, e2⟩, _⟩ := Sp.con_ok he
  rw [← e1, ← e2] at hw ⊢
  have hm : ∀ x, x ∈ Sp.insL ls b0 b1 b2 b3 ↔ x = [C.i b0, C.i b1, C.i b2, C.i b3] ∨ x ∈ ls := fun x => Sp.mem_ins
  have hl : Sp.rk ns (Sp.insL ls b0 b1 b2 b3) b0 < Sp.rk ns (Sp.insL ls b0 b1 b2 b3) b2 := Sp.rk_lt hw ((hm _).2 (.inl rfl))
  have hr : Sp.Rch (Sp.insL ls b0 b1 b2 b3) b0 b2 := .one [C.i b0, C.i b1, C.i b2, C.i b3] ((hm _).2 (.inl rfl)) rfl
  refine ⟨?_, (Sp.mem_rch hw).2 ⟨Sp.Rch_ne hw hr, hr⟩, hw⟩
  cases hb : Sp.bck ns ls b0 b2
  · rfl
  · exfalso
    unfold Sp.bck at hb
    rw [Bool.or_eq_true, decide_eq_true_eq, Sp.mem_rch hv] at hb
    rcases hb with hb | hb
    · rw [hb] at hl; omega
    · have := Sp.Rch_rk (Sp.rk ns (Sp.insL ls b0 b1 b2 b3)) (fun l h => Sp.rk_lt hw h) (Sp.Rch_mono (fun l h => (hm l).2 (.inr h)) hb.2)
      omega
end Go

namespace Go
open Go.Sx
variable {r : List (List C)} {a j : Int} {f0 f : Bool}
theorem Sp.bk_init : Sp.bkI r a f0 0 f0 := ⟨by omega, by omega, by rw [show (0 : Int).toNat = 0 from rfl, List.take_zero, Sp.has_nil, Bool.or_false]⟩
theorem Sp.bk_step (h : Sp.bkI r a f0 j f) (hj : j < (r.length : Int)) : Sp.bkI r a f0 (j + 1) (f || decide (Sp.c0 (rGet r j) = a)) := by
  obtain ⟨h0, h1, h2⟩ := h
  exact ⟨by omega, by omega, by rw [Sp.has_take h0 hj, h2, Bool.or_assoc]⟩
theorem Sp.bk_end (h : Sp.bkI r a f0 j f) (hj : ¬ j < (r.length : Int)) : f = (f0 || Sp.has r a) := by
  obtain ⟨h0, h1, h2⟩ := h
  rw [h2, List.take_of_length_le (by omega)]
end Go

