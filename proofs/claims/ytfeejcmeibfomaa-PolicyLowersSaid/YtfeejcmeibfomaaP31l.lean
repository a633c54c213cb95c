/- Contracts and conditions, continued. -/
import Derived.Test.YtfeejcmeibfomaaSxUse
import Derived.Test.YtfeejcmeibfomaaP31k
import Derived.KernelRfl
set_option linter.unusedVariables false
set_option linter.unusedSimpArgs false
set_option maxRecDepth 100000
set_option maxHeartbeats 4000000

namespace Go
open Go.Sx
def Sp.ln (x : Int) : Int := bif decide (x < 1) then 0 else bif decide (x < 2) then 1 else bif decide (x < 4) then 2 else bif decide (x < 8) then 3 else 4
def Sp.caI (ks : List (List C)) (d : Int) (c : ByteArray) (z : Int) (o : List Int) : Prop := 0 ≤ z ∧ z ≤ (ks.length : Int) ∧ o = Sp.ids (ks.take z.toNat) d c ∧ (o.length : Int) ≤ z
def Sp.iA (o : List Int) (q : Int) : Int := o.getD q.toNat 0
def Sp.isI (xs : List (List C)) (i : Int) (o : List Int) : Prop := 1 ≤ i ∧ (i ≤ (xs.length : Int) ∨ i = 1) ∧ o.length = xs.length ∧ (∀ v, v ∈ o ↔ v ∈ xs.map Sp.i0) ∧ ∀ p q : Int, 0 ≤ p → p < q → q < i → q < (o.length : Int) → Sp.iA o p ≤ Sp.iA o q
def Sp.isJ (xs : List (List C)) (i j : Int) (o : List Int) : Prop := 0 ≤ j ∧ j ≤ i ∧ i < (xs.length : Int) ∧ o.length = xs.length ∧ (∀ v, v ∈ o ↔ v ∈ xs.map Sp.i0) ∧ ∀ p q : Int, 0 ≤ p → p < q → q ≤ i → q ≠ j → Sp.iA o p ≤ Sp.iA o q
def Sp.cpI (xs : List (List C)) (k : Int) : Prop := 1 ≤ k ∧ k ≤ (xs.length : Int) ∧ ∀ q : Int, 1 ≤ q → q < k → Sp.i0 (rGet xs (q - 1)) ≠ Sp.i0 (rGet xs q)
def Sp.cqI (xs : List (List C)) (l k b : Int) (o : List Int) : Prop := 1 ≤ l ∧ l ≤ k ∧ k < l + b ∧ 1 ≤ b ∧ l + b ≤ (xs.length : Int) ∧ o.length = xs.length ∧ (∀ q : Int, l + b - 1 ≤ q → q < (o.length : Int) → Sp.iA o q = Sp.i0 (rGet xs q)) ∧ (∀ p q : Int, 0 ≤ p → p < q → q < k → Sp.iA o p < Sp.iA o q) ∧ (∀ v, (∃ p : Int, 0 ≤ p ∧ p < k ∧ Sp.iA o p = v) ↔ (∃ p : Int, 0 ≤ p ∧ p < l + b ∧ Sp.i0 (rGet xs p) = v)) ∧ Sp.iA o (k - 1) = Sp.i0 (rGet xs (l + b - 1))
end Go

namespace Go
open Go.Sx
theorem Sp.iA_get {o : List Int} {q : Int} (h0 : 0 ≤ q) (h : q < (o.length : Int)) : Sp.i0 (rGet (o.map Sp.row) q) = Sp.iA o q := by
  rw [Sp.row_get h0 h]
  unfold Sp.iA
  rw [List.getD_eq_getElem?_getD, List.getElem?_eq_getElem (by omega)]; rfl
theorem Sp.iA_mem {o : List Int} {v : Int} : v ∈ o ↔ ∃ q : Int, 0 ≤ q ∧ q < (o.length : Int) ∧ Sp.iA o q = v := by
  constructor
  · intro h
    obtain ⟨i, hi, e⟩ := List.getElem_of_mem h
    refine ⟨(i : Int), by omega, by omega, ?_⟩
    unfold Sp.iA
    rw [List.getD_eq_getElem?_getD, Int.toNat_natCast, List.getElem?_eq_getElem hi]; exact e
  · rintro ⟨q, h0, h1, e⟩
    unfold Sp.iA at e
    rw [List.getD_eq_getElem?_getD, List.getElem?_eq_getElem (by omega)] at e
    rw [← e]; exact List.getElem_mem _
def Sp.sw (o : List Int) (j : Int) : List Int := (o.set j.toNat (Sp.iA o (j - 1))).set (j - 1).toNat (Sp.iA o j)
theorem Sp.sw_len {o : List Int} {j : Int} : (Sp.sw o j).length = o.length := by simp [Sp.sw]
theorem Sp.sw_at {o : List Int} {j q : Int} (hj : 0 < j) (hjl : j < (o.length : Int)) (h0 : 0 ≤ q) (h : q < (o.length : Int)) : Sp.iA (Sp.sw o j) q = if q = j - 1 then Sp.iA o j else if q = j then Sp.iA o (j - 1) else Sp.iA o q := by
  have hg : ∀ w : Int, Sp.iA (Sp.sw o j) w = ((Sp.sw o j)[w.toNat]?).getD 0 := fun w => by unfold Sp.iA; rw [List.getD_eq_getElem?_getD]
  rw [hg]
  unfold Sp.sw
  rw [List.getElem?_set, List.getElem?_set]
  simp only [List.length_set]
  by_cases h1 : q = j - 1
  · rw [if_pos h1, if_pos (by omega), if_pos (by omega)]; rfl
  · rw [if_neg h1, if_neg (by omega)]
    by_cases h2 : q = j
    · rw [if_pos h2, if_pos (by omega), if_pos (by omega)]; rfl
    · rw [if_neg h2, if_neg (by omega)]
      unfold Sp.iA; rw [List.getD_eq_getElem?_getD]
theorem Sp.sw_mem {o : List Int} {j : Int} (hj : 0 < j) (hjl : j < (o.length : Int)) (v : Int) : v ∈ Sp.sw o j ↔ v ∈ o := by
  rw [Sp.iA_mem, Sp.iA_mem, Sp.sw_len]
  constructor
  · rintro ⟨q, h0, h1, e⟩
    rw [Sp.sw_at hj hjl h0 h1] at e
    by_cases h2 : q = j - 1
    · rw [if_pos h2] at e; exact ⟨j, by omega, hjl, e⟩
    · rw [if_neg h2] at e
      by_cases h3 : q = j
      · rw [if_pos h3] at e; exact ⟨j - 1, by omega, by omega, e⟩
      · rw [if_neg h3] at e; exact ⟨q, h0, h1, e⟩
  · rintro ⟨q, h0, h1, e⟩
    by_cases h2 : q = j - 1
    · exact ⟨j, by omega, hjl, by rw [Sp.sw_at hj hjl (by omega) hjl, if_neg (by omega), if_pos rfl, ← h2]; exact e⟩
    · by_cases h3 : q = j
      · exact ⟨j - 1, by omega, by omega, by rw [Sp.sw_at hj hjl (by omega) (by omega), if_pos rfl, ← h3]; exact e⟩
      · exact ⟨q, h0, h1, by rw [Sp.sw_at hj hjl h0 h1, if_neg h2, if_neg h3]; exact e⟩
theorem Sp.sw_row {o : List Int} {j : Int} (hj : 0 < j) (hjl : j < (o.length : Int)) :
    rSet (rSet (o.map Sp.row) j [.i (Sp.i0 (rGet (o.map Sp.row) (j - 1)))]) (j - 1) [.i (Sp.i0 (rGet (o.map Sp.row) j))] = (Sp.sw o j).map Sp.row := by
  rw [Sp.iA_get (by omega) (by omega), Sp.iA_get (by omega) hjl]
  unfold Sp.sw rSet
  rw [List.map_set, List.map_set]; rfl
theorem Sp.isI_init {o : List Int} : Sp.isI (o.map Sp.row) 1 o := ⟨by omega, .inr rfl, by simp, fun v => by rw [Sp.map_row], fun p q h0 h1 h2 => by omega⟩
theorem Sp.isJ_init {xs : List (List C)} {i : Int} {o : List Int} (h : Sp.isI xs i o) (hi : i < (xs.length : Int)) : Sp.isJ (o.map Sp.row) i i o := by
  obtain ⟨a, b, c, d, e⟩ := h
  exact ⟨by omega, by omega, by rw [List.length_map]; omega, by simp, fun v => by rw [Sp.map_row], fun p q h0 h1 h2 h3 => e p q h0 h1 (by omega) (by omega)⟩
theorem Sp.isJ_next {xs : List (List C)} {i j : Int} {o : List Int} (h : Sp.isJ xs i j o) (hj : 0 < j) (hc : Sp.iA o j < Sp.iA o (j - 1)) : Sp.isJ xs i (j - 1) (Sp.sw o j) := by
  obtain ⟨a, b, c, d, e, f⟩ := h
  have hjl : j < (o.length : Int) := by omega
  refine ⟨by omega, by omega, c, by rw [Sp.sw_len]; exact d, fun v => by rw [Sp.sw_mem hj hjl]; exact e v, fun p q h0 h1 h2 h3 => ?_⟩
  rw [Sp.sw_at hj hjl h0 (by omega), Sp.sw_at hj hjl (by omega) (by omega), if_neg h3]
  by_cases p1 : p = j - 1
  · rw [if_pos p1]
    by_cases q1 : q = j
    · rw [if_pos q1]; omega
    · rw [if_neg q1]; exact f j q (by omega) (by omega) h2 q1
  · rw [if_neg p1]
    by_cases p2 : p = j
    · rw [if_pos p2, if_neg (by omega)]; exact f (j - 1) q (by omega) (by omega) h2 (by omega)
    · rw [if_neg p2]
      by_cases q1 : q = j
      · rw [if_pos q1]; exact f p (j - 1) h0 (by omega) (by omega) (by omega)
      · rw [if_neg q1]; exact f p q h0 h1 h2 q1
theorem Sp.isJ_end {xs : List (List C)} {i j : Int} {o o' : List Int} (h : Sp.isI xs i o) (h' : Sp.isJ (o.map Sp.row) i j o') (hc : 0 < j → ¬ Sp.iA o' j < Sp.iA o' (j - 1)) : Sp.isI xs (i + 1) o' := by
  obtain ⟨a, b, c, d, e⟩ := h
  obtain ⟨a', b', c', d', e', f'⟩ := h'
  rw [List.length_map] at c' d'
  refine ⟨by omega, .inl (by omega), by omega, fun v => by rw [e' v, Sp.map_row]; exact d v, fun p q h0 h1 h2 h3 => ?_⟩
  by_cases q1 : q = j
  · have := hc (by omega)
    by_cases p1 : p = j - 1
    · rw [q1, p1]; omega
    · have h4 := f' p (j - 1) h0 (by omega) (by omega) (by omega)
      rw [q1]; omega
  · exact f' p q h0 h1 (by omega) q1
theorem Sp.isI_end {xs : List (List C)} {i : Int} {o : List Int} (h : Sp.isI xs i o) (hi : ¬ i < (xs.length : Int)) : (∀ v, v ∈ o ↔ v ∈ xs.map Sp.i0) ∧ ∀ p q : Int, 0 ≤ p → p < q → q < (o.length : Int) → Sp.iA o p ≤ Sp.iA o q := by
  obtain ⟨a, b, c, d, e⟩ := h
  exact ⟨d, fun p q h0 h1 h2 => e p q h0 h1 (by omega) h2⟩
end Go

namespace Go
open Go.Sx
theorem Sp.asc_eq {a b : List Int} (ha : a.Pairwise (· < ·)) (hb : b.Pairwise (· < ·)) (h : ∀ v, v ∈ a ↔ v ∈ b) : a = b :=
  Sp.pw_eq b a ha hb (fun x hx => (h x).1 hx) (Nat.le_antisymm (Sp.pw_len b a ha hb fun x hx => (h x).1 hx) (Sp.pw_len a b hb ha fun x hx => (h x).2 hx))
theorem Sp.iA_pw {o : List Int} (h : ∀ p q : Int, 0 ≤ p → p < q → q < (o.length : Int) → Sp.iA o p < Sp.iA o q) : o.Pairwise (· < ·) := by
  rw [List.pairwise_iff_getElem]
  intro i j hi hj hij
  have := h (i : Int) (j : Int) (by omega) (by omega) (by omega)
  unfold Sp.iA at this
  rw [List.getD_eq_getElem?_getD, List.getD_eq_getElem?_getD, Int.toNat_natCast, Int.toNat_natCast, List.getElem?_eq_getElem hi, List.getElem?_eq_getElem hj] at this
  exact this
theorem Sp.stR_of {ks : List (List C)} {d : Int} {c : ByteArray} {o : List Int} (hs : ∀ p q : Int, 0 ≤ p → p < q → q < (o.length : Int) → Sp.iA o p < Sp.iA o q) (hm : ∀ v, v ∈ o ↔ v ∈ Sp.ids ks d c) : o.map Sp.row = Sp.stR ks d c := by
  unfold Sp.stR
  rw [Sp.asc_eq (Sp.iA_pw hs) (Sp.sst_pw (Sp.ids ks d c)) (fun v => by rw [hm v, Sp.sst_mem])]
theorem Sp.caI_init {ks : List (List C)} {d : Int} {c : ByteArray} : Sp.caI ks d c 0 [] := ⟨by omega, by omega, by simp [Sp.ids], by simp⟩
theorem Sp.ca_step {ks : List (List C)} {d : Int} {c : ByteArray} {z : Int} {o : List Int} (h : Sp.caI ks d c z o) (hz : z < (ks.length : Int)) : Sp.ids (ks.take (z + 1).toNat) d c = bif Sp.okS d c (rGet ks z) then o ++ [Sp.i0 (rGet ks z)] else o := by
  obtain ⟨a, b, e, f⟩ := h
  rw [Sp.takeAt a hz]
  unfold Sp.ids at e ⊢
  rw [List.filter_append, List.map_append, List.filter_cons, e]
  cases Sp.okS d c (rGet ks z) <;> simp
theorem Sp.ca_skip {ks : List (List C)} {d : Int} {c : ByteArray} {z : Int} {o : List Int} (h : Sp.caI ks d c z o) (hz : z < (ks.length : Int)) (hk : Sp.okS d c (rGet ks z) = false) : Sp.caI ks d c (z + 1) o := by
  have e := Sp.ca_step h hz
  rw [hk] at e
  obtain ⟨a, b, _, f⟩ := h
  exact ⟨by omega, by omega, e.symm, by omega⟩
theorem Sp.ca_add {ks : List (List C)} {d : Int} {c : ByteArray} {z : Int} {o : List Int} (h : Sp.caI ks d c z o) (hz : z < (ks.length : Int)) (hk : Sp.okS d c (rGet ks z) = true) : Sp.caI ks d c (z + 1) (o ++ [Sp.i0 (rGet ks z)]) := by
  have e := Sp.ca_step h hz
  rw [hk] at e
  obtain ⟨a, b, _, f⟩ := h
  exact ⟨by omega, by omega, e.symm, by simp only [List.length_append, List.length_singleton]; omega⟩
theorem Sp.ca_end {ks : List (List C)} {d : Int} {c : ByteArray} {z : Int} {o : List Int} (h : Sp.caI ks d c z o) (hz : ¬ z < (ks.length : Int)) : o = Sp.ids ks d c := by
  obtain ⟨a, b, e, f⟩ := h
  rw [e, List.take_of_length_le (by omega)]
theorem Sp.cpI_init {xs : List (List C)} (h : 1 ≤ (xs.length : Int)) : Sp.cpI xs 1 := ⟨by omega, h, fun q h0 h1 => by omega⟩
theorem Sp.cpI_next {xs : List (List C)} {k : Int} (h : Sp.cpI xs k) (hk : k < (xs.length : Int)) (hn : ¬ Sp.i0 (rGet xs k) = Sp.i0 (rGet xs (k - 1))) : Sp.cpI xs (k + 1) := by
  obtain ⟨a, b, c⟩ := h
  refine ⟨by omega, by omega, fun q h0 h1 => ?_⟩
  by_cases hq : q = k
  · rw [hq]; exact fun e => hn e.symm
  · exact c q h0 (by omega)
theorem Sp.cp_strict {o : List Int} {k : Int} (h : Sp.cpI (o.map Sp.row) k) (hs : ∀ p q : Int, 0 ≤ p → p < q → q < (o.length : Int) → Sp.iA o p ≤ Sp.iA o q) (p q : Int) (h0 : 0 ≤ p) (h1 : p < q) (h2 : q < k) : Sp.iA o p < Sp.iA o q := by
  obtain ⟨a, b, c⟩ := h
  rw [List.length_map] at b
  have hne := c q (by omega) h2
  rw [Sp.iA_get (by omega) (by omega), Sp.iA_get (by omega) (by omega)] at hne
  have hle := hs (q - 1) q (by omega) (by omega) (by omega)
  by_cases e : p = q - 1
  · rw [e]; omega
  · have := hs p (q - 1) h0 (by omega) (by omega); omega
theorem Sp.cqI_init {o : List Int} {l : Int} (h : Sp.cpI (o.map Sp.row) l) (hl : l < (o.length : Int)) (hs : ∀ p q : Int, 0 ≤ p → p < q → q < (o.length : Int) → Sp.iA o p ≤ Sp.iA o q) (he : Sp.iA o l = Sp.iA o (l - 1)) : Sp.cqI (o.map Sp.row) l l 1 o := by
  have hst := Sp.cp_strict h hs
  have h1 := h.1
  refine ⟨h1, by omega, by omega, by omega, by rw [List.length_map]; omega, by simp, fun q hq hq2 => (Sp.iA_get (by omega) hq2).symm, fun p q a b c => hst p q a b c, fun v => ?_, ?_⟩
  · constructor
    · rintro ⟨p, a, b, e⟩
      exact ⟨p, a, by omega, by rw [Sp.iA_get a (by omega)]; exact e⟩
    · rintro ⟨p, a, b, e⟩
      rw [Sp.iA_get a (by omega)] at e
      by_cases hp : p = l
      · exact ⟨l - 1, by omega, by omega, by rw [← he, ← hp]; exact e⟩
      · exact ⟨p, a, by omega, e⟩
  · rw [show l + 1 - 1 = l by omega, Sp.iA_get (by omega) hl]; exact he.symm
theorem Sp.cqI_keep {o o' : List Int} {l k b : Int} (h : Sp.cqI (o.map Sp.row) l k b o') (hb : l + b < (o.length : Int)) (he : Sp.iA o' (l + b) = Sp.iA o' (l + b - 1)) : Sp.cqI (o.map Sp.row) l k (b + 1) o' := by
  obtain ⟨a1, a2, a3, a4, a5, a6, a7, a8, a9, a10⟩ := h
  rw [List.length_map] at a5 a6
  have r1 := a7 (l + b) (by omega) (by omega)
  have r2 := a7 (l + b - 1) (by omega) (by omega)
  refine ⟨a1, a2, by omega, by omega, by rw [List.length_map]; omega, by rw [List.length_map]; omega, fun q h0 h1 => a7 q (by omega) h1, a8, fun v => ?_, ?_⟩
  · rw [a9 v]
    constructor
    · rintro ⟨p, q1, q2, e⟩; exact ⟨p, q1, by omega, e⟩
    · rintro ⟨p, q1, q2, e⟩
      by_cases hp : p = l + b
      · exact ⟨l + b - 1, by omega, by omega, by rw [← r2, ← he, r1, ← hp]; exact e⟩
      · exact ⟨p, q1, by omega, e⟩
  · rw [a10, ← r2, ← he, r1, show l + (b + 1) - 1 = l + b by omega]
theorem Sp.set_at {o : List Int} {k q v : Int} (hk : 0 ≤ k) (hq : 0 ≤ q) (hql : q < (o.length : Int)) : Sp.iA (o.set k.toNat v) q = if q = k then v else Sp.iA o q := by
  unfold Sp.iA
  rw [List.getD_eq_getElem?_getD, List.getD_eq_getElem?_getD, List.getElem?_set]
  by_cases h : q = k
  · rw [if_pos h, if_pos (by omega), if_pos (by omega)]; rfl
  · rw [if_neg h, if_neg (by omega)]
theorem Sp.cqI_put {o o' : List Int} {l k b : Int} (h : Sp.cqI (o.map Sp.row) l k b o') (hb : l + b < (o.length : Int)) (hs : ∀ p q : Int, 0 ≤ p → p < q → q < (o.length : Int) → Sp.iA o p ≤ Sp.iA o q) (he : ¬ Sp.iA o' (l + b) = Sp.iA o' (l + b - 1)) : Sp.cqI (o.map Sp.row) l (k + 1) (b + 1) (o'.set k.toNat (Sp.iA o' (l + b))) := by
  obtain ⟨a1, a2, a3, a4, a5, a6, a7, a8, a9, a10⟩ := h
  rw [List.length_map] at a5 a6
  have r1 := a7 (l + b) (by omega) (by omega)
  have r2 := a7 (l + b - 1) (by omega) (by omega)
  have s1 := Sp.iA_get (o := o) (q := l + b) (by omega) hb
  have s2 := Sp.iA_get (o := o) (q := l + b - 1) (by omega) (by omega)
  have hle := hs (l + b - 1) (l + b) (by omega) (by omega) hb
  have hlt : Sp.iA o' (k - 1) < Sp.iA o' (l + b) := by rw [a10, ← r2]; omega
  have at_ : ∀ q : Int, 0 ≤ q → q < (o'.length : Int) → Sp.iA (o'.set k.toNat (Sp.iA o' (l + b))) q = if q = k then Sp.iA o' (l + b) else Sp.iA o' q := fun q h0 h1 => Sp.set_at (by omega) h0 h1
  refine ⟨a1, by omega, by omega, by omega, by rw [List.length_map]; omega, by rw [List.length_set, List.length_map]; omega, fun q h0 h1 => ?_, fun p q h0 h1 h2 => ?_, fun v => ?_, ?_⟩
  · rw [List.length_set] at h1
    rw [at_ q (by omega) h1, if_neg (by omega)]; exact a7 q (by omega) h1
  · rw [at_ p h0 (by omega), at_ q (by omega) (by omega), if_neg (by omega)]
    by_cases hq : q = k
    · rw [if_pos hq]
      by_cases hp : p = k - 1
      · rw [hp]; exact hlt
      · have := a8 p (k - 1) h0 (by omega) (by omega); omega
    · rw [if_neg hq]; exact a8 p q h0 h1 (by omega)
  · constructor
    · rintro ⟨p, q1, q2, e⟩
      rw [at_ p q1 (by omega)] at e
      by_cases hp : p = k
      · rw [if_pos hp] at e; exact ⟨l + b, by omega, by omega, by rw [← r1]; exact e⟩
      · rw [if_neg hp] at e
        obtain ⟨p', q1', q2', e'⟩ := (a9 v).1 ⟨p, q1, by omega, e⟩
        exact ⟨p', q1', by omega, e'⟩
    · rintro ⟨p, q1, q2, e⟩
      by_cases hp : p = l + b
      · exact ⟨k, by omega, by omega, by rw [at_ k (by omega) (by omega), if_pos rfl, r1, ← hp]; exact e⟩
      · obtain ⟨p', q1', q2', e'⟩ := (a9 v).2 ⟨p, q1, by omega, e⟩
        exact ⟨p', q1', by omega, by rw [at_ p' q1' (by omega), if_neg (by omega)]; exact e'⟩
  · rw [show k + 1 - 1 = k by omega, show l + (b + 1) - 1 = l + b by omega, at_ k (by omega) (by omega), if_pos rfl]; exact r1
theorem Sp.cqI_end {o o' : List Int} {l k b : Int} (h : Sp.cqI (o.map Sp.row) l k b o') (hb : ¬ l + b < (o.length : Int)) : (∀ p q : Int, 0 ≤ p → p < q → q < ((o'.take k.toNat).length : Int) → Sp.iA (o'.take k.toNat) p < Sp.iA (o'.take k.toNat) q) ∧ ∀ v, v ∈ o'.take k.toNat ↔ v ∈ o := by
  obtain ⟨a1, a2, a3, a4, a5, a6, a7, a8, a9, a10⟩ := h
  rw [List.length_map] at a5 a6
  have hl : ((o'.take k.toNat).length : Int) = k := by rw [List.length_take]; omega
  have at_ : ∀ q : Int, 0 ≤ q → q < k → Sp.iA (o'.take k.toNat) q = Sp.iA o' q := fun q h0 h1 => by
    unfold Sp.iA
    rw [List.getD_eq_getElem?_getD, List.getD_eq_getElem?_getD, List.getElem?_take, if_pos (by omega)]
  refine ⟨fun p q h0 h1 h2 => ?_, fun v => ?_⟩
  · rw [hl] at h2
    rw [at_ p h0 (by omega), at_ q (by omega) h2]; exact a8 p q h0 h1 h2
  · rw [Sp.iA_mem, hl, Sp.iA_mem]
    constructor
    · rintro ⟨p, q1, q2, e⟩
      rw [at_ p q1 q2] at e
      obtain ⟨p', q1', q2', e'⟩ := (a9 v).1 ⟨p, q1, q2, e⟩
      exact ⟨p', q1', by omega, by rw [← Sp.iA_get q1' (by omega)]; exact e'⟩
    · rintro ⟨p, q1, q2, e⟩
      obtain ⟨p', q1', q2', e'⟩ := (a9 v).2 ⟨p, q1, by omega, by rw [Sp.iA_get q1 q2]; exact e⟩
      exact ⟨p', q1', q2', by rw [at_ p' q1' q2']; exact e'⟩
end Go

namespace Go.Sx
/-! ### function 72: bits.Len -/
def ct72 : Ct := { ps := [(false, [.int .u64])], rs := [(false, [.int .i64])], pre := fun a => pLe (cel 0 (arg 0 a)).int 12 ∧ True, out := fun a => [[.i (Sp.ln (cel 0 (arg 0 a)).int)]] }
def tb72 : List (Nat × Ct) := []
def A72  : FuncId → Nat → LoopAnn := fun _ _ => LoopAnn.unroll 200
abbrev B72 (x : Int) : Prop := vcF Go.Proofs.Try.prog (look tb72) (fun _ => true) (A72) 6 72 [.int .u64 x] [] (fun sv heap => Gives [(false, [.int .i64])] [[.i (Sp.ln x)]] sv heap)
theorem e72 (x : Int) : B72 x = ((bLe 4294967296 x = true → pSh 64 32 ∧ (bLe 65536 (iShr x 32) = true → pSh 64 16 ∧ (bLe 256 (iShr (iShr x 32) 16) = true → pSh 64 8 ∧ pIn 0 (iSize { data := { toList := ([0, 1, 2, 2, 3, 3, 3, 3, 4, 4, 4, 4, 4, 4, 4, 4, 5, 5, 5, 5, 5, 5, 5, 5, 5, 5, 5, 5, 5, 5, 5, 5, 6, 6, 6, 6, 6, 6, 6, 6, 6, 6, 6, 6, 6, 6, 6, 6, 6, 6, 6, 6, 6, 6, 6, 6, 6, 6, 6, 6, 6, 6, 6, 6].append [7, 7, 7, 7, 7, 7, 7, 7, 7, 7, 7, 7, 7, 7, 7, 7, 7, 7, 7, 7, 7, 7, 7, 7, 7, 7, 7, 7, 7, 7, 7, 7, 7, 7, 7, 7, 7, 7, 7, 7, 7, 7, 7, 7, 7, 7, 7, 7, 7, 7, 7, 7, 7, 7, 7, 7, 7, 7, 7, 7, 7, 7, 7, 7]).append ([8, 8, 8, 8, 8, 8, 8, 8, 8, 8, 8, 8, 8, 8, 8, 8, 8, 8, 8, 8, 8, 8, 8, 8, 8, 8, 8, 8, 8, 8, 8, 8, 8, 8, 8, 8, 8, 8, 8, 8, 8, 8, 8, 8, 8, 8, 8, 8, 8, 8, 8, 8, 8, 8, 8, 8, 8, 8, 8, 8, 8, 8, 8, 8].append [8, 8, 8, 8, 8, 8, 8, 8, 8, 8, 8, 8, 8, 8, 8, 8, 8, 8, 8, 8, 8, 8, 8, 8, 8, 8, 8, 8, 8, 8, 8, 8, 8, 8, 8, 8, 8, 8, 8, 8, 8, 8, 8, 8, 8, 8, 8, 8, 8, 8, 8, 8, 8, 8, 8, 8, 8, 8, 8, 8, 8, 8, 8, 8]) } }) (iWrap .u8 (iShr (iShr (iShr x 32) 16) 8)) ∧ (iWrap .i64 (iAdd (32 + 16 + 8) (sAt { data := { toList := ([0, 1, 2, 2, 3, 3, 3, 3, 4, 4, 4, 4, 4, 4, 4, 4, 5, 5, 5, 5, 5, 5, 5, 5, 5, 5, 5, 5, 5, 5, 5, 5, 6, 6, 6, 6, 6, 6, 6, 6, 6, 6, 6, 6, 6, 6, 6, 6, 6, 6, 6, 6, 6, 6, 6, 6, 6, 6, 6, 6, 6, 6, 6, 6].append [7, 7, 7, 7, 7, 7, 7, 7, 7, 7, 7, 7, 7, 7, 7, 7, 7, 7, 7, 7, 7, 7, 7, 7, 7, 7, 7, 7, 7, 7, 7, 7, 7, 7, 7, 7, 7, 7, 7, 7, 7, 7, 7, 7, 7, 7, 7, 7, 7, 7, 7, 7, 7, 7, 7, 7, 7, 7, 7, 7, 7, 7, 7, 7]).append ([8, 8, 8, 8, 8, 8, 8, 8, 8, 8, 8, 8, 8, 8, 8, 8, 8, 8, 8, 8, 8, 8, 8, 8, 8, 8, 8, 8, 8, 8, 8, 8, 8, 8, 8, 8, 8, 8, 8, 8, 8, 8, 8, 8, 8, 8, 8, 8, 8, 8, 8, 8, 8, 8, 8, 8, 8, 8, 8, 8, 8, 8, 8, 8].append [8, 8, 8, 8, 8, 8, 8, 8, 8, 8, 8, 8, 8, 8, 8, 8, 8, 8, 8, 8, 8, 8, 8, 8, 8, 8, 8, 8, 8, 8, 8, 8, 8, 8, 8, 8, 8, 8, 8, 8, 8, 8, 8, 8, 8, 8, 8, 8, 8, 8, 8, 8, 8, 8, 8, 8, 8, 8, 8, 8, 8, 8, 8, 8]) } } (iWrap .u8 (iShr (iShr (iShr x 32) 16) 8)))) = Sp.ln x ∧ True) ∧ True) ∧ (bLe 256 (iShr (iShr x 32) 16) = false → pIn 0 (iSize { data := { toList := ([0, 1, 2, 2, 3, 3, 3, 3, 4, 4, 4, 4, 4, 4, 4, 4, 5, 5, 5, 5, 5, 5, 5, 5, 5, 5, 5, 5, 5, 5, 5, 5, 6, 6, 6, 6, 6, 6, 6, 6, 6, 6, 6, 6, 6, 6, 6, 6, 6, 6, 6, 6, 6, 6, 6, 6, 6, 6, 6, 6, 6, 6, 6, 6].append [7, 7, 7, 7, 7, 7, 7, 7, 7, 7, 7, 7, 7, 7, 7, 7, 7, 7, 7, 7, 7, 7, 7, 7, 7, 7, 7, 7, 7, 7, 7, 7, 7, 7, 7, 7, 7, 7, 7, 7, 7, 7, 7, 7, 7, 7, 7, 7, 7, 7, 7, 7, 7, 7, 7, 7, 7, 7, 7, 7, 7, 7, 7, 7]).append ([8, 8, 8, 8, 8, 8, 8, 8, 8, 8, 8, 8, 8, 8, 8, 8, 8, 8, 8, 8, 8, 8, 8, 8, 8, 8, 8, 8, 8, 8, 8, 8, 8, 8, 8, 8, 8, 8, 8, 8, 8, 8, 8, 8, 8, 8, 8, 8, 8, 8, 8, 8, 8, 8, 8, 8, 8, 8, 8, 8, 8, 8, 8, 8].append [8, 8, 8, 8, 8, 8, 8, 8, 8, 8, 8, 8, 8, 8, 8, 8, 8, 8, 8, 8, 8, 8, 8, 8, 8, 8, 8, 8, 8, 8, 8, 8, 8, 8, 8, 8, 8, 8, 8, 8, 8, 8, 8, 8, 8, 8, 8, 8, 8, 8, 8, 8, 8, 8, 8, 8, 8, 8, 8, 8, 8, 8, 8, 8]) } }) (iWrap .u8 (iShr (iShr x 32) 16)) ∧ (iWrap .i64 (iAdd (32 + 16) (sAt { data := { toList := ([0, 1, 2, 2, 3, 3, 3, 3, 4, 4, 4, 4, 4, 4, 4, 4, 5, 5, 5, 5, 5, 5, 5, 5, 5, 5, 5, 5, 5, 5, 5, 5, 6, 6, 6, 6, 6, 6, 6, 6, 6, 6, 6, 6, 6, 6, 6, 6, 6, 6, 6, 6, 6, 6, 6, 6, 6, 6, 6, 6, 6, 6, 6, 6].append [7, 7, 7, 7, 7, 7, 7, 7, 7, 7, 7, 7, 7, 7, 7, 7, 7, 7, 7, 7, 7, 7, 7, 7, 7, 7, 7, 7, 7, 7, 7, 7, 7, 7, 7, 7, 7, 7, 7, 7, 7, 7, 7, 7, 7, 7, 7, 7, 7, 7, 7, 7, 7, 7, 7, 7, 7, 7, 7, 7, 7, 7, 7, 7]).append ([8, 8, 8, 8, 8, 8, 8, 8, 8, 8, 8, 8, 8, 8, 8, 8, 8, 8, 8, 8, 8, 8, 8, 8, 8, 8, 8, 8, 8, 8, 8, 8, 8, 8, 8, 8, 8, 8, 8, 8, 8, 8, 8, 8, 8, 8, 8, 8, 8, 8, 8, 8, 8, 8, 8, 8, 8, 8, 8, 8, 8, 8, 8, 8].append [8, 8, 8, 8, 8, 8, 8, 8, 8, 8, 8, 8, 8, 8, 8, 8, 8, 8, 8, 8, 8, 8, 8, 8, 8, 8, 8, 8, 8, 8, 8, 8, 8, 8, 8, 8, 8, 8, 8, 8, 8, 8, 8, 8, 8, 8, 8, 8, 8, 8, 8, 8, 8, 8, 8, 8, 8, 8, 8, 8, 8, 8, 8, 8]) } } (iWrap .u8 (iShr (iShr x 32) 16)))) = Sp.ln x ∧ True) ∧ True)) ∧ (bLe 65536 (iShr x 32) = false → (bLe 256 (iShr x 32) = true → pSh 64 8 ∧ pIn 0 (iSize { data := { toList := ([0, 1, 2, 2, 3, 3, 3, 3, 4, 4, 4, 4, 4, 4, 4, 4, 5, 5, 5, 5, 5, 5, 5, 5, 5, 5, 5, 5, 5, 5, 5, 5, 6, 6, 6, 6, 6, 6, 6, 6, 6, 6, 6, 6, 6, 6, 6, 6, 6, 6, 6, 6, 6, 6, 6, 6, 6, 6, 6, 6, 6, 6, 6, 6].append [7, 7, 7, 7, 7, 7, 7, 7, 7, 7, 7, 7, 7, 7, 7, 7, 7, 7, 7, 7, 7, 7, 7, 7, 7, 7, 7, 7, 7, 7, 7, 7, 7, 7, 7, 7, 7, 7, 7, 7, 7, 7, 7, 7, 7, 7, 7, 7, 7, 7, 7, 7, 7, 7, 7, 7, 7, 7, 7, 7, 7, 7, 7, 7]).append ([8, 8, 8, 8, 8, 8, 8, 8, 8, 8, 8, 8, 8, 8, 8, 8, 8, 8, 8, 8, 8, 8, 8, 8, 8, 8, 8, 8, 8, 8, 8, 8, 8, 8, 8, 8, 8, 8, 8, 8, 8, 8, 8, 8, 8, 8, 8, 8, 8, 8, 8, 8, 8, 8, 8, 8, 8, 8, 8, 8, 8, 8, 8, 8].append [8, 8, 8, 8, 8, 8, 8, 8, 8, 8, 8, 8, 8, 8, 8, 8, 8, 8, 8, 8, 8, 8, 8, 8, 8, 8, 8, 8, 8, 8, 8, 8, 8, 8, 8, 8, 8, 8, 8, 8, 8, 8, 8, 8, 8, 8, 8, 8, 8, 8, 8, 8, 8, 8, 8, 8, 8, 8, 8, 8, 8, 8, 8, 8]) } }) (iWrap .u8 (iShr (iShr x 32) 8)) ∧ (iWrap .i64 (iAdd (32 + 8) (sAt { data := { toList := ([0, 1, 2, 2, 3, 3, 3, 3, 4, 4, 4, 4, 4, 4, 4, 4, 5, 5, 5, 5, 5, 5, 5, 5, 5, 5, 5, 5, 5, 5, 5, 5, 6, 6, 6, 6, 6, 6, 6, 6, 6, 6, 6, 6, 6, 6, 6, 6, 6, 6, 6, 6, 6, 6, 6, 6, 6, 6, 6, 6, 6, 6, 6, 6].append [7, 7, 7, 7, 7, 7, 7, 7, 7, 7, 7, 7, 7, 7, 7, 7, 7, 7, 7, 7, 7, 7, 7, 7, 7, 7, 7, 7, 7, 7, 7, 7, 7, 7, 7, 7, 7, 7, 7, 7, 7, 7, 7, 7, 7, 7, 7, 7, 7, 7, 7, 7, 7, 7, 7, 7, 7, 7, 7, 7, 7, 7, 7, 7]).append ([8, 8, 8, 8, 8, 8, 8, 8, 8, 8, 8, 8, 8, 8, 8, 8, 8, 8, 8, 8, 8, 8, 8, 8, 8, 8, 8, 8, 8, 8, 8, 8, 8, 8, 8, 8, 8, 8, 8, 8, 8, 8, 8, 8, 8, 8, 8, 8, 8, 8, 8, 8, 8, 8, 8, 8, 8, 8, 8, 8, 8, 8, 8, 8].append [8, 8, 8, 8, 8, 8, 8, 8, 8, 8, 8, 8, 8, 8, 8, 8, 8, 8, 8, 8, 8, 8, 8, 8, 8, 8, 8, 8, 8, 8, 8, 8, 8, 8, 8, 8, 8, 8, 8, 8, 8, 8, 8, 8, 8, 8, 8, 8, 8, 8, 8, 8, 8, 8, 8, 8, 8, 8, 8, 8, 8, 8, 8, 8]) } } (iWrap .u8 (iShr (iShr x 32) 8)))) = Sp.ln x ∧ True) ∧ True) ∧ (bLe 256 (iShr x 32) = false → pIn 0 (iSize { data := { toList := ([0, 1, 2, 2, 3, 3, 3, 3, 4, 4, 4, 4, 4, 4, 4, 4, 5, 5, 5, 5, 5, 5, 5, 5, 5, 5, 5, 5, 5, 5, 5, 5, 6, 6, 6, 6, 6, 6, 6, 6, 6, 6, 6, 6, 6, 6, 6, 6, 6, 6, 6, 6, 6, 6, 6, 6, 6, 6, 6, 6, 6, 6, 6, 6].append [7, 7, 7, 7, 7, 7, 7, 7, 7, 7, 7, 7, 7, 7, 7, 7, 7, 7, 7, 7, 7, 7, 7, 7, 7, 7, 7, 7, 7, 7, 7, 7, 7, 7, 7, 7, 7, 7, 7, 7, 7, 7, 7, 7, 7, 7, 7, 7, 7, 7, 7, 7, 7, 7, 7, 7, 7, 7, 7, 7, 7, 7, 7, 7]).append ([8, 8, 8, 8, 8, 8, 8, 8, 8, 8, 8, 8, 8, 8, 8, 8, 8, 8, 8, 8, 8, 8, 8, 8, 8, 8, 8, 8, 8, 8, 8, 8, 8, 8, 8, 8, 8, 8, 8, 8, 8, 8, 8, 8, 8, 8, 8, 8, 8, 8, 8, 8, 8, 8, 8, 8, 8, 8, 8, 8, 8, 8, 8, 8].append [8, 8, 8, 8, 8, 8, 8, 8, 8, 8, 8, 8, 8, 8, 8, 8, 8, 8, 8, 8, 8, 8, 8, 8, 8, 8, 8, 8, 8, 8, 8, 8, 8, 8, 8, 8, 8, 8, 8, 8, 8, 8, 8, 8, 8, 8, 8, 8, 8, 8, 8, 8, 8, 8, 8, 8, 8, 8, 8, 8, 8, 8, 8, 8]) } }) (iWrap .u8 (iShr x 32)) ∧ (iWrap .i64 (iAdd 32 (sAt { data := { toList := ([0, 1, 2, 2, 3, 3, 3, 3, 4, 4, 4, 4, 4, 4, 4, 4, 5, 5, 5, 5, 5, 5, 5, 5, 5, 5, 5, 5, 5, 5, 5, 5, 6, 6, 6, 6, 6, 6, 6, 6, 6, 6, 6, 6, 6, 6, 6, 6, 6, 6, 6, 6, 6, 6, 6, 6, 6, 6, 6, 6, 6, 6, 6, 6].append [7, 7, 7, 7, 7, 7, 7, 7, 7, 7, 7, 7, 7, 7, 7, 7, 7, 7, 7, 7, 7, 7, 7, 7, 7, 7, 7, 7, 7, 7, 7, 7, 7, 7, 7, 7, 7, 7, 7, 7, 7, 7, 7, 7, 7, 7, 7, 7, 7, 7, 7, 7, 7, 7, 7, 7, 7, 7, 7, 7, 7, 7, 7, 7]).append ([8, 8, 8, 8, 8, 8, 8, 8, 8, 8, 8, 8, 8, 8, 8, 8, 8, 8, 8, 8, 8, 8, 8, 8, 8, 8, 8, 8, 8, 8, 8, 8, 8, 8, 8, 8, 8, 8, 8, 8, 8, 8, 8, 8, 8, 8, 8, 8, 8, 8, 8, 8, 8, 8, 8, 8, 8, 8, 8, 8, 8, 8, 8, 8].append [8, 8, 8, 8, 8, 8, 8, 8, 8, 8, 8, 8, 8, 8, 8, 8, 8, 8, 8, 8, 8, 8, 8, 8, 8, 8, 8, 8, 8, 8, 8, 8, 8, 8, 8, 8, 8, 8, 8, 8, 8, 8, 8, 8, 8, 8, 8, 8, 8, 8, 8, 8, 8, 8, 8, 8, 8, 8, 8, 8, 8, 8, 8, 8]) } } (iWrap .u8 (iShr x 32)))) = Sp.ln x ∧ True) ∧ True))) ∧ (bLe 4294967296 x = false → (bLe 65536 x = true → pSh 64 16 ∧ (bLe 256 (iShr x 16) = true → pSh 64 8 ∧ pIn 0 (iSize { data := { toList := ([0, 1, 2, 2, 3, 3, 3, 3, 4, 4, 4, 4, 4, 4, 4, 4, 5, 5, 5, 5, 5, 5, 5, 5, 5, 5, 5, 5, 5, 5, 5, 5, 6, 6, 6, 6, 6, 6, 6, 6, 6, 6, 6, 6, 6, 6, 6, 6, 6, 6, 6, 6, 6, 6, 6, 6, 6, 6, 6, 6, 6, 6, 6, 6].append [7, 7, 7, 7, 7, 7, 7, 7, 7, 7, 7, 7, 7, 7, 7, 7, 7, 7, 7, 7, 7, 7, 7, 7, 7, 7, 7, 7, 7, 7, 7, 7, 7, 7, 7, 7, 7, 7, 7, 7, 7, 7, 7, 7, 7, 7, 7, 7, 7, 7, 7, 7, 7, 7, 7, 7, 7, 7, 7, 7, 7, 7, 7, 7]).append ([8, 8, 8, 8, 8, 8, 8, 8, 8, 8, 8, 8, 8, 8, 8, 8, 8, 8, 8, 8, 8, 8, 8, 8, 8, 8, 8, 8, 8, 8, 8, 8, 8, 8, 8, 8, 8, 8, 8, 8, 8, 8, 8, 8, 8, 8, 8, 8, 8, 8, 8, 8, 8, 8, 8, 8, 8, 8, 8, 8, 8, 8, 8, 8].append [8, 8, 8, 8, 8, 8, 8, 8, 8, 8, 8, 8, 8, 8, 8, 8, 8, 8, 8, 8, 8, 8, 8, 8, 8, 8, 8, 8, 8, 8, 8, 8, 8, 8, 8, 8, 8, 8, 8, 8, 8, 8, 8, 8, 8, 8, 8, 8, 8, 8, 8, 8, 8, 8, 8, 8, 8, 8, 8, 8, 8, 8, 8, 8]) } }) (iWrap .u8 (iShr (iShr x 16) 8)) ∧ (iWrap .i64 (iAdd (0 + 16 + 8) (sAt { data := { toList := ([0, 1, 2, 2, 3, 3, 3, 3, 4, 4, 4, 4, 4, 4, 4, 4, 5, 5, 5, 5, 5, 5, 5, 5, 5, 5, 5, 5, 5, 5, 5, 5, 6, 6, 6, 6, 6, 6, 6, 6, 6, 6, 6, 6, 6, 6, 6, 6, 6, 6, 6, 6, 6, 6, 6, 6, 6, 6, 6, 6, 6, 6, 6, 6].append [7, 7, 7, 7, 7, 7, 7, 7, 7, 7, 7, 7, 7, 7, 7, 7, 7, 7, 7, 7, 7, 7, 7, 7, 7, 7, 7, 7, 7, 7, 7, 7, 7, 7, 7, 7, 7, 7, 7, 7, 7, 7, 7, 7, 7, 7, 7, 7, 7, 7, 7, 7, 7, 7, 7, 7, 7, 7, 7, 7, 7, 7, 7, 7]).append ([8, 8, 8, 8, 8, 8, 8, 8, 8, 8, 8, 8, 8, 8, 8, 8, 8, 8, 8, 8, 8, 8, 8, 8, 8, 8, 8, 8, 8, 8, 8, 8, 8, 8, 8, 8, 8, 8, 8, 8, 8, 8, 8, 8, 8, 8, 8, 8, 8, 8, 8, 8, 8, 8, 8, 8, 8, 8, 8, 8, 8, 8, 8, 8].append [8, 8, 8, 8, 8, 8, 8, 8, 8, 8, 8, 8, 8, 8, 8, 8, 8, 8, 8, 8, 8, 8, 8, 8, 8, 8, 8, 8, 8, 8, 8, 8, 8, 8, 8, 8, 8, 8, 8, 8, 8, 8, 8, 8, 8, 8, 8, 8, 8, 8, 8, 8, 8, 8, 8, 8, 8, 8, 8, 8, 8, 8, 8, 8]) } } (iWrap .u8 (iShr (iShr x 16) 8)))) = Sp.ln x ∧ True) ∧ True) ∧ (bLe 256 (iShr x 16) = false → pIn 0 (iSize { data := { toList := ([0, 1, 2, 2, 3, 3, 3, 3, 4, 4, 4, 4, 4, 4, 4, 4, 5, 5, 5, 5, 5, 5, 5, 5, 5, 5, 5, 5, 5, 5, 5, 5, 6, 6, 6, 6, 6, 6, 6, 6, 6, 6, 6, 6, 6, 6, 6, 6, 6, 6, 6, 6, 6, 6, 6, 6, 6, 6, 6, 6, 6, 6, 6, 6].append [7, 7, 7, 7, 7, 7, 7, 7, 7, 7, 7, 7, 7, 7, 7, 7, 7, 7, 7, 7, 7, 7, 7, 7, 7, 7, 7, 7, 7, 7, 7, 7, 7, 7, 7, 7, 7, 7, 7, 7, 7, 7, 7, 7, 7, 7, 7, 7, 7, 7, 7, 7, 7, 7, 7, 7, 7, 7, 7, 7, 7, 7, 7, 7]).append ([8, 8, 8, 8, 8, 8, 8, 8, 8, 8, 8, 8, 8, 8, 8, 8, 8, 8, 8, 8, 8, 8, 8, 8, 8, 8, 8, 8, 8, 8, 8, 8, 8, 8, 8, 8, 8, 8, 8, 8, 8, 8, 8, 8, 8, 8, 8, 8, 8, 8, 8, 8, 8, 8, 8, 8, 8, 8, 8, 8, 8, 8, 8, 8].append [8, 8, 8, 8, 8, 8, 8, 8, 8, 8, 8, 8, 8, 8, 8, 8, 8, 8, 8, 8, 8, 8, 8, 8, 8, 8, 8, 8, 8, 8, 8, 8, 8, 8, 8, 8, 8, 8, 8, 8, 8, 8, 8, 8, 8, 8, 8, 8, 8, 8, 8, 8, 8, 8, 8, 8, 8, 8, 8, 8, 8, 8, 8, 8]) } }) (iWrap .u8 (iShr x 16)) ∧ (iWrap .i64 (iAdd (0 + 16) (sAt { data := { toList := ([0, 1, 2, 2, 3, 3, 3, 3, 4, 4, 4, 4, 4, 4, 4, 4, 5, 5, 5, 5, 5, 5, 5, 5, 5, 5, 5, 5, 5, 5, 5, 5, 6, 6, 6, 6, 6, 6, 6, 6, 6, 6, 6, 6, 6, 6, 6, 6, 6, 6, 6, 6, 6, 6, 6, 6, 6, 6, 6, 6, 6, 6, 6, 6].append [7, 7, 7, 7, 7, 7, 7, 7, 7, 7, 7, 7, 7, 7, 7, 7, 7, 7, 7, 7, 7, 7, 7, 7, 7, 7, 7, 7, 7, 7, 7, 7, 7, 7, 7, 7, 7, 7, 7, 7, 7, 7, 7, 7, 7, 7, 7, 7, 7, 7, 7, 7, 7, 7, 7, 7, 7, 7, 7, 7, 7, 7, 7, 7]).append ([8, 8, 8, 8, 8, 8, 8, 8, 8, 8, 8, 8, 8, 8, 8, 8, 8, 8, 8, 8, 8, 8, 8, 8, 8, 8, 8, 8, 8, 8, 8, 8, 8, 8, 8, 8, 8, 8, 8, 8, 8, 8, 8, 8, 8, 8, 8, 8, 8, 8, 8, 8, 8, 8, 8, 8, 8, 8, 8, 8, 8, 8, 8, 8].append [8, 8, 8, 8, 8, 8, 8, 8, 8, 8, 8, 8, 8, 8, 8, 8, 8, 8, 8, 8, 8, 8, 8, 8, 8, 8, 8, 8, 8, 8, 8, 8, 8, 8, 8, 8, 8, 8, 8, 8, 8, 8, 8, 8, 8, 8, 8, 8, 8, 8, 8, 8, 8, 8, 8, 8, 8, 8, 8, 8, 8, 8, 8, 8]) } } (iWrap .u8 (iShr x 16)))) = Sp.ln x ∧ True) ∧ True)) ∧ (bLe 65536 x = false → (bLe 256 x = true → pSh 64 8 ∧ pIn 0 (iSize { data := { toList := ([0, 1, 2, 2, 3, 3, 3, 3, 4, 4, 4, 4, 4, 4, 4, 4, 5, 5, 5, 5, 5, 5, 5, 5, 5, 5, 5, 5, 5, 5, 5, 5, 6, 6, 6, 6, 6, 6, 6, 6, 6, 6, 6, 6, 6, 6, 6, 6, 6, 6, 6, 6, 6, 6, 6, 6, 6, 6, 6, 6, 6, 6, 6, 6].append [7, 7, 7, 7, 7, 7, 7, 7, 7, 7, 7, 7, 7, 7, 7, 7, 7, 7, 7, 7, 7, 7, 7, 7, 7, 7, 7, 7, 7, 7, 7, 7, 7, 7, 7, 7, 7, 7, 7, 7, 7, 7, 7, 7, 7, 7, 7, 7, 7, 7, 7, 7, 7, 7, 7, 7, 7, 7, 7, 7, 7, 7, 7, 7]).append ([8, 8, 8, 8, 8, 8, 8, 8, 8, 8, 8, 8, 8, 8, 8, 8, 8, 8, 8, 8, 8, 8, 8, 8, 8, 8, 8, 8, 8, 8, 8, 8, 8, 8, 8, 8, 8, 8, 8, 8, 8, 8, 8, 8, 8, 8, 8, 8, 8, 8, 8, 8, 8, 8, 8, 8, 8, 8, 8, 8, 8, 8, 8, 8].append [8, 8, 8, 8, 8, 8, 8, 8, 8, 8, 8, 8, 8, 8, 8, 8, 8, 8, 8, 8, 8, 8, 8, 8, 8, 8, 8, 8, 8, 8, 8, 8, 8, 8, 8, 8, 8, 8, 8, 8, 8, 8, 8, 8, 8, 8, 8, 8, 8, 8, 8, 8, 8, 8, 8, 8, 8, 8, 8, 8, 8, 8, 8, 8]) } }) (iWrap .u8 (iShr x 8)) ∧ (iWrap .i64 (iAdd (0 + 8) (sAt { data := { toList := ([0, 1, 2, 2, 3, 3, 3, 3, 4, 4, 4, 4, 4, 4, 4, 4, 5, 5, 5, 5, 5, 5, 5, 5, 5, 5, 5, 5, 5, 5, 5, 5, 6, 6, 6, 6, 6, 6, 6, 6, 6, 6, 6, 6, 6, 6, 6, 6, 6, 6, 6, 6, 6, 6, 6, 6, 6, 6, 6, 6, 6, 6, 6, 6].append [7, 7, 7, 7, 7, 7, 7, 7, 7, 7, 7, 7, 7, 7, 7, 7, 7, 7, 7, 7, 7, 7, 7, 7, 7, 7, 7, 7, 7, 7, 7, 7, 7, 7, 7, 7, 7, 7, 7, 7, 7, 7, 7, 7, 7, 7, 7, 7, 7, 7, 7, 7, 7, 7, 7, 7, 7, 7, 7, 7, 7, 7, 7, 7]).append ([8, 8, 8, 8, 8, 8, 8, 8, 8, 8, 8, 8, 8, 8, 8, 8, 8, 8, 8, 8, 8, 8, 8, 8, 8, 8, 8, 8, 8, 8, 8, 8, 8, 8, 8, 8, 8, 8, 8, 8, 8, 8, 8, 8, 8, 8, 8, 8, 8, 8, 8, 8, 8, 8, 8, 8, 8, 8, 8, 8, 8, 8, 8, 8].append [8, 8, 8, 8, 8, 8, 8, 8, 8, 8, 8, 8, 8, 8, 8, 8, 8, 8, 8, 8, 8, 8, 8, 8, 8, 8, 8, 8, 8, 8, 8, 8, 8, 8, 8, 8, 8, 8, 8, 8, 8, 8, 8, 8, 8, 8, 8, 8, 8, 8, 8, 8, 8, 8, 8, 8, 8, 8, 8, 8, 8, 8, 8, 8]) } } (iWrap .u8 (iShr x 8)))) = Sp.ln x ∧ True) ∧ True) ∧ (bLe 256 x = false → pIn 0 (iSize { data := { toList := ([0, 1, 2, 2, 3, 3, 3, 3, 4, 4, 4, 4, 4, 4, 4, 4, 5, 5, 5, 5, 5, 5, 5, 5, 5, 5, 5, 5, 5, 5, 5, 5, 6, 6, 6, 6, 6, 6, 6, 6, 6, 6, 6, 6, 6, 6, 6, 6, 6, 6, 6, 6, 6, 6, 6, 6, 6, 6, 6, 6, 6, 6, 6, 6].append [7, 7, 7, 7, 7, 7, 7, 7, 7, 7, 7, 7, 7, 7, 7, 7, 7, 7, 7, 7, 7, 7, 7, 7, 7, 7, 7, 7, 7, 7, 7, 7, 7, 7, 7, 7, 7, 7, 7, 7, 7, 7, 7, 7, 7, 7, 7, 7, 7, 7, 7, 7, 7, 7, 7, 7, 7, 7, 7, 7, 7, 7, 7, 7]).append ([8, 8, 8, 8, 8, 8, 8, 8, 8, 8, 8, 8, 8, 8, 8, 8, 8, 8, 8, 8, 8, 8, 8, 8, 8, 8, 8, 8, 8, 8, 8, 8, 8, 8, 8, 8, 8, 8, 8, 8, 8, 8, 8, 8, 8, 8, 8, 8, 8, 8, 8, 8, 8, 8, 8, 8, 8, 8, 8, 8, 8, 8, 8, 8].append [8, 8, 8, 8, 8, 8, 8, 8, 8, 8, 8, 8, 8, 8, 8, 8, 8, 8, 8, 8, 8, 8, 8, 8, 8, 8, 8, 8, 8, 8, 8, 8, 8, 8, 8, 8, 8, 8, 8, 8, 8, 8, 8, 8, 8, 8, 8, 8, 8, 8, 8, 8, 8, 8, 8, 8, 8, 8, 8, 8, 8, 8, 8, 8]) } }) (iWrap .u8 x) ∧ (iWrap .i64 (iAdd 0 (sAt { data := { toList := ([0, 1, 2, 2, 3, 3, 3, 3, 4, 4, 4, 4, 4, 4, 4, 4, 5, 5, 5, 5, 5, 5, 5, 5, 5, 5, 5, 5, 5, 5, 5, 5, 6, 6, 6, 6, 6, 6, 6, 6, 6, 6, 6, 6, 6, 6, 6, 6, 6, 6, 6, 6, 6, 6, 6, 6, 6, 6, 6, 6, 6, 6, 6, 6].append [7, 7, 7, 7, 7, 7, 7, 7, 7, 7, 7, 7, 7, 7, 7, 7, 7, 7, 7, 7, 7, 7, 7, 7, 7, 7, 7, 7, 7, 7, 7, 7, 7, 7, 7, 7, 7, 7, 7, 7, 7, 7, 7, 7, 7, 7, 7, 7, 7, 7, 7, 7, 7, 7, 7, 7, 7, 7, 7, 7, 7, 7, 7, 7]).append ([8, 8, 8, 8, 8, 8, 8, 8, 8, 8, 8, 8, 8, 8, 8, 8, 8, 8, 8, 8, 8, 8, 8, 8, 8, 8, 8, 8, 8, 8, 8, 8, 8, 8, 8, 8, 8, 8, 8, 8, 8, 8, 8, 8, 8, 8, 8, 8, 8, 8, 8, 8, 8, 8, 8, 8, 8, 8, 8, 8, 8, 8, 8, 8].append [8, 8, 8, 8, 8, 8, 8, 8, 8, 8, 8, 8, 8, 8, 8, 8, 8, 8, 8, 8, 8, 8, 8, 8, 8, 8, 8, 8, 8, 8, 8, 8, 8, 8, 8, 8, 8, 8, 8, 8, 8, 8, 8, 8, 8, 8, 8, 8, 8, 8, 8, 8, 8, 8, 8, 8, 8, 8, 8, 8, 8, 8, 8, 8]) } } (iWrap .u8 x))) = Sp.ln x ∧ True) ∧ True)))) := by kernel_rfl
theorem v72 (x : Int) : Holds (Wfs [.int .u64 x] → pLe x 12 ∧ True → B72 x) := by
  refine ⟨fun hw hp => ?_⟩
  rw [e72]
  have h0 : 0 ≤ x ∧ x ≤ 18446744073709551615 := by simpa [Wfs, Wf, InR] using hw
  have hx := hp.1
  simp only [pLe] at hx
  have T : ∀ n : Fin 13, sAt ({ data := { toList := ([0, 1, 2, 2, 3, 3, 3, 3, 4, 4, 4, 4, 4, 4, 4, 4, 5, 5, 5, 5, 5, 5, 5, 5, 5, 5, 5, 5, 5, 5, 5, 5, 6, 6, 6, 6, 6, 6, 6, 6, 6, 6, 6, 6, 6, 6, 6, 6, 6, 6, 6, 6, 6, 6, 6, 6, 6, 6, 6, 6, 6, 6, 6, 6].append [7, 7, 7, 7, 7, 7, 7, 7, 7, 7, 7, 7, 7, 7, 7, 7, 7, 7, 7, 7, 7, 7, 7, 7, 7, 7, 7, 7, 7, 7, 7, 7, 7, 7, 7, 7, 7, 7, 7, 7, 7, 7, 7, 7, 7, 7, 7, 7, 7, 7, 7, 7, 7, 7, 7, 7, 7, 7, 7, 7, 7, 7, 7, 7]).append ([8, 8, 8, 8, 8, 8, 8, 8, 8, 8, 8, 8, 8, 8, 8, 8, 8, 8, 8, 8, 8, 8, 8, 8, 8, 8, 8, 8, 8, 8, 8, 8, 8, 8, 8, 8, 8, 8, 8, 8, 8, 8, 8, 8, 8, 8, 8, 8, 8, 8, 8, 8, 8, 8, 8, 8, 8, 8, 8, 8, 8, 8, 8, 8].append [8, 8, 8, 8, 8, 8, 8, 8, 8, 8, 8, 8, 8, 8, 8, 8, 8, 8, 8, 8, 8, 8, 8, 8, 8, 8, 8, 8, 8, 8, 8, 8, 8, 8, 8, 8, 8, 8, 8, 8, 8, 8, 8, 8, 8, 8, 8, 8, 8, 8, 8, 8, 8, 8, 8, 8, 8, 8, 8, 8, 8, 8, 8, 8]) } }) ((n.val : Nat) : Int) = Sp.ln ((n.val : Nat) : Int) := by decide +kernel
  have s : iSize ({ data := { toList := ([0, 1, 2, 2, 3, 3, 3, 3, 4, 4, 4, 4, 4, 4, 4, 4, 5, 5, 5, 5, 5, 5, 5, 5, 5, 5, 5, 5, 5, 5, 5, 5, 6, 6, 6, 6, 6, 6, 6, 6, 6, 6, 6, 6, 6, 6, 6, 6, 6, 6, 6, 6, 6, 6, 6, 6, 6, 6, 6, 6, 6, 6, 6, 6].append [7, 7, 7, 7, 7, 7, 7, 7, 7, 7, 7, 7, 7, 7, 7, 7, 7, 7, 7, 7, 7, 7, 7, 7, 7, 7, 7, 7, 7, 7, 7, 7, 7, 7, 7, 7, 7, 7, 7, 7, 7, 7, 7, 7, 7, 7, 7, 7, 7, 7, 7, 7, 7, 7, 7, 7, 7, 7, 7, 7, 7, 7, 7, 7]).append ([8, 8, 8, 8, 8, 8, 8, 8, 8, 8, 8, 8, 8, 8, 8, 8, 8, 8, 8, 8, 8, 8, 8, 8, 8, 8, 8, 8, 8, 8, 8, 8, 8, 8, 8, 8, 8, 8, 8, 8, 8, 8, 8, 8, 8, 8, 8, 8, 8, 8, 8, 8, 8, 8, 8, 8, 8, 8, 8, 8, 8, 8, 8, 8].append [8, 8, 8, 8, 8, 8, 8, 8, 8, 8, 8, 8, 8, 8, 8, 8, 8, 8, 8, 8, 8, 8, 8, 8, 8, 8, 8, 8, 8, 8, 8, 8, 8, 8, 8, 8, 8, 8, 8, 8, 8, 8, 8, 8, 8, 8, 8, 8, 8, 8, 8, 8, 8, 8, 8, 8, 8, 8, 8, 8, 8, 8, 8, 8]) } }) = 256 := by decide +kernel
  have W : iWrap .u8 x = x := InR.wrap (by simp only [InR]; omega)
  refine ⟨fun h => absurd (of_decide_eq_true h) (by omega), fun _ => ⟨fun h => absurd (of_decide_eq_true h) (by omega), fun _ => ⟨fun h => absurd (of_decide_eq_true h) (by omega), fun _ => ?_⟩⟩⟩
  rw [W]
  have t := T ⟨x.toNat, by omega⟩
  simp only [Int.toNat_of_nonneg h0.1] at t
  have lb : 0 ≤ Sp.ln x ∧ Sp.ln x ≤ 4 := by
    unfold Sp.ln
    cases decide (x < 1) <;> cases decide (x < 2) <;> cases decide (x < 4) <;> cases decide (x < 8) <;> decide
  refine ⟨⟨h0.1, by rw [s]; omega⟩, ⟨?_, trivial⟩, trivial⟩
  rw [t]
  simp only [iAdd, Int.zero_add]
  exact InR.wrap (by simp only [InR]; omega)
theorem s72 : SoundCt Go.Proofs.Try.prog 72 ct72 :=
  contractH followsMixed (look_sound (show Tb Go.Proofs.Try.prog tb72 from trivial)) (fun _ => true) (fun _ => A72) 6 72 ct72 rfl (by simp [ct72]) fun a => Eq.mp (by kernel_rfl) (v72 ((cel 0 (arg 0 a)).int))
end Go.Sx

namespace Go.Sx
def ct86 : Ct := { ps := [(false, [.sl [.int .u64]]), (false, [.int .i64]), (false, [.int .i64])], rs := [(false, [.int .i64]), (false, [.int .i64])], pre := fun _ => False, out := fun _ => [[.i 0], [.i 0]] }
theorem s86 : SoundCt Go.Proofs.Try.prog 86 ct86 :=
  ⟨fun _ _ h => False.elim h, fun _ _ _ _ _ _ _ _ _ h _ => False.elim h, fun t e h => (by cases h), fun t e r _ h => (by cases h), fun t e _ _ h => (by cases h)⟩
end Go.Sx

namespace Go.Sx
def ct2000065 : Ct := { ps := [], rs := [], pre := fun _ => False, out := fun _ => [] }
theorem s2000065 : SoundCt Go.Proofs.Try.prog 2000065 ct2000065 :=
  ⟨fun _ _ h => False.elim h, fun _ _ _ _ _ _ _ _ _ h _ => False.elim h, fun t e h => (by cases h), fun t e r _ h => (by cases h), fun t e _ _ h => (by cases h)⟩
end Go.Sx

namespace Go.Sx
def ct5000065 : Ct := { ps := [], rs := [], pre := fun _ => False, out := fun _ => [] }
theorem s5000065 : SoundCt Go.Proofs.Try.prog 5000065 ct5000065 :=
  ⟨fun _ _ h => False.elim h, fun _ _ _ _ _ _ _ _ _ h _ => False.elim h, fun t e h => (by cases h), fun t e r _ h => (by cases h), fun t e _ _ h => (by cases h)⟩
end Go.Sx

namespace Go.Sx
/-! ### function 44: (*policy.judge).candidates -/
def ct44 : Ct := { ps := [(false, [.bool, .sl [.int .i64, .str, .str, .int .i64, .sl [.int .i64, .str]], .sl [.str, .sl [.int .u64], .int .u64], .sl [.int .u64, .str, .int .i64], .sl [.str], .sl [.str]]), (true, [.int .i64, .str, .int .i64, .bool, .int .u64]), (false, [.str])], rs := [(false, [.sl [.int .u64]])], pre := fun a => pLe ((cel 2 (arg 0 a)).list.length : Int) 12 ∧ True, out := fun a => [[.l (Sp.stR (cel 2 (arg 0 a)).list (cel 2 (arg 1 a)).int (cel 0 (arg 2 a)).str)]] }
def tb44 : List (Nat × Ct) := [(57, ct57), (72, ct72), (86, ct86), (2000065, ct2000065), (5000065, ct5000065)]
def A44 (ks : List (List C)) (wd : Int) (cla : ByteArray) : FuncId → Nat → LoopAnn := fun ff ii => bif Nat.beq ff 44 then (bif Nat.beq ii 3 then .ghost 7 [.int .u64] 47 (.on (fun sv0 => match sv0.tmps.getD 7 .undef with | .own rr _ => .inv (Int × List Int) (fun z => Sp.caI ks wd cla z.1 z.2) (fun z => [(7, .own rr 0), (15, .int .i64 z.1)]) (fun z => [(rr, .row [.int .u64] 47 0 (z.2.map Sp.row))]) [rr] [0, 1, 2, 4, 6, 7, 9, 13, 14, 15, 16, 34] (fun z => ks.length - z.1.toNat) | _ => .unroll 0)) else .unroll 0) else bif Nat.beq ff 71 then (bif Nat.beq ii 2 then .unroll 1 else .unroll 0) else bif Nat.beq ff 83 then (bif Nat.beq ii 1 then .on (fun sv0 => match sv0.tmps.getD 0 .undef with | .own rr _ => (match sv0.heap[rr]? with | some (.row _ _ vv0 xs0) => .inv (Int × List Int) (fun z => Sp.isI xs0 z.1 z.2) (fun z => [(6, .int .i64 z.1)]) (fun z => [(rr, .row [.int .u64] 47 vv0 (z.2.map Sp.row))]) [rr] ([0, 1, 2, 6, 7, 12, 30] ++ [1000000+rr]) (fun z => xs0.length - z.1.toNat) | _ => .unroll 0) | _ => .unroll 0) else bif Nat.beq ii 4 then .on (fun sv0 => match sv0.tmps.getD 0 .undef with | .own rr _ => (match sv0.heap[rr]? with | some (.row _ _ vv0 xs0) => (match sv0.tmps.getD 6 .undef with | .int _ ii0 => .inv (Int × List Int) (fun z => Sp.isJ xs0 ii0 z.1 z.2) (fun z => [(7, .int .i64 z.1)]) (fun z => [(rr, .row [.int .u64] 47 vv0 (z.2.map Sp.row))]) [rr] ([0, 1, 2, 6, 7, 12, 30] ++ [1000000+rr]) (fun z => z.1.toNat) | _ => .unroll 0) | _ => .unroll 0) | _ => .unroll 0) else .unroll 0) else bif Nat.beq ff 59 then (bif Nat.beq ii 4 then .on (fun sv0 => match sv0.tmps.getD 0 .undef with | .own rr _ => (match sv0.heap[rr]? with | some (.row _ _ vv0 xs0) => .inv Int (fun z => Sp.cpI xs0 z) (fun z => [(3, .int .i64 z)]) (fun _ => []) [] [0, 2, 3, 4, 5, 8, 13, 25, 32, 44] (fun z => xs0.length - z.toNat) | _ => .unroll 0) | _ => .unroll 0) else bif Nat.beq ii 9 then .on (fun sv0 => match sv0.tmps.getD 0 .undef with | .own rr _ => (match sv0.heap[rr]? with | some (.row _ _ vv0 xs0) => (match sv0.tmps.getD 4 .undef with | .ownv _ _ _ (some l0) _ => .inv (Int × Int × List Int) (fun z => Sp.cqI xs0 l0 z.1 z.2.1 z.2.2) (fun z => [(3, .int .i64 z.1), (5, .int .i64 z.2.1)]) (fun z => [(rr, .row [.int .u64] 47 vv0 (z.2.2.map Sp.row))]) [rr] ([0, 2, 3, 4, 5, 8, 13, 25, 32, 44] ++ [1000000+rr]) (fun z => xs0.length - z.2.1.toNat) | _ => .unroll 0) | _ => .unroll 0) | _ => .unroll 0) else .unroll 0) else .unroll 0
abbrev B44 (rs : List (List C)) (mm : List (List C)) (ks : List (List C)) (act : List (List C)) (cls : List (List C)) (wi : Int) (wr : ByteArray) (wd : Int) (wa : Bool) (wp : Int) (cla : ByteArray) : Prop := vcF Go.Proofs.Try.prog (look tb44) (fun _ => false) (A44 ks wd cla) 6 44 [.cref [.sl [.int .i64, .str, .str, .int .i64, .sl [.int .i64, .str]] rs, .sl [.str, .sl [.int .u64], .int .u64] mm, .sl [.int .u64, .str, .int .i64] ks, .sl [.str] act, .sl [.str] cls], .agg [.int .i64 wi, .str wr, .int .i64 wd, .bool wa, .int .u64 wp], .str cla] [] (fun sv heap => Gives [(false, [.sl [.int .u64]])] [[.l (Sp.stR ks wd cla)]] sv heap)
def h44_0 : List (List C) → List (List C) → List (List C) → List (List C) → List (List C) → Int → ByteArray → Int → Bool → Int → ByteArray → List SV := fun (rs mm ks act cls : List (List C)) (wi : Int) (wr : ByteArray) (wd : Int) (wa : Bool) (wp : Int) (cla : ByteArray) => [SV.cref [SV.sl [Sh.int .i64, Sh.str, Sh.str, Sh.int .i64, Sh.sl [Sh.int .i64, Sh.str]] rs, SV.sl [Sh.str, Sh.sl [Sh.int .u64], Sh.int .u64] mm, SV.sl [.int .u64, .str, .int .i64] ks, SV.sl [.str] act, SV.sl [.str] cls], SV.agg [SV.int .i64 wi, SV.str wr, SV.int .i64 wd, SV.bool wa, SV.int .u64 wp], SV.str cla, SV.ref 0 0, SV.nils, SV.sl [.int .u64, .str, .int .i64] ks, SV.int .i64 (iLen ks)]
def h44_1 : Int × List Int → Int → List SV := fun (x : Int × List Int) (x_1 : Int) => [SV.own 1 (0 + 1), SV.any, SV.ownv 1 (0 + 1) 1 (some x_1) (iSub (iLen (List.map Sp.row x.2)) x_1), SV.blit false, SV.blit true, SV.blit true, SV.undef]
theorem e44 (rs : List (List C)) (mm : List (List C)) (ks : List (List C)) (act : List (List C)) (cls : List (List C)) (wi : Int) (wr : ByteArray) (wd : Int) (wa : Bool) (wp : Int) (cla : ByteArray) : B44 rs mm ks act cls wi wr wd wa wp cla = (((WL [.int .u64, .str, .int .i64] ks)) → pLe (iLen ks) 9223372036854775807 → (∃ (x : Int × List Int), Sp.caI ks wd cla x.1 x.2 ∧ true = true ∧ ((1 = 1 ∧ 0 + 1 = 0 + 1) ∧ (IntKind.i64 = IntKind.i64 ∧ 0 = x.1) ∧ True) ∧ ([Sh.int .u64] = [Sh.int .u64] ∧ 47 = 47 ∧ 0 + 1 = 0 + 1 ∧ [] = List.map Sp.row x.2) ∧ True) ∧ (∀ (x : Int × List Int), true = true ∧ true = true) ∧ ∀ (x : Int × List Int), Sp.caI ks wd cla x.1 x.2 → True ∧ InR .i64 x.1 ∧ True → ((WL [.int .u64] (List.map Sp.row x.2))) ∧ True → (bLt x.1 (iLen ks) = true → pIn 0 (iLen ks) x.1 ∧ (InR .u64 (q0 (rGet ks x.1)) ∧ (List.brecOn.go ((rGet ks x.fst).tail.headD default).str.1.toList List.length._f).1.le 9223372036854775807 ∧ InR .i64 (q2 (rGet ks x.1)) ∧ True → (bEq (q2 (rGet ks x.1)) wd = true → (bLe 1 (q0 (rGet ks x.1)) = true → True ∧ (True → (Sp.mts cla ((rGet ks x.1).tail.headD default).str = true → pRoom 8 (iLen (List.map Sp.row x.2 ++ [[C.i (q0 (rGet ks x.1))]])) ∧ InR .i64 (iAdd x.1 1) ∧ (true = true ∧ h44_0 rs mm ks act cls wi wr wd wa wp cla = h44_0 rs mm ks act cls wi wr wd wa wp cla) ∧ (fun z => z = z) [HB.box [SV.int .i64 wi, SV.str wr, SV.int .i64 wd, SV.bool wa, SV.int .u64 wp] 53, HB.gone] ∧ ∃ (y : Int × List Int), Sp.caI ks wd cla y.1 y.2 ∧ true = true ∧ ((1 = 1 ∧ 0 + 1 = 0 + 1) ∧ (IntKind.i64 = IntKind.i64 ∧ iAdd x.1 1 = y.1) ∧ True) ∧ (([Sh.int .u64] = [Sh.int .u64] ∧ 47 = 47 ∧ 0 + 1 = 0 + 1 ∧ List.map Sp.row x.2 ++ [[C.i (q0 (rGet ks x.1))]] = List.map Sp.row y.2) ∧ True) ∧ ks.length - y.1.toNat < ks.length - x.1.toNat) ∧ (Sp.mts cla ((rGet ks x.1).tail.headD default).str = false → InR .i64 (iAdd x.1 1) ∧ (true = true ∧ h44_0 rs mm ks act cls wi wr wd wa wp cla = h44_0 rs mm ks act cls wi wr wd wa wp cla) ∧ (fun z => z = z) [HB.box [SV.int .i64 wi, SV.str wr, SV.int .i64 wd, SV.bool wa, SV.int .u64 wp] 53, HB.gone] ∧ ∃ (y : Int × List Int), Sp.caI ks wd cla y.1 y.2 ∧ true = true ∧ ((1 = 1 ∧ 0 + 1 = 0 + 1) ∧ (IntKind.i64 = IntKind.i64 ∧ iAdd x.1 1 = y.1) ∧ True) ∧ (([Sh.int .u64] = [Sh.int .u64] ∧ 47 = 47 ∧ 0 + 1 = 0 + 1 ∧ List.map Sp.row x.2 = List.map Sp.row y.2) ∧ True) ∧ ks.length - y.1.toNat < ks.length - x.1.toNat))) ∧ (bLe 1 (q0 (rGet ks x.1)) = false → InR .i64 (iAdd x.1 1) ∧ (true = true ∧ h44_0 rs mm ks act cls wi wr wd wa wp cla = h44_0 rs mm ks act cls wi wr wd wa wp cla) ∧ (fun z => z = z) [HB.box [SV.int .i64 wi, SV.str wr, SV.int .i64 wd, SV.bool wa, SV.int .u64 wp] 53, HB.gone] ∧ ∃ (y : Int × List Int), Sp.caI ks wd cla y.1 y.2 ∧ true = true ∧ ((1 = 1 ∧ 0 + 1 = 0 + 1) ∧ (IntKind.i64 = IntKind.i64 ∧ iAdd x.1 1 = y.1) ∧ True) ∧ (([Sh.int .u64] = [Sh.int .u64] ∧ 47 = 47 ∧ 0 + 1 = 0 + 1 ∧ List.map Sp.row x.2 = List.map Sp.row y.2) ∧ True) ∧ ks.length - y.1.toNat < ks.length - x.1.toNat)) ∧ (bEq (q2 (rGet ks x.1)) wd = false → InR .i64 (iAdd x.1 1) ∧ (true = true ∧ h44_0 rs mm ks act cls wi wr wd wa wp cla = h44_0 rs mm ks act cls wi wr wd wa wp cla) ∧ (fun z => z = z) [HB.box [SV.int .i64 wi, SV.str wr, SV.int .i64 wd, SV.bool wa, SV.int .u64 wp] 53, HB.gone] ∧ ∃ (y : Int × List Int), Sp.caI ks wd cla y.1 y.2 ∧ true = true ∧ ((1 = 1 ∧ 0 + 1 = 0 + 1) ∧ (IntKind.i64 = IntKind.i64 ∧ iAdd x.1 1 = y.1) ∧ True) ∧ (([Sh.int .u64] = [Sh.int .u64] ∧ 47 = 47 ∧ 0 + 1 = 0 + 1 ∧ List.map Sp.row x.2 = List.map Sp.row y.2) ∧ True) ∧ ks.length - y.1.toNat < ks.length - x.1.toNat))) ∧ (bLt x.1 (iLen ks) = false → pLe (iLen (List.map Sp.row x.2)) 9223372036854775807 → (pLe (iWrap .u64 (iLen (List.map Sp.row x.2))) 12 ∧ True) ∧ (InR .i64 (Sp.ln (iWrap .u64 (iLen (List.map Sp.row x.2)))) → InR .i64 (iSub (iLen (List.map Sp.row x.2)) 0) ∧ (bLe (iSub (iLen (List.map Sp.row x.2)) 0) 12 = true → (∃ (x_1 : Int × List Int), Sp.isI (List.map Sp.row x.2) x_1.1 x_1.2 ∧ true = true ∧ ((IntKind.i64 = IntKind.i64 ∧ 0 + 1 = x_1.1) ∧ True) ∧ ([Sh.int .u64] = [Sh.int .u64] ∧ 47 = 47 ∧ 0 + 1 = 0 + 1 ∧ List.map Sp.row x.2 = List.map Sp.row x_1.2) ∧ True) ∧ (∀ (x : Int × List Int), true = true ∧ true = true) ∧ ∀ (x_1 : Int × List Int), Sp.isI (List.map Sp.row x.2) x_1.1 x_1.2 → InR .i64 x_1.1 ∧ True → ((WL [.int .u64] (List.map Sp.row x_1.2))) ∧ True → (bLt x_1.1 (iLen (List.map Sp.row x.2)) = true → (∃ (x : Int × List Int), Sp.isJ (List.map Sp.row x_1.2) x_1.1 x.1 x.2 ∧ true = true ∧ ((IntKind.i64 = IntKind.i64 ∧ x_1.1 = x.1) ∧ True) ∧ ([Sh.int .u64] = [Sh.int .u64] ∧ 47 = 47 ∧ 0 + 1 = 0 + 1 ∧ List.map Sp.row x_1.2 = List.map Sp.row x.2) ∧ True) ∧ (∀ (x : Int × List Int), true = true ∧ true = true) ∧ ∀ (x_2 : Int × List Int), Sp.isJ (List.map Sp.row x_1.2) x_1.1 x_2.1 x_2.2 → InR .i64 x_2.1 ∧ True → ((WL [.int .u64] (List.map Sp.row x_2.2))) ∧ True → (bLt 0 x_2.1 = true → pIn 0 (iLen (List.map Sp.row x_2.2)) x_2.1 ∧ (InR .u64 (q0 (rGet (List.map Sp.row x_2.2) x_2.1)) → InR .i64 (iSub x_2.1 1) ∧ pIn 0 (iLen (List.map Sp.row x_2.2)) (iSub x_2.1 1) ∧ (InR .u64 (q0 (rGet (List.map Sp.row x_2.2) (iSub x_2.1 1))) → (bNe (q0 (rGet (List.map Sp.row x_2.2) x_2.1)) (q0 (rGet (List.map Sp.row x_2.2) x_2.1)) = true → True ∧ (bNot (bNe (q0 (rGet (List.map Sp.row x_2.2) (iSub x_2.1 1))) (q0 (rGet (List.map Sp.row x_2.2) (iSub x_2.1 1)))) = false → (bLt (q0 (rGet (List.map Sp.row x_2.2) x_2.1)) (q0 (rGet (List.map Sp.row x_2.2) (iSub x_2.1 1))) = true → InR .i64 (iSub x_2.1 1) ∧ InR .i64 (iSub x_2.1 1) ∧ pIn 0 (iLen (List.map Sp.row x_2.2)) (iSub x_2.1 1) ∧ (InR .u64 (q0 (rGet (List.map Sp.row x_2.2) (iSub x_2.1 1))) → pIn 0 (iLen (List.map Sp.row x_2.2)) x_2.1 ∧ (InR .u64 (q0 (rGet (List.map Sp.row x_2.2) x_2.1)) → pIn 0 (iLen (List.map Sp.row x_2.2)) x_2.1 ∧ pIn 0 (iLen (rSet (List.map Sp.row x_2.2) x_2.1 [C.i (q0 (rGet (List.map Sp.row x_2.2) (iSub x_2.1 1)))])) (iSub x_2.1 1) ∧ InR .i64 (iSub x_2.1 1) ∧ (true = true ∧ (fun z => z = z) [SV.own 1 (0 + 1), SV.lit .i64 0, SV.int .i64 (iLen (List.map Sp.row x.2)), SV.int .i64 x_1.1, SV.blit true, SV.undef]) ∧ (fun z => z = z) [HB.box [SV.int .i64 wi, SV.str wr, SV.int .i64 wd, SV.bool wa, SV.int .u64 wp] 53, HB.gone] ∧ ∃ (y : Int × List Int), Sp.isJ (List.map Sp.row x_1.2) x_1.1 y.1 y.2 ∧ true = true ∧ ((IntKind.i64 = IntKind.i64 ∧ iSub x_2.1 1 = y.1) ∧ True) ∧ (([Sh.int .u64] = [Sh.int .u64] ∧ 47 = 47 ∧ 0 + 1 = 0 + 1 ∧ rSet (rSet (List.map Sp.row x_2.2) x_2.1 [C.i (q0 (rGet (List.map Sp.row x_2.2) (iSub x_2.1 1)))]) (iSub x_2.1 1) [C.i (q0 (rGet (List.map Sp.row x_2.2) x_2.1))] = List.map Sp.row y.2) ∧ True) ∧ y.1.toNat < x_2.1.toNat))) ∧ (bLt (q0 (rGet (List.map Sp.row x_2.2) x_2.1)) (q0 (rGet (List.map Sp.row x_2.2) (iSub x_2.1 1))) = false → InR .i64 (iAdd x_1.1 1) ∧ (true = true ∧ (fun z => z = z) [SV.own 1 (0 + 1), SV.lit .i64 0, SV.int .i64 (iLen (List.map Sp.row x.2)), SV.undef]) ∧ (fun z => z = z) [HB.box [SV.int .i64 wi, SV.str wr, SV.int .i64 wd, SV.bool wa, SV.int .u64 wp] 53, HB.gone] ∧ ∃ (y : Int × List Int), Sp.isI (List.map Sp.row x.2) y.1 y.2 ∧ true = true ∧ ((IntKind.i64 = IntKind.i64 ∧ iAdd x_1.1 1 = y.1) ∧ True) ∧ (([Sh.int .u64] = [Sh.int .u64] ∧ 47 = 47 ∧ 0 + 1 = 0 + 1 ∧ List.map Sp.row x_2.2 = List.map Sp.row y.2) ∧ True) ∧ (List.map Sp.row x.2).length - y.1.toNat < (List.map Sp.row x.2).length - x_1.1.toNat)) ∧ (bNot (bNe (q0 (rGet (List.map Sp.row x_2.2) (iSub x_2.1 1))) (q0 (rGet (List.map Sp.row x_2.2) (iSub x_2.1 1)))) = true → InR .i64 (iSub x_2.1 1) ∧ InR .i64 (iSub x_2.1 1) ∧ pIn 0 (iLen (List.map Sp.row x_2.2)) (iSub x_2.1 1) ∧ (InR .u64 (q0 (rGet (List.map Sp.row x_2.2) (iSub x_2.1 1))) → pIn 0 (iLen (List.map Sp.row x_2.2)) x_2.1 ∧ (InR .u64 (q0 (rGet (List.map Sp.row x_2.2) x_2.1)) → pIn 0 (iLen (List.map Sp.row x_2.2)) x_2.1 ∧ pIn 0 (iLen (rSet (List.map Sp.row x_2.2) x_2.1 [C.i (q0 (rGet (List.map Sp.row x_2.2) (iSub x_2.1 1)))])) (iSub x_2.1 1) ∧ InR .i64 (iSub x_2.1 1) ∧ (true = true ∧ (fun z => z = z) [SV.own 1 (0 + 1), SV.lit .i64 0, SV.int .i64 (iLen (List.map Sp.row x.2)), SV.int .i64 x_1.1, SV.blit true, SV.undef]) ∧ (fun z => z = z) [HB.box [SV.int .i64 wi, SV.str wr, SV.int .i64 wd, SV.bool wa, SV.int .u64 wp] 53, HB.gone] ∧ ∃ (y : Int × List Int), Sp.isJ (List.map Sp.row x_1.2) x_1.1 y.1 y.2 ∧ true = true ∧ ((IntKind.i64 = IntKind.i64 ∧ iSub x_2.1 1 = y.1) ∧ True) ∧ (([Sh.int .u64] = [Sh.int .u64] ∧ 47 = 47 ∧ 0 + 1 = 0 + 1 ∧ rSet (rSet (List.map Sp.row x_2.2) x_2.1 [C.i (q0 (rGet (List.map Sp.row x_2.2) (iSub x_2.1 1)))]) (iSub x_2.1 1) [C.i (q0 (rGet (List.map Sp.row x_2.2) x_2.1))] = List.map Sp.row y.2) ∧ True) ∧ y.1.toNat < x_2.1.toNat)))) ∧ (bNe (q0 (rGet (List.map Sp.row x_2.2) x_2.1)) (q0 (rGet (List.map Sp.row x_2.2) x_2.1)) = false → (bLt (q0 (rGet (List.map Sp.row x_2.2) x_2.1)) (q0 (rGet (List.map Sp.row x_2.2) (iSub x_2.1 1))) = true → InR .i64 (iSub x_2.1 1) ∧ InR .i64 (iSub x_2.1 1) ∧ pIn 0 (iLen (List.map Sp.row x_2.2)) (iSub x_2.1 1) ∧ (InR .u64 (q0 (rGet (List.map Sp.row x_2.2) (iSub x_2.1 1))) → pIn 0 (iLen (List.map Sp.row x_2.2)) x_2.1 ∧ (InR .u64 (q0 (rGet (List.map Sp.row x_2.2) x_2.1)) → pIn 0 (iLen (List.map Sp.row x_2.2)) x_2.1 ∧ pIn 0 (iLen (rSet (List.map Sp.row x_2.2) x_2.1 [C.i (q0 (rGet (List.map Sp.row x_2.2) (iSub x_2.1 1)))])) (iSub x_2.1 1) ∧ InR .i64 (iSub x_2.1 1) ∧ (true = true ∧ (fun z => z = z) [SV.own 1 (0 + 1), SV.lit .i64 0, SV.int .i64 (iLen (List.map Sp.row x.2)), SV.int .i64 x_1.1, SV.blit true, SV.undef]) ∧ (fun z => z = z) [HB.box [SV.int .i64 wi, SV.str wr, SV.int .i64 wd, SV.bool wa, SV.int .u64 wp] 53, HB.gone] ∧ ∃ (y : Int × List Int), Sp.isJ (List.map Sp.row x_1.2) x_1.1 y.1 y.2 ∧ true = true ∧ ((IntKind.i64 = IntKind.i64 ∧ iSub x_2.1 1 = y.1) ∧ True) ∧ (([Sh.int .u64] = [Sh.int .u64] ∧ 47 = 47 ∧ 0 + 1 = 0 + 1 ∧ rSet (rSet (List.map Sp.row x_2.2) x_2.1 [C.i (q0 (rGet (List.map Sp.row x_2.2) (iSub x_2.1 1)))]) (iSub x_2.1 1) [C.i (q0 (rGet (List.map Sp.row x_2.2) x_2.1))] = List.map Sp.row y.2) ∧ True) ∧ y.1.toNat < x_2.1.toNat))) ∧ (bLt (q0 (rGet (List.map Sp.row x_2.2) x_2.1)) (q0 (rGet (List.map Sp.row x_2.2) (iSub x_2.1 1))) = false → InR .i64 (iAdd x_1.1 1) ∧ (true = true ∧ (fun z => z = z) [SV.own 1 (0 + 1), SV.lit .i64 0, SV.int .i64 (iLen (List.map Sp.row x.2)), SV.undef]) ∧ (fun z => z = z) [HB.box [SV.int .i64 wi, SV.str wr, SV.int .i64 wd, SV.bool wa, SV.int .u64 wp] 53, HB.gone] ∧ ∃ (y : Int × List Int), Sp.isI (List.map Sp.row x.2) y.1 y.2 ∧ true = true ∧ ((IntKind.i64 = IntKind.i64 ∧ iAdd x_1.1 1 = y.1) ∧ True) ∧ (([Sh.int .u64] = [Sh.int .u64] ∧ 47 = 47 ∧ 0 + 1 = 0 + 1 ∧ List.map Sp.row x_2.2 = List.map Sp.row y.2) ∧ True) ∧ (List.map Sp.row x.2).length - y.1.toNat < (List.map Sp.row x.2).length - x_1.1.toNat))))) ∧ (bLt 0 x_2.1 = false → InR .i64 (iAdd x_1.1 1) ∧ (true = true ∧ (fun z => z = z) [SV.own 1 (0 + 1), SV.lit .i64 0, SV.int .i64 (iLen (List.map Sp.row x.2)), SV.undef]) ∧ (fun z => z = z) [HB.box [SV.int .i64 wi, SV.str wr, SV.int .i64 wd, SV.bool wa, SV.int .u64 wp] 53, HB.gone] ∧ ∃ (y : Int × List Int), Sp.isI (List.map Sp.row x.2) y.1 y.2 ∧ true = true ∧ ((IntKind.i64 = IntKind.i64 ∧ iAdd x_1.1 1 = y.1) ∧ True) ∧ (([Sh.int .u64] = [Sh.int .u64] ∧ 47 = 47 ∧ 0 + 1 = 0 + 1 ∧ List.map Sp.row x_2.2 = List.map Sp.row y.2) ∧ True) ∧ (List.map Sp.row x.2).length - y.1.toNat < (List.map Sp.row x.2).length - x_1.1.toNat)) ∧ (bLt x_1.1 (iLen (List.map Sp.row x.2)) = false → pLe (iLen (List.map Sp.row x_1.2)) 9223372036854775807 → (bLt (iLen (List.map Sp.row x_1.2)) 2 = true → (List.map Sp.row x_1.2 = Sp.stR ks wd cla ∧ True) ∧ True) ∧ (bLt (iLen (List.map Sp.row x_1.2)) 2 = false → (∃ (x : Int), Sp.cpI (List.map Sp.row x_1.2) x ∧ true = true ∧ ((IntKind.i64 = IntKind.i64 ∧ 1 = x) ∧ True) ∧ True) ∧ (∀ (x : Int), true = true ∧ true = true) ∧ ∀ (x : Int), Sp.cpI (List.map Sp.row x_1.2) x → InR .i64 x ∧ True → True → pLe (iLen (List.map Sp.row x_1.2)) 9223372036854775807 → (bLt x (iLen (List.map Sp.row x_1.2)) = true → pIn 0 (iLen (List.map Sp.row x_1.2)) x ∧ (InR .u64 (q0 (rGet (List.map Sp.row x_1.2) x)) → InR .i64 (iSub x 1) ∧ pIn 0 (iLen (List.map Sp.row x_1.2)) (iSub x 1) ∧ (InR .u64 (q0 (rGet (List.map Sp.row x_1.2) (iSub x 1))) → (bEq (q0 (rGet (List.map Sp.row x_1.2) x)) (q0 (rGet (List.map Sp.row x_1.2) (iSub x 1))) = true → geB (some x) none (iLen (List.map Sp.row x_1.2)) ∧ (∃ (x_2 : Int × Int × List Int), Sp.cqI (List.map Sp.row x_1.2) x x_2.1 x_2.snd.1 x_2.snd.2 ∧ true = true ∧ ((IntKind.i64 = IntKind.i64 ∧ x = x_2.1) ∧ (IntKind.i64 = IntKind.i64 ∧ 1 = x_2.snd.1) ∧ True) ∧ ([Sh.int .u64] = [Sh.int .u64] ∧ 47 = 47 ∧ 0 + 1 = 0 + 1 ∧ List.map Sp.row x_1.2 = List.map Sp.row x_2.snd.2) ∧ True) ∧ (∀ (x : Int × Int × List Int), true = true ∧ true = true) ∧ ∀ (x_2 : Int × Int × List Int), Sp.cqI (List.map Sp.row x_1.2) x x_2.1 x_2.snd.1 x_2.snd.2 → InR .i64 x_2.1 ∧ InR .i64 x_2.snd.1 ∧ True → ((WL [.int .u64] (List.map Sp.row x_2.snd.2))) ∧ True → InR .i64 (iSub (iLen (List.map Sp.row x_1.2)) x) ∧ (bLt x_2.snd.1 (iSub (iLen (List.map Sp.row x_1.2)) x) = true → pIn 0 (iSub (iLen (List.map Sp.row x_1.2)) x) x_2.snd.1 ∧ (InR .u64 (q0 (rGet (List.map Sp.row x_2.snd.2) (iAdd x x_2.snd.1))) → InR .i64 (iSub x_2.snd.1 1) ∧ pIn 0 (iSub (iLen (List.map Sp.row x_1.2)) x) (iSub x_2.snd.1 1) ∧ (InR .u64 (q0 (rGet (List.map Sp.row x_2.snd.2) (iAdd x (iSub x_2.snd.1 1)))) → (bNe (q0 (rGet (List.map Sp.row x_2.snd.2) (iAdd x x_2.snd.1))) (q0 (rGet (List.map Sp.row x_2.snd.2) (iAdd x (iSub x_2.snd.1 1)))) = true → pIn 0 (iSub (iLen (List.map Sp.row x_1.2)) x) x_2.snd.1 ∧ (InR .u64 (q0 (rGet (List.map Sp.row x_2.snd.2) (iAdd x x_2.snd.1))) → pIn 0 (iLen (List.map Sp.row x_2.snd.2)) x_2.1 ∧ InR .i64 (iAdd x_2.1 1) ∧ InR .i64 (iAdd x_2.snd.1 1) ∧ (true = true ∧ h44_1 x_1 x = h44_1 x_1 x) ∧ (fun z => z = z) [HB.box [SV.int .i64 wi, SV.str wr, SV.int .i64 wd, SV.bool wa, SV.int .u64 wp] 53, HB.gone] ∧ ∃ (y : Int × Int × List Int), Sp.cqI (List.map Sp.row x_1.2) x y.1 y.snd.1 y.snd.2 ∧ true = true ∧ ((IntKind.i64 = IntKind.i64 ∧ iAdd x_2.1 1 = y.1) ∧ (IntKind.i64 = IntKind.i64 ∧ iAdd x_2.snd.1 1 = y.snd.1) ∧ True) ∧ (([Sh.int .u64] = [Sh.int .u64] ∧ 47 = 47 ∧ 0 + 1 = 0 + 1 ∧ rSet (List.map Sp.row x_2.snd.2) x_2.1 [C.i (q0 (rGet (List.map Sp.row x_2.snd.2) (iAdd x x_2.snd.1)))] = List.map Sp.row y.snd.2) ∧ True) ∧ (List.map Sp.row x_1.2).length - y.snd.1.toNat < (List.map Sp.row x_1.2).length - x_2.snd.1.toNat)) ∧ (bNe (q0 (rGet (List.map Sp.row x_2.snd.2) (iAdd x x_2.snd.1))) (q0 (rGet (List.map Sp.row x_2.snd.2) (iAdd x (iSub x_2.snd.1 1)))) = false → InR .i64 (iAdd x_2.snd.1 1) ∧ (true = true ∧ h44_1 x_1 x = h44_1 x_1 x) ∧ (fun z => z = z) [HB.box [SV.int .i64 wi, SV.str wr, SV.int .i64 wd, SV.bool wa, SV.int .u64 wp] 53, HB.gone] ∧ ∃ (y : Int × Int × List Int), Sp.cqI (List.map Sp.row x_1.2) x y.1 y.snd.1 y.snd.2 ∧ true = true ∧ ((IntKind.i64 = IntKind.i64 ∧ x_2.1 = y.1) ∧ (IntKind.i64 = IntKind.i64 ∧ iAdd x_2.snd.1 1 = y.snd.1) ∧ True) ∧ (([Sh.int .u64] = [Sh.int .u64] ∧ 47 = 47 ∧ 0 + 1 = 0 + 1 ∧ List.map Sp.row x_2.snd.2 = List.map Sp.row y.snd.2) ∧ True) ∧ (List.map Sp.row x_1.2).length - y.snd.1.toNat < (List.map Sp.row x_1.2).length - x_2.snd.1.toNat)))) ∧ (bLt x_2.snd.1 (iSub (iLen (List.map Sp.row x_1.2)) x) = false → (pLe 0 x_2.1 ∧ pLe x_2.1 (iLen (List.map Sp.row x_2.snd.2))) ∧ (pLe 0 x_2.1 ∧ pLe x_2.1 (iLen (List.take x_2.1.toNat (List.map Sp.row x_2.snd.2) ++ List.replicate ((List.map Sp.row x_2.snd.2).length - x_2.1.toNat) [C.i 0]))) ∧ (List.take x_2.1.toNat (List.take x_2.1.toNat (List.map Sp.row x_2.snd.2) ++ List.replicate ((List.map Sp.row x_2.snd.2).length - x_2.1.toNat) [C.i 0]) = Sp.stR ks wd cla ∧ True) ∧ True)) ∧ (bEq (q0 (rGet (List.map Sp.row x_1.2) x)) (q0 (rGet (List.map Sp.row x_1.2) (iSub x 1))) = false → InR .i64 (iAdd x 1) ∧ (true = true ∧ [SV.own 1 (0 + 1), SV.blit false] = [SV.own 1 (0 + 1), SV.blit false]) ∧ (fun z => z = z) [HB.box [SV.int .i64 wi, SV.str wr, SV.int .i64 wd, SV.bool wa, SV.int .u64 wp] 53, HB.row [.int .u64] 47 (0 + 1) (List.map Sp.row x_1.2)] ∧ ∃ (y : Int), Sp.cpI (List.map Sp.row x_1.2) y ∧ true = true ∧ ((IntKind.i64 = IntKind.i64 ∧ iAdd x 1 = y) ∧ True) ∧ True ∧ (List.map Sp.row x_1.2).length - y.toNat < (List.map Sp.row x_1.2).length - x.toNat)))) ∧ (bLt x (iLen (List.map Sp.row x_1.2)) = false → (List.map Sp.row x_1.2 = Sp.stR ks wd cla ∧ True) ∧ True)))) ∧ (bLe (iSub (iLen (List.map Sp.row x.2)) 0) 12 = false → (bEq (Sp.ln (iWrap .u64 (iLen (List.map Sp.row x.2)))) 0 = true → InR .i64 (iSub (iLen (List.map Sp.row x.2)) 0) ∧ InR .i64 (iSub (iSub (iLen (List.map Sp.row x.2)) 0) 1) ∧ (pNe 2 0 ∧ InR .i64 (iQuo (iSub (iSub (iLen (List.map Sp.row x.2)) 0) 1) 2)) ∧ False) ∧ (bEq (Sp.ln (iWrap .u64 (iLen (List.map Sp.row x.2)))) 0 = false → True ∧ False ∧ (InR .i64 0 ∧ InR .i64 0 ∧ True → (bEq 0 2 = true → InR .i64 (iSub (iLen (List.map Sp.row x.2)) 1) ∧ False) ∧ (bEq 0 2 = false → (bEq 0 1 = true → False) ∧ (bEq 0 1 = false → pIn 0 (iLen (List.map Sp.row x.2)) 0 ∧ (InR .u64 (q0 (rGet (List.map Sp.row x.2) 0)) → pIn 0 (iLen (List.map Sp.row x.2)) 0 ∧ (InR .u64 (q0 (rGet (List.map Sp.row x.2) 0)) → pIn 0 (iLen (List.map Sp.row x.2)) 0 ∧ pIn 0 (iLen (rSet (List.map Sp.row x.2) 0 [C.i (q0 (rGet (List.map Sp.row x.2) 0))])) 0 ∧ InR .i64 (iSub (iLen (List.map Sp.row x.2)) 1) ∧ False)))))))))) := by kernel_rfl
theorem v44 (rs : List (List C)) (mm : List (List C)) (ks : List (List C)) (act : List (List C)) (cls : List (List C)) (wi : Int) (wr : ByteArray) (wd : Int) (wa : Bool) (wp : Int) (cla : ByteArray) : Holds (Wfs [.cref [.sl [.int .i64, .str, .str, .int .i64, .sl [.int .i64, .str]] rs, .sl [.str, .sl [.int .u64], .int .u64] mm, .sl [.int .u64, .str, .int .i64] ks, .sl [.str] act, .sl [.str] cls], .agg [.int .i64 wi, .str wr, .int .i64 wd, .bool wa, .int .u64 wp], .str cla] → pLe (ks.length : Int) 12 ∧ True → B44 rs mm ks act cls wi wr wd wa wp cla) := by
  refine ⟨fun hw hp => ?_⟩
  rw [e44]
  unfold WL q0 q2
  simp only [Wfs, Wf, InR, and_true] at hw
  have hm : maxLen = 9223372036854775807 := rfl
  simp only [hm] at hw
  simp only [iAdd, iSub, iMul, iLen, iSize, bLt, bLe, bEq, bNe, bNot, bSame, bDiff, sSame, sDiff, bIf, bAnd, InR, pLe, pIn, pRoom, eq_self, true_and, and_true, true_implies, implies_true, decide_eq_true_eq, decide_eq_false_iff_not, Bool.not_eq_true', Bool.not_eq_false', Bool.true_eq_false, Bool.false_eq_true, false_implies]
  have hp := hp.1
  simp only [pLe] at hp
  refine fun _ _ => ⟨⟨(0, []), Sp.caI_init, rfl, rfl⟩, ?_⟩
  rintro ⟨z, o⟩ hx _ _
  simp only at hx ⊢
  have h0 := hx.1
  have hoz := hx.2.2.2
  refine ⟨fun hlt => ⟨⟨h0, hlt⟩, fun _ => ?_⟩, fun hge _ => ?_⟩
  · have skip : Sp.okS wd cla (rGet ks z) = false → (-9223372036854775808 ≤ z + 1 ∧ z + 1 ≤ 9223372036854775807) ∧ ∃ y : Int × List Int, Sp.caI ks wd cla y.fst y.snd ∧ z + 1 = y.fst ∧ List.map Sp.row o = List.map Sp.row y.snd ∧ ks.length - y.fst.toNat < ks.length - z.toNat := fun h => ⟨by omega, (z + 1, o), Sp.ca_skip hx hlt h, rfl, rfl, by simp only; omega⟩
    refine ⟨fun h1 => ⟨fun h2 => ⟨fun h3 => ?_, fun h3 => skip ?_⟩, fun h2 => skip ?_⟩, fun h1 => skip ?_⟩
    · have hk : Sp.okS wd cla (rGet ks z) = true := by
        unfold Sp.okS
        rw [decide_eq_true (show 1 ≤ Sp.i0 (rGet ks z) from h2), decide_eq_true (show Sp.i2 (rGet ks z) = wd from h1), show Sp.mts cla (Sp.s1 (rGet ks z)) = true from h3]; rfl
      exact ⟨by simp only [List.length_append, List.length_map, List.length_singleton]; omega, by omega, (z + 1, o ++ [Sp.i0 (rGet ks z)]), Sp.ca_add hx hlt hk, rfl, by rw [List.map_append]; rfl, by simp only; omega⟩
    · unfold Sp.okS; rw [show Sp.mts cla (Sp.s1 (rGet ks z)) = false from h3]; simp
    · unfold Sp.okS; rw [decide_eq_false (show ¬ 1 ≤ Sp.i0 (rGet ks z) from h2)]; simp
    · unfold Sp.okS; rw [decide_eq_false (show ¬ Sp.i2 (rGet ks z) = wd from h1)]; simp
  · have ho := Sp.ca_end hx hge
    have hzk := hx.2.1
    have hl12 : ((List.map Sp.row o).length : Int) ≤ 12 := by rw [List.length_map]; omega
    have hW : iWrap IntKind.u64 ((List.map Sp.row o).length : Int) = ((List.map Sp.row o).length : Int) := InR.wrap (by simp only [InR]; omega)
    refine ⟨by rw [hW]; exact hl12, fun _ => ⟨by omega, fun _ => ⟨⟨(1, o), Sp.isI_init, rfl, rfl⟩, ?_⟩, fun h => absurd (show ((List.map Sp.row o).length : Int) - 0 ≤ 12 by omega) h⟩⟩
    rintro ⟨i, o1⟩ hi _ _
    simp only at hi ⊢
    have hi1 := hi.1
    have hlo := hi.2.2.1
    rw [List.length_map] at hlo
    refine ⟨fun hil => ⟨⟨(i, o1), Sp.isJ_init hi hil, rfl, rfl⟩, ?_⟩, fun hil _ => ?_⟩
    · rintro ⟨j, o2⟩ hj _ _
      simp only at hj ⊢
      have hj0 := hj.1
      have hji := hj.2.1
      have hl2 := hj.2.2.2.1
      rw [List.length_map] at hl2 hil
      have done : (0 < j → ¬ Sp.iA o2 j < Sp.iA o2 (j - 1)) → (-9223372036854775808 ≤ i + 1 ∧ i + 1 ≤ 9223372036854775807) ∧ ∃ y : Int × List Int, Sp.isI (List.map Sp.row o) y.fst y.snd ∧ i + 1 = y.fst ∧ List.map Sp.row o2 = List.map Sp.row y.snd ∧ (List.map Sp.row o).length - y.fst.toNat < (List.map Sp.row o).length - i.toNat := fun h => ⟨by omega, (i + 1, o2), Sp.isJ_end hi hj h, rfl, rfl, by simp only [List.length_map]; omega⟩
      have bd : ∀ q : Int, 0 ≤ q → q ≤ j → 0 ≤ q ∧ q < ((List.map Sp.row o2).length : Int) := fun q a b => ⟨a, by rw [List.length_map]; omega⟩
      refine ⟨fun hpos => ⟨bd j hj0 (by omega), fun _ => ⟨by omega, bd (j - 1) (by omega) (by omega), fun _ => ⟨fun h => absurd trivial h, fun hc => ?_, fun hc => done fun _ => ?_⟩⟩⟩, fun hnp => done fun h => absurd h hnp⟩
      · have hjl : j < (o2.length : Int) := by omega
        have lt' : Sp.i0 (rGet (o2.map Sp.row) j) < Sp.i0 (rGet (o2.map Sp.row) (j - 1)) := hc
        rw [Sp.iA_get hj0 hjl, Sp.iA_get (by omega) (by omega)] at lt'
        exact ⟨by omega, by omega, bd (j - 1) (by omega) (by omega), fun _ => ⟨bd j hj0 (by omega), fun _ => ⟨bd j hj0 (by omega), ⟨by omega, by simp only [rSet, List.length_set, List.length_map]; omega⟩, by omega, (j - 1, Sp.sw o2 j), Sp.isJ_next hj hpos lt', rfl, Sp.sw_row hpos hjl, by simp only; omega⟩⟩⟩
      · have hjl : j < (o2.length : Int) := by omega
        rw [← Sp.iA_get hj0 hjl, ← Sp.iA_get (by omega) (by omega)]; exact hc
    · obtain ⟨hm, hs⟩ := Sp.isI_end hi hil
      rw [Sp.map_row] at hm
      have hmi : ∀ v, v ∈ o1 ↔ v ∈ Sp.ids ks wd cla := fun v => by rw [← ho]; exact hm v
      have e1 : (List.map Sp.row o1).length = o1.length := List.length_map ..
      refine ⟨fun hl2 => Sp.stR_of (fun p q a b c => by omega) hmi, fun hl2 => ⟨⟨1, Sp.cpI_init (by omega), rfl⟩, fun k hk _ _ => ⟨fun hkl => ⟨⟨by have := hk.1; omega, hkl⟩, fun _ => ⟨by have := hk.1; omega, ⟨by have := hk.1; omega, by omega⟩, fun _ => ⟨fun he => ?_, fun hne => ⟨by omega, k + 1, Sp.cpI_next hk hkl hne, rfl, by have := hk.1; omega⟩⟩⟩⟩, fun hkl => Sp.stR_of (fun p q a b c => Sp.cp_strict hk hs p q a b (by omega)) hmi⟩⟩⟩
      have hk1 := hk.1
      have hkl' : k < (o1.length : Int) := by omega
      have he' : Sp.iA o1 k = Sp.iA o1 (k - 1) := by
        rw [← Sp.iA_get (q := k) (by omega) hkl', ← Sp.iA_get (q := k - 1) (by omega) (by omega)]; exact he
      refine ⟨by simp only [geB]; omega, ⟨(k, 1, o1), Sp.cqI_init hk hkl' hs he', ⟨rfl, rfl⟩, rfl⟩, ?_⟩
      rintro ⟨c, b, o3⟩ hq _ _
      simp only at hq ⊢
      have q2 := hq.2.1
      have q3 := hq.2.2.1
      have q4 := hq.2.2.2.1
      have q5 := hq.2.2.2.2.1
      have q6 := hq.2.2.2.2.2.1
      have e3 : (List.map Sp.row o3).length = o3.length := List.length_map ..
      refine ⟨by omega, fun hb => ⟨⟨by omega, hb⟩, fun _ => ⟨by omega, ⟨by omega, by omega⟩, fun _ => ⟨fun hne => ⟨⟨by omega, hb⟩, fun _ => ⟨⟨by omega, by omega⟩, by omega, by omega, (c + 1, b + 1, o3.set c.toNat (Sp.iA o3 (k + b))), Sp.cqI_put hq (by omega) hs ?_, ⟨rfl, rfl⟩, ?_, by simp only; omega⟩⟩, fun heq => ⟨by omega, (c, b + 1, o3), Sp.cqI_keep hq (by omega) ?_, ⟨rfl, rfl⟩, rfl, by simp only; omega⟩⟩⟩⟩, fun hb => ⟨⟨by omega, by omega⟩, ⟨by omega, ?_⟩, ?_⟩⟩
      · rw [← Sp.iA_get (o := o3) (q := k + b) (by omega) (by omega), ← Sp.iA_get (o := o3) (q := k + b - 1) (by omega) (by omega), show k + b - 1 = k + (b - 1) by omega]; exact hne
      · rw [List.map_set]
        unfold rSet
        have g := Sp.iA_get (o := o3) (q := k + b) (by omega) (by omega)
        rw [← g]; rfl
      · rw [← Sp.iA_get (o := o3) (q := k + b) (by omega) (by omega), ← Sp.iA_get (o := o3) (q := k + b - 1) (by omega) (by omega), show k + b - 1 = k + (b - 1) by omega]; exact heq
      · simp only [List.length_append, List.length_take, List.length_replicate]; omega
      · rw [List.take_append_of_le_length (by rw [List.length_take]; omega), List.take_take, Nat.min_self, ← List.map_take]
        obtain ⟨w1, w2⟩ := Sp.cqI_end hq (by omega)
        exact Sp.stR_of w1 (fun v => by rw [w2 v]; exact hmi v)
theorem s44 : SoundCt Go.Proofs.Try.prog 44 ct44 :=
  contractH followsMixed (look_sound (show Tb Go.Proofs.Try.prog tb44 from ⟨s57, ⟨s72, ⟨s86, ⟨s2000065, ⟨s5000065, trivial⟩⟩⟩⟩⟩)) (fun _ => false) (fun a => A44 ((cel 2 (arg 0 a)).list) ((cel 2 (arg 1 a)).int) ((cel 0 (arg 2 a)).str)) 6 44 ct44 rfl (by simp [ct44]) fun a => Eq.mp (by kernel_rfl) (v44 ((cel 0 (arg 0 a)).list) ((cel 1 (arg 0 a)).list) ((cel 2 (arg 0 a)).list) ((cel 3 (arg 0 a)).list) ((cel 4 (arg 0 a)).list) ((cel 0 (arg 1 a)).int) ((cel 1 (arg 1 a)).str) ((cel 2 (arg 1 a)).int) ((cel 3 (arg 1 a)).bool) ((cel 4 (arg 1 a)).int) ((cel 0 (arg 2 a)).str))
end Go.Sx

