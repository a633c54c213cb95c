/- Contracts and conditions, continued. -/
import Derived.Test.YtmoeognojncmhaaSxUse
import Derived.Test.YtmoeognojncmhaaC13k
import Derived.KernelRfl
set_option linter.unusedVariables false
set_option linter.unusedSimpArgs false
set_option maxRecDepth 100000
set_option maxHeartbeats 4000000

namespace Go
open Go.Sx
def Sp.prt (xs : List (List C)) (t : Int) (k : Nat) : Int := (min t (Sp.unt xs k) - Sp.cf (rGet xs k)) * Sp.cn (rGet xs k) / Sp.cd (rGet xs k)
def Sp.psum (xs : List (List C)) (t : Int) : Nat → Int
  | 0 => 0
  | k + 1 => Sp.psum xs t k + Sp.prt xs t k
def Sp.cnt (xs : List (List C)) (t : Int) : Nat := (xs.takeWhile fun x => decide (Sp.cf x ≤ t)).length
def Sp.posn (xs : List (List C)) (t : Int) : Int := Sp.psum xs t (Sp.cnt xs t)
def Sp.pval (xs : List (List C)) (k : Nat) (t : Int) : Int := Sp.pat (Sp.cf (rGet xs k)) (Sp.cn (rGet xs k)) (Sp.cd (rGet xs k)) (Sp.beg xs k) t
def Sp.tofK (xs : List (List C)) (fr : Int) : Option Nat := (List.range xs.length).find? fun k => decide (fr ≤ Sp.pval xs k (Sp.unt xs k))
def Sp.tofT (xs : List (List C)) (fr : Int) (k : Nat) : Int := Sp.cf (rGet xs k) + max 0 (Sp.ceiV (fr - Sp.beg xs k) (Sp.cd (rGet xs k)) (Sp.cn (rGet xs k)))
def Sp.toE (xs : List (List C)) (fr : Int) : Int := if Sp.cval xs = false then 1 else if fr < 0 then 2 else (match Sp.tofK xs fr with | some _ => 0 | none => 13)
def Sp.toV (xs : List (List C)) (fr : Int) : Int := if Sp.cval xs = false then 0 else if fr < 0 then 0 else (match Sp.tofK xs fr with | some k => Sp.tofT xs fr k | none => 0)
end Go

namespace Go.Sx
def ct33 : Ct := { ps := [(true, [.sl [.int .i64, .int .i64, .int .i64]]), (false, [.int .i64])], rs := [(false, [.int .i64])], pre := fun a => Sp.cval (cel 0 (arg 0 a)).list = true ∧ (pLe 0 (cel 0 (arg 1 a)).int ∧ pLe (cel 0 (arg 1 a)).int 1099511627776), out := fun a => [[.i (Sp.posn (cel 0 (arg 0 a)).list (cel 0 (arg 1 a)).int)]] }
end Go.Sx

namespace Go.Sx
def ct26 : Ct := { ps := [(true, [.sl [.int .i64, .int .i64, .int .i64]]), (false, [.int .i64])], rs := [(false, [.int .i64]), (false, [.int .i64])], pre := fun _ => True, out := fun a => [[.i (Sp.toV (cel 0 (arg 0 a)).list (cel 0 (arg 1 a)).int)], [.i (Sp.toE (cel 0 (arg 0 a)).list (cel 0 (arg 1 a)).int)]] }
end Go.Sx

namespace Go.Proofs
open Go.RowKit Go.Shelf Go.Sx
attribute [local go_sem] Oper.semAt_some
/-! ### What a valid clock's segments are -/
theorem rGet_cons {x : List C} {r : List (List C)} {j : Int} (h : 0 ≤ j) : rGet (x :: r) (j + 1) = rGet r j := by
  unfold rGet
  rw [show (j + 1).toNat = j.toNat + 1 by omega]; rfl
theorem Sp.cvR_facts : ∀ {xs : List (List C)} {p : Int}, Sp.cvR p xs = true → ∀ k : Nat, k < xs.length → Sp.cu (Sp.cn (rGet xs k)) (Sp.cd (rGet xs k)) = true ∧ p < Sp.cf (rGet xs k) ∧ Sp.cf (rGet xs k) ≤ 1099511627776 ∧ (k + 1 < xs.length → Sp.cf (rGet xs k) < Sp.cf (rGet xs ((k : Int) + 1)))
  | [], p, _, k, hk => by simp at hk
  | x :: r, p, h, k, hk => by
    simp only [Sp.cvR, Bool.and_eq_true, decide_eq_true_eq] at h
    have ih := Sp.cvR_facts h.2
    cases k with
    | zero =>
      refine ⟨h.1.1, h.1.2.2, h.1.2.1, fun h1 => ?_⟩
      have := (ih 0 (by simpa using h1)).2.1
      simpa [rGet] using this
    | succ k =>
      have i1 := ih k (by simpa using hk)
      have e1 : rGet (x :: r) ((k + 1 : Nat) : Int) = rGet r k := rGet_cons (j := (k : Int)) (by omega)
      have e2 : rGet (x :: r) (((k + 1 : Nat) : Int) + 1) = rGet r ((k : Int) + 1) := rGet_cons (j := (k : Int) + 1) (by omega)
      rw [e1, e2]
      exact ⟨i1.1, by omega, i1.2.2.1, fun h1 => i1.2.2.2 (by simp at h1; omega)⟩
theorem Sp.cval_facts {xs : List (List C)} (h : Sp.cval xs = true) : (1 ≤ xs.length ∧ xs.length ≤ 64) ∧ Sp.cf (rGet xs 0) = 0 ∧ ∀ k : Nat, k < xs.length → Sp.cu (Sp.cn (rGet xs k)) (Sp.cd (rGet xs k)) = true ∧ 0 ≤ Sp.cf (rGet xs k) ∧ Sp.cf (rGet xs k) ≤ 1099511627776 ∧ (k + 1 < xs.length → Sp.cf (rGet xs k) < Sp.cf (rGet xs ((k : Int) + 1))) := by
  have hl := Sp.cval_len h
  refine ⟨by omega, ?_⟩
  unfold Sp.cval at h
  rw [Bool.and_eq_true] at h
  cases xs with
  | nil => simp at hl
  | cons x r =>
    have h1 := h.1
    simp only [Sp.cvA, Bool.and_eq_true, decide_eq_true_eq] at h1
    have e0 : rGet (x :: r) 0 = x := by simp [rGet]
    have f := Sp.cvR_facts h1.2
    refine ⟨by rw [e0]; exact h1.1.2, fun k hk => ?_⟩
    cases k with
    | zero =>
      have e0' : rGet (x :: r) ((0 : Nat) : Int) = x := by simp [rGet]
      rw [e0']
      refine ⟨h1.1.1, by omega, by omega, fun h2 => ?_⟩
      have := (f 0 (by simpa using h2)).2.1
      simpa [rGet] using this
    | succ k =>
      have i1 := f k (by simpa using hk)
      have e1 : rGet (x :: r) ((k + 1 : Nat) : Int) = rGet r k := rGet_cons (j := (k : Int)) (by omega)
      have e2 : rGet (x :: r) (((k + 1 : Nat) : Int) + 1) = rGet r ((k : Int) + 1) := rGet_cons (j := (k : Int) + 1) (by omega)
      rw [e1, e2]
      exact ⟨i1.1, by omega, i1.2.2.1, fun h1 => i1.2.2.2 (by simp at h1; omega)⟩
theorem Sp.unt_facts {xs : List (List C)} (h : Sp.cval xs = true) {k : Nat} (hk : k < xs.length) : Sp.cf (rGet xs k) ≤ Sp.unt xs k ∧ Sp.unt xs k ≤ 1099511627776 := by
  obtain ⟨hl, h0, hf⟩ := Sp.cval_facts h
  obtain ⟨a, b, c, d⟩ := hf k hk
  unfold Sp.unt
  split
  · rename_i h1
    have := (hf (k + 1) h1).2.2.1
    rw [show ((k + 1 : Nat) : Int) = (k : Int) + 1 by omega] at this
    exact ⟨Int.le_of_lt (d h1), this⟩
  · omega
theorem Sp.unt_next {xs : List (List C)} {k : Nat} (h : k + 1 < xs.length) : Sp.unt xs k = Sp.cf (rGet xs ((k + 1 : Nat) : Int)) := by unfold Sp.unt; rw [if_pos h]; rfl
theorem Sp.pok_of {xs : List (List C)} (h : Sp.cval xs = true) : ∀ (k : Nat), k < xs.length → Sp.pok (Sp.cf (rGet xs k)) (Sp.cn (rGet xs k)) (Sp.cd (rGet xs k)) (Sp.unt xs k) (Sp.beg xs k)
  | 0, hk => by
    obtain ⟨hl, h0, hf⟩ := Sp.cval_facts h
    obtain ⟨u1, u2⟩ := Sp.unt_facts h hk
    obtain ⟨a, b, c, d⟩ := hf 0 hk
    exact ⟨a, b, u1, u2, Int.le_refl _, by show (0 : Int) ≤ _; omega⟩
  | k + 1, hk => by
    obtain ⟨hl, h0, hf⟩ := Sp.cval_facts h
    obtain ⟨u1, u2⟩ := Sp.unt_facts h hk
    obtain ⟨a, b, c, d⟩ := hf (k + 1) hk
    obtain ⟨p1, p2, p3, p4, p5, p6⟩ := Sp.pok_of h k (by omega)
    obtain ⟨f1, f2, _, _⟩ := Sp.flo_cu (m := Sp.unt xs k - Sp.cf (rGet xs k)) p1 (by omega) (by omega)
    have hn := Sp.unt_next hk
    refine ⟨a, b, u1, u2, ?_, ?_⟩
    · show 0 ≤ Sp.pat _ _ _ _ _
      unfold Sp.pat; omega
    · show Sp.pat _ _ _ _ _ ≤ _
      unfold Sp.pat; omega
theorem ints3 {w : World} {ok : Nat → Prop} {cs : List C} {b o : Nat} (h : RepCs w ok [.int .i64, .int .i64, .int .i64] cs b o) :
    w.cell? ⟨b, o, none⟩ = some (.int .i64 (Sp.cf cs)) ∧ w.cell? ⟨b, o + 1, none⟩ = some (.int .i64 (Sp.cn cs)) ∧ w.cell? ⟨b, o + 2, none⟩ = some (.int .i64 (Sp.cd cs)) := by
  simp only [RepCs, RepC] at h
  obtain ⟨⟨u, h1, _, rfl⟩, ⟨v, h2, _, rfl⟩, ⟨z, h3, _, rfl⟩, _⟩ := h
  exact ⟨h1, h2, h3⟩
/-- The pieces of a valid clock, in memory. -/
theorem pcs_of {w : World} {ok : Nat → Prop} (hok : ∀ b, ok b → b < w.heap.size) {xs : List (List C)} {v : Value} (h : RepC w ok (.sl [.int .i64, .int .i64, .int .i64]) (.l xs) v) (hv : Sp.cval xs = true) :
    ∃ b off cap, v = .slice (some ⟨b, off, none⟩) xs.length cap ∧ Pcs w b off xs.length (fun k => Sp.cf (rGet xs k)) (fun k => Sp.cn (rGet xs k)) (fun k => Sp.cd (rGet xs k)) (fun k => Sp.unt xs k) (fun k => Sp.beg xs k) := by
  have hl := Sp.cval_len hv
  simp only [RepC, C.list] at h
  obtain ⟨a, n, cap, rfl, h1, h2, rfl, h4⟩ := h
  rcases h4 with h4 | ⟨b, o, rfl, hb, hc⟩
  · omega
  refine ⟨b, o, cap, rfl, ⟨hok b hb, fun k hk => ?_, fun k hk => Sp.unt_next hk, fun k hk => by simp only [Sp.unt]; rw [if_neg hk], rfl, fun k hk => rfl, fun k hk => Sp.pok_of hv k hk, by omega⟩⟩
  have := ints3 (hc k hk)
  have e : rGet xs k = xs.getD k [] := by simp [rGet]
  simp only [e]
  simpa using this
/-! ### The position at a time -/
theorem Sp.cnt_eq {xs : List (List C)} {t : Int} : ∀ {i : Nat}, i ≤ xs.length → (∀ j : Nat, j < i → Sp.cf (rGet xs j) ≤ t) → (i < xs.length → t < Sp.cf (rGet xs i)) → Sp.cnt xs t = i := by
  unfold Sp.cnt
  induction xs with
  | nil => intro i hi _ _; simp at hi; simp [hi]
  | cons x r ih =>
    intro i hi h1 h2
    cases i with
    | zero =>
      have := h2 (by simp)
      have e : rGet (x :: r) ((0 : Nat) : Int) = x := by simp [rGet]
      rw [e] at this
      rw [List.takeWhile_cons_of_neg (by simpa using this)]; rfl
    | succ i =>
      have e0 : rGet (x :: r) ((0 : Nat) : Int) = x := by simp [rGet]
      have h0 := h1 0 (by omega)
      rw [e0] at h0
      rw [List.takeWhile_cons_of_pos (by simpa using h0)]
      simp only [List.length_cons]
      rw [ih (i := i) (by simpa using hi) (fun j hj => ?_) (fun hj => ?_)]
      · have := h1 (j + 1) (by omega)
        rwa [show rGet (x :: r) ((j + 1 : Nat) : Int) = rGet r j from rGet_cons (j := (j : Int)) (by omega)] at this
      · have := h2 (by simpa using hj)
        rwa [show rGet (x :: r) ((i + 1 : Nat) : Int) = rGet r i from rGet_cons (j := (i : Int)) (by omega)] at this
theorem Sp.psum_beg {xs : List (List C)} {t : Int} : ∀ {k : Nat}, k < xs.length → (∀ j : Nat, j ≤ k → Sp.cf (rGet xs j) ≤ t) → Sp.psum xs t k = Sp.beg xs k
  | 0, _, _ => rfl
  | k + 1, hk, h => by
    have ih := Sp.psum_beg (k := k) (by omega) (fun j hj => h j (by omega))
    have hn := Sp.unt_next hk
    have := h (k + 1) (Nat.le_refl _)
    simp only [Sp.psum, Sp.prt, Sp.beg, Sp.pat, ih]
    rw [show min t (Sp.unt xs k) = Sp.unt xs k by omega]
theorem Sp.psum_val {xs : List (List C)} {t : Int} {k : Nat} (hk : k < xs.length) (h : ∀ j : Nat, j ≤ k → Sp.cf (rGet xs j) ≤ t) : Sp.psum xs t (k + 1) = Sp.pval xs k (min t (Sp.unt xs k)) := by
  simp only [Sp.psum, Sp.prt, Sp.pval, Sp.pat, Sp.psum_beg hk h]
theorem Sp.nOf_psum {xs : List (List C)} {t : Int} : ∀ {i : Nat}, i ≤ xs.length → (∀ j : Nat, j < i → Sp.cf (rGet xs j) ≤ t) →
    Sp.nOf t (Sp.pl (fun k => Sp.cf (rGet xs k)) (fun k => Sp.cn (rGet xs k)) (fun k => Sp.cd (rGet xs k)) (fun k => Sp.unt xs k) (fun k => Sp.beg xs k) i) = Sp.psum xs t i
  | 0, _, _ => rfl
  | i + 1, hi, h => by
    rw [Sp.psum_val (by omega) (fun j hj => h j (by omega))]
    simp only [Sp.pl, List.range_succ, List.map_append, List.map_cons, List.map_nil]
    rw [Sp.nOf_snoc]; rfl
theorem Sp.beg_next {xs : List (List C)} (k : Nat) : Sp.beg xs (k + 1) = Sp.pval xs k (Sp.unt xs k) := rfl
theorem Sp.pval_bd {xs : List (List C)} (h : Sp.cval xs = true) {k : Nat} (hk : k < xs.length) {s : Int} (h0 : Sp.cf (rGet xs k) ≤ s) (h1 : s ≤ Sp.unt xs k) : 0 ≤ Sp.beg xs k ∧ Sp.beg xs k ≤ Sp.pval xs k s ∧ Sp.pval xs k s ≤ 1024 * s := by
  obtain ⟨p1, p2, p3, p4, p5, p6⟩ := Sp.pok_of h k hk
  obtain ⟨f1, f2, _, _⟩ := Sp.flo_cu (m := s - Sp.cf (rGet xs k)) p1 (by omega) (by omega)
  unfold Sp.pval Sp.pat
  omega
theorem Sp.pval_mono {xs : List (List C)} (h : Sp.cval xs = true) {k : Nat} (hk : k < xs.length) {s s' : Int} (h0 : s ≤ s') : Sp.pval xs k s ≤ Sp.pval xs k s' := by
  obtain ⟨p1, p2, p3, p4, p5, p6⟩ := Sp.pok_of h k hk
  obtain ⟨_, a1, b1, _⟩ := Sp.cu_rv p1
  unfold Sp.pval Sp.pat
  have := Int.ediv_le_ediv (show 0 < Sp.cd (rGet xs k) by omega) (Int.mul_le_mul_of_nonneg_right (show s - Sp.cf (rGet xs k) ≤ s' - Sp.cf (rGet xs k) by omega) (show 0 ≤ Sp.cn (rGet xs k) by omega))
  omega
theorem Sp.cf_mono {xs : List (List C)} (h : Sp.cval xs = true) : ∀ {k j : Nat}, k < xs.length → j ≤ k → Sp.cf (rGet xs j) ≤ Sp.cf (rGet xs k)
  | 0, j, _, hj => by obtain rfl : j = 0 := by omega
                      exact Int.le_refl _
  | k + 1, j, hk, hj => by
    by_cases e : j = k + 1
    · subst e; exact Int.le_refl _
    · have h1 := Sp.cf_mono h (k := k) (j := j) (by omega) (by omega)
      have h2 := ((Sp.cval_facts h).2.2 k (by omega)).2.2.2 hk
      rw [show ((k + 1 : Nat) : Int) = (k : Int) + 1 by omega]
      omega
/-- The segment in which a time lies. -/
theorem Sp.seg {xs : List (List C)} (h : Sp.cval xs = true) {t : Int} (h0 : 0 ≤ t) (h1 : t ≤ 1099511627776) : ∃ k, k < xs.length ∧ Sp.cf (rGet xs k) ≤ t ∧ (k + 1 < xs.length → t < Sp.cf (rGet xs ((k + 1 : Nat) : Int))) ∧ t ≤ Sp.unt xs k := by
  obtain ⟨hl, z, hf⟩ := Sp.cval_facts h
  have key : ∀ n k : Nat, xs.length - k = n → k < xs.length → Sp.cf (rGet xs k) ≤ t → ∃ k, k < xs.length ∧ Sp.cf (rGet xs k) ≤ t ∧ (k + 1 < xs.length → t < Sp.cf (rGet xs ((k + 1 : Nat) : Int))) := by
    intro n
    induction n with
    | zero => intro k hk hk' _; omega
    | succ n ih =>
      intro k hn hk hc
      by_cases hs : k + 1 < xs.length ∧ Sp.cf (rGet xs ((k + 1 : Nat) : Int)) ≤ t
      · exact ih (k + 1) (by omega) hs.1 hs.2
      · exact ⟨k, hk, hc, fun h => by
          rcases Int.lt_or_le t (Sp.cf (rGet xs ((k + 1 : Nat) : Int))) with h2 | h2
          · exact h2
          · exact (hs ⟨h, h2⟩).elim⟩
  obtain ⟨k, a, b, c⟩ := key _ 0 rfl (by omega) (by rw [show ((0 : Nat) : Int) = 0 by rfl, z]; exact h0)
  refine ⟨k, a, b, c, ?_⟩
  by_cases hs : k + 1 < xs.length
  · rw [Sp.unt_next hs]; have := c hs; omega
  · unfold Sp.unt; rw [if_neg hs]; exact h1
theorem Sp.posn_at {xs : List (List C)} (h : Sp.cval xs = true) {k : Nat} (hk : k < xs.length) {t : Int} (h0 : Sp.cf (rGet xs k) ≤ t) (h1 : t ≤ Sp.unt xs k) : Sp.posn xs t = Sp.pval xs k t := by
  have below : ∀ j : Nat, j ≤ k → Sp.cf (rGet xs j) ≤ t := fun j hj => by have := Sp.cf_mono h hk hj; omega
  by_cases hs : k + 1 < xs.length ∧ Sp.cf (rGet xs ((k + 1 : Nat) : Int)) ≤ t
  · have e : t = Sp.unt xs k := by have := Sp.unt_next hs.1; omega
    have below' : ∀ j : Nat, j ≤ k + 1 → Sp.cf (rGet xs j) ≤ t := fun j hj => by have := Sp.cf_mono h hs.1 hj; omega
    have hc : Sp.cnt xs t = k + 2 := Sp.cnt_eq (by omega) (fun j hj => below' j (by omega)) fun h2 => by
      have := ((Sp.cval_facts h).2.2 (k + 1) hs.1).2.2.2 h2
      rw [show ((k + 2 : Nat) : Int) = ((k + 1 : Nat) : Int) + 1 by omega]
      have := Sp.unt_next hs.1
      omega
    unfold Sp.posn
    rw [hc, Sp.psum_val hs.1 below']
    have u := Sp.unt_facts h hs.1
    have e2 := Sp.unt_next hs.1
    rw [show min t (Sp.unt xs (k + 1)) = Sp.cf (rGet xs ((k + 1 : Nat) : Int)) by omega]
    have e3 : Sp.pval xs (k + 1) (Sp.cf (rGet xs ((k + 1 : Nat) : Int))) = Sp.beg xs (k + 1) := by unfold Sp.pval Sp.pat; simp
    rw [e3, Sp.beg_next, e]
  · have hc : Sp.cnt xs t = k + 1 := Sp.cnt_eq (by omega) (fun j hj => below j (by omega)) fun h2 => by
      rcases Int.lt_or_le t (Sp.cf (rGet xs ((k + 1 : Nat) : Int))) with h3 | h3
      · exact h3
      · exact (hs ⟨h2, h3⟩).elim
    unfold Sp.posn
    rw [hc, Sp.psum_val hk below, show min t (Sp.unt xs k) = t by omega]
theorem Sp.posn_bd {xs : List (List C)} (h : Sp.cval xs = true) {t : Int} (h0 : 0 ≤ t) (h1 : t ≤ 1099511627776) : 0 ≤ Sp.posn xs t ∧ Sp.posn xs t ≤ 1024 * t := by
  obtain ⟨k, a, b, c, d⟩ := Sp.seg h h0 h1
  rw [Sp.posn_at h a b d]
  have := Sp.pval_bd h a b d
  omega
theorem Sp.beg_mono {xs : List (List C)} (h : Sp.cval xs = true) : ∀ {k j : Nat}, k < xs.length → j ≤ k → Sp.beg xs j ≤ Sp.beg xs k
  | 0, j, _, hj => by obtain rfl : j = 0 := by omega
                      exact Int.le_refl _
  | k + 1, j, hk, hj => by
    by_cases e : j = k + 1
    · subst e; exact Int.le_refl _
    · have h1 := Sp.beg_mono h (k := k) (j := j) (by omega) (by omega)
      have u := Sp.unt_facts h (show k < xs.length by omega)
      have h2 := (Sp.pval_bd h (show k < xs.length by omega) u.1 (Int.le_refl _)).2.1
      rw [Sp.beg_next]; omega
theorem Sp.posn_mono {xs : List (List C)} (h : Sp.cval xs = true) {s t : Int} (h0 : 0 ≤ s) (hst : s ≤ t) (h1 : t ≤ 1099511627776) : Sp.posn xs s ≤ Sp.posn xs t := by
  obtain ⟨k, a, b, c, d⟩ := Sp.seg h h0 (by omega)
  obtain ⟨k', a', b', c', d'⟩ := Sp.seg h (show 0 ≤ t by omega) h1
  rw [Sp.posn_at h a b d, Sp.posn_at h a' b' d']
  rcases Nat.lt_trichotomy k k' with hk | hk | hk
  · have u := Sp.unt_facts h a
    have m1 := Sp.pval_mono h a d
    have m2 := Sp.beg_mono h a' (show k + 1 ≤ k' by omega)
    have m3 := (Sp.pval_bd h a' b' d').2.1
    rw [Sp.beg_next] at m2
    omega
  · subst hk; exact Sp.pval_mono h a hst
  · have m1 := Sp.cf_mono h a (show k' + 1 ≤ k by omega)
    have := c' (by omega)
    omega
/-! ### The time of a frame -/
theorem Sp.ceil_facts {m n d c : Int} (hn : 0 < n) (hd : 0 < d) (hm : 0 ≤ m) (hc : c = -(-m * d / n)) : 0 ≤ c ∧ (∀ s : Int, m ≤ s * n / d ↔ c ≤ s) := by
  have key : ∀ s : Int, m ≤ s * n / d ↔ c ≤ s := fun s => by
    rw [Int.le_ediv_iff_mul_le hd, hc]
    constructor
    · intro h
      have : -s ≤ -m * d / n := by
        rw [Int.le_ediv_iff_mul_le hn, Int.neg_mul, Int.neg_mul]; omega
      omega
    · intro h
      have h2 : -s ≤ -m * d / n := by omega
      rw [Int.le_ediv_iff_mul_le hn, Int.neg_mul, Int.neg_mul] at h2
      omega
  refine ⟨?_, key⟩
  rw [hc]
  have : -m * d / n ≤ 0 := by
    have h1 : -m * d ≤ 0 := by rw [Int.neg_mul]; have := Int.mul_nonneg hm (Int.le_of_lt hd); omega
    have := Int.ediv_le_ediv hn h1
    simpa using this
  omega
theorem Sp.tofK_some {xs : List (List C)} {fr : Int} {k : Nat} (h : Sp.tofK xs fr = some k) : k < xs.length ∧ fr ≤ Sp.pval xs k (Sp.unt xs k) ∧ ∀ j, j < k → Sp.pval xs j (Sp.unt xs j) < fr := by
  unfold Sp.tofK at h
  rw [List.find?_range_eq_some] at h
  obtain ⟨h1, h2, h3⟩ := h
  exact ⟨List.mem_range.1 h2, by simpa using h1, fun j hj => by simpa using h3 j hj⟩
theorem Sp.tofK_none {xs : List (List C)} {fr : Int} (h : Sp.tofK xs fr = none) : ∀ j, j < xs.length → Sp.pval xs j (Sp.unt xs j) < fr := by
  unfold Sp.tofK at h
  rw [List.find?_range_eq_none] at h
  exact fun j hj => by simpa using h j hj
theorem Sp.tofK_of {xs : List (List C)} {fr : Int} {k : Nat} (hk : k < xs.length) (h1 : fr ≤ Sp.pval xs k (Sp.unt xs k)) (h2 : ∀ j, j < k → Sp.pval xs j (Sp.unt xs j) < fr) : Sp.tofK xs fr = some k := by
  unfold Sp.tofK
  rw [List.find?_range_eq_some]
  exact ⟨by simpa using h1, List.mem_range.2 hk, fun j hj => by simpa using h2 j hj⟩
theorem Sp.tofK_no {xs : List (List C)} {fr : Int} (h : ∀ j, j < xs.length → Sp.pval xs j (Sp.unt xs j) < fr) : Sp.tofK xs fr = none := by
  unfold Sp.tofK
  rw [List.find?_range_eq_none]
  exact fun j hj => by simpa using h j hj
/-- The least time at which so many frames have been counted. -/
theorem Sp.tof_least {xs : List (List C)} (h : Sp.cval xs = true) {fr : Int} (h0 : 0 ≤ fr) {k : Nat} (hk : Sp.tofK xs fr = some k) :
    0 ≤ Sp.tofT xs fr k ∧ Sp.tofT xs fr k ≤ 1099511627776 ∧ fr ≤ Sp.posn xs (Sp.tofT xs fr k) ∧ (0 < Sp.tofT xs fr k → Sp.posn xs (Sp.tofT xs fr k - 1) < fr) := by
  obtain ⟨a, b, c⟩ := Sp.tofK_some hk
  obtain ⟨p1, p2, p3, p4, p5, p6⟩ := Sp.pok_of h k a
  obtain ⟨hv, a1, b1, _⟩ := Sp.cu_rv p1
  have hm : 0 ≤ fr - Sp.beg xs k ∧ (k ≠ 0 → 0 < fr - Sp.beg xs k) := by
    cases k with
    | zero => exact ⟨by show 0 ≤ fr - 0; omega, fun h => (h rfl).elim⟩
    | succ k => have := c k (by omega); rw [← Sp.beg_next] at this; exact ⟨by omega, fun _ => by omega⟩
  have hb : fr - Sp.beg xs k ≤ (Sp.unt xs k - Sp.cf (rGet xs k)) * Sp.cn (rGet xs k) / Sp.cd (rGet xs k) := by unfold Sp.pval Sp.pat at b; omega
  obtain ⟨k1, k2, k3⟩ := Sp.cei_cu (m := fr - Sp.beg xs k) (M := Sp.unt xs k - Sp.cf (rGet xs k)) p1 (by omega) (by omega) hb (by omega)
  obtain ⟨q1, q2⟩ := Sp.ceil_facts (show 0 < Sp.cn (rGet xs k) by omega) (show 0 < Sp.cd (rGet xs k) by omega) hm.1 k1
  have eT : Sp.tofT xs fr k = Sp.cf (rGet xs k) + Sp.ceiV (fr - Sp.beg xs k) (Sp.cd (rGet xs k)) (Sp.cn (rGet xs k)) := by unfold Sp.tofT; rw [show max 0 (Sp.ceiV (fr - Sp.beg xs k) (Sp.cd (rGet xs k)) (Sp.cn (rGet xs k))) = Sp.ceiV (fr - Sp.beg xs k) (Sp.cd (rGet xs k)) (Sp.cn (rGet xs k)) by omega]
  generalize Sp.ceiV (fr - Sp.beg xs k) (Sp.cd (rGet xs k)) (Sp.cn (rGet xs k)) = cc at *
  rw [eT]
  refine ⟨by omega, by omega, ?_, fun hT => ?_⟩
  · rw [Sp.posn_at h a (by omega) (by omega)]
    unfold Sp.pval Sp.pat
    have := (q2 cc).2 (Int.le_refl _)
    rw [show Sp.cf (rGet xs k) + cc - Sp.cf (rGet xs k) = cc by omega]
    omega
  · by_cases hc : cc = 0
    · subst hc
      have hz : k = 0 := by
        rcases Nat.eq_zero_or_pos k with e | e
        · exact e
        · have := (q2 0).2 (Int.le_refl _)
          simp at this
          have := hm.2 (by omega)
          omega
      subst hz
      have := (Sp.cval_facts h).2.1
      rw [show ((0 : Nat) : Int) = 0 by rfl] at hT
      omega
    · rw [Sp.posn_at h a (by omega) (by omega)]
      unfold Sp.pval Sp.pat
      rw [show Sp.cf (rGet xs k) + cc - 1 - Sp.cf (rGet xs k) = cc - 1 by omega]
      have : ¬ fr - Sp.beg xs k ≤ (cc - 1) * Sp.cn (rGet xs k) / Sp.cd (rGet xs k) := fun h => by have := (q2 _).1 h; omega
      omega
theorem Sp.tof_none {xs : List (List C)} (h : Sp.cval xs = true) {fr : Int} (hk : Sp.tofK xs fr = none) : Sp.posn xs 1099511627776 < fr := by
  obtain ⟨k, a, b, c, d⟩ := Sp.seg h (show (0 : Int) ≤ 1099511627776 by omega) (Int.le_refl _)
  have u := Sp.unt_facts h a
  rw [Sp.posn_at h a b d]
  have := Sp.tofK_none hk k a
  rwa [show Sp.unt xs k = 1099511627776 by omega] at this
theorem VR.below {V : Vw} {W : World} (hb : Below V.w.heap.size V.w W) {e : List Sh} {xs : List (List C)} {v : Value} (h : RepC V.w V.ok (.sl e) (.l xs) v) : RepC W (V0 W).ok (.sl e) (.l xs) v :=
  RepC.mono (fun b hk => ⟨(V0_ok W b (Nat.lt_of_lt_of_le hk.1 hb.size)).1, hb.block b hk.1⟩) _ _ _ h
theorem repC_one {w : World} {ok : Nat → Prop} {e : List Sh} {xs : List (List C)} {v : Value} (h : RepC w ok (.sl e) (.l xs) v) : v.oneCell' = true := by
  simp only [RepC] at h
  obtain ⟨a, n, cap, rfl, _⟩ := h
  rfl
theorem s33 : SoundCt Go.Proofs.Try.prog 33 ct33 := by
  refine ⟨fun args ha hp => ?_, fun _ V args vals hD hbad ha hp hv => ?_, fun t e h => by cases h⟩
  · have hp' : Sp.cval (cel 0 (arg 0 args)).list = true ∧ (0 ≤ (cel 0 (arg 1 args)).int ∧ (cel 0 (arg 1 args)).int ≤ 1099511627776) := hp
    show Wfs [.int .i64 (Sp.posn _ _)]
    have := Sp.posn_bd hp'.1 hp'.2.1 hp'.2.2
    simp only [Wfs, Wf, InR, and_true]
    omega
  · have e : ofRess ct33.ps args = [.agg [.sl [.int .i64, .int .i64, .int .i64] (cel 0 (arg 0 args)).list], .int .i64 (cel 0 (arg 1 args)).int] := rfl
    rw [e] at hv ha
    have hp' : Sp.cval (cel 0 (arg 0 args)).list = true ∧ (0 ≤ (cel 0 (arg 1 args)).int ∧ (cel 0 (arg 1 args)).int ≤ 1099511627776) := hp
    have eo : ct33.sv args = .int .i64 (Sp.posn (cel 0 (arg 0 args)).list (cel 0 (arg 1 args)).int) := rfl
    rw [eo]
    generalize (cel 0 (arg 0 args)).list = xs at *
    generalize (cel 0 (arg 1 args)).int = t at *
    simp only [VRs, VR] at hv
    obtain ⟨_, _, rfl, ⟨_, rfl, _, v0, _, rfl, hr, rfl⟩, _, _, rfl, rfl, rfl⟩ := hv
    obtain ⟨b, off, cap, rfl, hP⟩ := pcs_of (fun b h => h.1) hr hp'.1
    refine runs_of_calls (by kernel_rfl) ((callsIn_wide.1 (position_in 6 (Nat.le_refl _) b off cap xs.length t _ _ _ _ _ V.w hP hp'.2)).mono fun e W' => ?_)
    rintro ⟨v, rfl, hb, hres⟩
    refine ⟨_, rfl, hb, ?_⟩
    show _ = _
    congr 1
    unfold Sp.posn
    rcases hres with ⟨rfl, hall⟩ | ⟨k, hk, rfl, hall, hlt⟩
    · rw [Sp.cnt_eq (i := xs.length) (Nat.le_refl _) hall (fun h => by omega), Sp.nOf_psum (Nat.le_refl _) hall]
    · rw [Sp.cnt_eq (i := k) (by omega) hall (fun _ => hlt), Sp.nOf_psum (by omega) hall]
theorem valid_in (n : Nat) {xs : List (List C)} {v : Value} {W : World} (hw : Wfs [.agg [.sl [.int .i64, .int .i64, .int .i64] xs]]) (h : RepC W (V0 W).ok (.sl [.int .i64, .int .i64, .int .i64]) (.l xs) v) :
    CallsIn Fence.wide n Go.Proofs.Try.prog 17 #[.agg #[v]] W fun e W' => e = .returned (.bool (Sp.cval xs)) ∧ Below W.heap.size W W' := by
  refine callsIn_wide.2 ?_
  have := calls_ct (P := Go.Proofs.Try.prog) (w := W) s17 (by kernel_rfl) rfl (args := [[.l xs]]) (vals := [.agg #[v]]) hw trivial
    (show VRs (V0 W) [.agg [.sl [.int .i64, .int .i64, .int .i64] xs]] _ by
      simp only [VRs, VR]
      exact ⟨_, _, rfl, ⟨[v], rfl, by simp [repC_one h], _, _, rfl, h, rfl⟩, rfl⟩)
  refine this.mono fun e w' => ?_
  rintro ⟨u, rfl, hb, hv⟩
  have hv' : u = .bool (Sp.cval xs) := hv
  rw [hv']
  exact ⟨rfl, hb⟩
set_option maxRecDepth 100000 in
set_option maxHeartbeats 4000000 in
theorem timeOf_bad (n : Nat) (hn : 6 ≤ n) (v : Bool) (a : Option Addr) (len cap : Nat) (fr : Int) (w : World) (hbad : v = false ∨ fr < 0)
    (hval : ∀ W, Below w.heap.size w W → CallsIn Fence.wide (n - 1) Go.Proofs.Try.prog 17 #[.agg #[.slice a len cap]] W fun e W' => e = .returned (.bool v) ∧ Below W.heap.size W W') :
    CallsIn Fence.wide n Go.Proofs.Try.prog 26 #[.agg #[.slice a len cap], .int .i64 fr] w fun e W' => e = .returned (.tuple #[.int .i64 0, .int .i64 (if v = false then 1 else 2)]) ∧ Below w.heap.size w W' := by
  have h1 : 1 ≤ n := by omega
  refine callsIn_of_wp Go.Proofs.Try.func26 rfl trivial ?_ rfl
  simp only [Go.Proofs.Try.ntmps26, List.size_toArray, List.length_cons, List.length_nil, Nat.reduceAdd, Nat.reduceSub, Array.replicate_succ, Array.replicate_zero, List.push_toArray, List.append_toArray, List.nil_append, List.cons_append]
  have h17 : Fence.wide.fn 17 := trivial
  have bT := ((Boxed.new (w.alloc (.cells #[.slice a len cap] 24)) 2 (.int .i64 fr)).alloc (.cells #[.int .i64 0] 2)).alloc (.cells #[.int .i64 0] 30)
  have b4 := (Boxed.new ((w.alloc (.cells #[.slice a len cap] 24)).alloc (.cells #[.int .i64 fr] 2)) 2 (.int .i64 0)).alloc (.cells #[.int .i64 0] 30)
  have b5 := Boxed.new (((w.alloc (.cells #[.slice a len cap] 24)).alloc (.cells #[.int .i64 fr] 2)).alloc (.cells #[.int .i64 0] 2)) 30 (.int .i64 0)
  simp only [World.size_alloc] at bT b4 b5
  have hB0 : Below w.heap.size w ((((w.alloc (.cells #[.slice a len cap] 24)).alloc (.cells #[.int .i64 fr] 2)).alloc (.cells #[.int .i64 0] 2)).alloc (.cells #[.int .i64 0] 30)) :=
    ((((Below.refl _ w).alloc (Nat.le_refl _) _).alloc (by simp) _).alloc (by simp; omega) _).alloc (by simp; omega) _
  have hval' := hval _ hB0
  cases v
  · gi_wp2_with (gi_at_call 17; refine hval'.mono ?_; rintro e w' ⟨rfl, hb17⟩; have aT := bT.kept (grown_below hb17) (by simp); have a4 := b4.kept (grown_below hb17) (by simp); have a5 := b5.kept (grown_below hb17) (by simp); have cT := aT.cell; have c4 := a4.cell; have f4 := a4.frozen; have c5 := a5.cell; have f5 := a5.frozen)
    have d4 := ((a4.set (.int .i64 0)).other (B' := w.heap.size + 1 + 1 + 1) (by omega) (.int .i64 1)).cell
    have d5 := ((a5.other (B' := w.heap.size + 1 + 1) (by omega) (.int .i64 0)).set (.int .i64 1)).cell
    refine bodyPost_ret (v := .tuple #[.int .i64 0, .int .i64 1]) (by simp [results, Go.Proofs.Try.f26, go_sem, d4, d5]) rfl ⟨rfl, ?_⟩
    exact ((hB0.trans (hb17.mono (by simp; omega))).setCell (p := ⟨w.heap.size + 1 + 1, 0, none⟩) (by simp; omega) _).setCell (p := ⟨w.heap.size + 1 + 1 + 1, 0, none⟩) (by simp; omega) _
  · have hfr : fr < 0 := by simpa using hbad
    gi_wp2_with (gi_at_call 17; refine hval'.mono ?_; rintro e w' ⟨rfl, hb17⟩; have aT := bT.kept (grown_below hb17) (by simp); have a4 := b4.kept (grown_below hb17) (by simp); have a5 := b5.kept (grown_below hb17) (by simp); have cT := aT.cell; have c4 := a4.cell; have f4 := a4.frozen; have c5 := a5.cell; have f5 := a5.frozen)
    have d4 := ((a4.set (.int .i64 0)).other (B' := w.heap.size + 1 + 1 + 1) (by omega) (.int .i64 2)).cell
    have d5 := ((a5.other (B' := w.heap.size + 1 + 1) (by omega) (.int .i64 0)).set (.int .i64 2)).cell
    refine bodyPost_ret (v := .tuple #[.int .i64 0, .int .i64 2]) (by simp [results, Go.Proofs.Try.f26, go_sem, d4, d5]) rfl ⟨rfl, ?_⟩
    exact ((hB0.trans (hb17.mono (by simp; omega))).setCell (p := ⟨w.heap.size + 1 + 1, 0, none⟩) (by simp; omega) _).setCell (p := ⟨w.heap.size + 1 + 1 + 1, 0, none⟩) (by simp; omega) _
theorem s26 : SoundCt Go.Proofs.Try.prog 26 ct26 := by
  refine ⟨fun args ha hp => ?_, fun _ V args vals hD hbad ha hp hv => ?_, fun t e h => by cases h⟩
  · show Wfs [.int .i64 (Sp.toV _ _), .int .i64 (Sp.toE _ _)]
    generalize (cel 0 (arg 0 args)).list = xs
    generalize (cel 0 (arg 1 args)).int = fr
    simp only [Wfs, Wf, InR, and_true, Sp.toV, Sp.toE]
    cases hv : Sp.cval xs
    · simp
    · rcases Int.lt_or_le fr 0 with hf | hf
      · simp [hf]
      · rw [if_neg (by simp), if_neg (by omega), if_neg (by simp), if_neg (by omega)]
        cases hk : Sp.tofK xs fr with
        | none => simp
        | some k =>
          have := Sp.tof_least hv hf hk
          simp only
          omega
  · have e : ofRess ct26.ps args = [.agg [.sl [.int .i64, .int .i64, .int .i64] (cel 0 (arg 0 args)).list], .int .i64 (cel 0 (arg 1 args)).int] := rfl
    rw [e] at hv ha
    have eo : ct26.sv args = .tup [.int .i64 (Sp.toV (cel 0 (arg 0 args)).list (cel 0 (arg 1 args)).int), .int .i64 (Sp.toE (cel 0 (arg 0 args)).list (cel 0 (arg 1 args)).int)] := rfl
    rw [eo]
    generalize (cel 0 (arg 0 args)).list = xs at *
    generalize (cel 0 (arg 1 args)).int = fr at *
    simp only [VRs, VR] at hv
    obtain ⟨_, _, rfl, ⟨_, rfl, _, v0, _, rfl, hr, rfl⟩, _, _, rfl, rfl, rfl⟩ := hv
    have ha1 : Wfs [.agg [.sl [.int .i64, .int .i64, .int .i64] xs]] := by simp only [Wfs, and_true] at ha ⊢; exact ha.1
    have hR : InR .i64 fr := by simp only [Wfs, Wf, and_true] at ha; exact ha.2
    simp only [InR] at hR
    have hvalid : ∀ W, Below V.w.heap.size V.w W → CallsIn Fence.wide (6 - 1) Go.Proofs.Try.prog 17 #[.agg #[v0]] W fun e W' => e = .returned (.bool (Sp.cval xs)) ∧ Below W.heap.size W W' :=
      fun W hW => valid_in _ ha1 (VR.below hW hr)
    have fin : ∀ {v x : Int} {W' : World}, v = Sp.toV xs fr → x = Sp.toE xs fr → VR { V with w := W' } (.tup [.int .i64 (Sp.toV xs fr), .int .i64 (Sp.toE xs fr)]) (.tuple #[.int .i64 v, .int .i64 x]) := by
      rintro v x W' rfl rfl
      simp only [VR, VRs]
      exact ⟨_, rfl, _, _, rfl, rfl, _, _, rfl, rfl, rfl⟩
    by_cases hg : Sp.cval xs = true ∧ 0 ≤ fr
    · obtain ⟨b, off, cap, rfl, hP⟩ := pcs_of (fun b h => h.1) hr hg.1
      rw [hg.1] at hvalid
      refine runs_of_calls (by kernel_rfl) ((callsIn_wide.1 (timeOf_in 6 (Nat.le_refl _) b off cap xs.length fr _ _ _ _ _ V.w hP ⟨hg.2, by omega⟩ hvalid)).mono fun e W' => ?_)
      rintro ⟨v, x, rfl, hb, hres⟩
      refine ⟨_, rfl, hb, ?_⟩
      rcases hres with ⟨rfl, rfl, hall⟩ | ⟨k, hk, rfl, rfl, hall, hle⟩
      · have hk := Sp.tofK_no hall
        refine fin ?_ ?_
        · unfold Sp.toV; rw [if_neg (by simp [hg.1]), if_neg (by omega), hk]
        · unfold Sp.toE; rw [if_neg (by simp [hg.1]), if_neg (by omega), hk]
      · have hk := Sp.tofK_of hk hle hall
        refine fin ?_ ?_
        · unfold Sp.toV; rw [if_neg (by simp [hg.1]), if_neg (by omega), hk]; rfl
        · unfold Sp.toE; rw [if_neg (by simp [hg.1]), if_neg (by omega), hk]
    · have hr' := hr
      simp only [RepC] at hr'
      obtain ⟨a, m, cap, rfl, _⟩ := hr'
      refine runs_of_calls (by kernel_rfl) ((callsIn_wide.1 (timeOf_bad 6 (Nat.le_refl _) (Sp.cval xs) a m cap fr V.w (by cases h : Sp.cval xs <;> simp [h] at hg ⊢; omega) hvalid)).mono fun e W' => ?_)
      rintro ⟨rfl, hb⟩
      refine ⟨_, rfl, hb, fin ?_ ?_⟩
      · unfold Sp.toV; cases h : Sp.cval xs <;> simp [h] at hg ⊢; omega
      · unfold Sp.toE; cases h : Sp.cval xs <;> simp [h] at hg ⊢; omega
end Go.Proofs
namespace Go.Sx
theorem s33 : SoundCt Go.Proofs.Try.prog 33 ct33 := Go.Proofs.s33
theorem s26 : SoundCt Go.Proofs.Try.prog 26 ct26 := Go.Proofs.s26
end Go.Sx

