/- The functions of chapter 6: what they compute. -/
import Derived.Test.YtojecjbhdligcaaDoorSxUse
import Derived.Test.YtojecjbhdligcaaDoorProg
import Derived.Test.YtojecjbhdligcaaDoorS06o
import Derived.KernelRfl
set_option linter.unusedVariables false
set_option linter.unusedSimpArgs false
set_option maxRecDepth 100000

namespace Go
open Go.Sx
def Sp.fi (p : List C → Bool) (xs : List (List C)) : Int := match xs.findIdx? p with | some i => (i : Int) | none => -1
def Sp.ix (xs : List (List C)) (v : Int) : Int := Sp.fi (fun x => decide (v = Sp.i0 x)) xs
def Sp.ixs (xs : List (List C)) (v : ByteArray) : Int := Sp.fi (fun x => v.toList == (Sp.s0 x).toList) xs
def Sp.fiI (p : List C → Bool) (xs : List (List C)) (z : Int) : Prop := 0 ≤ z ∧ z ≤ (xs.length : Int) ∧ ∀ j : Int, 0 ≤ j → j < z → p (rGet xs j) = false
def Sp.ixI (xs : List (List C)) (v z : Int) : Prop := Sp.fiI (fun x => decide (v = Sp.i0 x)) xs z
def Sp.ixsI (xs : List (List C)) (v : ByteArray) (z : Int) : Prop := Sp.fiI (fun x => v.toList == (Sp.s0 x).toList) xs z
def Sp.sm (a b : List (List C)) : Bool := decide (a.map Sp.i0 = b.map Sp.i0)
def Sp.smI (a b : List (List C)) (z : Int) : Prop := 0 ≤ z ∧ z ≤ (a.length : Int) ∧ a.length = b.length ∧ ∀ j : Int, 0 ≤ j → j < z → Sp.i0 (rGet a j) = Sp.i0 (rGet b j)
def Sp.com (a b : List (List C)) : List (List C) := a.filter (fun x => decide (0 ≤ Sp.ix b (Sp.i0 x)))
def Sp.ok1 (m : List (List C)) (i : Nat) : Bool := decide (1 ≤ Sp.i0 (m.getD i []) ∧ Sp.i0 (m.getD i []) ≤ 8 ∧ Sp.ix m (Sp.i0 (m.getD i [])) = (i : Int))
def Sp.vld (m : List (List C)) : Bool := decide (1 ≤ m.length ∧ m.length ≤ 8) && (List.range m.length).all (Sp.ok1 m)
def Sp.vI (m : List (List C)) (z : Int) : Prop := 0 ≤ z ∧ z ≤ (m.length : Int) ∧ ∀ j : Nat, (j : Int) < z → Sp.ok1 m j = true
end Go

namespace Go
open Go.Sx
theorem Sp.fiI_init (p : List C → Bool) (xs : List (List C)) : Sp.fiI p xs 0 := ⟨by omega, by omega, fun j h0 h1 => by omega⟩
theorem Sp.fiI_next {p : List C → Bool} {xs : List (List C)} {z : Int} (h : Sp.fiI p xs z) (hz : z < (xs.length : Int)) (hp : p (rGet xs z) = false) : Sp.fiI p xs (z + 1) := by
  obtain ⟨h0, h1, h2⟩ := h
  refine ⟨by omega, by omega, fun j a b => ?_⟩
  by_cases e : j = z
  · rw [e]; exact hp
  · exact h2 j a (by omega)
theorem Sp.rGet_at {xs : List (List C)} {i : Nat} (h : i < xs.length) : rGet xs (i : Int) = xs[i] := by
  simp [rGet, List.getD_eq_getElem?_getD, h]
theorem Sp.fi_hit {p : List C → Bool} {xs : List (List C)} {z : Int} (h : Sp.fiI p xs z) (hz : z < (xs.length : Int)) (hp : p (rGet xs z) = true) : Sp.fi p xs = z := by
  obtain ⟨h0, h1, h2⟩ := h
  have e : xs.findIdx? p = some z.toNat := by
    rw [List.findIdx?_eq_some_iff_getElem]
    refine ⟨by omega, ?_, fun j hj => ?_⟩
    · rw [← Sp.rGet_at (by omega), show ((z.toNat : Nat) : Int) = z by omega]; exact hp
    · have := h2 (j : Int) (by omega) (by omega)
      rw [Sp.rGet_at (by omega)] at this
      simp [this]
  unfold Sp.fi
  rw [e]
  show ((z.toNat : Nat) : Int) = z
  omega
theorem Sp.fi_miss {p : List C → Bool} {xs : List (List C)} {z : Int} (h : Sp.fiI p xs z) (hz : ¬ z < (xs.length : Int)) : Sp.fi p xs = -1 := by
  obtain ⟨h0, h1, h2⟩ := h
  have e : xs.findIdx? p = none := by
    rw [List.findIdx?_eq_none_iff]
    intro x hx
    obtain ⟨i, hi, rfl⟩ := List.mem_iff_getElem.1 hx
    have := h2 (i : Int) (by omega) (by omega)
    rw [Sp.rGet_at hi] at this; exact this
  unfold Sp.fi
  rw [e]
theorem Sp.smI_init {a b : List (List C)} (h : a.length = b.length) : Sp.smI a b 0 := ⟨by omega, by omega, h, fun j h0 h1 => by omega⟩
theorem Sp.smI_next {a b : List (List C)} {z : Int} (h : Sp.smI a b z) (hz : z < (a.length : Int)) (hp : Sp.i0 (rGet a z) = Sp.i0 (rGet b z)) : Sp.smI a b (z + 1) := by
  obtain ⟨h0, h1, h2, h3⟩ := h
  refine ⟨by omega, by omega, h2, fun j x y => ?_⟩
  by_cases e : j = z
  · rw [e]; exact hp
  · exact h3 j x (by omega)
theorem Sp.sm_ne {a b : List (List C)} (h : a.length ≠ b.length) : Sp.sm a b = false := by
  unfold Sp.sm
  refine decide_eq_false fun e => h ?_
  have := congrArg List.length e
  simpa using this
theorem Sp.sm_diff {a b : List (List C)} {z : Int} (h : Sp.smI a b z) (hz : z < (a.length : Int)) (hp : ¬ Sp.i0 (rGet a z) = Sp.i0 (rGet b z)) : Sp.sm a b = false := by
  obtain ⟨h0, h1, h2, h3⟩ := h
  unfold Sp.sm
  refine decide_eq_false fun e => hp ?_
  have e1 := congrArg (fun l => l[z.toNat]?) e
  simp only [List.getElem?_map] at e1
  rw [List.getElem?_eq_getElem (show z.toNat < a.length by omega), List.getElem?_eq_getElem (show z.toNat < b.length by omega)] at e1
  simp only [Option.map_some, Option.some.injEq] at e1
  rw [show z = ((z.toNat : Nat) : Int) by omega, Sp.rGet_at (by omega), Sp.rGet_at (by omega)]
  exact e1
theorem Sp.sm_end {a b : List (List C)} {z : Int} (h : Sp.smI a b z) (hz : ¬ z < (a.length : Int)) : Sp.sm a b = true := by
  obtain ⟨h0, h1, h2, h3⟩ := h
  unfold Sp.sm
  refine decide_eq_true (List.ext_getElem (by simpa using h2) fun i hi hj => ?_)
  simp only [List.length_map] at hi hj
  have := h3 (i : Int) (by omega) (by omega)
  rw [Sp.rGet_at hi, Sp.rGet_at hj] at this
  simpa using this
theorem Sp.fi_ge {p : List C → Bool} {xs : List (List C)} : 0 ≤ Sp.fi p xs ↔ ∃ i, ∃ h : i < xs.length, p xs[i] = true := by
  unfold Sp.fi
  cases e : xs.findIdx? p with
  | none =>
    rw [List.findIdx?_eq_none_iff] at e
    constructor
    · intro h; simp at h
    · rintro ⟨i, h, hp⟩
      rw [e _ (List.getElem_mem h)] at hp; cases hp
  | some k =>
    rw [List.findIdx?_eq_some_iff_getElem] at e
    obtain ⟨hk, hp, _⟩ := e
    exact ⟨fun _ => ⟨k, hk, hp⟩, fun _ => by simp⟩
theorem Sp.fi_le {p : List C → Bool} {xs : List (List C)} {i : Nat} (h : i < xs.length) (hp : p xs[i] = true) : 0 ≤ Sp.fi p xs ∧ Sp.fi p xs ≤ (i : Int) := by
  unfold Sp.fi
  cases e : xs.findIdx? p with
  | none =>
    rw [List.findIdx?_eq_none_iff] at e
    rw [e _ (List.getElem_mem h)] at hp; cases hp
  | some k =>
    rw [List.findIdx?_eq_some_iff_getElem] at e
    obtain ⟨hk, hq, hlt⟩ := e
    refine ⟨by simp, ?_⟩
    by_cases hik : i < k
    · exact absurd hp (hlt i hik)
    · simp only []; omega
theorem Sp.fi_at {p : List C → Bool} {xs : List (List C)} {z : Int} (h : Sp.fi p xs = z) (h0 : 0 ≤ z) : ∃ h : z.toNat < xs.length, p xs[z.toNat] = true ∧ ∀ j (hj : j < z.toNat), p (xs[j]'(by omega)) = false := by
  unfold Sp.fi at h
  cases e : xs.findIdx? p with
  | none => rw [e] at h; simp only [] at h; omega
  | some k =>
    rw [e] at h
    simp only [] at h
    rw [List.findIdx?_eq_some_iff_getElem] at e
    obtain ⟨hk, hq, hlt⟩ := e
    obtain rfl : k = z.toNat := by omega
    exact ⟨hk, hq, fun j hj => by simpa using hlt j hj⟩
/-- A place's position comes earlier already, or here first. -/
theorem Sp.ix_here {m : List (List C)} {i : Nat} (h : i < m.length) : (Sp.ix m (Sp.i0 m[i]) = (i : Int)) ↔ ¬ 0 ≤ Sp.ix (m.take i) (Sp.i0 m[i]) := by
  constructor
  · intro he hc
    obtain ⟨j, hj, hp⟩ := Sp.fi_ge.1 hc
    simp only [List.length_take] at hj
    obtain ⟨_, _, hb⟩ := Sp.fi_at he (by omega)
    have h1 := hb j (by omega)
    rw [List.getElem_take] at hp
    rw [h1] at hp; cases hp
  · intro hc
    have h1 := Sp.fi_le (p := fun x => decide (Sp.i0 m[i] = Sp.i0 x)) h (by simp)
    by_cases he : Sp.ix m (Sp.i0 m[i]) = (i : Int)
    · exact he
    · exfalso
      have h1 : 0 ≤ Sp.ix m (Sp.i0 m[i]) ∧ Sp.ix m (Sp.i0 m[i]) ≤ (i : Int) := h1
      obtain ⟨hk, hp, _⟩ := Sp.fi_at (z := Sp.ix m (Sp.i0 m[i])) rfl h1.1
      refine hc (Sp.fi_ge.2 ⟨(Sp.ix m (Sp.i0 m[i])).toNat, (by rw [List.length_take]; omega), ?_⟩)
      rw [List.getElem_take]; exact hp
theorem Sp.vI_init (m : List (List C)) : Sp.vI m 0 := ⟨by omega, by omega, fun j h => by omega⟩
theorem Sp.ok1_at {m : List (List C)} {z : Int} (h0 : 0 ≤ z) (hz : z < (m.length : Int)) : Sp.ok1 m z.toNat = decide (1 ≤ Sp.i0 (rGet m z) ∧ Sp.i0 (rGet m z) ≤ 8 ∧ Sp.ix m (Sp.i0 (rGet m z)) = z) := by
  unfold Sp.ok1
  rw [show ((z.toNat : Nat) : Int) = z by omega]
theorem Sp.vI_next {m : List (List C)} {z : Int} (h : Sp.vI m z) (hz : z < (m.length : Int)) (h1 : 1 ≤ Sp.i0 (rGet m z)) (h8 : Sp.i0 (rGet m z) ≤ 8) (hx : Sp.ix m (Sp.i0 (rGet m z)) = z) : Sp.vI m (z + 1) := by
  obtain ⟨a, b, c⟩ := h
  refine ⟨by omega, by omega, fun j hj => ?_⟩
  by_cases e : (j : Int) = z
  · have := Sp.ok1_at a hz
    rw [decide_eq_true ⟨h1, h8, hx⟩] at this
    rw [show j = z.toNat by omega]; exact this
  · exact c j (by omega)
theorem Sp.vld_bad {m : List (List C)} {z : Int} (h0 : 0 ≤ z) (hz : z < (m.length : Int)) (h : ¬ (1 ≤ Sp.i0 (rGet m z) ∧ Sp.i0 (rGet m z) ≤ 8 ∧ Sp.ix m (Sp.i0 (rGet m z)) = z)) : Sp.vld m = false := by
  unfold Sp.vld
  rw [Bool.and_eq_false_iff]; right
  rw [List.all_eq_false]
  exact ⟨z.toNat, List.mem_range.2 (by omega), by rw [Sp.ok1_at h0 hz, decide_eq_false h]; simp⟩
theorem Sp.vld_len {m : List (List C)} (h : ¬ (1 ≤ m.length ∧ m.length ≤ 8)) : Sp.vld m = false := by
  unfold Sp.vld
  rw [decide_eq_false h]; rfl
theorem Sp.vld_end {m : List (List C)} {z : Int} (h : Sp.vI m z) (hz : ¬ z < (m.length : Int)) : Sp.vld m = decide (1 ≤ m.length ∧ m.length ≤ 8) := by
  obtain ⟨a, b, c⟩ := h
  unfold Sp.vld
  have : (List.range m.length).all (Sp.ok1 m) = true := by
    rw [List.all_eq_true]
    intro i hi
    exact c i (by have := List.mem_range.1 hi; omega)
  rw [this, Bool.and_true]
theorem Sp.ix_here' {m : List (List C)} {z : Int} (h0 : 0 ≤ z) (h : z < (m.length : Int)) : (Sp.ix m (Sp.i0 (rGet m z)) = z) ↔ ¬ 0 ≤ Sp.ix (cutRows m none (some z)) (Sp.i0 (rGet m z)) := by
  have := Sp.ix_here (m := m) (i := z.toNat) (by omega)
  obtain ⟨n, rfl⟩ : ∃ n : Nat, z = n := ⟨z.toNat, by omega⟩
  rw [Sp.rGet_at (by omega)]
  exact this
end Go

namespace Go.Sx
/-! ### function 27: slices.Index[[]int,int] -/
def ct27 : Ct := { ps := [(false, [.sl [.int .i64]]), (false, [.int .i64])], rs := [(false, [.int .i64])], pre := fun _ => True, out := fun a => [[.i (Sp.ix (cel 0 (arg 0 a)).list (cel 0 (arg 1 a)).int)]] }
def tb27 : List (Nat × Ct) := []
def A27 (xs : List (List C)) (v : Int) : FuncId → Nat → LoopAnn := fun _ ii => bif Nat.beq ii 2 then .inv Int (fun z => Sp.ixI xs v z) (fun z => [(8, .int .i64 z)]) (fun _ => []) [] [0, 1, 4, 5, 7, 8, 9, 16] (fun z => xs.length - z.toNat) else .unroll 0
abbrev B27 (xs : List (List C)) (v : Int) : Prop := vcF Go.Proofs.Tryd.prog (look tb27) (fun _ => false) (A27 xs v) 6 27 [.sl [.int .i64] xs, .int .i64 v] [] (fun sv heap => Gives [(false, [.int .i64])] [[.i (Sp.ix xs v)]] sv heap)
theorem e27 (xs : List (List C)) (v : Int) : B27 xs v = (pLe (iLen xs) 9223372036854775807 → (∃ (x : Int), Sp.ixI xs v x ∧ true = true ∧ ((IntKind.i64 = IntKind.i64 ∧ 0 = x) ∧ True) ∧ True) ∧ (∀ (x : Int), true = true ∧ true = true) ∧ ∀ (x : Int), Sp.ixI xs v x → InR .i64 x ∧ True → True → (bLt x (iLen xs) = true → pIn 0 (iLen xs) x ∧ (InR .i64 ((rGet xs x).headD default).int → (bEq v ((rGet xs x).headD default).int = true → (x = Sp.ix xs v ∧ True) ∧ True) ∧ (bEq v ((rGet xs x).headD default).int = false → InR .i64 (iAdd x 1) ∧ (true = true ∧ [SV.sl [.int .i64] xs, SV.int .i64 v, SV.int .i64 (iLen xs)] = [SV.sl [.int .i64] xs, SV.int .i64 v, SV.int .i64 (iLen xs)]) ∧ ([] : List HB) = [] ∧ ∃ (y : Int), Sp.ixI xs v y ∧ true = true ∧ ((IntKind.i64 = IntKind.i64 ∧ iAdd x 1 = y) ∧ True) ∧ True ∧ xs.length - y.toNat < xs.length - x.toNat))) ∧ (bLt x (iLen xs) = false → (-1 = Sp.ix xs v ∧ True) ∧ True)) := by kernel_rfl
theorem v27 (xs : List (List C)) (v : Int) : Holds (Wfs [.sl [.int .i64] xs, .int .i64 v] → True → B27 xs v) := by
  refine ⟨fun hw hp => ?_⟩
  rw [e27]
  simp only [Wfs, Wf, InR, and_true] at hw
  have hm : maxLen = 9223372036854775807 := rfl
  simp only [hm] at hw
  simp only [iAdd, iSub, iMul, iLen, iSize, bLt, bLe, bEq, bNe, bNot, bSame, bDiff, sSame, sDiff, InR, pLe, pIn, pRoom, eq_self, true_and, and_true, true_implies, implies_true, decide_eq_true_eq, decide_eq_false_iff_not, Bool.not_eq_true', Bool.not_eq_false']
  intro _
  refine ⟨⟨0, Sp.fiI_init _ _, rfl⟩, fun x hx _ => ⟨fun hlt => ⟨⟨hx.1, hlt⟩, fun _ => ⟨fun h => ?_, fun h => ⟨by have := hx.1; omega, x + 1, ?_, rfl, by have := hx.1; omega⟩⟩⟩, fun hge => ?_⟩⟩
  · exact (Sp.fi_hit hx hlt (by first | exact h | exact decide_eq_true h | exact decide_eq_true h.symm | exact decide_eq_false h | exact decide_eq_false (fun e => h e.symm))).symm
  · exact Sp.fiI_next hx hlt (by first | exact h | exact decide_eq_true h | exact decide_eq_true h.symm | exact decide_eq_false h | exact decide_eq_false (fun e => h e.symm))
  · exact (Sp.fi_miss hx hge).symm
theorem s27 : SoundCt Go.Proofs.Tryd.prog 27 ct27 :=
  contractH followsMixed (look_sound (show Tb Go.Proofs.Tryd.prog tb27 from trivial)) (fun _ => false) (fun a => A27 ((cel 0 (arg 0 a)).list) ((cel 0 (arg 1 a)).int)) 6 27 ct27 rfl (by simp [ct27]) fun a => Eq.mp (by kernel_rfl) (v27 ((cel 0 (arg 0 a)).list) ((cel 0 (arg 1 a)).int))
end Go.Sx

namespace Go.Sx
/-! ### function 23: slices.Index[[]string,string] -/
def ct23 : Ct := { ps := [(false, [.sl [.str]]), (false, [.str])], rs := [(false, [.int .i64])], pre := fun _ => True, out := fun a => [[.i (Sp.ixs (cel 0 (arg 0 a)).list (cel 0 (arg 1 a)).str)]] }
def tb23 : List (Nat × Ct) := []
def A23 (xs : List (List C)) (v : ByteArray) : FuncId → Nat → LoopAnn := fun _ ii => bif Nat.beq ii 2 then .inv Int (fun z => Sp.ixsI xs v z) (fun z => [(8, .int .i64 z)]) (fun _ => []) [] [0, 1, 4, 5, 7, 8, 9, 16] (fun z => xs.length - z.toNat) else .unroll 0
abbrev B23 (xs : List (List C)) (v : ByteArray) : Prop := vcF Go.Proofs.Tryd.prog (look tb23) (fun _ => false) (A23 xs v) 6 23 [.sl [.str] xs, .str v] [] (fun sv heap => Gives [(false, [.int .i64])] [[.i (Sp.ixs xs v)]] sv heap)
theorem e23 (xs : List (List C)) (v : ByteArray) : B23 xs v = (pLe (iLen xs) 9223372036854775807 → (∃ (x : Int), Sp.ixsI xs v x ∧ true = true ∧ ((IntKind.i64 = IntKind.i64 ∧ 0 = x) ∧ True) ∧ True) ∧ (∀ (x : Int), true = true ∧ true = true) ∧ ∀ (x : Int), Sp.ixsI xs v x → InR .i64 x ∧ True → True → (bLt x (iLen xs) = true → pIn 0 (iLen xs) x ∧ ((List.brecOn.go ((rGet xs x).headD default).str.1.toList List.length._f).1.le 9223372036854775807 → (sSame v ((rGet xs x).headD default).str = true → (x = Sp.ixs xs v ∧ True) ∧ True) ∧ (sSame v ((rGet xs x).headD default).str = false → InR .i64 (iAdd x 1) ∧ (true = true ∧ [SV.sl [.str] xs, SV.str v, SV.int .i64 (iLen xs)] = [SV.sl [.str] xs, SV.str v, SV.int .i64 (iLen xs)]) ∧ ([] : List HB) = [] ∧ ∃ (y : Int), Sp.ixsI xs v y ∧ true = true ∧ ((IntKind.i64 = IntKind.i64 ∧ iAdd x 1 = y) ∧ True) ∧ True ∧ xs.length - y.toNat < xs.length - x.toNat))) ∧ (bLt x (iLen xs) = false → (-1 = Sp.ixs xs v ∧ True) ∧ True)) := by kernel_rfl
theorem v23 (xs : List (List C)) (v : ByteArray) : Holds (Wfs [.sl [.str] xs, .str v] → True → B23 xs v) := by
  refine ⟨fun hw hp => ?_⟩
  rw [e23]
  simp only [Wfs, Wf, InR, and_true] at hw
  have hm : maxLen = 9223372036854775807 := rfl
  simp only [hm] at hw
  simp only [iAdd, iSub, iMul, iLen, iSize, bLt, bLe, bEq, bNe, bNot, bSame, bDiff, sSame, sDiff, InR, pLe, pIn, pRoom, eq_self, true_and, and_true, true_implies, implies_true, decide_eq_true_eq, decide_eq_false_iff_not, Bool.not_eq_true', Bool.not_eq_false']
  intro _
  refine ⟨⟨0, Sp.fiI_init _ _, rfl⟩, fun x hx _ => ⟨fun hlt => ⟨⟨hx.1, hlt⟩, fun _ => ⟨fun h => ?_, fun h => ⟨by have := hx.1; omega, x + 1, ?_, rfl, by have := hx.1; omega⟩⟩⟩, fun hge => ?_⟩⟩
  · exact (Sp.fi_hit hx hlt (by first | exact h | exact decide_eq_true h | exact decide_eq_true h.symm | exact decide_eq_false h | exact decide_eq_false (fun e => h e.symm))).symm
  · exact Sp.fiI_next hx hlt (by first | exact h | exact decide_eq_true h | exact decide_eq_true h.symm | exact decide_eq_false h | exact decide_eq_false (fun e => h e.symm))
  · exact (Sp.fi_miss hx hge).symm
theorem s23 : SoundCt Go.Proofs.Tryd.prog 23 ct23 :=
  contractH followsMixed (look_sound (show Tb Go.Proofs.Tryd.prog tb23 from trivial)) (fun _ => false) (fun a => A23 ((cel 0 (arg 0 a)).list) ((cel 0 (arg 1 a)).str)) 6 23 ct23 rfl (by simp [ct23]) fun a => Eq.mp (by kernel_rfl) (v23 ((cel 0 (arg 0 a)).list) ((cel 0 (arg 1 a)).str))
end Go.Sx

namespace Go.Sx
/-! ### function 17: ref06.Index -/
def ct17 : Ct := { ps := [(false, [.sl [.int .i64]]), (false, [.int .i64])], rs := [(false, [.int .i64])], pre := fun _ => True, out := fun a => [[.i (Sp.ix (cel 0 (arg 0 a)).list (cel 0 (arg 1 a)).int)]] }
def tb17 : List (Nat × Ct) := []
def A17 (xs : List (List C)) (v : Int) : FuncId → Nat → LoopAnn := fun _ ii => bif Nat.beq ii 2 then .inv Int (fun z => Sp.ixI xs v z) (fun z => [(9, .int .i64 z)]) (fun _ => []) [] [0, 1, 4, 5, 6, 7, 8, 9, 10, 16] (fun z => xs.length - z.toNat) else .unroll 0
abbrev B17 (xs : List (List C)) (v : Int) : Prop := vcF Go.Proofs.Tryd.prog (look tb17) (fun _ => false) (A17 xs v) 6 17 [.sl [.int .i64] xs, .int .i64 v] [] (fun sv heap => Gives [(false, [.int .i64])] [[.i (Sp.ix xs v)]] sv heap)
theorem e17 (xs : List (List C)) (v : Int) : B17 xs v = (pLe (iLen xs) 9223372036854775807 → (∃ (x : Int), Sp.ixI xs v x ∧ true = true ∧ ((IntKind.i64 = IntKind.i64 ∧ 0 = x) ∧ True) ∧ True) ∧ (∀ (x : Int), true = true ∧ true = true) ∧ ∀ (x : Int), Sp.ixI xs v x → InR .i64 x ∧ True → True → (bLt x (iLen xs) = true → pIn 0 (iLen xs) x ∧ (InR .i64 ((rGet xs x).headD default).int → (bEq ((rGet xs x).headD default).int v = true → (x = Sp.ix xs v ∧ True) ∧ True) ∧ (bEq ((rGet xs x).headD default).int v = false → InR .i64 (iAdd x 1) ∧ (true = true ∧ (fun z => z = z) [SV.sl [.int .i64] xs, SV.int .i64 v, SV.sl [.int .i64] xs, SV.int .i64 (iLen xs)]) ∧ ([] : List HB) = [] ∧ ∃ (y : Int), Sp.ixI xs v y ∧ true = true ∧ ((IntKind.i64 = IntKind.i64 ∧ iAdd x 1 = y) ∧ True) ∧ True ∧ xs.length - y.toNat < xs.length - x.toNat))) ∧ (bLt x (iLen xs) = false → (-1 = Sp.ix xs v ∧ True) ∧ True)) := by kernel_rfl
theorem v17 (xs : List (List C)) (v : Int) : Holds (Wfs [.sl [.int .i64] xs, .int .i64 v] → True → B17 xs v) := by
  refine ⟨fun hw hp => ?_⟩
  rw [e17]
  simp only [Wfs, Wf, InR, and_true] at hw
  have hm : maxLen = 9223372036854775807 := rfl
  simp only [hm] at hw
  simp only [iAdd, iSub, iMul, iLen, iSize, bLt, bLe, bEq, bNe, bNot, bSame, bDiff, sSame, sDiff, InR, pLe, pIn, pRoom, eq_self, true_and, and_true, true_implies, implies_true, decide_eq_true_eq, decide_eq_false_iff_not, Bool.not_eq_true', Bool.not_eq_false']
  intro _
  refine ⟨⟨0, Sp.fiI_init _ _, rfl⟩, fun x hx _ => ⟨fun hlt => ⟨⟨hx.1, hlt⟩, fun _ => ⟨fun h => ?_, fun h => ⟨by have := hx.1; omega, x + 1, ?_, rfl, by have := hx.1; omega⟩⟩⟩, fun hge => ?_⟩⟩
  · exact (Sp.fi_hit hx hlt (by first | exact h | exact decide_eq_true h | exact decide_eq_true h.symm | exact decide_eq_false h | exact decide_eq_false (fun e => h e.symm))).symm
  · exact Sp.fiI_next hx hlt (by first | exact h | exact decide_eq_true h | exact decide_eq_true h.symm | exact decide_eq_false h | exact decide_eq_false (fun e => h e.symm))
  · exact (Sp.fi_miss hx hge).symm
theorem s17 : SoundCt Go.Proofs.Tryd.prog 17 ct17 :=
  contractH followsMixed (look_sound (show Tb Go.Proofs.Tryd.prog tb17 from trivial)) (fun _ => false) (fun a => A17 ((cel 0 (arg 0 a)).list) ((cel 0 (arg 1 a)).int)) 6 17 ct17 rfl (by simp [ct17]) fun a => Eq.mp (by kernel_rfl) (v17 ((cel 0 (arg 0 a)).list) ((cel 0 (arg 1 a)).int))
end Go.Sx

namespace Go.Sx
/-! ### function 25: slices.Contains[[]int,int] -/
def ct25 : Ct := { ps := [(false, [.sl [.int .i64]]), (false, [.int .i64])], rs := [(false, [.bool])], pre := fun _ => True, out := fun a => [[.b (decide (0 ≤ Sp.ix (cel 0 (arg 0 a)).list (cel 0 (arg 1 a)).int))]] }
def tb25 : List (Nat × Ct) := [(27, ct27)]
def A25  : FuncId → Nat → LoopAnn := fun _ _ => LoopAnn.unroll 200
abbrev B25 (xs : List (List C)) (v : Int) : Prop := vcF Go.Proofs.Tryd.prog (look tb25) (fun _ => false) (A25) 6 25 [.sl [.int .i64] xs, .int .i64 v] [] (fun sv heap => Gives [(false, [.bool])] [[.b (decide (0 ≤ Sp.ix xs v))]] sv heap)
theorem e25 (xs : List (List C)) (v : Int) : B25 xs v = (True ∧ (InR .i64 (Sp.ix xs v) → (bLe 0 (Sp.ix xs v) = decide (0 ≤ Sp.ix xs v) ∧ True) ∧ True)) := by kernel_rfl
theorem v25 (xs : List (List C)) (v : Int) : Holds (Wfs [.sl [.int .i64] xs, .int .i64 v] → True → B25 xs v) := by
  refine ⟨fun hw hp => ?_⟩
  rw [e25]
  simp only [Wfs, Wf, InR, and_true] at hw
  have hm : maxLen = 9223372036854775807 := rfl
  simp only [hm] at hw
  simp only [iAdd, iSub, iMul, iLen, iSize, bLt, bLe, bEq, bNe, bNot, bSame, bDiff, sSame, sDiff, InR, pLe, pIn, pRoom, eq_self, true_and, and_true, true_implies, implies_true, decide_eq_true_eq, decide_eq_false_iff_not, Bool.not_eq_true', Bool.not_eq_false']
theorem s25 : SoundCt Go.Proofs.Tryd.prog 25 ct25 :=
  contractH followsMixed (look_sound (show Tb Go.Proofs.Tryd.prog tb25 from ⟨s27, trivial⟩)) (fun _ => false) (fun _ => A25) 6 25 ct25 rfl (by simp [ct25]) fun a => Eq.mp (by kernel_rfl) (v25 ((cel 0 (arg 0 a)).list) ((cel 0 (arg 1 a)).int))
end Go.Sx

namespace Go.Sx
/-! ### function 16: channels.Index -/
def ct16 : Ct := { ps := [(false, [.sl [.int .i64]]), (false, [.int .i64])], rs := [(false, [.int .i64])], pre := fun _ => True, out := fun a => [[.i (Sp.ix (cel 0 (arg 0 a)).list (cel 0 (arg 1 a)).int)]] }
def tb16 : List (Nat × Ct) := [(27, ct27)]
def A16  : FuncId → Nat → LoopAnn := fun _ _ => LoopAnn.unroll 200
abbrev B16 (xs : List (List C)) (v : Int) : Prop := vcF Go.Proofs.Tryd.prog (look tb16) (fun _ => false) (A16) 6 16 [.sl [.int .i64] xs, .int .i64 v] [] (fun sv heap => Gives [(false, [.int .i64])] [[.i (Sp.ix xs v)]] sv heap)
theorem e16 (xs : List (List C)) (v : Int) : B16 xs v = (True ∧ (InR .i64 (Sp.ix xs v) → (Sp.ix xs v = Sp.ix xs v ∧ True) ∧ True)) := by kernel_rfl
theorem v16 (xs : List (List C)) (v : Int) : Holds (Wfs [.sl [.int .i64] xs, .int .i64 v] → True → B16 xs v) := by
  refine ⟨fun hw hp => ?_⟩
  rw [e16]
  simp only [Wfs, Wf, InR, and_true] at hw
  have hm : maxLen = 9223372036854775807 := rfl
  simp only [hm] at hw
  simp only [iAdd, iSub, iMul, iLen, iSize, bLt, bLe, bEq, bNe, bNot, bSame, bDiff, sSame, sDiff, InR, pLe, pIn, pRoom, eq_self, true_and, and_true, true_implies, implies_true, decide_eq_true_eq, decide_eq_false_iff_not, Bool.not_eq_true', Bool.not_eq_false']
theorem s16 : SoundCt Go.Proofs.Tryd.prog 16 ct16 :=
  contractH followsMixed (look_sound (show Tb Go.Proofs.Tryd.prog tb16 from ⟨s27, trivial⟩)) (fun _ => false) (fun _ => A16) 6 16 ct16 rfl (by simp [ct16]) fun a => Eq.mp (by kernel_rfl) (v16 ((cel 0 (arg 0 a)).list) ((cel 0 (arg 1 a)).int))
end Go.Sx

namespace Go.Sx
/-! ### function 26: slices.Equal[[]int,int] -/
def ct26 : Ct := { ps := [(false, [.sl [.int .i64]]), (false, [.sl [.int .i64]])], rs := [(false, [.bool])], pre := fun _ => True, out := fun a => [[.b (Sp.sm (cel 0 (arg 0 a)).list (cel 0 (arg 1 a)).list)]] }
def tb26 : List (Nat × Ct) := []
def A26 (a : List (List C)) (b : List (List C)) : FuncId → Nat → LoopAnn := fun _ ii => bif Nat.beq ii 4 then .inv Int (fun z => Sp.smI a b z) (fun z => [(13, .int .i64 z)]) (fun _ => []) [] [0, 1, 4, 5, 10, 12, 13, 14, 24] (fun z => a.length - z.toNat) else .unroll 0
abbrev B26 (a : List (List C)) (b : List (List C)) : Prop := vcF Go.Proofs.Tryd.prog (look tb26) (fun _ => false) (A26 a b) 6 26 [.sl [.int .i64] a, .sl [.int .i64] b] [] (fun sv heap => Gives [(false, [.bool])] [[.b (Sp.sm a b)]] sv heap)
theorem e26 (a : List (List C)) (b : List (List C)) : B26 a b = (pLe (iLen a) 9223372036854775807 → pLe (iLen b) 9223372036854775807 → (bNe (iLen a) (iLen b) = true → (false = Sp.sm a b ∧ True) ∧ True) ∧ (bNe (iLen a) (iLen b) = false → pLe (iLen a) 9223372036854775807 → (∃ (x : Int), Sp.smI a b x ∧ true = true ∧ ((IntKind.i64 = IntKind.i64 ∧ 0 = x) ∧ True) ∧ True) ∧ (∀ (x : Int), true = true ∧ true = true) ∧ ∀ (x : Int), Sp.smI a b x → InR .i64 x ∧ True → True → (bLt x (iLen a) = true → pIn 0 (iLen a) x ∧ (InR .i64 ((rGet a x).headD default).int → pIn 0 (iLen b) x ∧ (InR .i64 ((rGet b x).headD default).int → (bNe ((rGet a x).headD default).int ((rGet b x).headD default).int = true → (false = Sp.sm a b ∧ True) ∧ True) ∧ (bNe ((rGet a x).headD default).int ((rGet b x).headD default).int = false → InR .i64 (iAdd x 1) ∧ (true = true ∧ (fun z => z = z) [SV.sl [.int .i64] a, SV.sl [.int .i64] b, SV.blit false, SV.int .i64 (iLen a)]) ∧ ([] : List HB) = [] ∧ ∃ (y : Int), Sp.smI a b y ∧ true = true ∧ ((IntKind.i64 = IntKind.i64 ∧ iAdd x 1 = y) ∧ True) ∧ True ∧ a.length - y.toNat < a.length - x.toNat)))) ∧ (bLt x (iLen a) = false → (true = Sp.sm a b ∧ True) ∧ True))) := by kernel_rfl
theorem v26 (a : List (List C)) (b : List (List C)) : Holds (Wfs [.sl [.int .i64] a, .sl [.int .i64] b] → True → B26 a b) := by
  refine ⟨fun hw hp => ?_⟩
  rw [e26]
  simp only [Wfs, Wf, InR, and_true] at hw
  have hm : maxLen = 9223372036854775807 := rfl
  simp only [hm] at hw
  simp only [iAdd, iSub, iMul, iLen, iSize, bLt, bLe, bEq, bNe, bNot, bSame, bDiff, sSame, sDiff, InR, pLe, pIn, pRoom, eq_self, true_and, and_true, true_implies, implies_true, decide_eq_true_eq, decide_eq_false_iff_not, Bool.not_eq_true', Bool.not_eq_false']
  intro _ _
  refine ⟨fun h => (Sp.sm_ne (by omega)).symm, fun he _ => ⟨⟨0, Sp.smI_init (by omega), rfl⟩, fun x hx _ => ⟨fun hlt => ⟨⟨hx.1, hlt⟩, fun _ => ⟨by have := hx.1; omega, fun _ => ⟨fun h => (Sp.sm_diff hx hlt h).symm, fun h => ⟨by have := hx.1; omega, x + 1, Sp.smI_next hx hlt h, rfl, by have := hx.1; omega⟩⟩⟩⟩, fun hge => (Sp.sm_end hx hge).symm⟩⟩⟩
theorem s26 : SoundCt Go.Proofs.Tryd.prog 26 ct26 :=
  contractH followsMixed (look_sound (show Tb Go.Proofs.Tryd.prog tb26 from trivial)) (fun _ => false) (fun a => A26 ((cel 0 (arg 0 a)).list) ((cel 0 (arg 1 a)).list)) 6 26 ct26 rfl (by simp [ct26]) fun a => Eq.mp (by kernel_rfl) (v26 ((cel 0 (arg 0 a)).list) ((cel 0 (arg 1 a)).list))
end Go.Sx

namespace Go.Sx
/-! ### function 10: ref06.Same -/
def ct10 : Ct := { ps := [(false, [.sl [.int .i64]]), (false, [.sl [.int .i64]])], rs := [(false, [.bool])], pre := fun _ => True, out := fun a => [[.b (Sp.sm (cel 0 (arg 0 a)).list (cel 0 (arg 1 a)).list)]] }
def tb10 : List (Nat × Ct) := []
def A10 (a : List (List C)) (b : List (List C)) : FuncId → Nat → LoopAnn := fun _ ii => bif Nat.beq ii 4 then .inv Int (fun z => Sp.smI a b z) (fun z => [(13, .int .i64 z)]) (fun _ => []) [] [0, 1, 4, 5, 10, 12, 13, 14, 24] (fun z => a.length - z.toNat) else .unroll 0
abbrev B10 (a : List (List C)) (b : List (List C)) : Prop := vcF Go.Proofs.Tryd.prog (look tb10) (fun _ => false) (A10 a b) 6 10 [.sl [.int .i64] a, .sl [.int .i64] b] [] (fun sv heap => Gives [(false, [.bool])] [[.b (Sp.sm a b)]] sv heap)
theorem e10 (a : List (List C)) (b : List (List C)) : B10 a b = (pLe (iLen a) 9223372036854775807 → pLe (iLen b) 9223372036854775807 → (bNe (iLen a) (iLen b) = true → (false = Sp.sm a b ∧ True) ∧ True) ∧ (bNe (iLen a) (iLen b) = false → pLe (iLen a) 9223372036854775807 → (∃ (x : Int), Sp.smI a b x ∧ true = true ∧ ((IntKind.i64 = IntKind.i64 ∧ 0 = x) ∧ True) ∧ True) ∧ (∀ (x : Int), true = true ∧ true = true) ∧ ∀ (x : Int), Sp.smI a b x → InR .i64 x ∧ True → True → (bLt x (iLen a) = true → pIn 0 (iLen a) x ∧ (InR .i64 ((rGet a x).headD default).int → pIn 0 (iLen b) x ∧ (InR .i64 ((rGet b x).headD default).int → (bNe ((rGet a x).headD default).int ((rGet b x).headD default).int = true → (false = Sp.sm a b ∧ True) ∧ True) ∧ (bNe ((rGet a x).headD default).int ((rGet b x).headD default).int = false → InR .i64 (iAdd x 1) ∧ (true = true ∧ (fun z => z = z) [SV.sl [.int .i64] a, SV.sl [.int .i64] b, SV.blit false, SV.int .i64 (iLen a)]) ∧ ([] : List HB) = [] ∧ ∃ (y : Int), Sp.smI a b y ∧ true = true ∧ ((IntKind.i64 = IntKind.i64 ∧ iAdd x 1 = y) ∧ True) ∧ True ∧ a.length - y.toNat < a.length - x.toNat)))) ∧ (bLt x (iLen a) = false → (true = Sp.sm a b ∧ True) ∧ True))) := by kernel_rfl
theorem v10 (a : List (List C)) (b : List (List C)) : Holds (Wfs [.sl [.int .i64] a, .sl [.int .i64] b] → True → B10 a b) := by
  refine ⟨fun hw hp => ?_⟩
  rw [e10]
  simp only [Wfs, Wf, InR, and_true] at hw
  have hm : maxLen = 9223372036854775807 := rfl
  simp only [hm] at hw
  simp only [iAdd, iSub, iMul, iLen, iSize, bLt, bLe, bEq, bNe, bNot, bSame, bDiff, sSame, sDiff, InR, pLe, pIn, pRoom, eq_self, true_and, and_true, true_implies, implies_true, decide_eq_true_eq, decide_eq_false_iff_not, Bool.not_eq_true', Bool.not_eq_false']
  intro _ _
  refine ⟨fun h => (Sp.sm_ne (by omega)).symm, fun he _ => ⟨⟨0, Sp.smI_init (by omega), rfl⟩, fun x hx _ => ⟨fun hlt => ⟨⟨hx.1, hlt⟩, fun _ => ⟨by have := hx.1; omega, fun _ => ⟨fun h => (Sp.sm_diff hx hlt h).symm, fun h => ⟨by have := hx.1; omega, x + 1, Sp.smI_next hx hlt h, rfl, by have := hx.1; omega⟩⟩⟩⟩, fun hge => (Sp.sm_end hx hge).symm⟩⟩⟩
theorem s10 : SoundCt Go.Proofs.Tryd.prog 10 ct10 :=
  contractH followsMixed (look_sound (show Tb Go.Proofs.Tryd.prog tb10 from trivial)) (fun _ => false) (fun a => A10 ((cel 0 (arg 0 a)).list) ((cel 0 (arg 1 a)).list)) 6 10 ct10 rfl (by simp [ct10]) fun a => Eq.mp (by kernel_rfl) (v10 ((cel 0 (arg 0 a)).list) ((cel 0 (arg 1 a)).list))
end Go.Sx

namespace Go.Sx
/-! ### function 14: channels.Same -/
def ct14 : Ct := { ps := [(false, [.sl [.int .i64]]), (false, [.sl [.int .i64]])], rs := [(false, [.bool])], pre := fun _ => True, out := fun a => [[.b (Sp.sm (cel 0 (arg 0 a)).list (cel 0 (arg 1 a)).list)]] }
def tb14 : List (Nat × Ct) := [(26, ct26)]
def A14  : FuncId → Nat → LoopAnn := fun _ _ => LoopAnn.unroll 200
abbrev B14 (a : List (List C)) (b : List (List C)) : Prop := vcF Go.Proofs.Tryd.prog (look tb14) (fun _ => false) (A14) 6 14 [.sl [.int .i64] a, .sl [.int .i64] b] [] (fun sv heap => Gives [(false, [.bool])] [[.b (Sp.sm a b)]] sv heap)
theorem e14 (a : List (List C)) (b : List (List C)) : B14 a b = (True ∧ (True → (Sp.sm a b = Sp.sm a b ∧ True) ∧ True)) := by kernel_rfl
theorem v14 (a : List (List C)) (b : List (List C)) : Holds (Wfs [.sl [.int .i64] a, .sl [.int .i64] b] → True → B14 a b) := by
  refine ⟨fun hw hp => ?_⟩
  rw [e14]
  simp only [Wfs, Wf, InR, and_true] at hw
  have hm : maxLen = 9223372036854775807 := rfl
  simp only [hm] at hw
  simp only [iAdd, iSub, iMul, iLen, iSize, bLt, bLe, bEq, bNe, bNot, bSame, bDiff, sSame, sDiff, InR, pLe, pIn, pRoom, eq_self, true_and, and_true, true_implies, implies_true, decide_eq_true_eq, decide_eq_false_iff_not, Bool.not_eq_true', Bool.not_eq_false']
theorem s14 : SoundCt Go.Proofs.Tryd.prog 14 ct14 :=
  contractH followsMixed (look_sound (show Tb Go.Proofs.Tryd.prog tb14 from ⟨s26, trivial⟩)) (fun _ => false) (fun _ => A14) 6 14 ct14 rfl (by simp [ct14]) fun a => Eq.mp (by kernel_rfl) (v14 ((cel 0 (arg 0 a)).list) ((cel 0 (arg 1 a)).list))
end Go.Sx

