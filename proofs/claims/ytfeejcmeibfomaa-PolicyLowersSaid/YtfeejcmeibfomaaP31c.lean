/- Contracts and conditions, continued. -/
import Derived.Test.YtfeejcmeibfomaaSxUse
import Derived.Test.YtfeejcmeibfomaaP31b
import Derived.KernelRfl
set_option linter.unusedVariables false
set_option linter.unusedSimpArgs false
set_option maxRecDepth 100000
set_option maxHeartbeats 4000000

namespace Go
open Go.Sx
def Sp.i0 (x : List C) : Int := (x.headD default).int
def Sp.s0 (x : List C) : ByteArray := (x.headD default).str
def Sp.l1 (x : List C) : List (List C) := (x.tail.headD default).list
def Sp.i2 (x : List C) : Int := (x.tail.tail.headD default).int
def Sp.fi (p : List C → Bool) (xs : List (List C)) : Int := match xs.findIdx? p with | some i => (i : Int) | none => -1
def Sp.fiI (p : List C → Bool) (xs : List (List C)) (z : Int) : Prop := 0 ≤ z ∧ z ≤ (xs.length : Int) ∧ ∀ j : Int, 0 ≤ j → j < z → p (rGet xs j) = false
def Sp.eqI (v : Int) (x : List C) : Bool := decide (v = Sp.i0 x)
def Sp.eqS (v : ByteArray) (x : List C) : Bool := v.toList == (Sp.s0 x).toList
def Sp.has (xs : List (List C)) (v : Int) : Bool := decide (0 ≤ Sp.fi (Sp.eqI v) xs)
def Sp.hasS (xs : List (List C)) (v : ByteArray) : Bool := decide (0 ≤ Sp.fi (Sp.eqS v) xs)
def Sp.sm (a b : List (List C)) : Bool := decide (a.map Sp.i0 = b.map Sp.i0)
def Sp.smI (a b : List (List C)) (z : Int) : Prop := 0 ≤ z ∧ z ≤ (a.length : Int) ∧ a.length = b.length ∧ ∀ j : Int, 0 ≤ j → j < z → Sp.i0 (rGet a j) = Sp.i0 (rGet b j)
def Sp.ak (l : List (List C)) (z : Int) : Bool := decide (1 ≤ Sp.i0 (rGet l z) ∧ (0 < z → Sp.i0 (rGet l (z - 1)) < Sp.i0 (rGet l z)))
def Sp.allB (p : Int → Bool) (n : Nat) : Bool := (List.range n).all (fun i => p (i : Int))
def Sp.asc (l : List (List C)) : Bool := Sp.allB (Sp.ak l) l.length
def Sp.alI (p : Int → Bool) (n : Nat) (z : Int) : Prop := 0 ≤ z ∧ z ≤ (n : Int) ∧ ∀ j : Nat, (j : Int) < z → p (j : Int) = true
def Sp.pk (a b : List (List C)) (i : Int) : Bool := Sp.has b (Sp.i0 (rGet a i))
def Sp.prt (a b : List (List C)) : Bool := Sp.allB (Sp.pk a b) a.length
def Sp.any3 : ByteArray := ByteArray.mk (Array.mk [97, 110, 121])
def Sp.eqA (v : ByteArray) (x : List C) : Bool := Sp.eqS v x || (v.toList == Sp.any3.toList)
def Sp.inn (xs : List (List C)) (v : ByteArray) : Bool := decide (0 ≤ Sp.fi (Sp.eqA v) xs)
def Sp.cpr (r : ByteArray) (st : List (List C)) (dv : Int) : Bool := Sp.nam r && decide (1 ≤ st.length ∧ st.length ≤ 8) && Sp.asc st && Sp.has st dv
def Sp.lik (r : ByteArray) (st : List (List C)) (q : ByteArray) (tt : List (List C)) : Bool := (r.toList == q.toList) && Sp.sm st tt
def Sp.alk (r : ByteArray) (st : List (List C)) (q : ByteArray) (tt : List (List C)) : Bool := (r.toList == q.toList) && decide (st.length = tt.length) && Sp.prt st tt
end Go

namespace Go
open Go.Sx
theorem Sp.fiI_init (p : List C → Bool) (xs : List (List C)) : Sp.fiI p xs 0 := ⟨by omega, by omega, fun j h0 h1 => by omega⟩
theorem Sp.fiI_next {p : List C → Bool} {xs : List (List C)} {z : Int} (h : Sp.fiI p xs z) (hz : z < (xs.length : Int)) (hp : p (rGet xs z) = false) : Sp.fiI p xs (z + 1) := by
  obtain ⟨h0, h1, h2⟩ := h
  refine ⟨by omega, by omega, fun j a b => ?_⟩
  by_cases e : j = z
  · rw [e]; exact hp
  · exact h2 j a (by omega)
theorem Sp.rGet_at {xs : List (List C)} {i : Nat} (h : i < xs.length) : rGet xs (i : Int) = xs[i] := by
  simp [rGet, List.getD_eq_getElem?_getD, h]
theorem Sp.fi_hit {p : List C → Bool} {xs : List (List C)} {z : Int} (h : Sp.fiI p xs z) (hz : z < (xs.length : Int)) (hp : p (rGet xs z) = true) : Sp.fi p xs = z := by
  obtain ⟨h0, h1, h2⟩ := h
  have e : xs.findIdx? p = some z.toNat := by
    rw [List.findIdx?_eq_some_iff_getElem]
    refine ⟨by omega, ?_, fun j hj => ?_⟩
    · rw [← Sp.rGet_at (by omega), show ((z.toNat : Nat) : Int) = z by omega]; exact hp
    · have := h2 (j : Int) (by omega) (by omega)
      rw [Sp.rGet_at (by omega)] at this
      simp [this]
  unfold Sp.fi
  rw [e]
  show ((z.toNat : Nat) : Int) = z
  omega
theorem Sp.fi_miss {p : List C → Bool} {xs : List (List C)} {z : Int} (h : Sp.fiI p xs z) (hz : ¬ z < (xs.length : Int)) : Sp.fi p xs = -1 := by
  obtain ⟨h0, h1, h2⟩ := h
  have e : xs.findIdx? p = none := by
    rw [List.findIdx?_eq_none_iff]
    intro x hx
    obtain ⟨i, hi, rfl⟩ := List.mem_iff_getElem.1 hx
    have := h2 (i : Int) (by omega) (by omega)
    rw [Sp.rGet_at hi] at this; exact this
  unfold Sp.fi
  rw [e]
theorem Sp.smI_init {a b : List (List C)} (h : a.length = b.length) : Sp.smI a b 0 := ⟨by omega, by omega, h, fun j h0 h1 => by omega⟩
theorem Sp.smI_next {a b : List (List C)} {z : Int} (h : Sp.smI a b z) (hz : z < (a.length : Int)) (hp : Sp.i0 (rGet a z) = Sp.i0 (rGet b z)) : Sp.smI a b (z + 1) := by
  obtain ⟨h0, h1, h2, h3⟩ := h
  refine ⟨by omega, by omega, h2, fun j x y => ?_⟩
  by_cases e : j = z
  · rw [e]; exact hp
  · exact h3 j x (by omega)
theorem Sp.sm_ne {a b : List (List C)} (h : a.length ≠ b.length) : Sp.sm a b = false := by
  unfold Sp.sm
  refine decide_eq_false fun e => h ?_
  have := congrArg List.length e
  simpa using this
theorem Sp.sm_diff {a b : List (List C)} {z : Int} (h : Sp.smI a b z) (hz : z < (a.length : Int)) (hp : ¬ Sp.i0 (rGet a z) = Sp.i0 (rGet b z)) : Sp.sm a b = false := by
  obtain ⟨h0, h1, h2, h3⟩ := h
  unfold Sp.sm
  refine decide_eq_false fun e => hp ?_
  have e1 := congrArg (fun l => l[z.toNat]?) e
  simp only [List.getElem?_map] at e1
  rw [List.getElem?_eq_getElem (show z.toNat < a.length by omega), List.getElem?_eq_getElem (show z.toNat < b.length by omega)] at e1
  simp only [Option.map_some, Option.some.injEq] at e1
  rw [show z = ((z.toNat : Nat) : Int) by omega, Sp.rGet_at (by omega), Sp.rGet_at (by omega)]
  exact e1
theorem Sp.sm_end {a b : List (List C)} {z : Int} (h : Sp.smI a b z) (hz : ¬ z < (a.length : Int)) : Sp.sm a b = true := by
  obtain ⟨h0, h1, h2, h3⟩ := h
  unfold Sp.sm
  refine decide_eq_true (List.ext_getElem (by simpa using h2) fun i hi hj => ?_)
  simp only [List.length_map] at hi hj
  have := h3 (i : Int) (by omega) (by omega)
  rw [Sp.rGet_at hi, Sp.rGet_at hj] at this
  simpa using this
theorem Sp.fi_ge {p : List C → Bool} {xs : List (List C)} : 0 ≤ Sp.fi p xs ↔ ∃ i, ∃ h : i < xs.length, p xs[i] = true := by
  unfold Sp.fi
  cases e : xs.findIdx? p with
  | none =>
    rw [List.findIdx?_eq_none_iff] at e
    constructor
    · intro h; simp at h
    · rintro ⟨i, h, hp⟩
      rw [e _ (List.getElem_mem h)] at hp; cases hp
  | some k =>
    rw [List.findIdx?_eq_some_iff_getElem] at e
    obtain ⟨hk, hp, _⟩ := e
    exact ⟨fun _ => ⟨k, hk, hp⟩, fun _ => by simp⟩
theorem Sp.fi_le {p : List C → Bool} {xs : List (List C)} {i : Nat} (h : i < xs.length) (hp : p xs[i] = true) : 0 ≤ Sp.fi p xs ∧ Sp.fi p xs ≤ (i : Int) := by
  unfold Sp.fi
  cases e : xs.findIdx? p with
  | none =>
    rw [List.findIdx?_eq_none_iff] at e
    rw [e _ (List.getElem_mem h)] at hp; cases hp
  | some k =>
    rw [List.findIdx?_eq_some_iff_getElem] at e
    obtain ⟨hk, hq, hlt⟩ := e
    refine ⟨by simp, ?_⟩
    by_cases hik : i < k
    · exact absurd hp (hlt i hik)
    · simp only []; omega
theorem Sp.fi_at {p : List C → Bool} {xs : List (List C)} {z : Int} (h : Sp.fi p xs = z) (h0 : 0 ≤ z) : ∃ h : z.toNat < xs.length, p xs[z.toNat] = true ∧ ∀ j (hj : j < z.toNat), p (xs[j]'(by omega)) = false := by
  unfold Sp.fi at h
  cases e : xs.findIdx? p with
  | none => rw [e] at h; simp only [] at h; omega
  | some k =>
    rw [e] at h
    simp only [] at h
    rw [List.findIdx?_eq_some_iff_getElem] at e
    obtain ⟨hk, hq, hlt⟩ := e
    obtain rfl : k = z.toNat := by omega
    exact ⟨hk, hq, fun j hj => by simpa using hlt j hj⟩
end Go

namespace Go
open Go.Sx
theorem Sp.alI_init (p : Int → Bool) (n : Nat) : Sp.alI p n 0 := ⟨by omega, by omega, fun j h => by omega⟩
theorem Sp.alI_next {p : Int → Bool} {n : Nat} {z : Int} (h : Sp.alI p n z) (hz : z < (n : Int)) (hp : p z = true) : Sp.alI p n (z + 1) := by
  obtain ⟨a, b, c⟩ := h
  refine ⟨by omega, by omega, fun j hj => ?_⟩
  by_cases e : (j : Int) = z
  · rw [e]; exact hp
  · exact c j (by omega)
theorem Sp.all_bad {p : Int → Bool} {n : Nat} {z : Int} (h0 : 0 ≤ z) (hz : z < (n : Int)) (h : p z = false) : Sp.allB p n = false := by
  unfold Sp.allB
  rw [List.all_eq_false]
  exact ⟨z.toNat, List.mem_range.2 (by omega), by rw [show ((z.toNat : Nat) : Int) = z by omega, h]; simp⟩
theorem Sp.all_end {p : Int → Bool} {n : Nat} {z : Int} (h : Sp.alI p n z) (hz : ¬ z < (n : Int)) : Sp.allB p n = true := by
  obtain ⟨a, b, c⟩ := h
  unfold Sp.allB
  rw [List.all_eq_true]
  intro i hi
  exact c i (by have := List.mem_range.1 hi; omega)
theorem Sp.all_iff {p : Int → Bool} {n : Nat} : Sp.allB p n = true ↔ ∀ i : Nat, i < n → p (i : Int) = true := by
  unfold Sp.allB
  rw [List.all_eq_true]
  exact ⟨fun h i hi => h i (List.mem_range.2 hi), fun h i hi => h i (List.mem_range.1 hi)⟩
theorem Sp.fi_none {p : List C → Bool} : Sp.fi p [] = -1 := rfl
end Go

namespace Go.Sx
/-! ### function 60: slices.Index[[]uint64,uint64] -/
def ct60 : Ct := { ps := [(false, [.sl [.int .u64]]), (false, [.int .u64])], rs := [(false, [.int .i64])], pre := fun _ => True, out := fun a => [[.i (Sp.fi (Sp.eqI (cel 0 (arg 1 a)).int) (cel 0 (arg 0 a)).list)]] }
def tb60 : List (Nat × Ct) := []
def A60 (xs : List (List C)) (v : Int) : FuncId → Nat → LoopAnn := fun _ ii => bif Nat.beq ii 2 then .inv Int (fun z => Sp.fiI (Sp.eqI v) xs z) (fun z => [(8, .int .i64 z)]) (fun _ => []) [] [0, 1, 4, 5, 7, 8, 9, 16] (fun z => xs.length - z.toNat) else .unroll 0
abbrev B60 (xs : List (List C)) (v : Int) : Prop := vcF Go.Proofs.Try.prog (look tb60) (fun _ => false) (A60 xs v) 6 60 [.sl [.int .u64] xs, .int .u64 v] [] (fun sv heap => Gives [(false, [.int .i64])] [[.i (Sp.fi (Sp.eqI v) xs)]] sv heap)
theorem e60 (xs : List (List C)) (v : Int) : B60 xs v = (pLe (iLen xs) 9223372036854775807 → (∃ (x : Int), Sp.fiI (Sp.eqI v) xs x ∧ true = true ∧ ((IntKind.i64 = IntKind.i64 ∧ 0 = x) ∧ True) ∧ True) ∧ (∀ (x : Int), true = true ∧ true = true) ∧ ∀ (x : Int), Sp.fiI (Sp.eqI v) xs x → InR .i64 x ∧ True → True → (bLt x (iLen xs) = true → pIn 0 (iLen xs) x ∧ (InR .u64 (q0 (rGet xs x)) → (bEq v (q0 (rGet xs x)) = true → (x = Sp.fi (Sp.eqI v) xs ∧ True) ∧ True) ∧ (bEq v (q0 (rGet xs x)) = false → InR .i64 (iAdd x 1) ∧ (true = true ∧ [SV.sl [.int .u64] xs, SV.int .u64 v, SV.int .i64 (iLen xs)] = [SV.sl [.int .u64] xs, SV.int .u64 v, SV.int .i64 (iLen xs)]) ∧ ([] : List HB) = [] ∧ ∃ (y : Int), Sp.fiI (Sp.eqI v) xs y ∧ true = true ∧ ((IntKind.i64 = IntKind.i64 ∧ iAdd x 1 = y) ∧ True) ∧ True ∧ xs.length - y.toNat < xs.length - x.toNat))) ∧ (bLt x (iLen xs) = false → (-1 = Sp.fi (Sp.eqI v) xs ∧ True) ∧ True)) := by kernel_rfl
theorem v60 (xs : List (List C)) (v : Int) : Holds (Wfs [.sl [.int .u64] xs, .int .u64 v] → True → B60 xs v) := by
  refine ⟨fun hw hp => ?_⟩
  rw [e60]
  unfold q0
  simp only [Wfs, Wf, InR, and_true] at hw
  have hm : maxLen = 9223372036854775807 := rfl
  simp only [hm] at hw
  simp only [iAdd, iSub, iMul, iLen, iSize, bLt, bLe, bEq, bNe, bNot, bSame, bDiff, sSame, sDiff, bIf, bAnd, InR, pLe, pIn, pRoom, eq_self, true_and, and_true, true_implies, implies_true, decide_eq_true_eq, decide_eq_false_iff_not, Bool.not_eq_true', Bool.not_eq_false', Bool.true_eq_false, Bool.false_eq_true, false_implies]
  intro _
  refine ⟨⟨0, Sp.fiI_init _ _, rfl⟩, fun x hx _ => ⟨fun hlt => ⟨⟨hx.1, hlt⟩, fun _ => ⟨fun h => ?_, fun h => ⟨by have := hx.1; omega, x + 1, ?_, rfl, by have := hx.1; omega⟩⟩⟩, fun hge => ?_⟩⟩
  · exact (Sp.fi_hit hx hlt (by first | exact h | exact decide_eq_true h | exact decide_eq_true h.symm | exact decide_eq_false h | exact decide_eq_false (fun e => h e.symm))).symm
  · exact Sp.fiI_next hx hlt (by first | exact h | exact decide_eq_true h | exact decide_eq_true h.symm | exact decide_eq_false h | exact decide_eq_false (fun e => h e.symm))
  · exact (Sp.fi_miss hx hge).symm
theorem s60 : SoundCt Go.Proofs.Try.prog 60 ct60 :=
  contractH followsMixed (look_sound (show Tb Go.Proofs.Try.prog tb60 from trivial)) (fun _ => false) (fun a => A60 ((cel 0 (arg 0 a)).list) ((cel 0 (arg 1 a)).int)) 6 60 ct60 rfl (by simp [ct60]) fun a => Eq.mp (by kernel_rfl) (v60 ((cel 0 (arg 0 a)).list) ((cel 0 (arg 1 a)).int))
end Go.Sx

namespace Go.Sx
/-! ### function 69: slices.Index[[]string,string] -/
def ct69 : Ct := { ps := [(false, [.sl [.str]]), (false, [.str])], rs := [(false, [.int .i64])], pre := fun _ => True, out := fun a => [[.i (Sp.fi (Sp.eqS (cel 0 (arg 1 a)).str) (cel 0 (arg 0 a)).list)]] }
def tb69 : List (Nat × Ct) := []
def A69 (xs : List (List C)) (v : ByteArray) : FuncId → Nat → LoopAnn := fun _ ii => bif Nat.beq ii 2 then .inv Int (fun z => Sp.fiI (Sp.eqS v) xs z) (fun z => [(8, .int .i64 z)]) (fun _ => []) [] [0, 1, 4, 5, 7, 8, 9, 16] (fun z => xs.length - z.toNat) else .unroll 0
abbrev B69 (xs : List (List C)) (v : ByteArray) : Prop := vcF Go.Proofs.Try.prog (look tb69) (fun _ => false) (A69 xs v) 6 69 [.sl [.str] xs, .str v] [] (fun sv heap => Gives [(false, [.int .i64])] [[.i (Sp.fi (Sp.eqS v) xs)]] sv heap)
theorem e69 (xs : List (List C)) (v : ByteArray) : B69 xs v = (pLe (iLen xs) 9223372036854775807 → (∃ (x : Int), Sp.fiI (Sp.eqS v) xs x ∧ true = true ∧ ((IntKind.i64 = IntKind.i64 ∧ 0 = x) ∧ True) ∧ True) ∧ (∀ (x : Int), true = true ∧ true = true) ∧ ∀ (x : Int), Sp.fiI (Sp.eqS v) xs x → InR .i64 x ∧ True → True → (bLt x (iLen xs) = true → pIn 0 (iLen xs) x ∧ ((List.brecOn.go ((rGet xs x).headD default).str.1.toList List.length._f).1.le 9223372036854775807 → (sSame v ((rGet xs x).headD default).str = true → (x = Sp.fi (Sp.eqS v) xs ∧ True) ∧ True) ∧ (sSame v ((rGet xs x).headD default).str = false → InR .i64 (iAdd x 1) ∧ (true = true ∧ [SV.sl [.str] xs, SV.str v, SV.int .i64 (iLen xs)] = [SV.sl [.str] xs, SV.str v, SV.int .i64 (iLen xs)]) ∧ ([] : List HB) = [] ∧ ∃ (y : Int), Sp.fiI (Sp.eqS v) xs y ∧ true = true ∧ ((IntKind.i64 = IntKind.i64 ∧ iAdd x 1 = y) ∧ True) ∧ True ∧ xs.length - y.toNat < xs.length - x.toNat))) ∧ (bLt x (iLen xs) = false → (-1 = Sp.fi (Sp.eqS v) xs ∧ True) ∧ True)) := by kernel_rfl
theorem v69 (xs : List (List C)) (v : ByteArray) : Holds (Wfs [.sl [.str] xs, .str v] → True → B69 xs v) := by
  refine ⟨fun hw hp => ?_⟩
  rw [e69]
  simp only [Wfs, Wf, InR, and_true] at hw
  have hm : maxLen = 9223372036854775807 := rfl
  simp only [hm] at hw
  simp only [iAdd, iSub, iMul, iLen, iSize, bLt, bLe, bEq, bNe, bNot, bSame, bDiff, sSame, sDiff, bIf, bAnd, InR, pLe, pIn, pRoom, eq_self, true_and, and_true, true_implies, implies_true, decide_eq_true_eq, decide_eq_false_iff_not, Bool.not_eq_true', Bool.not_eq_false', Bool.true_eq_false, Bool.false_eq_true, false_implies]
  intro _
  refine ⟨⟨0, Sp.fiI_init _ _, rfl⟩, fun x hx _ => ⟨fun hlt => ⟨⟨hx.1, hlt⟩, fun _ => ⟨fun h => ?_, fun h => ⟨by have := hx.1; omega, x + 1, ?_, rfl, by have := hx.1; omega⟩⟩⟩, fun hge => ?_⟩⟩
  · exact (Sp.fi_hit hx hlt (by first | exact h | exact decide_eq_true h | exact decide_eq_true h.symm | exact decide_eq_false h | exact decide_eq_false (fun e => h e.symm))).symm
  · exact Sp.fiI_next hx hlt (by first | exact h | exact decide_eq_true h | exact decide_eq_true h.symm | exact decide_eq_false h | exact decide_eq_false (fun e => h e.symm))
  · exact (Sp.fi_miss hx hge).symm
theorem s69 : SoundCt Go.Proofs.Try.prog 69 ct69 :=
  contractH followsMixed (look_sound (show Tb Go.Proofs.Try.prog tb69 from trivial)) (fun _ => false) (fun a => A69 ((cel 0 (arg 0 a)).list) ((cel 0 (arg 1 a)).str)) 6 69 ct69 rfl (by simp [ct69]) fun a => Eq.mp (by kernel_rfl) (v69 ((cel 0 (arg 0 a)).list) ((cel 0 (arg 1 a)).str))
end Go.Sx

namespace Go.Sx
/-! ### function 45: slices.Contains[[]uint64,uint64] -/
def ct45 : Ct := { ps := [(false, [.sl [.int .u64]]), (false, [.int .u64])], rs := [(false, [.bool])], pre := fun _ => True, out := fun a => [[.b (Sp.has (cel 0 (arg 0 a)).list (cel 0 (arg 1 a)).int)]] }
def tb45 : List (Nat × Ct) := [(60, ct60)]
def A45  : FuncId → Nat → LoopAnn := fun _ _ => LoopAnn.unroll 200
abbrev B45 (xs : List (List C)) (v : Int) : Prop := vcF Go.Proofs.Try.prog (look tb45) (fun _ => false) (A45) 6 45 [.sl [.int .u64] xs, .int .u64 v] [] (fun sv heap => Gives [(false, [.bool])] [[.b (Sp.has xs v)]] sv heap)
theorem e45 (xs : List (List C)) (v : Int) : B45 xs v = (True ∧ (InR .i64 (Sp.fi (Sp.eqI v) xs) → (bLe 0 (Sp.fi (Sp.eqI v) xs) = Sp.has xs v ∧ True) ∧ True)) := by kernel_rfl
theorem v45 (xs : List (List C)) (v : Int) : Holds (Wfs [.sl [.int .u64] xs, .int .u64 v] → True → B45 xs v) := by
  refine ⟨fun hw hp => ?_⟩
  rw [e45]
  simp only [Wfs, Wf, InR, and_true] at hw
  have hm : maxLen = 9223372036854775807 := rfl
  simp only [hm] at hw
  simp only [iAdd, iSub, iMul, iLen, iSize, bLt, bLe, bEq, bNe, bNot, bSame, bDiff, sSame, sDiff, bIf, bAnd, InR, pLe, pIn, pRoom, eq_self, true_and, and_true, true_implies, implies_true, decide_eq_true_eq, decide_eq_false_iff_not, Bool.not_eq_true', Bool.not_eq_false', Bool.true_eq_false, Bool.false_eq_true, false_implies]
  exact fun _ => rfl
theorem s45 : SoundCt Go.Proofs.Try.prog 45 ct45 :=
  contractH followsMixed (look_sound (show Tb Go.Proofs.Try.prog tb45 from ⟨s60, trivial⟩)) (fun _ => false) (fun _ => A45) 6 45 ct45 rfl (by simp [ct45]) fun a => Eq.mp (by kernel_rfl) (v45 ((cel 0 (arg 0 a)).list) ((cel 0 (arg 1 a)).int))
end Go.Sx

namespace Go.Sx
/-! ### function 53: slices.Contains[[]string,string] -/
def ct53 : Ct := { ps := [(false, [.sl [.str]]), (false, [.str])], rs := [(false, [.bool])], pre := fun _ => True, out := fun a => [[.b (Sp.hasS (cel 0 (arg 0 a)).list (cel 0 (arg 1 a)).str)]] }
def tb53 : List (Nat × Ct) := [(69, ct69)]
def A53  : FuncId → Nat → LoopAnn := fun _ _ => LoopAnn.unroll 200
abbrev B53 (xs : List (List C)) (v : ByteArray) : Prop := vcF Go.Proofs.Try.prog (look tb53) (fun _ => false) (A53) 6 53 [.sl [.str] xs, .str v] [] (fun sv heap => Gives [(false, [.bool])] [[.b (Sp.hasS xs v)]] sv heap)
theorem e53 (xs : List (List C)) (v : ByteArray) : B53 xs v = (True ∧ (InR .i64 (Sp.fi (Sp.eqS v) xs) → (bLe 0 (Sp.fi (Sp.eqS v) xs) = Sp.hasS xs v ∧ True) ∧ True)) := by kernel_rfl
theorem v53 (xs : List (List C)) (v : ByteArray) : Holds (Wfs [.sl [.str] xs, .str v] → True → B53 xs v) := by
  refine ⟨fun hw hp => ?_⟩
  rw [e53]
  simp only [Wfs, Wf, InR, and_true] at hw
  have hm : maxLen = 9223372036854775807 := rfl
  simp only [hm] at hw
  simp only [iAdd, iSub, iMul, iLen, iSize, bLt, bLe, bEq, bNe, bNot, bSame, bDiff, sSame, sDiff, bIf, bAnd, InR, pLe, pIn, pRoom, eq_self, true_and, and_true, true_implies, implies_true, decide_eq_true_eq, decide_eq_false_iff_not, Bool.not_eq_true', Bool.not_eq_false', Bool.true_eq_false, Bool.false_eq_true, false_implies]
  exact fun _ => rfl
theorem s53 : SoundCt Go.Proofs.Try.prog 53 ct53 :=
  contractH followsMixed (look_sound (show Tb Go.Proofs.Try.prog tb53 from ⟨s69, trivial⟩)) (fun _ => false) (fun _ => A53) 6 53 ct53 rfl (by simp [ct53]) fun a => Eq.mp (by kernel_rfl) (v53 ((cel 0 (arg 0 a)).list) ((cel 0 (arg 1 a)).str))
end Go.Sx

namespace Go.Sx
/-! ### function 49: ref30.Has -/
def ct49 : Ct := { ps := [(false, [.sl [.int .u64]]), (false, [.int .u64])], rs := [(false, [.bool])], pre := fun _ => True, out := fun a => [[.b (Sp.has (cel 0 (arg 0 a)).list (cel 0 (arg 1 a)).int)]] }
def tb49 : List (Nat × Ct) := []
def A49 (xs : List (List C)) (v : Int) : FuncId → Nat → LoopAnn := fun _ ii => bif Nat.beq ii 2 then .inv Int (fun z => Sp.fiI (Sp.eqI v) xs z) (fun z => [(5, .int .i64 z)]) (fun _ => []) [] [0, 1, 4, 5, 9, 17] (fun z => xs.length - z.toNat) else .unroll 0
abbrev B49 (xs : List (List C)) (v : Int) : Prop := vcF Go.Proofs.Try.prog (look tb49) (fun _ => false) (A49 xs v) 6 49 [.sl [.int .u64] xs, .int .u64 v] [] (fun sv heap => Gives [(false, [.bool])] [[.b (Sp.has xs v)]] sv heap)
theorem e49 (xs : List (List C)) (v : Int) : B49 xs v = ((∃ (x : Int), Sp.fiI (Sp.eqI v) xs x ∧ true = true ∧ ((IntKind.i64 = IntKind.i64 ∧ 0 = x) ∧ True) ∧ True) ∧ (∀ (x : Int), true = true ∧ true = true) ∧ ∀ (x : Int), Sp.fiI (Sp.eqI v) xs x → InR .i64 x ∧ True → True → pLe (iLen xs) 9223372036854775807 → (bLt x (iLen xs) = true → pIn 0 (iLen xs) x ∧ (InR .u64 (q0 (rGet xs x)) → (bEq (q0 (rGet xs x)) v = true → (true = Sp.has xs v ∧ True) ∧ True) ∧ (bEq (q0 (rGet xs x)) v = false → InR .i64 (iAdd x 1) ∧ (true = true ∧ [SV.sl [.int .u64] xs, SV.int .u64 v] = [SV.sl [.int .u64] xs, SV.int .u64 v]) ∧ ([] : List HB) = [] ∧ ∃ (y : Int), Sp.fiI (Sp.eqI v) xs y ∧ true = true ∧ ((IntKind.i64 = IntKind.i64 ∧ iAdd x 1 = y) ∧ True) ∧ True ∧ xs.length - y.toNat < xs.length - x.toNat))) ∧ (bLt x (iLen xs) = false → (false = Sp.has xs v ∧ True) ∧ True)) := by kernel_rfl
theorem v49 (xs : List (List C)) (v : Int) : Holds (Wfs [.sl [.int .u64] xs, .int .u64 v] → True → B49 xs v) := by
  refine ⟨fun hw hp => ?_⟩
  rw [e49]
  unfold q0
  simp only [Wfs, Wf, InR, and_true] at hw
  have hm : maxLen = 9223372036854775807 := rfl
  simp only [hm] at hw
  simp only [iAdd, iSub, iMul, iLen, iSize, bLt, bLe, bEq, bNe, bNot, bSame, bDiff, sSame, sDiff, bIf, bAnd, InR, pLe, pIn, pRoom, eq_self, true_and, and_true, true_implies, implies_true, decide_eq_true_eq, decide_eq_false_iff_not, Bool.not_eq_true', Bool.not_eq_false', Bool.true_eq_false, Bool.false_eq_true, false_implies]
  refine ⟨⟨0, Sp.fiI_init _ _, rfl⟩, fun x hx _ _ => ⟨fun hlt => ⟨⟨hx.1, hlt⟩, fun _ => ⟨fun h => ?_, fun h => ⟨by have := hx.1; omega, x + 1, ?_, rfl, by have := hx.1; omega⟩⟩⟩, fun hge => ?_⟩⟩
  · symm; unfold Sp.has; rw [Sp.fi_hit hx hlt (decide_eq_true h.symm)]; exact decide_eq_true hx.1
  · exact Sp.fiI_next hx hlt (decide_eq_false fun e => h e.symm)
  · symm; unfold Sp.has; rw [Sp.fi_miss hx hge]; rfl
theorem s49 : SoundCt Go.Proofs.Try.prog 49 ct49 :=
  contractH followsMixed (look_sound (show Tb Go.Proofs.Try.prog tb49 from trivial)) (fun _ => false) (fun a => A49 ((cel 0 (arg 0 a)).list) ((cel 0 (arg 1 a)).int)) 6 49 ct49 rfl (by simp [ct49]) fun a => Eq.mp (by kernel_rfl) (v49 ((cel 0 (arg 0 a)).list) ((cel 0 (arg 1 a)).int))
end Go.Sx

namespace Go.Sx
/-! ### function 68: ref29.has -/
def ct68 : Ct := { ps := [(false, [.sl [.str]]), (false, [.str])], rs := [(false, [.bool])], pre := fun _ => True, out := fun a => [[.b (Sp.inn (cel 0 (arg 0 a)).list (cel 0 (arg 1 a)).str)]] }
def tb68 : List (Nat × Ct) := []
def A68 (xs : List (List C)) (v : ByteArray) : FuncId → Nat → LoopAnn := fun _ ii => bif Nat.beq ii 2 then .inv Int (fun z => Sp.fiI (Sp.eqA v) xs z) (fun z => [(5, .int .i64 z)]) (fun _ => []) [] [0, 1, 4, 5, 9, 21] (fun z => xs.length - z.toNat) else .unroll 0
abbrev B68 (xs : List (List C)) (v : ByteArray) : Prop := vcF Go.Proofs.Try.prog (look tb68) (fun _ => false) (A68 xs v) 6 68 [.sl [.str] xs, .str v] [] (fun sv heap => Gives [(false, [.bool])] [[.b (Sp.inn xs v)]] sv heap)
theorem e68 (xs : List (List C)) (v : ByteArray) : B68 xs v = ((∃ (x : Int), Sp.fiI (Sp.eqA v) xs x ∧ true = true ∧ ((IntKind.i64 = IntKind.i64 ∧ 0 = x) ∧ True) ∧ True) ∧ (∀ (x : Int), true = true ∧ true = true) ∧ ∀ (x : Int), Sp.fiI (Sp.eqA v) xs x → InR .i64 x ∧ True → True → pLe (iLen xs) 9223372036854775807 → (bLt x (iLen xs) = true → pIn 0 (iLen xs) x ∧ ((List.brecOn.go ((rGet xs x).headD default).str.1.toList List.length._f).1.le 9223372036854775807 → (sSame ((rGet xs x).headD default).str v = false → (sSame v (ByteArray.mk (Array.mk [97, 110, 121])) = true → (true = Sp.inn xs v ∧ True) ∧ True) ∧ (sSame v (ByteArray.mk (Array.mk [97, 110, 121])) = false → InR .i64 (iAdd x 1) ∧ (true = true ∧ [SV.sl [.str] xs, SV.str v] = [SV.sl [.str] xs, SV.str v]) ∧ ([] : List HB) = [] ∧ ∃ (y : Int), Sp.fiI (Sp.eqA v) xs y ∧ true = true ∧ ((IntKind.i64 = IntKind.i64 ∧ iAdd x 1 = y) ∧ True) ∧ True ∧ xs.length - y.toNat < xs.length - x.toNat)) ∧ (sSame ((rGet xs x).headD default).str v = true → (true = Sp.inn xs v ∧ True) ∧ True))) ∧ (bLt x (iLen xs) = false → (false = Sp.inn xs v ∧ True) ∧ True)) := by kernel_rfl
theorem v68 (xs : List (List C)) (v : ByteArray) : Holds (Wfs [.sl [.str] xs, .str v] → True → B68 xs v) := by
  refine ⟨fun hw hp => ?_⟩
  rw [e68]
  simp only [Wfs, Wf, InR, and_true] at hw
  have hm : maxLen = 9223372036854775807 := rfl
  simp only [hm] at hw
  simp only [iAdd, iSub, iMul, iLen, iSize, bLt, bLe, bEq, bNe, bNot, bSame, bDiff, sSame, sDiff, bIf, bAnd, InR, pLe, pIn, pRoom, eq_self, true_and, and_true, true_implies, implies_true, decide_eq_true_eq, decide_eq_false_iff_not, Bool.not_eq_true', Bool.not_eq_false', Bool.true_eq_false, Bool.false_eq_true, false_implies]
  have eA : ∀ x, ((((rGet xs x).headD default).str.toList == v.toList) = true → Sp.eqA v (rGet xs x) = true) ∧ (((v.toList == (ByteArray.mk (Array.mk [97, 110, 121])).toList) = true) → Sp.eqA v (rGet xs x) = true) ∧ ((((rGet xs x).headD default).str.toList == v.toList) = false → (v.toList == (ByteArray.mk (Array.mk [97, 110, 121])).toList) = false → Sp.eqA v (rGet xs x) = false) := fun x => by
    have sy : (((rGet xs x).headD default).str.toList == v.toList) = Sp.eqS v (rGet xs x) := by
      unfold Sp.eqS Sp.s0; rw [Bool.eq_iff_iff, beq_iff_eq, beq_iff_eq]; exact eq_comm
    rw [sy]
    refine ⟨fun h => by unfold Sp.eqA; rw [h]; rfl, fun h => by unfold Sp.eqA Sp.any3; rw [h, Bool.or_true], fun h1 h2 => by unfold Sp.eqA Sp.any3; rw [h1, h2]; rfl⟩
  refine ⟨⟨0, Sp.fiI_init _ _, rfl⟩, fun x hx _ _ => ⟨fun hlt => ⟨⟨hx.1, hlt⟩, fun _ => ?_⟩, fun hge => ?_⟩⟩
  · have hit : Sp.eqA v (rGet xs x) = true → true = Sp.inn xs v := fun h => by
      symm; unfold Sp.inn; rw [Sp.fi_hit hx hlt h]; exact decide_eq_true hx.1
    obtain ⟨q1, q2, q3⟩ := eA x
    refine ⟨fun h => ⟨fun h2 => hit (q2 h2), fun h2 => ⟨by have := hx.1; omega, x + 1, Sp.fiI_next hx hlt (q3 h h2), rfl, by have := hx.1; omega⟩⟩, fun h => hit (q1 h)⟩
  · symm; unfold Sp.inn; rw [Sp.fi_miss hx hge]; rfl
theorem s68 : SoundCt Go.Proofs.Try.prog 68 ct68 :=
  contractH followsMixed (look_sound (show Tb Go.Proofs.Try.prog tb68 from trivial)) (fun _ => false) (fun a => A68 ((cel 0 (arg 0 a)).list) ((cel 0 (arg 1 a)).str)) 6 68 ct68 rfl (by simp [ct68]) fun a => Eq.mp (by kernel_rfl) (v68 ((cel 0 (arg 0 a)).list) ((cel 0 (arg 1 a)).str))
end Go.Sx

namespace Go.Sx
/-! ### function 94: slices.Equal[[]uint64,uint64] -/
def ct94 : Ct := { ps := [(false, [.sl [.int .u64]]), (false, [.sl [.int .u64]])], rs := [(false, [.bool])], pre := fun _ => True, out := fun a => [[.b (Sp.sm (cel 0 (arg 0 a)).list (cel 0 (arg 1 a)).list)]] }
def tb94 : List (Nat × Ct) := []
def A94 (a : List (List C)) (b : List (List C)) : FuncId → Nat → LoopAnn := fun _ ii => bif Nat.beq ii 4 then .inv Int (fun z => Sp.smI a b z) (fun z => [(13, .int .i64 z)]) (fun _ => []) [] [0, 1, 4, 5, 10, 12, 13, 14, 24] (fun z => a.length - z.toNat) else .unroll 0
abbrev B94 (a : List (List C)) (b : List (List C)) : Prop := vcF Go.Proofs.Try.prog (look tb94) (fun _ => false) (A94 a b) 6 94 [.sl [.int .u64] a, .sl [.int .u64] b] [] (fun sv heap => Gives [(false, [.bool])] [[.b (Sp.sm a b)]] sv heap)
theorem e94 (a : List (List C)) (b : List (List C)) : B94 a b = (pLe (iLen a) 9223372036854775807 → pLe (iLen b) 9223372036854775807 → (bNe (iLen a) (iLen b) = true → (false = Sp.sm a b ∧ True) ∧ True) ∧ (bNe (iLen a) (iLen b) = false → pLe (iLen a) 9223372036854775807 → (∃ (x : Int), Sp.smI a b x ∧ true = true ∧ ((IntKind.i64 = IntKind.i64 ∧ 0 = x) ∧ True) ∧ True) ∧ (∀ (x : Int), true = true ∧ true = true) ∧ ∀ (x : Int), Sp.smI a b x → InR .i64 x ∧ True → True → (bLt x (iLen a) = true → pIn 0 (iLen a) x ∧ (InR .u64 (q0 (rGet a x)) → pIn 0 (iLen b) x ∧ (InR .u64 (q0 (rGet b x)) → (bNe (q0 (rGet a x)) (q0 (rGet b x)) = true → (false = Sp.sm a b ∧ True) ∧ True) ∧ (bNe (q0 (rGet a x)) (q0 (rGet b x)) = false → InR .i64 (iAdd x 1) ∧ (true = true ∧ (fun z => z = z) [SV.sl [.int .u64] a, SV.sl [.int .u64] b, SV.blit false, SV.int .i64 (iLen a)]) ∧ ([] : List HB) = [] ∧ ∃ (y : Int), Sp.smI a b y ∧ true = true ∧ ((IntKind.i64 = IntKind.i64 ∧ iAdd x 1 = y) ∧ True) ∧ True ∧ a.length - y.toNat < a.length - x.toNat)))) ∧ (bLt x (iLen a) = false → (true = Sp.sm a b ∧ True) ∧ True))) := by kernel_rfl
theorem v94 (a : List (List C)) (b : List (List C)) : Holds (Wfs [.sl [.int .u64] a, .sl [.int .u64] b] → True → B94 a b) := by
  refine ⟨fun hw hp => ?_⟩
  rw [e94]
  unfold q0
  simp only [Wfs, Wf, InR, and_true] at hw
  have hm : maxLen = 9223372036854775807 := rfl
  simp only [hm] at hw
  simp only [iAdd, iSub, iMul, iLen, iSize, bLt, bLe, bEq, bNe, bNot, bSame, bDiff, sSame, sDiff, bIf, bAnd, InR, pLe, pIn, pRoom, eq_self, true_and, and_true, true_implies, implies_true, decide_eq_true_eq, decide_eq_false_iff_not, Bool.not_eq_true', Bool.not_eq_false', Bool.true_eq_false, Bool.false_eq_true, false_implies]
  intro _ _
  refine ⟨fun h => (Sp.sm_ne (by omega)).symm, fun he _ => ⟨⟨0, Sp.smI_init (by omega), rfl⟩, fun x hx _ => ⟨fun hlt => ⟨⟨hx.1, hlt⟩, fun _ => ⟨by have := hx.1; omega, fun _ => ⟨fun h => (Sp.sm_diff hx hlt h).symm, fun h => ⟨by have := hx.1; omega, x + 1, Sp.smI_next hx hlt h, rfl, by have := hx.1; omega⟩⟩⟩⟩, fun hge => (Sp.sm_end hx hge).symm⟩⟩⟩
theorem s94 : SoundCt Go.Proofs.Try.prog 94 ct94 :=
  contractH followsMixed (look_sound (show Tb Go.Proofs.Try.prog tb94 from trivial)) (fun _ => false) (fun a => A94 ((cel 0 (arg 0 a)).list) ((cel 0 (arg 1 a)).list)) 6 94 ct94 rfl (by simp [ct94]) fun a => Eq.mp (by kernel_rfl) (v94 ((cel 0 (arg 0 a)).list) ((cel 0 (arg 1 a)).list))
end Go.Sx

namespace Go.Sx
/-! ### function 62: choices.Ascending -/
def ct62 : Ct := { ps := [(false, [.sl [.int .u64]])], rs := [(false, [.bool])], pre := fun _ => True, out := fun a => [[.b (Sp.asc (cel 0 (arg 0 a)).list)]] }
def tb62 : List (Nat × Ct) := []
def A62 (l : List (List C)) : FuncId → Nat → LoopAnn := fun _ ii => bif Nat.beq ii 2 then .inv Int (fun z => Sp.alI (Sp.ak l) l.length z) (fun z => [(7, .int .i64 z)]) (fun _ => []) [] [0, 2, 3, 4, 5, 6, 7, 8, 26] (fun z => l.length - z.toNat) else .unroll 0
abbrev B62 (l : List (List C)) : Prop := vcF Go.Proofs.Try.prog (look tb62) (fun _ => false) (A62 l) 6 62 [.sl [.int .u64] l] [] (fun sv heap => Gives [(false, [.bool])] [[.b (Sp.asc l)]] sv heap)
theorem e62 (l : List (List C)) : B62 l = (pLe (iLen l) 9223372036854775807 → (∃ (x : Int), Sp.alI (Sp.ak l) l.length x ∧ true = true ∧ ((IntKind.i64 = IntKind.i64 ∧ 0 = x) ∧ True) ∧ True) ∧ (∀ (x : Int), true = true ∧ true = true) ∧ ∀ (x : Int), Sp.alI (Sp.ak l) l.length x → InR .i64 x ∧ True → True → (bLt x (iLen l) = true → pIn 0 (iLen l) x ∧ (InR .u64 (q0 (rGet l x)) → (bLt (q0 (rGet l x)) 1 = false → (bLt 0 x = true → InR .i64 (iSub x 1) ∧ pIn 0 (iLen l) (iSub x 1) ∧ (InR .u64 (q0 (rGet l (iSub x 1))) → (bLe (q0 (rGet l x)) (q0 (rGet l (iSub x 1))) = true → (false = Sp.asc l ∧ True) ∧ True) ∧ (bLe (q0 (rGet l x)) (q0 (rGet l (iSub x 1))) = false → InR .i64 (iAdd x 1) ∧ (true = true ∧ (fun z => z = z) [SV.sl [.int .u64] l, SV.sl [.int .u64] l, SV.int .i64 (iLen l)]) ∧ ([] : List HB) = [] ∧ ∃ (y : Int), Sp.alI (Sp.ak l) l.length y ∧ true = true ∧ ((IntKind.i64 = IntKind.i64 ∧ iAdd x 1 = y) ∧ True) ∧ True ∧ l.length - y.toNat < l.length - x.toNat))) ∧ (bLt 0 x = false → InR .i64 (iAdd x 1) ∧ (true = true ∧ (fun z => z = z) [SV.sl [.int .u64] l, SV.sl [.int .u64] l, SV.int .i64 (iLen l)]) ∧ ([] : List HB) = [] ∧ ∃ (y : Int), Sp.alI (Sp.ak l) l.length y ∧ true = true ∧ ((IntKind.i64 = IntKind.i64 ∧ iAdd x 1 = y) ∧ True) ∧ True ∧ l.length - y.toNat < l.length - x.toNat)) ∧ (bLt (q0 (rGet l x)) 1 = true → (false = Sp.asc l ∧ True) ∧ True))) ∧ (bLt x (iLen l) = false → (true = Sp.asc l ∧ True) ∧ True)) := by kernel_rfl
theorem v62 (l : List (List C)) : Holds (Wfs [.sl [.int .u64] l] → True → B62 l) := by
  refine ⟨fun hw hp => ?_⟩
  rw [e62]
  unfold q0
  simp only [Wfs, Wf, InR, and_true] at hw
  have hm : maxLen = 9223372036854775807 := rfl
  simp only [hm] at hw
  simp only [iAdd, iSub, iMul, iLen, iSize, bLt, bLe, bEq, bNe, bNot, bSame, bDiff, sSame, sDiff, bIf, bAnd, InR, pLe, pIn, pRoom, eq_self, true_and, and_true, true_implies, implies_true, decide_eq_true_eq, decide_eq_false_iff_not, Bool.not_eq_true', Bool.not_eq_false', Bool.true_eq_false, Bool.false_eq_true, false_implies]
  intro _
  refine ⟨⟨0, Sp.alI_init _ _, rfl⟩, fun x hx _ => ⟨fun hlt => ?_, fun hge => (Sp.all_end hx hge).symm⟩⟩
  have h0 := hx.1
  have bad : ¬ (1 ≤ ((rGet l x).headD default).int ∧ (0 < x → ((rGet l (x - 1)).headD default).int < ((rGet l x).headD default).int)) → false = Sp.asc l := fun h => (Sp.all_bad h0 hlt (decide_eq_false h)).symm
  have fwd : (1 ≤ ((rGet l x).headD default).int ∧ (0 < x → ((rGet l (x - 1)).headD default).int < ((rGet l x).headD default).int)) → ∃ y, Sp.alI (Sp.ak l) l.length y ∧ x + 1 = y ∧ l.length - y.toNat < l.length - x.toNat := fun h => ⟨x + 1, Sp.alI_next hx hlt (decide_eq_true h), rfl, by omega⟩
  repeat' (first | apply And.intro | intro _)
  all_goals first | (clear bad fwd; omega) | (refine bad ?_; clear bad fwd; omega) | (refine fwd ?_; clear bad fwd; omega)
theorem s62 : SoundCt Go.Proofs.Try.prog 62 ct62 :=
  contractH followsMixed (look_sound (show Tb Go.Proofs.Try.prog tb62 from trivial)) (fun _ => false) (fun a => A62 ((cel 0 (arg 0 a)).list)) 6 62 ct62 rfl (by simp [ct62]) fun a => Eq.mp (by kernel_rfl) (v62 ((cel 0 (arg 0 a)).list))
end Go.Sx

namespace Go.Sx
/-! ### function 55: ref30.Ascending -/
def ct55 : Ct := { ps := [(false, [.sl [.int .u64]])], rs := [(false, [.bool])], pre := fun _ => True, out := fun a => [[.b (Sp.asc (cel 0 (arg 0 a)).list)]] }
def tb55 : List (Nat × Ct) := []
def A55 (l : List (List C)) : FuncId → Nat → LoopAnn := fun _ ii => bif Nat.beq ii 2 then .inv Int (fun z => Sp.alI (Sp.ak l) l.length z) (fun z => [(3, .int .i64 z)]) (fun _ => []) [] [0, 2, 3, 7, 30] (fun z => l.length - z.toNat) else .unroll 0
abbrev B55 (l : List (List C)) : Prop := vcF Go.Proofs.Try.prog (look tb55) (fun _ => false) (A55 l) 6 55 [.sl [.int .u64] l] [] (fun sv heap => Gives [(false, [.bool])] [[.b (Sp.asc l)]] sv heap)
theorem e55 (l : List (List C)) : B55 l = ((∃ (x : Int), Sp.alI (Sp.ak l) l.length x ∧ true = true ∧ ((IntKind.i64 = IntKind.i64 ∧ 0 = x) ∧ True) ∧ True) ∧ (∀ (x : Int), true = true ∧ true = true) ∧ ∀ (x : Int), Sp.alI (Sp.ak l) l.length x → InR .i64 x ∧ True → True → pLe (iLen l) 9223372036854775807 → (bLt x (iLen l) = true → pIn 0 (iLen l) x ∧ (InR .u64 (q0 (rGet l x)) → (bLt (q0 (rGet l x)) 1 = false → (bLt 0 x = true → pIn 0 (iLen l) x ∧ (InR .u64 (q0 (rGet l x)) → InR .i64 (iSub x 1) ∧ pIn 0 (iLen l) (iSub x 1) ∧ (InR .u64 (q0 (rGet l (iSub x 1))) → (bLe (q0 (rGet l x)) (q0 (rGet l (iSub x 1))) = true → (false = Sp.asc l ∧ True) ∧ True) ∧ (bLe (q0 (rGet l x)) (q0 (rGet l (iSub x 1))) = false → InR .i64 (iAdd x 1) ∧ (true = true ∧ [SV.sl [.int .u64] l] = [SV.sl [.int .u64] l]) ∧ ([] : List HB) = [] ∧ ∃ (y : Int), Sp.alI (Sp.ak l) l.length y ∧ true = true ∧ ((IntKind.i64 = IntKind.i64 ∧ iAdd x 1 = y) ∧ True) ∧ True ∧ l.length - y.toNat < l.length - x.toNat)))) ∧ (bLt 0 x = false → InR .i64 (iAdd x 1) ∧ (true = true ∧ [SV.sl [.int .u64] l] = [SV.sl [.int .u64] l]) ∧ ([] : List HB) = [] ∧ ∃ (y : Int), Sp.alI (Sp.ak l) l.length y ∧ true = true ∧ ((IntKind.i64 = IntKind.i64 ∧ iAdd x 1 = y) ∧ True) ∧ True ∧ l.length - y.toNat < l.length - x.toNat)) ∧ (bLt (q0 (rGet l x)) 1 = true → (false = Sp.asc l ∧ True) ∧ True))) ∧ (bLt x (iLen l) = false → (true = Sp.asc l ∧ True) ∧ True)) := by kernel_rfl
theorem v55 (l : List (List C)) : Holds (Wfs [.sl [.int .u64] l] → True → B55 l) := by
  refine ⟨fun hw hp => ?_⟩
  rw [e55]
  unfold q0
  simp only [Wfs, Wf, InR, and_true] at hw
  have hm : maxLen = 9223372036854775807 := rfl
  simp only [hm] at hw
  simp only [iAdd, iSub, iMul, iLen, iSize, bLt, bLe, bEq, bNe, bNot, bSame, bDiff, sSame, sDiff, bIf, bAnd, InR, pLe, pIn, pRoom, eq_self, true_and, and_true, true_implies, implies_true, decide_eq_true_eq, decide_eq_false_iff_not, Bool.not_eq_true', Bool.not_eq_false', Bool.true_eq_false, Bool.false_eq_true, false_implies]
  refine ⟨⟨0, Sp.alI_init _ _, rfl⟩, fun x hx _ _ => ⟨fun hlt => ?_, fun hge => (Sp.all_end hx hge).symm⟩⟩
  have h0 := hx.1
  have bad : ¬ (1 ≤ ((rGet l x).headD default).int ∧ (0 < x → ((rGet l (x - 1)).headD default).int < ((rGet l x).headD default).int)) → false = Sp.asc l := fun h => (Sp.all_bad h0 hlt (decide_eq_false h)).symm
  have fwd : (1 ≤ ((rGet l x).headD default).int ∧ (0 < x → ((rGet l (x - 1)).headD default).int < ((rGet l x).headD default).int)) → ∃ y, Sp.alI (Sp.ak l) l.length y ∧ x + 1 = y ∧ l.length - y.toNat < l.length - x.toNat := fun h => ⟨x + 1, Sp.alI_next hx hlt (decide_eq_true h), rfl, by omega⟩
  repeat' (first | apply And.intro | intro _)
  all_goals first | (clear bad fwd; omega) | (refine bad ?_; clear bad fwd; omega) | (refine fwd ?_; clear bad fwd; omega)
theorem s55 : SoundCt Go.Proofs.Try.prog 55 ct55 :=
  contractH followsMixed (look_sound (show Tb Go.Proofs.Try.prog tb55 from trivial)) (fun _ => false) (fun a => A55 ((cel 0 (arg 0 a)).list)) 6 55 ct55 rfl (by simp [ct55]) fun a => Eq.mp (by kernel_rfl) (v55 ((cel 0 (arg 0 a)).list))
end Go.Sx

namespace Go.Sx
/-! ### function 56: ref30.part -/
def ct56 : Ct := { ps := [(false, [.sl [.int .u64]]), (false, [.sl [.int .u64]])], rs := [(false, [.bool])], pre := fun _ => True, out := fun a => [[.b (Sp.prt (cel 0 (arg 0 a)).list (cel 0 (arg 1 a)).list)]] }
def tb56 : List (Nat × Ct) := [(49, ct49)]
def A56 (a : List (List C)) (b : List (List C)) : FuncId → Nat → LoopAnn := fun _ ii => bif Nat.beq ii 2 then .inv Int (fun z => Sp.alI (Sp.pk a b) a.length z) (fun z => [(5, .int .i64 z)]) (fun _ => []) [] [0, 1, 4, 5, 9, 18] (fun z => a.length - z.toNat) else .unroll 0
abbrev B56 (a : List (List C)) (b : List (List C)) : Prop := vcF Go.Proofs.Try.prog (look tb56) (fun _ => false) (A56 a b) 6 56 [.sl [.int .u64] a, .sl [.int .u64] b] [] (fun sv heap => Gives [(false, [.bool])] [[.b (Sp.prt a b)]] sv heap)
theorem e56 (a : List (List C)) (b : List (List C)) : B56 a b = ((∃ (x : Int), Sp.alI (Sp.pk a b) a.length x ∧ true = true ∧ ((IntKind.i64 = IntKind.i64 ∧ 0 = x) ∧ True) ∧ True) ∧ (∀ (x : Int), true = true ∧ true = true) ∧ ∀ (x : Int), Sp.alI (Sp.pk a b) a.length x → InR .i64 x ∧ True → True → pLe (iLen a) 9223372036854775807 → (bLt x (iLen a) = true → pIn 0 (iLen a) x ∧ (InR .u64 (q0 (rGet a x)) → True ∧ (True → True ∧ (bNot (Sp.has b (q0 (rGet a x))) = true → (false = Sp.prt a b ∧ True) ∧ True) ∧ (bNot (Sp.has b (q0 (rGet a x))) = false → InR .i64 (iAdd x 1) ∧ (true = true ∧ [SV.sl [.int .u64] a, SV.sl [.int .u64] b] = [SV.sl [.int .u64] a, SV.sl [.int .u64] b]) ∧ ([] : List HB) = [] ∧ ∃ (y : Int), Sp.alI (Sp.pk a b) a.length y ∧ true = true ∧ ((IntKind.i64 = IntKind.i64 ∧ iAdd x 1 = y) ∧ True) ∧ True ∧ a.length - y.toNat < a.length - x.toNat)))) ∧ (bLt x (iLen a) = false → (true = Sp.prt a b ∧ True) ∧ True)) := by kernel_rfl
theorem v56 (a : List (List C)) (b : List (List C)) : Holds (Wfs [.sl [.int .u64] a, .sl [.int .u64] b] → True → B56 a b) := by
  refine ⟨fun hw hp => ?_⟩
  rw [e56]
  unfold q0
  simp only [Wfs, Wf, InR, and_true] at hw
  have hm : maxLen = 9223372036854775807 := rfl
  simp only [hm] at hw
  simp only [iAdd, iSub, iMul, iLen, iSize, bLt, bLe, bEq, bNe, bNot, bSame, bDiff, sSame, sDiff, bIf, bAnd, InR, pLe, pIn, pRoom, eq_self, true_and, and_true, true_implies, implies_true, decide_eq_true_eq, decide_eq_false_iff_not, Bool.not_eq_true', Bool.not_eq_false', Bool.true_eq_false, Bool.false_eq_true, false_implies]
  refine ⟨⟨0, Sp.alI_init _ _, rfl⟩, fun x hx _ _ => ⟨fun hlt => ?_, fun hge => (Sp.all_end hx hge).symm⟩⟩
  have h0 := hx.1
  exact ⟨⟨h0, hlt⟩, fun _ => ⟨fun h => (Sp.all_bad h0 hlt h).symm, fun h => ⟨by omega, x + 1, Sp.alI_next hx hlt h, rfl, by omega⟩⟩⟩
theorem s56 : SoundCt Go.Proofs.Try.prog 56 ct56 :=
  contractH followsMixed (look_sound (show Tb Go.Proofs.Try.prog tb56 from ⟨s49, trivial⟩)) (fun _ => false) (fun a => A56 ((cel 0 (arg 0 a)).list) ((cel 0 (arg 1 a)).list)) 6 56 ct56 rfl (by simp [ct56]) fun a => Eq.mp (by kernel_rfl) (v56 ((cel 0 (arg 0 a)).list) ((cel 0 (arg 1 a)).list))
end Go.Sx

namespace Go.Sx
/-! ### function 75: choices.Proper -/
def ct75 : Ct := { ps := [(true, [.str, .sl [.int .u64], .int .u64])], rs := [(false, [.bool])], pre := fun _ => True, out := fun a => [[.b (Sp.cpr (cel 0 (arg 0 a)).str (cel 1 (arg 0 a)).list (cel 2 (arg 0 a)).int)]] }
def tb75 : List (Nat × Ct) := [(79, ct79), (62, ct62), (45, ct45)]
def A75  : FuncId → Nat → LoopAnn := fun _ _ => LoopAnn.unroll 200
abbrev B75 (r : ByteArray) (st : List (List C)) (dv : Int) : Prop := vcF Go.Proofs.Try.prog (look tb75) (fun _ => false) (A75) 6 75 [.agg [.str r, .sl [.int .u64] st, .int .u64 dv]] [] (fun sv heap => Gives [(false, [.bool])] [[.b (Sp.cpr r st dv)]] sv heap)
theorem e75 (r : ByteArray) (st : List (List C)) (dv : Int) : B75 r st dv = (True ∧ (True → (Sp.nam r = true → pLe (iLen st) 9223372036854775807 → (bLe 1 (iLen st) = true → pLe (iLen st) 9223372036854775807 → (bLe (iLen st) 8 = true → True ∧ (True → (Sp.asc st = true → True ∧ (True → (Sp.has st dv = Sp.cpr r st dv ∧ True) ∧ True)) ∧ (Sp.asc st = false → (false = Sp.cpr r st dv ∧ True) ∧ True))) ∧ (bLe (iLen st) 8 = false → (false = Sp.cpr r st dv ∧ True) ∧ True)) ∧ (bLe 1 (iLen st) = false → (false = Sp.cpr r st dv ∧ True) ∧ True)) ∧ (Sp.nam r = false → (false = Sp.cpr r st dv ∧ True) ∧ True))) := by kernel_rfl
theorem v75 (r : ByteArray) (st : List (List C)) (dv : Int) : Holds (Wfs [.agg [.str r, .sl [.int .u64] st, .int .u64 dv]] → True → B75 r st dv) := by
  refine ⟨fun hw hp => ?_⟩
  rw [e75]
  simp only [Wfs, Wf, InR, and_true] at hw
  have hm : maxLen = 9223372036854775807 := rfl
  simp only [hm] at hw
  simp only [iAdd, iSub, iMul, iLen, iSize, bLt, bLe, bEq, bNe, bNot, bSame, bDiff, sSame, sDiff, bIf, bAnd, InR, pLe, pIn, pRoom, eq_self, true_and, and_true, true_implies, implies_true, decide_eq_true_eq, decide_eq_false_iff_not, Bool.not_eq_true', Bool.not_eq_false', Bool.true_eq_false, Bool.false_eq_true, false_implies]
  have hd : decide (1 ≤ st.length ∧ st.length ≤ 8) = (decide (1 ≤ (st.length : Int)) && decide ((st.length : Int) ≤ 8)) := by
    rw [Bool.eq_iff_iff]; simp only [decide_eq_true_eq, Bool.and_eq_true]; omega
  unfold Sp.cpr
  rw [hd]
  cases Sp.nam r <;> cases Sp.asc st <;> cases Sp.has st dv <;> by_cases h1 : 1 ≤ (st.length : Int) <;> by_cases h8 : (st.length : Int) ≤ 8 <;> simp [h1, h8]
theorem s75 : SoundCt Go.Proofs.Try.prog 75 ct75 :=
  contractH followsMixed (look_sound (show Tb Go.Proofs.Try.prog tb75 from ⟨s79, ⟨s62, ⟨s45, trivial⟩⟩⟩)) (fun _ => false) (fun _ => A75) 6 75 ct75 rfl (by simp [ct75]) fun a => Eq.mp (by kernel_rfl) (v75 ((cel 0 (arg 0 a)).str) ((cel 1 (arg 0 a)).list) ((cel 2 (arg 0 a)).int))
end Go.Sx

namespace Go.Sx
/-! ### function 41: ref30.Proper -/
def ct41 : Ct := { ps := [(true, [.str, .sl [.int .u64], .int .u64])], rs := [(false, [.bool])], pre := fun _ => True, out := fun a => [[.b (Sp.cpr (cel 0 (arg 0 a)).str (cel 1 (arg 0 a)).list (cel 2 (arg 0 a)).int)]] }
def tb41 : List (Nat × Ct) := [(54, ct54), (55, ct55), (49, ct49)]
def A41  : FuncId → Nat → LoopAnn := fun _ _ => LoopAnn.unroll 200
abbrev B41 (r : ByteArray) (st : List (List C)) (dv : Int) : Prop := vcF Go.Proofs.Try.prog (look tb41) (fun _ => false) (A41) 6 41 [.agg [.str r, .sl [.int .u64] st, .int .u64 dv]] [] (fun sv heap => Gives [(false, [.bool])] [[.b (Sp.cpr r st dv)]] sv heap)
theorem e41 (r : ByteArray) (st : List (List C)) (dv : Int) : B41 r st dv = (True ∧ (True → (Sp.nam r = true → pLe (iLen st) 9223372036854775807 → (bLe 1 (iLen st) = true → pLe (iLen st) 9223372036854775807 → (bLe (iLen st) 8 = true → True ∧ (True → (Sp.asc st = true → True ∧ (True → (Sp.has st dv = Sp.cpr r st dv ∧ True) ∧ True)) ∧ (Sp.asc st = false → (false = Sp.cpr r st dv ∧ True) ∧ True))) ∧ (bLe (iLen st) 8 = false → (false = Sp.cpr r st dv ∧ True) ∧ True)) ∧ (bLe 1 (iLen st) = false → (false = Sp.cpr r st dv ∧ True) ∧ True)) ∧ (Sp.nam r = false → (false = Sp.cpr r st dv ∧ True) ∧ True))) := by kernel_rfl
theorem v41 (r : ByteArray) (st : List (List C)) (dv : Int) : Holds (Wfs [.agg [.str r, .sl [.int .u64] st, .int .u64 dv]] → True → B41 r st dv) := by
  refine ⟨fun hw hp => ?_⟩
  rw [e41]
  simp only [Wfs, Wf, InR, and_true] at hw
  have hm : maxLen = 9223372036854775807 := rfl
  simp only [hm] at hw
  simp only [iAdd, iSub, iMul, iLen, iSize, bLt, bLe, bEq, bNe, bNot, bSame, bDiff, sSame, sDiff, bIf, bAnd, InR, pLe, pIn, pRoom, eq_self, true_and, and_true, true_implies, implies_true, decide_eq_true_eq, decide_eq_false_iff_not, Bool.not_eq_true', Bool.not_eq_false', Bool.true_eq_false, Bool.false_eq_true, false_implies]
  have hd : decide (1 ≤ st.length ∧ st.length ≤ 8) = (decide (1 ≤ (st.length : Int)) && decide ((st.length : Int) ≤ 8)) := by
    rw [Bool.eq_iff_iff]; simp only [decide_eq_true_eq, Bool.and_eq_true]; omega
  unfold Sp.cpr
  rw [hd]
  cases Sp.nam r <;> cases Sp.asc st <;> cases Sp.has st dv <;> by_cases h1 : 1 ≤ (st.length : Int) <;> by_cases h8 : (st.length : Int) ≤ 8 <;> simp [h1, h8]
theorem s41 : SoundCt Go.Proofs.Try.prog 41 ct41 :=
  contractH followsMixed (look_sound (show Tb Go.Proofs.Try.prog tb41 from ⟨s54, ⟨s55, ⟨s49, trivial⟩⟩⟩)) (fun _ => false) (fun _ => A41) 6 41 ct41 rfl (by simp [ct41]) fun a => Eq.mp (by kernel_rfl) (v41 ((cel 0 (arg 0 a)).str) ((cel 1 (arg 0 a)).list) ((cel 2 (arg 0 a)).int))
end Go.Sx

namespace Go.Sx
/-! ### function 74: choices.like -/
def ct74 : Ct := { ps := [(true, [.str, .sl [.int .u64], .int .u64]), (true, [.str, .sl [.int .u64], .int .u64])], rs := [(false, [.bool])], pre := fun _ => True, out := fun a => [[.b (Sp.lik (cel 0 (arg 0 a)).str (cel 1 (arg 0 a)).list (cel 0 (arg 1 a)).str (cel 1 (arg 1 a)).list)]] }
def tb74 : List (Nat × Ct) := [(94, ct94)]
def A74  : FuncId → Nat → LoopAnn := fun _ _ => LoopAnn.unroll 200
abbrev B74 (r : ByteArray) (st : List (List C)) (dv : Int) (q : ByteArray) (tt : List (List C)) (dw : Int) : Prop := vcF Go.Proofs.Try.prog (look tb74) (fun _ => false) (A74) 6 74 [.agg [.str r, .sl [.int .u64] st, .int .u64 dv], .agg [.str q, .sl [.int .u64] tt, .int .u64 dw]] [] (fun sv heap => Gives [(false, [.bool])] [[.b (Sp.lik r st q tt)]] sv heap)
theorem e74 (r : ByteArray) (st : List (List C)) (dv : Int) (q : ByteArray) (tt : List (List C)) (dw : Int) : B74 r st dv q tt dw = ((sSame r q = true → True ∧ (True → (Sp.sm st tt = Sp.lik r st q tt ∧ True) ∧ True)) ∧ (sSame r q = false → (false = Sp.lik r st q tt ∧ True) ∧ True)) := by kernel_rfl
theorem v74 (r : ByteArray) (st : List (List C)) (dv : Int) (q : ByteArray) (tt : List (List C)) (dw : Int) : Holds (Wfs [.agg [.str r, .sl [.int .u64] st, .int .u64 dv], .agg [.str q, .sl [.int .u64] tt, .int .u64 dw]] → True → B74 r st dv q tt dw) := by
  refine ⟨fun hw hp => ?_⟩
  rw [e74]
  simp only [Wfs, Wf, InR, and_true] at hw
  have hm : maxLen = 9223372036854775807 := rfl
  simp only [hm] at hw
  simp only [iAdd, iSub, iMul, iLen, iSize, bLt, bLe, bEq, bNe, bNot, bSame, bDiff, sSame, sDiff, bIf, bAnd, InR, pLe, pIn, pRoom, eq_self, true_and, and_true, true_implies, implies_true, decide_eq_true_eq, decide_eq_false_iff_not, Bool.not_eq_true', Bool.not_eq_false', Bool.true_eq_false, Bool.false_eq_true, false_implies]
  unfold Sp.lik
  cases (r.toList == q.toList) <;> simp
theorem s74 : SoundCt Go.Proofs.Try.prog 74 ct74 :=
  contractH followsMixed (look_sound (show Tb Go.Proofs.Try.prog tb74 from ⟨s94, trivial⟩)) (fun _ => false) (fun _ => A74) 6 74 ct74 rfl (by simp [ct74]) fun a => Eq.mp (by kernel_rfl) (v74 ((cel 0 (arg 0 a)).str) ((cel 1 (arg 0 a)).list) ((cel 2 (arg 0 a)).int) ((cel 0 (arg 1 a)).str) ((cel 1 (arg 1 a)).list) ((cel 2 (arg 1 a)).int))
end Go.Sx

namespace Go.Sx
/-! ### function 42: ref30.alike -/
def ct42 : Ct := { ps := [(true, [.str, .sl [.int .u64], .int .u64]), (true, [.str, .sl [.int .u64], .int .u64])], rs := [(false, [.bool])], pre := fun _ => True, out := fun a => [[.b (Sp.alk (cel 0 (arg 0 a)).str (cel 1 (arg 0 a)).list (cel 0 (arg 1 a)).str (cel 1 (arg 1 a)).list)]] }
def tb42 : List (Nat × Ct) := [(56, ct56)]
def A42  : FuncId → Nat → LoopAnn := fun _ _ => LoopAnn.unroll 200
abbrev B42 (r : ByteArray) (st : List (List C)) (dv : Int) (q : ByteArray) (tt : List (List C)) (dw : Int) : Prop := vcF Go.Proofs.Try.prog (look tb42) (fun _ => false) (A42) 6 42 [.agg [.str r, .sl [.int .u64] st, .int .u64 dv], .agg [.str q, .sl [.int .u64] tt, .int .u64 dw]] [] (fun sv heap => Gives [(false, [.bool])] [[.b (Sp.alk r st q tt)]] sv heap)
theorem e42 (r : ByteArray) (st : List (List C)) (dv : Int) (q : ByteArray) (tt : List (List C)) (dw : Int) : B42 r st dv q tt dw = ((sSame r q = true → pLe (iLen st) 9223372036854775807 → pLe (iLen tt) 9223372036854775807 → (bEq (iLen st) (iLen tt) = true → True ∧ (True → (Sp.prt st tt = Sp.alk r st q tt ∧ True) ∧ True)) ∧ (bEq (iLen st) (iLen tt) = false → (false = Sp.alk r st q tt ∧ True) ∧ True)) ∧ (sSame r q = false → (false = Sp.alk r st q tt ∧ True) ∧ True)) := by kernel_rfl
theorem v42 (r : ByteArray) (st : List (List C)) (dv : Int) (q : ByteArray) (tt : List (List C)) (dw : Int) : Holds (Wfs [.agg [.str r, .sl [.int .u64] st, .int .u64 dv], .agg [.str q, .sl [.int .u64] tt, .int .u64 dw]] → True → B42 r st dv q tt dw) := by
  refine ⟨fun hw hp => ?_⟩
  rw [e42]
  simp only [Wfs, Wf, InR, and_true] at hw
  have hm : maxLen = 9223372036854775807 := rfl
  simp only [hm] at hw
  simp only [iAdd, iSub, iMul, iLen, iSize, bLt, bLe, bEq, bNe, bNot, bSame, bDiff, sSame, sDiff, bIf, bAnd, InR, pLe, pIn, pRoom, eq_self, true_and, and_true, true_implies, implies_true, decide_eq_true_eq, decide_eq_false_iff_not, Bool.not_eq_true', Bool.not_eq_false', Bool.true_eq_false, Bool.false_eq_true, false_implies]
  have hd : decide (st.length = tt.length) = decide ((st.length : Int) = (tt.length : Int)) := by
    rw [Bool.eq_iff_iff]; simp only [decide_eq_true_eq]; omega
  unfold Sp.alk
  rw [hd]
  cases (r.toList == q.toList) <;> by_cases h1 : (st.length : Int) = (tt.length : Int) <;> simp [h1]
theorem s42 : SoundCt Go.Proofs.Try.prog 42 ct42 :=
  contractH followsMixed (look_sound (show Tb Go.Proofs.Try.prog tb42 from ⟨s56, trivial⟩)) (fun _ => false) (fun _ => A42) 6 42 ct42 rfl (by simp [ct42]) fun a => Eq.mp (by kernel_rfl) (v42 ((cel 0 (arg 0 a)).str) ((cel 1 (arg 0 a)).list) ((cel 2 (arg 0 a)).int) ((cel 0 (arg 1 a)).str) ((cel 1 (arg 1 a)).list) ((cel 2 (arg 1 a)).int))
end Go.Sx

