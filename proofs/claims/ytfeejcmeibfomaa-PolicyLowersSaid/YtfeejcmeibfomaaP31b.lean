/- Contracts and conditions, continued. -/
import Derived.Test.YtfeejcmeibfomaaSxUse
import Derived.Test.YtfeejcmeibfomaaP31a
import Derived.KernelRfl
set_option linter.unusedVariables false
set_option linter.unusedSimpArgs false
set_option maxRecDepth 100000
set_option maxHeartbeats 4000000

namespace Go
open Go.Sx
def Sp.ltr (c : Int) : Bool := decide (97 ≤ c ∧ c ≤ 122 ∨ 65 ≤ c ∧ c ≤ 90)
def Sp.oth (c : Int) : Bool := decide (48 ≤ c ∧ c ≤ 57 ∨ c = 45 ∨ c = 46 ∨ c = 95)
def Sp.nok (s : ByteArray) (z : Int) : Bool := Sp.ltr (sAt s z) || (!decide (z = 0) && Sp.oth (sAt s z))
def Sp.nam (s : ByteArray) : Bool := decide (1 ≤ s.size ∧ s.size ≤ 64) && (List.range s.size).all (fun i => Sp.nok s (i : Int))
def Sp.namI (s : ByteArray) (z : Int) : Prop := 0 ≤ z ∧ z ≤ (s.size : Int) ∧ ∀ j : Nat, (j : Int) < z → Sp.nok s (j : Int) = true
def Sp.bl (s : ByteArray) : Nat := s.size
end Go

namespace Go
open Go.Sx
theorem Sp.namI_init (s : ByteArray) : Sp.namI s 0 := ⟨by omega, by omega, fun j h => by omega⟩
theorem Sp.namI_next {s : ByteArray} {z : Int} (h : Sp.namI s z) (hz : z < (s.size : Int)) (hp : Sp.nok s z = true) : Sp.namI s (z + 1) := by
  obtain ⟨a, b, c⟩ := h
  refine ⟨by omega, by omega, fun j hj => ?_⟩
  by_cases e : (j : Int) = z
  · rw [e]; exact hp
  · exact c j (by omega)
theorem Sp.nam_bad {s : ByteArray} {z : Int} (h0 : 0 ≤ z) (hz : z < (s.size : Int)) (h : Sp.nok s z = false) : Sp.nam s = false := by
  unfold Sp.nam
  rw [Bool.and_eq_false_iff]; right
  rw [List.all_eq_false]
  exact ⟨z.toNat, List.mem_range.2 (by omega), by rw [show ((z.toNat : Nat) : Int) = z by omega, h]; simp⟩
theorem Sp.nam_end {s : ByteArray} {z : Int} (h : Sp.namI s z) (hz : ¬ z < (s.size : Int)) : Sp.nam s = decide (1 ≤ s.size ∧ s.size ≤ 64) := by
  obtain ⟨a, b, c⟩ := h
  unfold Sp.nam
  have : (List.range s.size).all (fun i => Sp.nok s (i : Int)) = true := by
    rw [List.all_eq_true]
    intro i hi
    exact c i (by have := List.mem_range.1 hi; omega)
  rw [this, Bool.and_true]
theorem Sp.at_bd (s : ByteArray) (z : Int) : 0 ≤ sAt s z ∧ sAt s z < 256 := by
  unfold sAt
  split
  · rename_i b _
    have := b.toNat_lt
    omega
  · omega
theorem Sp.emp_size {s : ByteArray} : (s.toList == ByteArray.empty.toList) = decide (s.size = 0) := by
  rw [ByteArray.toList_eq, ByteArray.toList_eq, Bool.eq_iff_iff, beq_iff_eq, decide_eq_true_eq]
  constructor
  · intro h
    have := congrArg List.length h
    exact this
  · intro h
    exact List.eq_nil_of_length_eq_zero h
theorem Sp.or32 {c : Int} (h0 : 0 ≤ c) (h1 : c < 256) : (97 ≤ iOr .u8 c 32 ∧ iOr .u8 c 32 ≤ 122) ↔ Sp.ltr c = true := by
  have key : ∀ n : Fin 256, decide (97 ≤ iOr .u8 (n.val : Int) 32 ∧ iOr .u8 (n.val : Int) 32 ≤ 122) = Sp.ltr (n.val : Int) := by decide +kernel
  have := key ⟨c.toNat, by omega⟩
  simp only [show ((c.toNat : Nat) : Int) = c by omega] at this
  rw [← this, decide_eq_true_eq]
theorem Sp.nok_iff (s : ByteArray) (x : Int) : Sp.nok s x = true ↔ (97 ≤ sAt s x ∧ sAt s x ≤ 122 ∨ 65 ≤ sAt s x ∧ sAt s x ≤ 90) ∨ (¬ x = 0 ∧ (48 ≤ sAt s x ∧ sAt s x ≤ 57 ∨ sAt s x = 45 ∨ sAt s x = 46 ∨ sAt s x = 95)) := by
  unfold Sp.nok Sp.ltr Sp.oth
  simp only [Bool.or_eq_true, Bool.and_eq_true, Bool.not_eq_true', decide_eq_true_eq, decide_eq_false_iff_not]
theorem Sp.or32' {c : Int} (h0 : 0 ≤ c) (h1 : c < 256) : (97 ≤ iOr .u8 c 32 ∧ iOr .u8 c 32 ≤ 122) ↔ (97 ≤ c ∧ c ≤ 122 ∨ 65 ≤ c ∧ c ≤ 90) := by
  rw [Sp.or32 h0 h1, Sp.ltr, decide_eq_true_eq]
end Go

namespace Go.Sx
/-! ### function 70: ref02.letter -/
def ct70 : Ct := { ps := [(false, [.int .u8])], rs := [(false, [.bool])], pre := fun _ => True, out := fun a => [[.b (Sp.ltr (cel 0 (arg 0 a)).int)]] }
def tb70 : List (Nat × Ct) := []
def A70  : FuncId → Nat → LoopAnn := fun _ _ => LoopAnn.unroll 200
abbrev B70 (c : Int) : Prop := vcF Go.Proofs.Try.prog (look tb70) (fun _ => false) (A70) 6 70 [.int .u8 c] [] (fun sv heap => Gives [(false, [.bool])] [[.b (Sp.ltr c)]] sv heap)
theorem e70 (c : Int) : B70 c = ((bLe 97 c = true → (bLe c 122 = false → (bLe 65 c = true → (bLe c 90 = Sp.ltr c ∧ True) ∧ True) ∧ (bLe 65 c = false → (false = Sp.ltr c ∧ True) ∧ True)) ∧ (bLe c 122 = true → (true = Sp.ltr c ∧ True) ∧ True)) ∧ (bLe 97 c = false → (bLe 65 c = true → (bLe c 90 = Sp.ltr c ∧ True) ∧ True) ∧ (bLe 65 c = false → (false = Sp.ltr c ∧ True) ∧ True))) := by kernel_rfl
theorem v70 (c : Int) : Holds (Wfs [.int .u8 c] → True → B70 c) := by
  refine ⟨fun hw hp => ?_⟩
  rw [e70]
  simp only [Wfs, Wf, InR, and_true] at hw
  simp only [bLe, decide_eq_true_eq, decide_eq_false_iff_not, Sp.ltr, and_true]
  repeat' (first | apply And.intro | intro _)
  all_goals (first | omega | (simp only [decide_eq_decide]; omega) | (symm; simp only [decide_eq_true_eq]; omega) | (symm; simp only [decide_eq_false_iff_not]; omega))
theorem s70 : SoundCt Go.Proofs.Try.prog 70 ct70 :=
  contractH followsMixed (look_sound (show Tb Go.Proofs.Try.prog tb70 from trivial)) (fun _ => false) (fun _ => A70) 6 70 ct70 rfl (by simp [ct70]) fun a => Eq.mp (by kernel_rfl) (v70 ((cel 0 (arg 0 a)).int))
end Go.Sx

namespace Go.Sx
/-! ### function 79: words.Name -/
def ct79 : Ct := { ps := [(false, [.str])], rs := [(false, [.bool])], pre := fun _ => True, out := fun a => [[.b (Sp.nam (cel 0 (arg 0 a)).str)]] }
def tb79 : List (Nat × Ct) := []
def A79 (s : ByteArray) : FuncId → Nat → LoopAnn := fun _ ii => bif Nat.beq ii 2 then .inv Int (fun z => Sp.namI s z) (fun z => [(9, .int .i64 z)]) (fun _ => []) [] [0, 2, 3, 4, 5, 6, 8, 9, 10, 59] (fun z => Sp.bl s - z.toNat) else .unroll 0
abbrev B79 (s : ByteArray) : Prop := vcF Go.Proofs.Try.prog (look tb79) (fun _ => false) (A79 s) 6 79 [.str s] [] (fun sv heap => Gives [(false, [.bool])] [[.b (Sp.nam s)]] sv heap)
theorem e79 (s : ByteArray) : B79 s = (pLe (iSize s) 9223372036854775807 → (∃ (x : Int), Sp.namI s x ∧ true = true ∧ ((IntKind.i64 = IntKind.i64 ∧ 0 = x) ∧ True) ∧ True) ∧ (∀ (x : Int), true = true ∧ true = true) ∧ ∀ (x : Int), Sp.namI s x → InR .i64 x ∧ True → True → (bLt x (iSize s) = true → pIn 0 (iSize s) x ∧ (bLe 97 (iOr IntKind.u8 (sAt s x) 32) = true → pIn 0 (iSize s) x ∧ (bLe 48 (sAt s x) = true → pIn 0 (iSize s) x ∧ (bLe (sAt s x) 57 = false → pIn 0 (iSize s) x ∧ (bEq (sAt s x) 45 = false → pIn 0 (iSize s) x ∧ (bEq (sAt s x) 46 = false → pIn 0 (iSize s) x ∧ True ∧ (bNot (bLe (iOr IntKind.u8 (sAt s x) 32) 122) = true → (bEq x 0 = false → True ∧ (bNot (bEq (sAt s x) 95) = true → (false = Sp.nam s ∧ True) ∧ True) ∧ (bNot (bEq (sAt s x) 95) = false → InR .i64 (iAdd x 1) ∧ (true = true ∧ [SV.str s, SV.int .i64 (iSize s)] = [SV.str s, SV.int .i64 (iSize s)]) ∧ ([] : List HB) = [] ∧ ∃ (y : Int), Sp.namI s y ∧ true = true ∧ ((IntKind.i64 = IntKind.i64 ∧ iAdd x 1 = y) ∧ True) ∧ True ∧ Sp.bl s - y.toNat < Sp.bl s - x.toNat)) ∧ (bEq x 0 = true → (false = Sp.nam s ∧ True) ∧ True)) ∧ (bNot (bLe (iOr IntKind.u8 (sAt s x) 32) 122) = false → InR .i64 (iAdd x 1) ∧ (true = true ∧ [SV.str s, SV.int .i64 (iSize s)] = [SV.str s, SV.int .i64 (iSize s)]) ∧ ([] : List HB) = [] ∧ ∃ (y : Int), Sp.namI s y ∧ true = true ∧ ((IntKind.i64 = IntKind.i64 ∧ iAdd x 1 = y) ∧ True) ∧ True ∧ Sp.bl s - y.toNat < Sp.bl s - x.toNat)) ∧ (bEq (sAt s x) 46 = true → True ∧ (bNot (bLe (iOr IntKind.u8 (sAt s x) 32) 122) = true → (bEq x 0 = false → True ∧ InR .i64 (iAdd x 1) ∧ (true = true ∧ [SV.str s, SV.int .i64 (iSize s)] = [SV.str s, SV.int .i64 (iSize s)]) ∧ ([] : List HB) = [] ∧ ∃ (y : Int), Sp.namI s y ∧ true = true ∧ ((IntKind.i64 = IntKind.i64 ∧ iAdd x 1 = y) ∧ True) ∧ True ∧ Sp.bl s - y.toNat < Sp.bl s - x.toNat) ∧ (bEq x 0 = true → (false = Sp.nam s ∧ True) ∧ True)) ∧ (bNot (bLe (iOr IntKind.u8 (sAt s x) 32) 122) = false → InR .i64 (iAdd x 1) ∧ (true = true ∧ [SV.str s, SV.int .i64 (iSize s)] = [SV.str s, SV.int .i64 (iSize s)]) ∧ ([] : List HB) = [] ∧ ∃ (y : Int), Sp.namI s y ∧ true = true ∧ ((IntKind.i64 = IntKind.i64 ∧ iAdd x 1 = y) ∧ True) ∧ True ∧ Sp.bl s - y.toNat < Sp.bl s - x.toNat))) ∧ (bEq (sAt s x) 45 = true → True ∧ (bNot (bLe (iOr IntKind.u8 (sAt s x) 32) 122) = true → (bEq x 0 = false → True ∧ InR .i64 (iAdd x 1) ∧ (true = true ∧ [SV.str s, SV.int .i64 (iSize s)] = [SV.str s, SV.int .i64 (iSize s)]) ∧ ([] : List HB) = [] ∧ ∃ (y : Int), Sp.namI s y ∧ true = true ∧ ((IntKind.i64 = IntKind.i64 ∧ iAdd x 1 = y) ∧ True) ∧ True ∧ Sp.bl s - y.toNat < Sp.bl s - x.toNat) ∧ (bEq x 0 = true → (false = Sp.nam s ∧ True) ∧ True)) ∧ (bNot (bLe (iOr IntKind.u8 (sAt s x) 32) 122) = false → InR .i64 (iAdd x 1) ∧ (true = true ∧ [SV.str s, SV.int .i64 (iSize s)] = [SV.str s, SV.int .i64 (iSize s)]) ∧ ([] : List HB) = [] ∧ ∃ (y : Int), Sp.namI s y ∧ true = true ∧ ((IntKind.i64 = IntKind.i64 ∧ iAdd x 1 = y) ∧ True) ∧ True ∧ Sp.bl s - y.toNat < Sp.bl s - x.toNat))) ∧ (bLe (sAt s x) 57 = true → True ∧ (bNot (bLe (iOr IntKind.u8 (sAt s x) 32) 122) = true → (bEq x 0 = false → True ∧ InR .i64 (iAdd x 1) ∧ (true = true ∧ [SV.str s, SV.int .i64 (iSize s)] = [SV.str s, SV.int .i64 (iSize s)]) ∧ ([] : List HB) = [] ∧ ∃ (y : Int), Sp.namI s y ∧ true = true ∧ ((IntKind.i64 = IntKind.i64 ∧ iAdd x 1 = y) ∧ True) ∧ True ∧ Sp.bl s - y.toNat < Sp.bl s - x.toNat) ∧ (bEq x 0 = true → (false = Sp.nam s ∧ True) ∧ True)) ∧ (bNot (bLe (iOr IntKind.u8 (sAt s x) 32) 122) = false → InR .i64 (iAdd x 1) ∧ (true = true ∧ [SV.str s, SV.int .i64 (iSize s)] = [SV.str s, SV.int .i64 (iSize s)]) ∧ ([] : List HB) = [] ∧ ∃ (y : Int), Sp.namI s y ∧ true = true ∧ ((IntKind.i64 = IntKind.i64 ∧ iAdd x 1 = y) ∧ True) ∧ True ∧ Sp.bl s - y.toNat < Sp.bl s - x.toNat))) ∧ (bLe 48 (sAt s x) = false → pIn 0 (iSize s) x ∧ (bEq (sAt s x) 45 = false → pIn 0 (iSize s) x ∧ (bEq (sAt s x) 46 = false → pIn 0 (iSize s) x ∧ True ∧ (bNot (bLe (iOr IntKind.u8 (sAt s x) 32) 122) = true → (bEq x 0 = false → True ∧ (bNot (bEq (sAt s x) 95) = true → (false = Sp.nam s ∧ True) ∧ True) ∧ (bNot (bEq (sAt s x) 95) = false → InR .i64 (iAdd x 1) ∧ (true = true ∧ [SV.str s, SV.int .i64 (iSize s)] = [SV.str s, SV.int .i64 (iSize s)]) ∧ ([] : List HB) = [] ∧ ∃ (y : Int), Sp.namI s y ∧ true = true ∧ ((IntKind.i64 = IntKind.i64 ∧ iAdd x 1 = y) ∧ True) ∧ True ∧ Sp.bl s - y.toNat < Sp.bl s - x.toNat)) ∧ (bEq x 0 = true → (false = Sp.nam s ∧ True) ∧ True)) ∧ (bNot (bLe (iOr IntKind.u8 (sAt s x) 32) 122) = false → InR .i64 (iAdd x 1) ∧ (true = true ∧ [SV.str s, SV.int .i64 (iSize s)] = [SV.str s, SV.int .i64 (iSize s)]) ∧ ([] : List HB) = [] ∧ ∃ (y : Int), Sp.namI s y ∧ true = true ∧ ((IntKind.i64 = IntKind.i64 ∧ iAdd x 1 = y) ∧ True) ∧ True ∧ Sp.bl s - y.toNat < Sp.bl s - x.toNat)) ∧ (bEq (sAt s x) 46 = true → True ∧ (bNot (bLe (iOr IntKind.u8 (sAt s x) 32) 122) = true → (bEq x 0 = false → True ∧ InR .i64 (iAdd x 1) ∧ (true = true ∧ [SV.str s, SV.int .i64 (iSize s)] = [SV.str s, SV.int .i64 (iSize s)]) ∧ ([] : List HB) = [] ∧ ∃ (y : Int), Sp.namI s y ∧ true = true ∧ ((IntKind.i64 = IntKind.i64 ∧ iAdd x 1 = y) ∧ True) ∧ True ∧ Sp.bl s - y.toNat < Sp.bl s - x.toNat) ∧ (bEq x 0 = true → (false = Sp.nam s ∧ True) ∧ True)) ∧ (bNot (bLe (iOr IntKind.u8 (sAt s x) 32) 122) = false → InR .i64 (iAdd x 1) ∧ (true = true ∧ [SV.str s, SV.int .i64 (iSize s)] = [SV.str s, SV.int .i64 (iSize s)]) ∧ ([] : List HB) = [] ∧ ∃ (y : Int), Sp.namI s y ∧ true = true ∧ ((IntKind.i64 = IntKind.i64 ∧ iAdd x 1 = y) ∧ True) ∧ True ∧ Sp.bl s - y.toNat < Sp.bl s - x.toNat))) ∧ (bEq (sAt s x) 45 = true → True ∧ (bNot (bLe (iOr IntKind.u8 (sAt s x) 32) 122) = true → (bEq x 0 = false → True ∧ InR .i64 (iAdd x 1) ∧ (true = true ∧ [SV.str s, SV.int .i64 (iSize s)] = [SV.str s, SV.int .i64 (iSize s)]) ∧ ([] : List HB) = [] ∧ ∃ (y : Int), Sp.namI s y ∧ true = true ∧ ((IntKind.i64 = IntKind.i64 ∧ iAdd x 1 = y) ∧ True) ∧ True ∧ Sp.bl s - y.toNat < Sp.bl s - x.toNat) ∧ (bEq x 0 = true → (false = Sp.nam s ∧ True) ∧ True)) ∧ (bNot (bLe (iOr IntKind.u8 (sAt s x) 32) 122) = false → InR .i64 (iAdd x 1) ∧ (true = true ∧ [SV.str s, SV.int .i64 (iSize s)] = [SV.str s, SV.int .i64 (iSize s)]) ∧ ([] : List HB) = [] ∧ ∃ (y : Int), Sp.namI s y ∧ true = true ∧ ((IntKind.i64 = IntKind.i64 ∧ iAdd x 1 = y) ∧ True) ∧ True ∧ Sp.bl s - y.toNat < Sp.bl s - x.toNat)))) ∧ (bLe 97 (iOr IntKind.u8 (sAt s x) 32) = false → pIn 0 (iSize s) x ∧ (bLe 48 (sAt s x) = true → pIn 0 (iSize s) x ∧ (bLe (sAt s x) 57 = false → pIn 0 (iSize s) x ∧ (bEq (sAt s x) 45 = false → pIn 0 (iSize s) x ∧ (bEq (sAt s x) 46 = false → pIn 0 (iSize s) x ∧ True ∧ (bEq x 0 = false → True ∧ (bNot (bEq (sAt s x) 95) = true → (false = Sp.nam s ∧ True) ∧ True) ∧ (bNot (bEq (sAt s x) 95) = false → InR .i64 (iAdd x 1) ∧ (true = true ∧ [SV.str s, SV.int .i64 (iSize s)] = [SV.str s, SV.int .i64 (iSize s)]) ∧ ([] : List HB) = [] ∧ ∃ (y : Int), Sp.namI s y ∧ true = true ∧ ((IntKind.i64 = IntKind.i64 ∧ iAdd x 1 = y) ∧ True) ∧ True ∧ Sp.bl s - y.toNat < Sp.bl s - x.toNat)) ∧ (bEq x 0 = true → (false = Sp.nam s ∧ True) ∧ True)) ∧ (bEq (sAt s x) 46 = true → True ∧ (bEq x 0 = false → True ∧ InR .i64 (iAdd x 1) ∧ (true = true ∧ [SV.str s, SV.int .i64 (iSize s)] = [SV.str s, SV.int .i64 (iSize s)]) ∧ ([] : List HB) = [] ∧ ∃ (y : Int), Sp.namI s y ∧ true = true ∧ ((IntKind.i64 = IntKind.i64 ∧ iAdd x 1 = y) ∧ True) ∧ True ∧ Sp.bl s - y.toNat < Sp.bl s - x.toNat) ∧ (bEq x 0 = true → (false = Sp.nam s ∧ True) ∧ True))) ∧ (bEq (sAt s x) 45 = true → True ∧ (bEq x 0 = false → True ∧ InR .i64 (iAdd x 1) ∧ (true = true ∧ [SV.str s, SV.int .i64 (iSize s)] = [SV.str s, SV.int .i64 (iSize s)]) ∧ ([] : List HB) = [] ∧ ∃ (y : Int), Sp.namI s y ∧ true = true ∧ ((IntKind.i64 = IntKind.i64 ∧ iAdd x 1 = y) ∧ True) ∧ True ∧ Sp.bl s - y.toNat < Sp.bl s - x.toNat) ∧ (bEq x 0 = true → (false = Sp.nam s ∧ True) ∧ True))) ∧ (bLe (sAt s x) 57 = true → True ∧ (bEq x 0 = false → True ∧ InR .i64 (iAdd x 1) ∧ (true = true ∧ [SV.str s, SV.int .i64 (iSize s)] = [SV.str s, SV.int .i64 (iSize s)]) ∧ ([] : List HB) = [] ∧ ∃ (y : Int), Sp.namI s y ∧ true = true ∧ ((IntKind.i64 = IntKind.i64 ∧ iAdd x 1 = y) ∧ True) ∧ True ∧ Sp.bl s - y.toNat < Sp.bl s - x.toNat) ∧ (bEq x 0 = true → (false = Sp.nam s ∧ True) ∧ True))) ∧ (bLe 48 (sAt s x) = false → pIn 0 (iSize s) x ∧ (bEq (sAt s x) 45 = false → pIn 0 (iSize s) x ∧ (bEq (sAt s x) 46 = false → pIn 0 (iSize s) x ∧ True ∧ (bEq x 0 = false → True ∧ (bNot (bEq (sAt s x) 95) = true → (false = Sp.nam s ∧ True) ∧ True) ∧ (bNot (bEq (sAt s x) 95) = false → InR .i64 (iAdd x 1) ∧ (true = true ∧ [SV.str s, SV.int .i64 (iSize s)] = [SV.str s, SV.int .i64 (iSize s)]) ∧ ([] : List HB) = [] ∧ ∃ (y : Int), Sp.namI s y ∧ true = true ∧ ((IntKind.i64 = IntKind.i64 ∧ iAdd x 1 = y) ∧ True) ∧ True ∧ Sp.bl s - y.toNat < Sp.bl s - x.toNat)) ∧ (bEq x 0 = true → (false = Sp.nam s ∧ True) ∧ True)) ∧ (bEq (sAt s x) 46 = true → True ∧ (bEq x 0 = false → True ∧ InR .i64 (iAdd x 1) ∧ (true = true ∧ [SV.str s, SV.int .i64 (iSize s)] = [SV.str s, SV.int .i64 (iSize s)]) ∧ ([] : List HB) = [] ∧ ∃ (y : Int), Sp.namI s y ∧ true = true ∧ ((IntKind.i64 = IntKind.i64 ∧ iAdd x 1 = y) ∧ True) ∧ True ∧ Sp.bl s - y.toNat < Sp.bl s - x.toNat) ∧ (bEq x 0 = true → (false = Sp.nam s ∧ True) ∧ True))) ∧ (bEq (sAt s x) 45 = true → True ∧ (bEq x 0 = false → True ∧ InR .i64 (iAdd x 1) ∧ (true = true ∧ [SV.str s, SV.int .i64 (iSize s)] = [SV.str s, SV.int .i64 (iSize s)]) ∧ ([] : List HB) = [] ∧ ∃ (y : Int), Sp.namI s y ∧ true = true ∧ ((IntKind.i64 = IntKind.i64 ∧ iAdd x 1 = y) ∧ True) ∧ True ∧ Sp.bl s - y.toNat < Sp.bl s - x.toNat) ∧ (bEq x 0 = true → (false = Sp.nam s ∧ True) ∧ True))))) ∧ (bLt x (iSize s) = false → (sDiff s (ByteArray.mk (Array.mk [])) = true → pLe (iSize s) 9223372036854775807 → (bLe (iSize s) 64 = Sp.nam s ∧ True) ∧ True) ∧ (sDiff s (ByteArray.mk (Array.mk [])) = false → (false = Sp.nam s ∧ True) ∧ True))) := by kernel_rfl
theorem v79 (s : ByteArray) : Holds (Wfs [.str s] → True → B79 s) := by
  refine ⟨fun hw hp => ?_⟩
  rw [e79]
  simp only [Wfs, Wf, InR, and_true] at hw
  have hm : maxLen = 9223372036854775807 := rfl
  simp only [hm] at hw
  simp only [iAdd, iSub, iMul, iLen, iSize, bLt, bLe, bEq, bNe, bNot, bSame, bDiff, sSame, sDiff, bIf, bAnd, InR, pLe, pIn, pRoom, eq_self, true_and, and_true, true_implies, implies_true, decide_eq_true_eq, decide_eq_false_iff_not, Bool.not_eq_true', Bool.not_eq_false', Bool.true_eq_false, Bool.false_eq_true, false_implies]
  intro _
  refine ⟨⟨0, Sp.namI_init s, rfl⟩, fun x hx _ => ⟨fun hlt => ?_, fun hge => ?_⟩⟩
  · have h0 := hx.1
    have cb := Sp.at_bd s x
    have hN := Sp.nok_iff s x
    have ho := Sp.or32' cb.1 cb.2
    have hz : Sp.bl s = s.size := rfl
    generalize ho1 : iOr IntKind.u8 (sAt s x) 32 = o at *
    have bad : ¬ ((97 ≤ sAt s x ∧ sAt s x ≤ 122 ∨ 65 ≤ sAt s x ∧ sAt s x ≤ 90) ∨ (¬ x = 0 ∧ (48 ≤ sAt s x ∧ sAt s x ≤ 57 ∨ sAt s x = 45 ∨ sAt s x = 46 ∨ sAt s x = 95))) → false = Sp.nam s := fun h => (Sp.nam_bad h0 hlt (by
      cases e : Sp.nok s x with
      | false => rfl
      | true => exact absurd (hN.1 e) h)).symm
    have fwd : ((97 ≤ sAt s x ∧ sAt s x ≤ 122 ∨ 65 ≤ sAt s x ∧ sAt s x ≤ 90) ∨ (¬ x = 0 ∧ (48 ≤ sAt s x ∧ sAt s x ≤ 57 ∨ sAt s x = 45 ∨ sAt s x = 46 ∨ sAt s x = 95))) → ∃ y, Sp.namI s y ∧ x + 1 = y ∧ Sp.bl s - y.toNat < Sp.bl s - x.toNat := fun h =>
      ⟨x + 1, Sp.namI_next hx hlt (hN.2 h), rfl, by omega⟩
    generalize sAt s x = c at *
    clear hN ho1
    repeat' (first | apply And.intro | intro _)
    all_goals first | (clear bad fwd; omega) | (refine bad ?_; clear bad fwd; omega) | (refine fwd ?_; clear bad fwd; omega)
  · rw [Sp.nam_end hx hge, show (ByteArray.mk (Array.mk [])) = ByteArray.empty from rfl, Sp.emp_size]
    simp only [decide_eq_true_eq, decide_eq_false_iff_not]
    refine ⟨fun h _ => ?_, fun h => ?_⟩
    · simp only [decide_eq_decide]; omega
    · symm; simp only [decide_eq_false_iff_not]; omega
theorem s79 : SoundCt Go.Proofs.Try.prog 79 ct79 :=
  contractH followsMixed (look_sound (show Tb Go.Proofs.Try.prog tb79 from trivial)) (fun _ => false) (fun a => A79 ((cel 0 (arg 0 a)).str)) 6 79 ct79 rfl (by simp [ct79]) fun a => Eq.mp (by kernel_rfl) (v79 ((cel 0 (arg 0 a)).str))
end Go.Sx

namespace Go.Sx
/-! ### function 54: ref02.Name -/
def ct54 : Ct := { ps := [(false, [.str])], rs := [(false, [.bool])], pre := fun _ => True, out := fun a => [[.b (Sp.nam (cel 0 (arg 0 a)).str)]] }
def tb54 : List (Nat × Ct) := [(70, ct70)]
def A54 (s : ByteArray) : FuncId → Nat → LoopAnn := fun _ ii => bif Nat.beq ii 2 then .inv Int (fun z => Sp.namI s z) (fun z => [(3, .int .i64 z)]) (fun _ => []) [] [0, 2, 3, 4, 8, 40] (fun z => Sp.bl s - z.toNat) else .unroll 0
abbrev B54 (s : ByteArray) : Prop := vcF Go.Proofs.Try.prog (look tb54) (fun _ => false) (A54 s) 6 54 [.str s] [] (fun sv heap => Gives [(false, [.bool])] [[.b (Sp.nam s)]] sv heap)
theorem e54 (s : ByteArray) : B54 s = ((∃ (x : Int), Sp.namI s x ∧ true = true ∧ ((IntKind.i64 = IntKind.i64 ∧ 0 = x) ∧ True) ∧ True) ∧ (∀ (x : Int), true = true ∧ true = true) ∧ ∀ (x : Int), Sp.namI s x → InR .i64 x ∧ True → True → pLe (iSize s) 9223372036854775807 → (bLt x (iSize s) = true → pIn 0 (iSize s) x ∧ True ∧ (True → True ∧ (bNot (Sp.ltr (sAt s x)) = true → (bEq x 0 = false → (bLt (sAt s x) 48 = false → (bLt 57 (sAt s x) = true → (bNe (sAt s x) 45 = true → (bNe (sAt s x) 46 = true → (bNe (sAt s x) 95 = true → (false = Sp.nam s ∧ True) ∧ True) ∧ (bNe (sAt s x) 95 = false → InR .i64 (iAdd x 1) ∧ (true = true ∧ [SV.str s] = [SV.str s]) ∧ ([] : List HB) = [] ∧ ∃ (y : Int), Sp.namI s y ∧ true = true ∧ ((IntKind.i64 = IntKind.i64 ∧ iAdd x 1 = y) ∧ True) ∧ True ∧ Sp.bl s - y.toNat < Sp.bl s - x.toNat)) ∧ (bNe (sAt s x) 46 = false → InR .i64 (iAdd x 1) ∧ (true = true ∧ [SV.str s] = [SV.str s]) ∧ ([] : List HB) = [] ∧ ∃ (y : Int), Sp.namI s y ∧ true = true ∧ ((IntKind.i64 = IntKind.i64 ∧ iAdd x 1 = y) ∧ True) ∧ True ∧ Sp.bl s - y.toNat < Sp.bl s - x.toNat)) ∧ (bNe (sAt s x) 45 = false → InR .i64 (iAdd x 1) ∧ (true = true ∧ [SV.str s] = [SV.str s]) ∧ ([] : List HB) = [] ∧ ∃ (y : Int), Sp.namI s y ∧ true = true ∧ ((IntKind.i64 = IntKind.i64 ∧ iAdd x 1 = y) ∧ True) ∧ True ∧ Sp.bl s - y.toNat < Sp.bl s - x.toNat)) ∧ (bLt 57 (sAt s x) = false → InR .i64 (iAdd x 1) ∧ (true = true ∧ [SV.str s] = [SV.str s]) ∧ ([] : List HB) = [] ∧ ∃ (y : Int), Sp.namI s y ∧ true = true ∧ ((IntKind.i64 = IntKind.i64 ∧ iAdd x 1 = y) ∧ True) ∧ True ∧ Sp.bl s - y.toNat < Sp.bl s - x.toNat)) ∧ (bLt (sAt s x) 48 = true → (bNe (sAt s x) 45 = true → (bNe (sAt s x) 46 = true → (bNe (sAt s x) 95 = true → (false = Sp.nam s ∧ True) ∧ True) ∧ (bNe (sAt s x) 95 = false → InR .i64 (iAdd x 1) ∧ (true = true ∧ [SV.str s] = [SV.str s]) ∧ ([] : List HB) = [] ∧ ∃ (y : Int), Sp.namI s y ∧ true = true ∧ ((IntKind.i64 = IntKind.i64 ∧ iAdd x 1 = y) ∧ True) ∧ True ∧ Sp.bl s - y.toNat < Sp.bl s - x.toNat)) ∧ (bNe (sAt s x) 46 = false → InR .i64 (iAdd x 1) ∧ (true = true ∧ [SV.str s] = [SV.str s]) ∧ ([] : List HB) = [] ∧ ∃ (y : Int), Sp.namI s y ∧ true = true ∧ ((IntKind.i64 = IntKind.i64 ∧ iAdd x 1 = y) ∧ True) ∧ True ∧ Sp.bl s - y.toNat < Sp.bl s - x.toNat)) ∧ (bNe (sAt s x) 45 = false → InR .i64 (iAdd x 1) ∧ (true = true ∧ [SV.str s] = [SV.str s]) ∧ ([] : List HB) = [] ∧ ∃ (y : Int), Sp.namI s y ∧ true = true ∧ ((IntKind.i64 = IntKind.i64 ∧ iAdd x 1 = y) ∧ True) ∧ True ∧ Sp.bl s - y.toNat < Sp.bl s - x.toNat))) ∧ (bEq x 0 = true → (false = Sp.nam s ∧ True) ∧ True)) ∧ (bNot (Sp.ltr (sAt s x)) = false → InR .i64 (iAdd x 1) ∧ (true = true ∧ [SV.str s] = [SV.str s]) ∧ ([] : List HB) = [] ∧ ∃ (y : Int), Sp.namI s y ∧ true = true ∧ ((IntKind.i64 = IntKind.i64 ∧ iAdd x 1 = y) ∧ True) ∧ True ∧ Sp.bl s - y.toNat < Sp.bl s - x.toNat))) ∧ (bLt x (iSize s) = false → (sDiff s (ByteArray.mk (Array.mk [])) = true → pLe (iSize s) 9223372036854775807 → (bLe (iSize s) 64 = Sp.nam s ∧ True) ∧ True) ∧ (sDiff s (ByteArray.mk (Array.mk [])) = false → (false = Sp.nam s ∧ True) ∧ True))) := by kernel_rfl
theorem v54 (s : ByteArray) : Holds (Wfs [.str s] → True → B54 s) := by
  refine ⟨fun hw hp => ?_⟩
  rw [e54]
  simp only [Wfs, Wf, InR, and_true] at hw
  have hm : maxLen = 9223372036854775807 := rfl
  simp only [hm] at hw
  simp only [iAdd, iSub, iMul, iLen, iSize, bLt, bLe, bEq, bNe, bNot, bSame, bDiff, sSame, sDiff, bIf, bAnd, InR, pLe, pIn, pRoom, eq_self, true_and, and_true, true_implies, implies_true, decide_eq_true_eq, decide_eq_false_iff_not, Bool.not_eq_true', Bool.not_eq_false', Bool.true_eq_false, Bool.false_eq_true, false_implies]
  have ltr1 : ∀ c : Int, (Sp.ltr c = true) = (97 ≤ c ∧ c ≤ 122 ∨ 65 ≤ c ∧ c ≤ 90) := fun c => by simp only [Sp.ltr, decide_eq_true_eq]
  have ltr0 : ∀ c : Int, (Sp.ltr c = false) = ¬ (97 ≤ c ∧ c ≤ 122 ∨ 65 ≤ c ∧ c ≤ 90) := fun c => by simp only [Sp.ltr, decide_eq_false_iff_not]
  simp only [ltr1, ltr0]
  refine ⟨⟨0, Sp.namI_init s, rfl⟩, fun x hx _ _ => ⟨fun hlt => ?_, fun hge => ?_⟩⟩
  · have h0 := hx.1
    have cb := Sp.at_bd s x
    have hN := Sp.nok_iff s x
    have ho := Sp.or32' cb.1 cb.2
    have hz : Sp.bl s = s.size := rfl
    generalize ho1 : iOr IntKind.u8 (sAt s x) 32 = o at *
    have bad : ¬ ((97 ≤ sAt s x ∧ sAt s x ≤ 122 ∨ 65 ≤ sAt s x ∧ sAt s x ≤ 90) ∨ (¬ x = 0 ∧ (48 ≤ sAt s x ∧ sAt s x ≤ 57 ∨ sAt s x = 45 ∨ sAt s x = 46 ∨ sAt s x = 95))) → false = Sp.nam s := fun h => (Sp.nam_bad h0 hlt (by
      cases e : Sp.nok s x with
      | false => rfl
      | true => exact absurd (hN.1 e) h)).symm
    have fwd : ((97 ≤ sAt s x ∧ sAt s x ≤ 122 ∨ 65 ≤ sAt s x ∧ sAt s x ≤ 90) ∨ (¬ x = 0 ∧ (48 ≤ sAt s x ∧ sAt s x ≤ 57 ∨ sAt s x = 45 ∨ sAt s x = 46 ∨ sAt s x = 95))) → ∃ y, Sp.namI s y ∧ x + 1 = y ∧ Sp.bl s - y.toNat < Sp.bl s - x.toNat := fun h =>
      ⟨x + 1, Sp.namI_next hx hlt (hN.2 h), rfl, by omega⟩
    generalize sAt s x = c at *
    clear hN ho1
    repeat' (first | apply And.intro | intro _)
    all_goals first | (clear bad fwd; omega) | (refine bad ?_; clear bad fwd; omega) | (refine fwd ?_; clear bad fwd; omega)
  · rw [Sp.nam_end hx hge, show (ByteArray.mk (Array.mk [])) = ByteArray.empty from rfl, Sp.emp_size]
    simp only [decide_eq_true_eq, decide_eq_false_iff_not]
    refine ⟨fun h _ => ?_, fun h => ?_⟩
    · simp only [decide_eq_decide]; omega
    · symm; simp only [decide_eq_false_iff_not]; omega
theorem s54 : SoundCt Go.Proofs.Try.prog 54 ct54 :=
  contractH followsMixed (look_sound (show Tb Go.Proofs.Try.prog tb54 from ⟨s70, trivial⟩)) (fun _ => false) (fun a => A54 ((cel 0 (arg 0 a)).str)) 6 54 ct54 rfl (by simp [ct54]) fun a => Eq.mp (by kernel_rfl) (v54 ((cel 0 (arg 0 a)).str))
end Go.Sx

