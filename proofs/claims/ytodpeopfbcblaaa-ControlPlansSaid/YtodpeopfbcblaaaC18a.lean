/- The functions of chapter 18: what they compute. -/
import Derived.Test.YtodpeopfbcblaaaSxUse
import Derived.Test.YtodpeopfbcblaaaProg
import Derived.KernelRfl
set_option linter.unusedVariables false
set_option linter.unusedSimpArgs false
set_option maxRecDepth 100000
namespace Go.Sx
open Go.RowKit
theorem followsMixed : Go.Proofs.Try.prog.follows .mixedOrders = true := by kernel_rfl
end Go.Sx

namespace Go
open Go.Sx
def Sp.valid (t d g m : Int) : Bool := decide (0 ≤ t ∧ t ≤ 65536 ∧ 0 ≤ d ∧ d ≤ 65536 ∧ 1 ≤ g ∧ g ≤ 4096 ∧ 0 ≤ m ∧ m ≤ 4096)
def Sp.adjust (t d g m n : Int) : Int := if Sp.valid t d g m = false ∨ n < 0 ∨ 2147483647 < n then 0 else if n < t then -(min m (max 0 (t - n - d) * g)) else min m (max 0 (n - t - d) * g)
end Go

namespace Go.Sx
/-! ### function 15: control.Valid -/
def ct15 : Ct := { ps := [(true, [.int .i64, .int .i64, .int .i64, .int .i64])], rs := [(false, [.bool])], pre := fun _ => True, out := fun a => [[.b (Sp.valid (cel 0 (arg 0 a)).int (cel 1 (arg 0 a)).int (cel 2 (arg 0 a)).int (cel 3 (arg 0 a)).int)]] }
def tb15 : List (Nat × Ct) := []
theorem e15 (t : Int) (d : Int) (g : Int) (m : Int) : vcF Go.Proofs.Try.prog (look tb15) (fun _ => false) (fun _ _ => LoopAnn.unroll 200) 6 15 [.agg [.int .i64 t, .int .i64 d, .int .i64 g, .int .i64 m]] [] (fun sv heap => Gives [(false, [.bool])] [[.b (Sp.valid t d g m)]] sv heap) = ((bLe 0 t = true → (bLe t 65536 = true → (bLe 0 d = true → (bLe d 65536 = true → (bLe 1 g = true → (bLe g 4096 = true → (bLe 0 m = true → (bLe m 4096 = Sp.valid t d g m ∧ True) ∧ True) ∧ (bLe 0 m = false → (false = Sp.valid t d g m ∧ True) ∧ True)) ∧ (bLe g 4096 = false → (false = Sp.valid t d g m ∧ True) ∧ True)) ∧ (bLe 1 g = false → (false = Sp.valid t d g m ∧ True) ∧ True)) ∧ (bLe d 65536 = false → (false = Sp.valid t d g m ∧ True) ∧ True)) ∧ (bLe 0 d = false → (false = Sp.valid t d g m ∧ True) ∧ True)) ∧ (bLe t 65536 = false → (false = Sp.valid t d g m ∧ True) ∧ True)) ∧ (bLe 0 t = false → (false = Sp.valid t d g m ∧ True) ∧ True)) := by kernel_rfl
theorem v15 (t : Int) (d : Int) (g : Int) (m : Int) : Holds (Wfs [.agg [.int .i64 t, .int .i64 d, .int .i64 g, .int .i64 m]] → True → vcF Go.Proofs.Try.prog (look tb15) (fun _ => false) (fun _ _ => LoopAnn.unroll 200) 6 15 [.agg [.int .i64 t, .int .i64 d, .int .i64 g, .int .i64 m]] [] (fun sv heap => Gives [(false, [.bool])] [[.b (Sp.valid t d g m)]] sv heap)) := by
  refine ⟨fun hw hp => ?_⟩
  rw [e15]
  simp only [bLe, decide_eq_true_eq, decide_eq_false_iff_not, Sp.valid, and_true]
  repeat' (first | apply And.intro | intro _)
  all_goals (first | (simp only [decide_eq_decide]; omega) | (symm; simp only [decide_eq_false_iff_not]; omega))
theorem s15 : SoundCt Go.Proofs.Try.prog 15 ct15 :=
  contractH followsMixed (look_sound (show Tb Go.Proofs.Try.prog tb15 from trivial)) (fun _ => false) (fun _ => fun _ _ => LoopAnn.unroll 200) 6 15 ct15 rfl (by simp [ct15]) fun a => Eq.mp (by kernel_rfl) (v15 ((cel 0 (arg 0 a)).int) ((cel 1 (arg 0 a)).int) ((cel 2 (arg 0 a)).int) ((cel 3 (arg 0 a)).int))
end Go.Sx

namespace Go.Sx
/-! ### function 16: ref18.Valid -/
def ct16 : Ct := { ps := [(true, [.int .i64, .int .i64, .int .i64, .int .i64])], rs := [(false, [.bool])], pre := fun _ => True, out := fun a => [[.b (Sp.valid (cel 0 (arg 0 a)).int (cel 1 (arg 0 a)).int (cel 2 (arg 0 a)).int (cel 3 (arg 0 a)).int)]] }
def tb16 : List (Nat × Ct) := []
theorem e16 (t : Int) (d : Int) (g : Int) (m : Int) : vcF Go.Proofs.Try.prog (look tb16) (fun _ => false) (fun _ _ => LoopAnn.unroll 200) 6 16 [.agg [.int .i64 t, .int .i64 d, .int .i64 g, .int .i64 m]] [] (fun sv heap => Gives [(false, [.bool])] [[.b (Sp.valid t d g m)]] sv heap) = ((bLe 0 t = true → (bLe t 65536 = true → (bLe 0 d = true → (bLe d 65536 = true → (bLe 1 g = true → (bLe g 4096 = true → (bLe 0 m = true → (bLe m 4096 = Sp.valid t d g m ∧ True) ∧ True) ∧ (bLe 0 m = false → (false = Sp.valid t d g m ∧ True) ∧ True)) ∧ (bLe g 4096 = false → (false = Sp.valid t d g m ∧ True) ∧ True)) ∧ (bLe 1 g = false → (false = Sp.valid t d g m ∧ True) ∧ True)) ∧ (bLe d 65536 = false → (false = Sp.valid t d g m ∧ True) ∧ True)) ∧ (bLe 0 d = false → (false = Sp.valid t d g m ∧ True) ∧ True)) ∧ (bLe t 65536 = false → (false = Sp.valid t d g m ∧ True) ∧ True)) ∧ (bLe 0 t = false → (false = Sp.valid t d g m ∧ True) ∧ True)) := by kernel_rfl
theorem v16 (t : Int) (d : Int) (g : Int) (m : Int) : Holds (Wfs [.agg [.int .i64 t, .int .i64 d, .int .i64 g, .int .i64 m]] → True → vcF Go.Proofs.Try.prog (look tb16) (fun _ => false) (fun _ _ => LoopAnn.unroll 200) 6 16 [.agg [.int .i64 t, .int .i64 d, .int .i64 g, .int .i64 m]] [] (fun sv heap => Gives [(false, [.bool])] [[.b (Sp.valid t d g m)]] sv heap)) := by
  refine ⟨fun hw hp => ?_⟩
  rw [e16]
  simp only [bLe, decide_eq_true_eq, decide_eq_false_iff_not, Sp.valid, and_true]
  repeat' (first | apply And.intro | intro _)
  all_goals (first | (simp only [decide_eq_decide]; omega) | (symm; simp only [decide_eq_false_iff_not]; omega))
theorem s16 : SoundCt Go.Proofs.Try.prog 16 ct16 :=
  contractH followsMixed (look_sound (show Tb Go.Proofs.Try.prog tb16 from trivial)) (fun _ => false) (fun _ => fun _ _ => LoopAnn.unroll 200) 6 16 ct16 rfl (by simp [ct16]) fun a => Eq.mp (by kernel_rfl) (v16 ((cel 0 (arg 0 a)).int) ((cel 1 (arg 0 a)).int) ((cel 2 (arg 0 a)).int) ((cel 3 (arg 0 a)).int))
end Go.Sx

namespace Go
theorem Sp.valid_iff (t d g m : Int) : Sp.valid t d g m = true ↔ 0 ≤ t ∧ t ≤ 65536 ∧ 0 ≤ d ∧ d ≤ 65536 ∧ 1 ≤ g ∧ g ≤ 4096 ∧ 0 ≤ m ∧ m ≤ 4096 := by simp [Sp.valid]
theorem Sp.gain {t d g m x : Int} (h : Sp.valid t d g m = true) (h1 : 0 ≤ x) (h2 : x ≤ 4294967296) : 0 ≤ x * g ∧ x * g ≤ 4294967296 * 4096 := by
  rw [Sp.valid_iff] at h
  exact Go.Sx.mul_bd h1 h2 (by omega) (by omega)
end Go

namespace Go.Sx
/-! ### function 13: control.Adjust -/
def ct13 : Ct := { ps := [(true, [.int .i64, .int .i64, .int .i64, .int .i64]), (false, [.int .i64])], rs := [(false, [.int .i64])], pre := fun _ => True, out := fun a => [[.i (Sp.adjust (cel 0 (arg 0 a)).int (cel 1 (arg 0 a)).int (cel 2 (arg 0 a)).int (cel 3 (arg 0 a)).int (cel 0 (arg 1 a)).int)]] }
def tb13 : List (Nat × Ct) := [(15, ct15)]
theorem e13 (t : Int) (d : Int) (g : Int) (m : Int) (n : Int) : vcF Go.Proofs.Try.prog (look tb13) (fun _ => false) (fun _ _ => LoopAnn.unroll 200) 6 13 [.agg [.int .i64 t, .int .i64 d, .int .i64 g, .int .i64 m], .int .i64 n] [] (fun sv heap => Gives [(false, [.int .i64])] [[.i (Sp.adjust t d g m n)]] sv heap) = (True ∧ (True → True ∧ (bNot (Sp.valid t d g m) = false → (bLt n 0 = false → (bLt 2147483647 n = true → (0 = Sp.adjust t d g m n ∧ True) ∧ True) ∧ (bLt 2147483647 n = false → (bLt n t = true → InR IntKind.i64 (iSub t n) ∧ InR IntKind.i64 (iSub (iSub t n) d) ∧ InR IntKind.i64 (iMul (iMax 0 (iSub (iSub t n) d)) g) ∧ InR IntKind.i64 (iSub 0 (iMin m (iMul (iMax 0 (iSub (iSub t n) d)) g))) ∧ (iSub 0 (iMin m (iMul (iMax 0 (iSub (iSub t n) d)) g)) = Sp.adjust t d g m n ∧ True) ∧ True) ∧ (bLt n t = false → InR IntKind.i64 (iSub n t) ∧ InR IntKind.i64 (iSub (iSub n t) d) ∧ InR IntKind.i64 (iMul (iMax 0 (iSub (iSub n t) d)) g) ∧ (iMin m (iMul (iMax 0 (iSub (iSub n t) d)) g) = Sp.adjust t d g m n ∧ True) ∧ True))) ∧ (bLt n 0 = true → (0 = Sp.adjust t d g m n ∧ True) ∧ True)) ∧ (bNot (Sp.valid t d g m) = true → (0 = Sp.adjust t d g m n ∧ True) ∧ True))) := by kernel_rfl
theorem v13 (t : Int) (d : Int) (g : Int) (m : Int) (n : Int) : Holds (Wfs [.agg [.int .i64 t, .int .i64 d, .int .i64 g, .int .i64 m], .int .i64 n] → True → vcF Go.Proofs.Try.prog (look tb13) (fun _ => false) (fun _ _ => LoopAnn.unroll 200) 6 13 [.agg [.int .i64 t, .int .i64 d, .int .i64 g, .int .i64 m], .int .i64 n] [] (fun sv heap => Gives [(false, [.int .i64])] [[.i (Sp.adjust t d g m n)]] sv heap)) := by
  refine ⟨fun hw hp => ?_⟩
  rw [e13]
  simp only [iAdd, iSub, iMul, iQuo, iRem, iMin, iMax, bEq, bNe, bLt, bLe, bNot, InR, pIn, pNe, pLe, decide_eq_true_eq, decide_eq_false_iff_not, Bool.not_eq_true', Bool.not_eq_false', true_and, and_true] at *
  simp only [Wfs, Wf, InR, and_true] at hw
  simp only [true_implies, Sp.adjust]
  refine ⟨fun hv => ⟨fun h1 => ⟨fun h2 => ?_, fun h2 => ⟨fun h3 => ?_, fun h3 => ?_⟩⟩, fun h1 => ?_⟩, fun hv => ?_⟩
  · rw [if_pos (by simp [hv]; omega)]
  · have hb := Sp.gain (x := max 0 (t - n - d)) hv (by omega) (by rw [Sp.valid_iff] at hv; omega)
    have hf : ¬ (Sp.valid t d g m = false ∨ n < 0 ∨ 2147483647 < n) := by simp only [hv]; simp; omega
    rw [if_neg hf, if_pos h3]
    rw [Sp.valid_iff] at hv
    omega
  · have hb := Sp.gain (x := max 0 (n - t - d)) hv (by omega) (by rw [Sp.valid_iff] at hv; omega)
    have hf : ¬ (Sp.valid t d g m = false ∨ n < 0 ∨ 2147483647 < n) := by simp only [hv]; simp; omega
    rw [if_neg hf, if_neg (by omega)]
    rw [Sp.valid_iff] at hv
    omega
  · rw [if_pos (by simp [hv]; omega)]
  · rw [if_pos (by simp [hv])]
theorem s13 : SoundCt Go.Proofs.Try.prog 13 ct13 :=
  contractH followsMixed (look_sound (show Tb Go.Proofs.Try.prog tb13 from ⟨s15, trivial⟩)) (fun _ => false) (fun _ => fun _ _ => LoopAnn.unroll 200) 6 13 ct13 rfl (by simp [ct13]) fun a => Eq.mp (by kernel_rfl) (v13 ((cel 0 (arg 0 a)).int) ((cel 1 (arg 0 a)).int) ((cel 2 (arg 0 a)).int) ((cel 3 (arg 0 a)).int) ((cel 0 (arg 1 a)).int))
end Go.Sx

namespace Go.Sx
/-! ### function 14: ref18.Adjust -/
def ct14 : Ct := { ps := [(true, [.int .i64, .int .i64, .int .i64, .int .i64]), (false, [.int .i64])], rs := [(false, [.int .i64])], pre := fun _ => True, out := fun a => [[.i (Sp.adjust (cel 0 (arg 0 a)).int (cel 1 (arg 0 a)).int (cel 2 (arg 0 a)).int (cel 3 (arg 0 a)).int (cel 0 (arg 1 a)).int)]] }
def tb14 : List (Nat × Ct) := [(16, ct16)]
theorem e14 (t : Int) (d : Int) (g : Int) (m : Int) (n : Int) : vcF Go.Proofs.Try.prog (look tb14) (fun _ => false) (fun _ _ => LoopAnn.unroll 200) 6 14 [.agg [.int .i64 t, .int .i64 d, .int .i64 g, .int .i64 m], .int .i64 n] [] (fun sv heap => Gives [(false, [.int .i64])] [[.i (Sp.adjust t d g m n)]] sv heap) = (True ∧ (True → True ∧ (bNot (Sp.valid t d g m) = false → (bLt n 0 = false → (bLt 2147483647 n = true → (0 = Sp.adjust t d g m n ∧ True) ∧ True) ∧ (bLt 2147483647 n = false → InR IntKind.i64 (iSub n t) ∧ (bLt d (iSub n t) = true → InR IntKind.i64 (iSub (iSub n t) d) ∧ InR IntKind.i64 (iMul (iSub (iSub n t) d) g) ∧ (iMin m (iMul (iSub (iSub n t) d) g) = Sp.adjust t d g m n ∧ True) ∧ True) ∧ (bLt d (iSub n t) = false → InR IntKind.i64 (iSub 0 d) ∧ (bLt (iSub n t) (iSub 0 d) = true → InR IntKind.i64 (iSub 0 (iSub n t)) ∧ InR IntKind.i64 (iSub (iSub 0 (iSub n t)) d) ∧ InR IntKind.i64 (iMul (iSub (iSub 0 (iSub n t)) d) g) ∧ InR IntKind.i64 (iSub 0 (iMin m (iMul (iSub (iSub 0 (iSub n t)) d) g))) ∧ (iSub 0 (iMin m (iMul (iSub (iSub 0 (iSub n t)) d) g)) = Sp.adjust t d g m n ∧ True) ∧ True) ∧ (bLt (iSub n t) (iSub 0 d) = false → (0 = Sp.adjust t d g m n ∧ True) ∧ True)))) ∧ (bLt n 0 = true → (0 = Sp.adjust t d g m n ∧ True) ∧ True)) ∧ (bNot (Sp.valid t d g m) = true → (0 = Sp.adjust t d g m n ∧ True) ∧ True))) := by kernel_rfl
theorem v14 (t : Int) (d : Int) (g : Int) (m : Int) (n : Int) : Holds (Wfs [.agg [.int .i64 t, .int .i64 d, .int .i64 g, .int .i64 m], .int .i64 n] → True → vcF Go.Proofs.Try.prog (look tb14) (fun _ => false) (fun _ _ => LoopAnn.unroll 200) 6 14 [.agg [.int .i64 t, .int .i64 d, .int .i64 g, .int .i64 m], .int .i64 n] [] (fun sv heap => Gives [(false, [.int .i64])] [[.i (Sp.adjust t d g m n)]] sv heap)) := by
  refine ⟨fun hw hp => ?_⟩
  rw [e14]
  simp only [iAdd, iSub, iMul, iQuo, iRem, iMin, iMax, bEq, bNe, bLt, bLe, bNot, InR, pIn, pNe, pLe, decide_eq_true_eq, decide_eq_false_iff_not, Bool.not_eq_true', Bool.not_eq_false', true_and, and_true] at *
  simp only [Wfs, Wf, InR, and_true] at hw
  simp only [true_implies, Sp.adjust]
  refine ⟨fun hv => ⟨fun h1 => ⟨fun h2 => ?_, fun h2 => ?_⟩, fun h1 => ?_⟩, fun hv => ?_⟩
  · rw [if_pos (by simp [hv]; omega)]
  · have hf : ¬ (Sp.valid t d g m = false ∨ n < 0 ∨ 2147483647 < n) := by simp only [hv]; simp; omega
    rw [if_neg hf]
    have hv' := (Sp.valid_iff t d g m).1 hv
    refine ⟨by omega, fun h3 => ?_, fun h3 => ⟨by omega, fun h4 => ?_, fun h4 => ?_⟩⟩
    · have hb := Sp.gain (x := n - t - d) hv (by omega) (by omega)
      rw [if_neg (by omega), show max 0 (n - t - d) = n - t - d by omega]
      omega
    · have hb := Sp.gain (x := t - n - d) hv (by omega) (by omega)
      rw [if_pos (by omega), show max 0 (t - n - d) = t - n - d by omega, show 0 - (n - t) - d = t - n - d by omega]
      omega
    · split
      · rw [show max 0 (t - n - d) = 0 by omega]; omega
      · rw [show max 0 (n - t - d) = 0 by omega]; omega
  · rw [if_pos (by simp [hv]; omega)]
  · rw [if_pos (by simp [hv])]
theorem s14 : SoundCt Go.Proofs.Try.prog 14 ct14 :=
  contractH followsMixed (look_sound (show Tb Go.Proofs.Try.prog tb14 from ⟨s16, trivial⟩)) (fun _ => false) (fun _ => fun _ _ => LoopAnn.unroll 200) 6 14 ct14 rfl (by simp [ct14]) fun a => Eq.mp (by kernel_rfl) (v14 ((cel 0 (arg 0 a)).int) ((cel 1 (arg 0 a)).int) ((cel 2 (arg 0 a)).int) ((cel 3 (arg 0 a)).int) ((cel 0 (arg 1 a)).int))
end Go.Sx

namespace Go
open Go.Sx
def Sp.nextV (xs : List (List C)) (n : Int) : Int := if xs = [] ∨ n ≤ 1 then 0 else ((xs.headD []).headD default).int % n
def Sp.nextL (xs : List (List C)) (n : Int) : List (List C) := if xs = [] ∨ n ≤ 1 then xs else xs.tail
def Sp.at (xs : List Int) (n : Int) : Int := xs.getD n.toNat 0
def Sp.d1 (xs : List (List C)) : List (List C) := Sp.nextL xs 256
def Sp.d2 (xs : List (List C)) : List (List C) := Sp.nextL (Sp.d1 xs) 60
def Sp.d3 (xs : List (List C)) : List (List C) := Sp.nextL (Sp.d2 xs) 200
def Sp.d4 (xs : List (List C)) : List (List C) := Sp.nextL (Sp.d3 xs) 4
def Sp.d5 (xs : List (List C)) : List (List C) := Sp.nextL (Sp.d4 xs) 4
def Sp.d6 (xs : List (List C)) : List (List C) := Sp.nextL (Sp.d5 xs) 5
def Sp.d7 (xs : List (List C)) : List (List C) := Sp.nextL (Sp.d6 xs) 20
def Sp.mT (xs : List (List C)) : Int := Sp.nextV xs 256 * 8
def Sp.mD (xs : List (List C)) : Int := Sp.nextV (Sp.d1 xs) 60
def Sp.mG (xs : List (List C)) : Int := 1 + Sp.nextV (Sp.d2 xs) 200
def Sp.mM (xs : List (List C)) : Int := Sp.at [0, 100, 4096, 67] (Sp.nextV (Sp.d3 xs) 4)
def Sp.mN (xs : List (List C)) : Int := Sp.at [64, 294, 1, 1024] (Sp.nextV (Sp.d4 xs) 4)
def Sp.mE (xs : List (List C)) : Int := Sp.at [1, 5, 64, 3] (Sp.nextV (Sp.d4 xs) 4)
def Sp.mK (xs : List (List C)) : Int := Sp.at [0, 66, 100, 4096, 2000] (Sp.nextV (Sp.d5 xs) 5)
def Sp.mJ (xs : List (List C)) : Int := Sp.nextV (Sp.d6 xs) 20
end Go

namespace Go
open Go.Sx
theorem Sp.nextV_bd (xs : List (List C)) {n : Int} (h : 1 ≤ n) : 0 ≤ Sp.nextV xs n ∧ Sp.nextV xs n < n := by
  unfold Sp.nextV
  split
  · omega
  · exact ⟨Int.emod_nonneg _ (by omega), Int.emod_lt_of_pos _ (by omega)⟩
end Go

namespace Go.Sx
/-! ### function 23: (*made.Dice).Next -/
def ct23 : Ct := { ps := [(false, [.int .i64])], rs := [(false, [.int .i64])], pre := fun _ => True, out := fun a => [[.l (Sp.nextL (cel 0 (arg 0 a)).list (cel 0 (arg 1 a)).int)], [.i (Sp.nextV (cel 0 (arg 0 a)).list (cel 0 (arg 1 a)).int)]], bx := some (59, [.sl [.int .u8]]) }
def tb23 : List (Nat × Ct) := []
theorem e23 (xs : List (List C)) (n : Int) : vcF Go.Proofs.Try.prog (look tb23) (fun _ => false) (fun _ _ => LoopAnn.unroll 200) 6 23 [.ref 0 0, .int .i64 n] [.box [.sl [.int .u8] xs] 59] (fun sv heap => GivesB 59 [.sl [.int .u8]] [(false, [.int .i64])] [[.l (Sp.nextL xs n)], [.i (Sp.nextV xs n)]] sv heap) = (pLe (iLen xs) 9223372036854775807 → (bEq (iLen xs) 0 = false → (bLe n 1 = true → 59 = 59 ∧ (xs = Sp.nextL xs n ∧ True) ∧ (0 = Sp.nextV xs n ∧ True) ∧ True) ∧ (bLe n 1 = false → pIn 0 (iLen xs) 0 ∧ (InR IntKind.u8 ((rGet xs 0).headD default).int → geB (some 1) none (iLen xs) ∧ pNe n 0 ∧ 59 = 59 ∧ (cutRows xs (some 1) none = Sp.nextL xs n ∧ True) ∧ (iRem ((rGet xs 0).headD default).int n = Sp.nextV xs n ∧ True) ∧ True))) ∧ (bEq (iLen xs) 0 = true → 59 = 59 ∧ (xs = Sp.nextL xs n ∧ True) ∧ (0 = Sp.nextV xs n ∧ True) ∧ True)) := by kernel_rfl
theorem v23 (xs : List (List C)) (n : Int) : Holds (Wfs [.agg [.sl [.int .u8] xs], .int .i64 n] → True → vcF Go.Proofs.Try.prog (look tb23) (fun _ => false) (fun _ _ => LoopAnn.unroll 200) 6 23 [.ref 0 0, .int .i64 n] [.box [.sl [.int .u8] xs] 59] (fun sv heap => GivesB 59 [.sl [.int .u8]] [(false, [.int .i64])] [[.l (Sp.nextL xs n)], [.i (Sp.nextV xs n)]] sv heap)) := by
  refine ⟨fun hw hp => ?_⟩
  rw [e23]
  simp only [iAdd, iSub, iMul, iQuo, iRem, iMin, iMax, bEq, bNe, bLt, bLe, bNot, InR, pIn, pNe, pLe, decide_eq_true_eq, decide_eq_false_iff_not, Bool.not_eq_true', Bool.not_eq_false', true_and, and_true] at *
  simp only [iLen, geB, cutRows, rGet, Sp.nextL, Sp.nextV]
  cases xs with
  | nil => simp
  | cons x r =>
    simp only [List.length_cons, reduceCtorEq, false_or, List.headD_cons, List.tail_cons]
    refine fun hl => ⟨fun _ => ⟨fun h => ?_, fun h => ?_⟩, fun h => by omega⟩
    · rw [if_pos h, if_pos h]; exact ⟨rfl, rfl⟩
    · rw [if_neg (by omega), if_neg (by omega)]
      refine ⟨by omega, fun hu => ⟨by omega, by omega, ?_, ?_⟩⟩
      · simp
      · have e : List.getD (x :: r) (Int.toNat 0) [] = x := rfl
        rw [e] at hu ⊢
        exact Int.tmod_eq_emod_of_nonneg hu.1
theorem s23 : SoundCt Go.Proofs.Try.prog 23 ct23 :=
  contractHB followsMixed (look_sound (show Tb Go.Proofs.Try.prog tb23 from trivial)) (fun _ => false) (fun _ => fun _ _ => LoopAnn.unroll 200) 6 23 ct23 rfl (by simp [ct23]) fun a => Eq.mp (by kernel_rfl) (v23 ((cel 0 (arg 0 a)).list) ((cel 0 (arg 1 a)).int))
end Go.Sx

namespace Go
open Go.Sx
theorem Sp.at4 (a b c d : Int) {v : Int} (h0 : 0 ≤ v) (h1 : v < 4) : ((rGet [[C.i a], [C.i b], [C.i c], [C.i d]] v).headD default).int = Sp.at [a, b, c, d] v := by
  have h : v = 0 ∨ v = 1 ∨ v = 2 ∨ v = 3 := by omega
  rcases h with rfl | rfl | rfl | rfl <;> rfl
theorem Sp.at5 (a b c d e : Int) {v : Int} (h0 : 0 ≤ v) (h1 : v < 5) : ((rGet [[C.i a], [C.i b], [C.i c], [C.i d], [C.i e]] v).headD default).int = Sp.at [a, b, c, d, e] v := by
  have h : v = 0 ∨ v = 1 ∨ v = 2 ∨ v = 3 ∨ v = 4 := by omega
  rcases h with rfl | rfl | rfl | rfl | rfl <;> rfl
theorem Sp.at42 (a b c d a' b' c' d' : Int) {v : Int} (h0 : 0 ≤ v) (h1 : v < 4) : ((rGet [[C.i a, C.i a'], [C.i b, C.i b'], [C.i c, C.i c'], [C.i d, C.i d']] v).headD default).int = Sp.at [a, b, c, d] v ∧
    ((rGet [[C.i a, C.i a'], [C.i b, C.i b'], [C.i c, C.i c'], [C.i d, C.i d']] v).tail.headD default).int = Sp.at [a', b', c', d'] v := by
  have h : v = 0 ∨ v = 1 ∨ v = 2 ∨ v = 3 := by omega
  rcases h with rfl | rfl | rfl | rfl <;> exact ⟨rfl, rfl⟩
end Go

namespace Go.Sx
/-! ### function 11: law18.made -/
def ct11 : Ct := { ps := [], rs := [(true, [.int .i64, .int .i64, .int .i64, .int .i64]), (true, [.int .i64, .int .i64]), (false, [.int .i64]), (false, [.int .i64])], pre := fun _ => True, out := fun a => [[.l (Sp.d7 (cel 0 (arg 0 a)).list)], [.i (Sp.mT (cel 0 (arg 0 a)).list), .i (Sp.mD (cel 0 (arg 0 a)).list), .i (Sp.mG (cel 0 (arg 0 a)).list), .i (Sp.mM (cel 0 (arg 0 a)).list)], [.i (Sp.mN (cel 0 (arg 0 a)).list), .i (Sp.mE (cel 0 (arg 0 a)).list)], [.i (Sp.mK (cel 0 (arg 0 a)).list)], [.i (Sp.mJ (cel 0 (arg 0 a)).list)]], bx := some (59, [.sl [.int .u8]]) }
def tb11 : List (Nat × Ct) := [(23, ct23)]
theorem e11 (xs : List (List C)) : vcF Go.Proofs.Try.prog (look tb11) (fun _ => false) (fun _ _ => LoopAnn.unroll 200) 6 11 [.ref 0 0] [.box [.sl [.int .u8] xs] 59] (fun sv heap => GivesB 59 [.sl [.int .u8]] [(true, [.int .i64, .int .i64, .int .i64, .int .i64]), (true, [.int .i64, .int .i64]), (false, [.int .i64]), (false, [.int .i64])] [[.l (Sp.d7 xs)], [.i (Sp.mT xs), .i (Sp.mD xs), .i (Sp.mG xs), .i (Sp.mM xs)], [.i (Sp.mN xs), .i (Sp.mE xs)], [.i (Sp.mK xs)], [.i (Sp.mJ xs)]] sv heap) = (True ∧ (InR IntKind.i64 (Sp.nextV xs 256) → InR IntKind.i64 (iMul (Sp.nextV xs 256) 8) ∧ True ∧ (InR IntKind.i64 (Sp.nextV (Sp.nextL xs 256) 60) → True ∧ (InR IntKind.i64 (Sp.nextV (Sp.nextL (Sp.nextL xs 256) 60) 200) → InR IntKind.i64 (iAdd 1 (Sp.nextV (Sp.nextL (Sp.nextL xs 256) 60) 200)) ∧ True ∧ (InR IntKind.i64 (Sp.nextV (Sp.nextL (Sp.nextL (Sp.nextL xs 256) 60) 200) 4) → pIn 0 (↑4) (Sp.nextV (Sp.nextL (Sp.nextL (Sp.nextL xs 256) 60) 200) 4) ∧ (InR IntKind.i64 ((rGet [[C.i 0], [C.i 100], [C.i 4096], [C.i 67]] (Sp.nextV (Sp.nextL (Sp.nextL (Sp.nextL xs 256) 60) 200) 4)).headD default).int → True ∧ (InR IntKind.i64 (Sp.nextV (Sp.nextL (Sp.nextL (Sp.nextL (Sp.nextL xs 256) 60) 200) 4) 4) → pIn 0 (↑4) (Sp.nextV (Sp.nextL (Sp.nextL (Sp.nextL (Sp.nextL xs 256) 60) 200) 4) 4) ∧ (InR IntKind.i64 ((rGet [[C.i 64, C.i 1], [C.i 294, C.i 5], [C.i 1, C.i 64], [C.i 1024, C.i 3]] (Sp.nextV (Sp.nextL (Sp.nextL (Sp.nextL (Sp.nextL xs 256) 60) 200) 4) 4)).headD default).int ∧ InR IntKind.i64 ((rGet [[C.i 64, C.i 1], [C.i 294, C.i 5], [C.i 1, C.i 64], [C.i 1024, C.i 3]] (Sp.nextV (Sp.nextL (Sp.nextL (Sp.nextL (Sp.nextL xs 256) 60) 200) 4) 4)).tail.headD default).int ∧ True → True ∧ (InR IntKind.i64 (Sp.nextV (Sp.nextL (Sp.nextL (Sp.nextL (Sp.nextL (Sp.nextL xs 256) 60) 200) 4) 4) 5) → pIn 0 (↑5) (Sp.nextV (Sp.nextL (Sp.nextL (Sp.nextL (Sp.nextL (Sp.nextL xs 256) 60) 200) 4) 4) 5) ∧ (InR IntKind.i64 ((rGet [[C.i 0], [C.i 66], [C.i 100], [C.i 4096], [C.i 2000]] (Sp.nextV (Sp.nextL (Sp.nextL (Sp.nextL (Sp.nextL (Sp.nextL xs 256) 60) 200) 4) 4) 5)).headD default).int → True ∧ (InR IntKind.i64 (Sp.nextV (Sp.nextL (Sp.nextL (Sp.nextL (Sp.nextL (Sp.nextL (Sp.nextL xs 256) 60) 200) 4) 4) 5) 20) → 59 = 59 ∧ (Sp.nextL (Sp.nextL (Sp.nextL (Sp.nextL (Sp.nextL (Sp.nextL (Sp.nextL xs 256) 60) 200) 4) 4) 5) 20 = Sp.d7 xs ∧ True) ∧ (iMul (Sp.nextV xs 256) 8 = Sp.mT xs ∧ Sp.nextV (Sp.nextL xs 256) 60 = Sp.mD xs ∧ iAdd 1 (Sp.nextV (Sp.nextL (Sp.nextL xs 256) 60) 200) = Sp.mG xs ∧ ((rGet [[C.i 0], [C.i 100], [C.i 4096], [C.i 67]] (Sp.nextV (Sp.nextL (Sp.nextL (Sp.nextL xs 256) 60) 200) 4)).headD default).int = Sp.mM xs ∧ True) ∧ (((rGet [[C.i 64, C.i 1], [C.i 294, C.i 5], [C.i 1, C.i 64], [C.i 1024, C.i 3]] (Sp.nextV (Sp.nextL (Sp.nextL (Sp.nextL (Sp.nextL xs 256) 60) 200) 4) 4)).headD default).int = Sp.mN xs ∧ ((rGet [[C.i 64, C.i 1], [C.i 294, C.i 5], [C.i 1, C.i 64], [C.i 1024, C.i 3]] (Sp.nextV (Sp.nextL (Sp.nextL (Sp.nextL (Sp.nextL xs 256) 60) 200) 4) 4)).tail.headD default).int = Sp.mE xs ∧ True) ∧ (((rGet [[C.i 0], [C.i 66], [C.i 100], [C.i 4096], [C.i 2000]] (Sp.nextV (Sp.nextL (Sp.nextL (Sp.nextL (Sp.nextL (Sp.nextL xs 256) 60) 200) 4) 4) 5)).headD default).int = Sp.mK xs ∧ True) ∧ (Sp.nextV (Sp.nextL (Sp.nextL (Sp.nextL (Sp.nextL (Sp.nextL (Sp.nextL xs 256) 60) 200) 4) 4) 5) 20 = Sp.mJ xs ∧ True) ∧ True))))))))))) := by kernel_rfl
theorem v11 (xs : List (List C)) : Holds (Wfs [.agg [.sl [.int .u8] xs]] → True → vcF Go.Proofs.Try.prog (look tb11) (fun _ => false) (fun _ _ => LoopAnn.unroll 200) 6 11 [.ref 0 0] [.box [.sl [.int .u8] xs] 59] (fun sv heap => GivesB 59 [.sl [.int .u8]] [(true, [.int .i64, .int .i64, .int .i64, .int .i64]), (true, [.int .i64, .int .i64]), (false, [.int .i64]), (false, [.int .i64])] [[.l (Sp.d7 xs)], [.i (Sp.mT xs), .i (Sp.mD xs), .i (Sp.mG xs), .i (Sp.mM xs)], [.i (Sp.mN xs), .i (Sp.mE xs)], [.i (Sp.mK xs)], [.i (Sp.mJ xs)]] sv heap)) := by
  refine ⟨fun hw hp => ?_⟩
  rw [e11]
  have b1 := Sp.nextV_bd xs (n := 256) (by omega)
  have b2 := Sp.nextV_bd (Sp.d1 xs) (n := 60) (by omega)
  have b3 := Sp.nextV_bd (Sp.d2 xs) (n := 200) (by omega)
  have b4 := Sp.nextV_bd (Sp.d3 xs) (n := 4) (by omega)
  have b5 := Sp.nextV_bd (Sp.d4 xs) (n := 4) (by omega)
  have b6 := Sp.nextV_bd (Sp.d5 xs) (n := 5) (by omega)
  have b7 := Sp.nextV_bd (Sp.d6 xs) (n := 20) (by omega)
  have c4 := Sp.at4 0 100 4096 67 b4.1 b4.2
  have c5 := Sp.at42 64 294 1 1024 1 5 64 3 b5.1 b5.2
  have c6 := Sp.at5 0 66 100 4096 2000 b6.1 b6.2
  simp only [Sp.mT, Sp.mD, Sp.mG, Sp.mM, Sp.mN, Sp.mE, Sp.mK, Sp.mJ, Sp.d7, Sp.d6, Sp.d5, Sp.d4, Sp.d3, Sp.d2, Sp.d1] at *
  simp only [c4, c5.1, c5.2, c6, iMul, iAdd, pIn, InR]
  repeat' (first | apply And.intro | intro _)
  all_goals (first | trivial | rfl | omega)
theorem s11 : SoundCt Go.Proofs.Try.prog 11 ct11 :=
  contractHB followsMixed (look_sound (show Tb Go.Proofs.Try.prog tb11 from ⟨s23, trivial⟩)) (fun _ => false) (fun _ => fun _ _ => LoopAnn.unroll 200) 6 11 ct11 rfl (by simp [ct11]) fun a => Eq.mp (by kernel_rfl) (v11 ((cel 0 (arg 0 a)).list))
end Go.Sx

namespace Go.Sx
/-! ### function 10: law18.sane -/
def ct10 : Ct := { ps := [], rs := [(false, [.bool])], pre := fun _ => True, out := fun _ => [[.b true]] }
def tb10 : List (Nat × Ct) := [(13, ct13), (15, ct15)]
theorem e10  : vcF Go.Proofs.Try.prog (look tb10) (fun _ => false) (fun _ _ => LoopAnn.unroll 200) 6 10 [] [] (fun sv heap => Gives [(false, [.bool])] [[.b true]] sv heap) = (True ∧ (True → (Sp.valid 100 10 4 100 = true → True ∧ (InR IntKind.i64 (Sp.adjust 100 10 4 100 110) → (bEq (Sp.adjust 100 10 4 100 110) 0 = true → True ∧ (InR IntKind.i64 (Sp.adjust 100 10 4 100 111) → (bEq (Sp.adjust 100 10 4 100 111) 4 = true → True ∧ (InR IntKind.i64 (Sp.adjust 100 10 4 100 135) → (bEq (Sp.adjust 100 10 4 100 135) 100 = true → True ∧ (InR IntKind.i64 (Sp.adjust 100 10 4 100 89) → (bEq (Sp.adjust 100 10 4 100 89) (-4) = true → True ∧ (InR IntKind.i64 (Sp.adjust 100 10 4 100 0) → (bEq (Sp.adjust 100 10 4 100 0) (-100) = true ∧ True) ∧ True)) ∧ (bEq (Sp.adjust 100 10 4 100 89) (-4) = false → (false = true ∧ True) ∧ True))) ∧ (bEq (Sp.adjust 100 10 4 100 135) 100 = false → (false = true ∧ True) ∧ True))) ∧ (bEq (Sp.adjust 100 10 4 100 111) 4 = false → (false = true ∧ True) ∧ True))) ∧ (bEq (Sp.adjust 100 10 4 100 110) 0 = false → (false = true ∧ True) ∧ True))) ∧ (Sp.valid 100 10 4 100 = false → (false = true ∧ True) ∧ True))) := by kernel_rfl
theorem v10  : Holds (Wfs [] → True → vcF Go.Proofs.Try.prog (look tb10) (fun _ => false) (fun _ _ => LoopAnn.unroll 200) 6 10 [] [] (fun sv heap => Gives [(false, [.bool])] [[.b true]] sv heap)) := by
  refine ⟨fun hw hp => ?_⟩
  rw [e10]
  simp only [show Sp.valid 100 10 4 100 = true from rfl, show Sp.adjust 100 10 4 100 110 = 0 from rfl, show Sp.adjust 100 10 4 100 111 = 4 from rfl, show Sp.adjust 100 10 4 100 135 = 100 from rfl, show Sp.adjust 100 10 4 100 89 = -4 from rfl,
    show Sp.adjust 100 10 4 100 0 = -100 from rfl, bEq, InR]
  simp
theorem s10 : SoundCt Go.Proofs.Try.prog 10 ct10 :=
  contractH followsMixed (look_sound (show Tb Go.Proofs.Try.prog tb10 from ⟨s13, ⟨s15, trivial⟩⟩)) (fun _ => false) (fun _ => fun _ _ => LoopAnn.unroll 200) 6 10 ct10 rfl (by simp [ct10]) fun a => Eq.mp (by kernel_rfl) (v10 )
end Go.Sx

namespace Go.Sx
/-! ### function 3: law18.ControlAdjusts -/
def tb3 : List (Nat × Ct) := [(10, ct10), (11, ct11), (13, ct13), (14, ct14), (15, ct15), (16, ct16)]
theorem e3 (t : Int) (d : Int) (g : Int) (m : Int) (xs : List (List C)) (n : Int) : vcF Go.Proofs.Try.prog (look tb3) (fun _ => false) (fun _ _ => LoopAnn.unroll 200) 8 3 [.agg [.int .i64 t, .int .i64 d, .int .i64 g, .int .i64 m], .sl [.int .u8] xs, .int .i64 n] [] (fun sv _ => isTrue sv) = (True ∧ (True → True ∧ (bNot true = true → false = true) ∧ (bNot true = false → pLe (iLen xs) 9223372036854775807 → geB none (some (iMin (iLen xs) 300)) (iLen xs) ∧ True ∧ ((InR IntKind.i64 (Sp.mT (cutRows xs none (some (iMin (iLen xs) 300)))) ∧ InR IntKind.i64 (Sp.mD (cutRows xs none (some (iMin (iLen xs) 300)))) ∧ InR IntKind.i64 (Sp.mG (cutRows xs none (some (iMin (iLen xs) 300)))) ∧ InR IntKind.i64 (Sp.mM (cutRows xs none (some (iMin (iLen xs) 300)))) ∧ True) ∧ (InR IntKind.i64 (Sp.mN (cutRows xs none (some (iMin (iLen xs) 300)))) ∧ InR IntKind.i64 (Sp.mE (cutRows xs none (some (iMin (iLen xs) 300)))) ∧ True) ∧ InR IntKind.i64 (Sp.mK (cutRows xs none (some (iMin (iLen xs) 300)))) ∧ InR IntKind.i64 (Sp.mJ (cutRows xs none (some (iMin (iLen xs) 300)))) ∧ True → InR IntKind.i64 t ∧ InR IntKind.i64 d ∧ InR IntKind.i64 g ∧ InR IntKind.i64 m ∧ True → pNe 3000 0 ∧ InR IntKind.i64 (iAdd (iRem n 3000) 3000) ∧ pNe 3000 0 ∧ (InR IntKind.i64 n → True ∧ (InR IntKind.i64 (Sp.adjust t d g m n) → True ∧ (InR IntKind.i64 (Sp.adjust t d g m n) → (bNe (Sp.adjust t d g m n) (Sp.adjust t d g m n) = true → false = true) ∧ (bNe (Sp.adjust t d g m n) (Sp.adjust t d g m n) = false → InR IntKind.i64 (iRem (iAdd (iRem n 3000) 3000) 3000) → True ∧ (InR IntKind.i64 (Sp.adjust t d g m (iRem (iAdd (iRem n 3000) 3000) 3000)) → True ∧ (InR IntKind.i64 (Sp.adjust t d g m (iRem (iAdd (iRem n 3000) 3000) 3000)) → (bNe (Sp.adjust t d g m (iRem (iAdd (iRem n 3000) 3000) 3000)) (Sp.adjust t d g m (iRem (iAdd (iRem n 3000) 3000) 3000)) = true → false = true) ∧ (bNe (Sp.adjust t d g m (iRem (iAdd (iRem n 3000) 3000) 3000)) (Sp.adjust t d g m (iRem (iAdd (iRem n 3000) 3000) 3000)) = false → True ∧ (True → True ∧ (True → (bDiff (Sp.valid t d g m) (Sp.valid t d g m) = true → false = true) ∧ (bDiff (Sp.valid t d g m) (Sp.valid t d g m) = false → InR IntKind.i64 (Sp.mT (cutRows xs none (some (iMin (iLen xs) 300)))) ∧ InR IntKind.i64 (Sp.mD (cutRows xs none (some (iMin (iLen xs) 300)))) ∧ InR IntKind.i64 (Sp.mG (cutRows xs none (some (iMin (iLen xs) 300)))) ∧ InR IntKind.i64 (Sp.mM (cutRows xs none (some (iMin (iLen xs) 300)))) ∧ True → pNe 3000 0 ∧ InR IntKind.i64 (iAdd (iRem n 3000) 3000) ∧ pNe 3000 0 ∧ (InR IntKind.i64 n → True ∧ (InR IntKind.i64 (Sp.adjust (Sp.mT (cutRows xs none (some (iMin (iLen xs) 300)))) (Sp.mD (cutRows xs none (some (iMin (iLen xs) 300)))) (Sp.mG (cutRows xs none (some (iMin (iLen xs) 300)))) (Sp.mM (cutRows xs none (some (iMin (iLen xs) 300)))) n) → True ∧ (InR IntKind.i64 (Sp.adjust (Sp.mT (cutRows xs none (some (iMin (iLen xs) 300)))) (Sp.mD (cutRows xs none (some (iMin (iLen xs) 300)))) (Sp.mG (cutRows xs none (some (iMin (iLen xs) 300)))) (Sp.mM (cutRows xs none (some (iMin (iLen xs) 300)))) n) → (bNe (Sp.adjust (Sp.mT (cutRows xs none (some (iMin (iLen xs) 300)))) (Sp.mD (cutRows xs none (some (iMin (iLen xs) 300)))) (Sp.mG (cutRows xs none (some (iMin (iLen xs) 300)))) (Sp.mM (cutRows xs none (some (iMin (iLen xs) 300)))) n) (Sp.adjust (Sp.mT (cutRows xs none (some (iMin (iLen xs) 300)))) (Sp.mD (cutRows xs none (some (iMin (iLen xs) 300)))) (Sp.mG (cutRows xs none (some (iMin (iLen xs) 300)))) (Sp.mM (cutRows xs none (some (iMin (iLen xs) 300)))) n) = true → false = true) ∧ (bNe (Sp.adjust (Sp.mT (cutRows xs none (some (iMin (iLen xs) 300)))) (Sp.mD (cutRows xs none (some (iMin (iLen xs) 300)))) (Sp.mG (cutRows xs none (some (iMin (iLen xs) 300)))) (Sp.mM (cutRows xs none (some (iMin (iLen xs) 300)))) n) (Sp.adjust (Sp.mT (cutRows xs none (some (iMin (iLen xs) 300)))) (Sp.mD (cutRows xs none (some (iMin (iLen xs) 300)))) (Sp.mG (cutRows xs none (some (iMin (iLen xs) 300)))) (Sp.mM (cutRows xs none (some (iMin (iLen xs) 300)))) n) = false → InR IntKind.i64 (iRem (iAdd (iRem n 3000) 3000) 3000) → True ∧ (InR IntKind.i64 (Sp.adjust (Sp.mT (cutRows xs none (some (iMin (iLen xs) 300)))) (Sp.mD (cutRows xs none (some (iMin (iLen xs) 300)))) (Sp.mG (cutRows xs none (some (iMin (iLen xs) 300)))) (Sp.mM (cutRows xs none (some (iMin (iLen xs) 300)))) (iRem (iAdd (iRem n 3000) 3000) 3000)) → True ∧ (InR IntKind.i64 (Sp.adjust (Sp.mT (cutRows xs none (some (iMin (iLen xs) 300)))) (Sp.mD (cutRows xs none (some (iMin (iLen xs) 300)))) (Sp.mG (cutRows xs none (some (iMin (iLen xs) 300)))) (Sp.mM (cutRows xs none (some (iMin (iLen xs) 300)))) (iRem (iAdd (iRem n 3000) 3000) 3000)) → (bNe (Sp.adjust (Sp.mT (cutRows xs none (some (iMin (iLen xs) 300)))) (Sp.mD (cutRows xs none (some (iMin (iLen xs) 300)))) (Sp.mG (cutRows xs none (some (iMin (iLen xs) 300)))) (Sp.mM (cutRows xs none (some (iMin (iLen xs) 300)))) (iRem (iAdd (iRem n 3000) 3000) 3000)) (Sp.adjust (Sp.mT (cutRows xs none (some (iMin (iLen xs) 300)))) (Sp.mD (cutRows xs none (some (iMin (iLen xs) 300)))) (Sp.mG (cutRows xs none (some (iMin (iLen xs) 300)))) (Sp.mM (cutRows xs none (some (iMin (iLen xs) 300)))) (iRem (iAdd (iRem n 3000) 3000) 3000)) = true → false = true) ∧ (bNe (Sp.adjust (Sp.mT (cutRows xs none (some (iMin (iLen xs) 300)))) (Sp.mD (cutRows xs none (some (iMin (iLen xs) 300)))) (Sp.mG (cutRows xs none (some (iMin (iLen xs) 300)))) (Sp.mM (cutRows xs none (some (iMin (iLen xs) 300)))) (iRem (iAdd (iRem n 3000) 3000) 3000)) (Sp.adjust (Sp.mT (cutRows xs none (some (iMin (iLen xs) 300)))) (Sp.mD (cutRows xs none (some (iMin (iLen xs) 300)))) (Sp.mG (cutRows xs none (some (iMin (iLen xs) 300)))) (Sp.mM (cutRows xs none (some (iMin (iLen xs) 300)))) (iRem (iAdd (iRem n 3000) 3000) 3000)) = false → True ∧ (True → True ∧ (True → (bDiff (Sp.valid (Sp.mT (cutRows xs none (some (iMin (iLen xs) 300)))) (Sp.mD (cutRows xs none (some (iMin (iLen xs) 300)))) (Sp.mG (cutRows xs none (some (iMin (iLen xs) 300)))) (Sp.mM (cutRows xs none (some (iMin (iLen xs) 300))))) (Sp.valid (Sp.mT (cutRows xs none (some (iMin (iLen xs) 300)))) (Sp.mD (cutRows xs none (some (iMin (iLen xs) 300)))) (Sp.mG (cutRows xs none (some (iMin (iLen xs) 300)))) (Sp.mM (cutRows xs none (some (iMin (iLen xs) 300))))) = true → false = true) ∧ (bDiff (Sp.valid (Sp.mT (cutRows xs none (some (iMin (iLen xs) 300)))) (Sp.mD (cutRows xs none (some (iMin (iLen xs) 300)))) (Sp.mG (cutRows xs none (some (iMin (iLen xs) 300)))) (Sp.mM (cutRows xs none (some (iMin (iLen xs) 300))))) (Sp.valid (Sp.mT (cutRows xs none (some (iMin (iLen xs) 300)))) (Sp.mD (cutRows xs none (some (iMin (iLen xs) 300)))) (Sp.mG (cutRows xs none (some (iMin (iLen xs) 300)))) (Sp.mM (cutRows xs none (some (iMin (iLen xs) 300))))) = false → true = true)))))))))))))))))))))))) := by kernel_rfl
theorem v3 (t : Int) (d : Int) (g : Int) (m : Int) (xs : List (List C)) (n : Int) : Holds (Wfs [.agg [.int .i64 t, .int .i64 d, .int .i64 g, .int .i64 m], .sl [.int .u8] xs, .int .i64 n] → True → vcF Go.Proofs.Try.prog (look tb3) (fun _ => false) (fun _ _ => LoopAnn.unroll 200) 8 3 [.agg [.int .i64 t, .int .i64 d, .int .i64 g, .int .i64 m], .sl [.int .u8] xs, .int .i64 n] [] (fun sv _ => isTrue sv)) := by
  refine ⟨fun hw hp => ?_⟩
  rw [e3]
  have h3 := rem_bd n (b := 3000) (by omega)
  simp only [Wfs, Wf, InR, and_true] at hw
  simp only [bNe, bDiff, bNot, iAdd, iRem, iMin, iLen, geB, pLe, pNe, InR, decide_true, Bool.not_true, beq_self_eq_true, true_implies, implies_true, true_and, and_true, Bool.false_eq_true, false_implies]
  repeat' (first | apply And.intro | intro _)
  all_goals (first | trivial | omega)
end Go.Sx

namespace Go
open Go.Sx
theorem Sp.at4_or (a b c d : Int) {v : Int} (h0 : 0 ≤ v) (h1 : v < 4) : Sp.at [a, b, c, d] v = a ∨ Sp.at [a, b, c, d] v = b ∨ Sp.at [a, b, c, d] v = c ∨ Sp.at [a, b, c, d] v = d := by
  have h : v = 0 ∨ v = 1 ∨ v = 2 ∨ v = 3 := by omega
  rcases h with rfl | rfl | rfl | rfl <;> simp [Sp.at]
theorem Sp.at5_or (a b c d e : Int) {v : Int} (h0 : 0 ≤ v) (h1 : v < 5) : Sp.at [a, b, c, d, e] v = a ∨ Sp.at [a, b, c, d, e] v = b ∨ Sp.at [a, b, c, d, e] v = c ∨ Sp.at [a, b, c, d, e] v = d ∨ Sp.at [a, b, c, d, e] v = e := by
  have h : v = 0 ∨ v = 1 ∨ v = 2 ∨ v = 3 ∨ v = 4 := by omega
  rcases h with rfl | rfl | rfl | rfl | rfl <;> simp [Sp.at]
theorem Sp.made_bd (ys : List (List C)) : 0 ≤ Sp.mT ys ∧ Sp.mT ys ≤ 2040 ∧ 0 ≤ Sp.mD ys ∧ Sp.mD ys ≤ 59 ∧ 1 ≤ Sp.mG ys ∧ Sp.mG ys ≤ 200 ∧ 0 ≤ Sp.mM ys ∧ Sp.mM ys ≤ 4096 ∧ 0 ≤ Sp.mK ys ∧ Sp.mK ys ≤ 4096 ∧ 0 ≤ Sp.mJ ys ∧ Sp.mJ ys ≤ 19 := by
  have b1 := Sp.nextV_bd ys (n := 256) (by omega)
  have b2 := Sp.nextV_bd (Sp.d1 ys) (n := 60) (by omega)
  have b3 := Sp.nextV_bd (Sp.d2 ys) (n := 200) (by omega)
  have b4 := Sp.nextV_bd (Sp.d3 ys) (n := 4) (by omega)
  have b6 := Sp.nextV_bd (Sp.d5 ys) (n := 5) (by omega)
  have b7 := Sp.nextV_bd (Sp.d6 ys) (n := 20) (by omega)
  have c4 := Sp.at4_or 0 100 4096 67 b4.1 b4.2
  have c6 := Sp.at5_or 0 66 100 4096 2000 b6.1 b6.2
  simp only [Sp.mT, Sp.mD, Sp.mG, Sp.mM, Sp.mK, Sp.mJ]
  omega
theorem Sp.made_valid (ys : List (List C)) : Sp.valid (Sp.mT ys) (Sp.mD ys) (Sp.mG ys) (Sp.mM ys) = true := by
  have := Sp.made_bd ys
  rw [Sp.valid_iff]; omega
theorem Sp.adj_up {t d g m n : Int} (hv : Sp.valid t d g m = true) (h0 : 0 ≤ n) (h1 : t + n ≤ 2147483647) : Sp.adjust t d g m (t + n) = min m (max 0 (n - d) * g) := by
  have hv' := (Sp.valid_iff t d g m).1 hv
  have hf : ¬ (Sp.valid t d g m = false ∨ t + n < 0 ∨ 2147483647 < t + n) := by simp only [hv]; simp; omega
  unfold Sp.adjust
  rw [if_neg hf, if_neg (by omega), show t + n - t - d = n - d by omega]
theorem Sp.adj_dn {t d g m n : Int} (hv : Sp.valid t d g m = true) (h0 : 0 ≤ n) (h1 : n ≤ t) : Sp.adjust t d g m (t - n) = -(min m (max 0 (n - d) * g)) := by
  have hv' := (Sp.valid_iff t d g m).1 hv
  have hf : ¬ (Sp.valid t d g m = false ∨ t - n < 0 ∨ 2147483647 < t - n) := by simp only [hv]; simp; omega
  unfold Sp.adjust
  rw [if_neg hf]
  split
  · rw [show t - (t - n) - d = n - d by omega]
  · obtain rfl : n = 0 := by omega
    rw [show max 0 (t - 0 - t - d) = 0 by omega, show max 0 (0 - d) = 0 by omega]
    omega
end Go

namespace Go.Sx
/-! ### function 4: law18.ControlAscends -/
def tb4 : List (Nat × Ct) := [(10, ct10), (11, ct11), (13, ct13)]
theorem e4 (xs : List (List C)) (d : Int) (e : Int) : vcF Go.Proofs.Try.prog (look tb4) (fun _ => false) (fun _ _ => LoopAnn.unroll 200) 8 4 [.sl [.int .u8] xs, .int .u16 d, .int .u8 e] [] (fun sv _ => isTrue sv) = (True ∧ (True → True ∧ (bNot true = true → false = true) ∧ (bNot true = false → pLe (iLen xs) 9223372036854775807 → geB none (some (iMin (iLen xs) 300)) (iLen xs) ∧ True ∧ ((InR IntKind.i64 (Sp.mT (cutRows xs none (some (iMin (iLen xs) 300)))) ∧ InR IntKind.i64 (Sp.mD (cutRows xs none (some (iMin (iLen xs) 300)))) ∧ InR IntKind.i64 (Sp.mG (cutRows xs none (some (iMin (iLen xs) 300)))) ∧ InR IntKind.i64 (Sp.mM (cutRows xs none (some (iMin (iLen xs) 300)))) ∧ True) ∧ (InR IntKind.i64 (Sp.mN (cutRows xs none (some (iMin (iLen xs) 300)))) ∧ InR IntKind.i64 (Sp.mE (cutRows xs none (some (iMin (iLen xs) 300)))) ∧ True) ∧ InR IntKind.i64 (Sp.mK (cutRows xs none (some (iMin (iLen xs) 300)))) ∧ InR IntKind.i64 (Sp.mJ (cutRows xs none (some (iMin (iLen xs) 300)))) ∧ True → pNe 2000 0 ∧ InR IntKind.i64 (iAdd (Sp.mT (cutRows xs none (some (iMin (iLen xs) 300)))) (iRem d 2000)) ∧ True ∧ (InR IntKind.i64 (Sp.adjust (Sp.mT (cutRows xs none (some (iMin (iLen xs) 300)))) (Sp.mD (cutRows xs none (some (iMin (iLen xs) 300)))) (Sp.mG (cutRows xs none (some (iMin (iLen xs) 300)))) (Sp.mM (cutRows xs none (some (iMin (iLen xs) 300)))) (iAdd (Sp.mT (cutRows xs none (some (iMin (iLen xs) 300)))) (iRem d 2000))) → InR IntKind.i64 (iAdd (Sp.mT (cutRows xs none (some (iMin (iLen xs) 300)))) (iRem d 2000)) ∧ InR IntKind.i64 (iAdd (iAdd (Sp.mT (cutRows xs none (some (iMin (iLen xs) 300)))) (iRem d 2000)) e) ∧ True ∧ (InR IntKind.i64 (Sp.adjust (Sp.mT (cutRows xs none (some (iMin (iLen xs) 300)))) (Sp.mD (cutRows xs none (some (iMin (iLen xs) 300)))) (Sp.mG (cutRows xs none (some (iMin (iLen xs) 300)))) (Sp.mM (cutRows xs none (some (iMin (iLen xs) 300)))) (iAdd (iAdd (Sp.mT (cutRows xs none (some (iMin (iLen xs) 300)))) (iRem d 2000)) e)) → (bLe (Sp.adjust (Sp.mT (cutRows xs none (some (iMin (iLen xs) 300)))) (Sp.mD (cutRows xs none (some (iMin (iLen xs) 300)))) (Sp.mG (cutRows xs none (some (iMin (iLen xs) 300)))) (Sp.mM (cutRows xs none (some (iMin (iLen xs) 300)))) (iAdd (Sp.mT (cutRows xs none (some (iMin (iLen xs) 300)))) (iRem d 2000))) (Sp.adjust (Sp.mT (cutRows xs none (some (iMin (iLen xs) 300)))) (Sp.mD (cutRows xs none (some (iMin (iLen xs) 300)))) (Sp.mG (cutRows xs none (some (iMin (iLen xs) 300)))) (Sp.mM (cutRows xs none (some (iMin (iLen xs) 300)))) (iAdd (iAdd (Sp.mT (cutRows xs none (some (iMin (iLen xs) 300)))) (iRem d 2000)) e)) = true → (bLe 0 (Sp.adjust (Sp.mT (cutRows xs none (some (iMin (iLen xs) 300)))) (Sp.mD (cutRows xs none (some (iMin (iLen xs) 300)))) (Sp.mG (cutRows xs none (some (iMin (iLen xs) 300)))) (Sp.mM (cutRows xs none (some (iMin (iLen xs) 300)))) (iAdd (Sp.mT (cutRows xs none (some (iMin (iLen xs) 300)))) (iRem d 2000))) = true → (bLe (Sp.adjust (Sp.mT (cutRows xs none (some (iMin (iLen xs) 300)))) (Sp.mD (cutRows xs none (some (iMin (iLen xs) 300)))) (Sp.mG (cutRows xs none (some (iMin (iLen xs) 300)))) (Sp.mM (cutRows xs none (some (iMin (iLen xs) 300)))) (iAdd (iAdd (Sp.mT (cutRows xs none (some (iMin (iLen xs) 300)))) (iRem d 2000)) e)) (Sp.mM (cutRows xs none (some (iMin (iLen xs) 300)))) = true → (bLt (Sp.mT (cutRows xs none (some (iMin (iLen xs) 300)))) (iRem d 2000) = false → InR IntKind.i64 (iSub (Sp.mT (cutRows xs none (some (iMin (iLen xs) 300)))) (iRem d 2000)) ∧ True ∧ (InR IntKind.i64 (Sp.adjust (Sp.mT (cutRows xs none (some (iMin (iLen xs) 300)))) (Sp.mD (cutRows xs none (some (iMin (iLen xs) 300)))) (Sp.mG (cutRows xs none (some (iMin (iLen xs) 300)))) (Sp.mM (cutRows xs none (some (iMin (iLen xs) 300)))) (iSub (Sp.mT (cutRows xs none (some (iMin (iLen xs) 300)))) (iRem d 2000))) → InR IntKind.i64 (iSub 0 (Sp.adjust (Sp.mT (cutRows xs none (some (iMin (iLen xs) 300)))) (Sp.mD (cutRows xs none (some (iMin (iLen xs) 300)))) (Sp.mG (cutRows xs none (some (iMin (iLen xs) 300)))) (Sp.mM (cutRows xs none (some (iMin (iLen xs) 300)))) (iAdd (Sp.mT (cutRows xs none (some (iMin (iLen xs) 300)))) (iRem d 2000)))) ∧ (bEq (Sp.adjust (Sp.mT (cutRows xs none (some (iMin (iLen xs) 300)))) (Sp.mD (cutRows xs none (some (iMin (iLen xs) 300)))) (Sp.mG (cutRows xs none (some (iMin (iLen xs) 300)))) (Sp.mM (cutRows xs none (some (iMin (iLen xs) 300)))) (iSub (Sp.mT (cutRows xs none (some (iMin (iLen xs) 300)))) (iRem d 2000))) (iSub 0 (Sp.adjust (Sp.mT (cutRows xs none (some (iMin (iLen xs) 300)))) (Sp.mD (cutRows xs none (some (iMin (iLen xs) 300)))) (Sp.mG (cutRows xs none (some (iMin (iLen xs) 300)))) (Sp.mM (cutRows xs none (some (iMin (iLen xs) 300)))) (iAdd (Sp.mT (cutRows xs none (some (iMin (iLen xs) 300)))) (iRem d 2000)))) = true → (bLt (Sp.mD (cutRows xs none (some (iMin (iLen xs) 300)))) (iRem d 2000) = false → (bEq (Sp.adjust (Sp.mT (cutRows xs none (some (iMin (iLen xs) 300)))) (Sp.mD (cutRows xs none (some (iMin (iLen xs) 300)))) (Sp.mG (cutRows xs none (some (iMin (iLen xs) 300)))) (Sp.mM (cutRows xs none (some (iMin (iLen xs) 300)))) (iAdd (Sp.mT (cutRows xs none (some (iMin (iLen xs) 300)))) (iRem d 2000))) 0 = true → (bLe (iRem d 2000) (Sp.mD (cutRows xs none (some (iMin (iLen xs) 300)))) = false → (bEq (Sp.mM (cutRows xs none (some (iMin (iLen xs) 300)))) 0 = false → bLt 0 (Sp.adjust (Sp.mT (cutRows xs none (some (iMin (iLen xs) 300)))) (Sp.mD (cutRows xs none (some (iMin (iLen xs) 300)))) (Sp.mG (cutRows xs none (some (iMin (iLen xs) 300)))) (Sp.mM (cutRows xs none (some (iMin (iLen xs) 300)))) (iAdd (Sp.mT (cutRows xs none (some (iMin (iLen xs) 300)))) (iRem d 2000))) = true) ∧ (bEq (Sp.mM (cutRows xs none (some (iMin (iLen xs) 300)))) 0 = true → true = true)) ∧ (bLe (iRem d 2000) (Sp.mD (cutRows xs none (some (iMin (iLen xs) 300)))) = true → true = true)) ∧ (bEq (Sp.adjust (Sp.mT (cutRows xs none (some (iMin (iLen xs) 300)))) (Sp.mD (cutRows xs none (some (iMin (iLen xs) 300)))) (Sp.mG (cutRows xs none (some (iMin (iLen xs) 300)))) (Sp.mM (cutRows xs none (some (iMin (iLen xs) 300)))) (iAdd (Sp.mT (cutRows xs none (some (iMin (iLen xs) 300)))) (iRem d 2000))) 0 = false → false = true)) ∧ (bLt (Sp.mD (cutRows xs none (some (iMin (iLen xs) 300)))) (iRem d 2000) = true → (bLe (iRem d 2000) (Sp.mD (cutRows xs none (some (iMin (iLen xs) 300)))) = false → (bEq (Sp.mM (cutRows xs none (some (iMin (iLen xs) 300)))) 0 = false → bLt 0 (Sp.adjust (Sp.mT (cutRows xs none (some (iMin (iLen xs) 300)))) (Sp.mD (cutRows xs none (some (iMin (iLen xs) 300)))) (Sp.mG (cutRows xs none (some (iMin (iLen xs) 300)))) (Sp.mM (cutRows xs none (some (iMin (iLen xs) 300)))) (iAdd (Sp.mT (cutRows xs none (some (iMin (iLen xs) 300)))) (iRem d 2000))) = true) ∧ (bEq (Sp.mM (cutRows xs none (some (iMin (iLen xs) 300)))) 0 = true → true = true)) ∧ (bLe (iRem d 2000) (Sp.mD (cutRows xs none (some (iMin (iLen xs) 300)))) = true → true = true))) ∧ (bEq (Sp.adjust (Sp.mT (cutRows xs none (some (iMin (iLen xs) 300)))) (Sp.mD (cutRows xs none (some (iMin (iLen xs) 300)))) (Sp.mG (cutRows xs none (some (iMin (iLen xs) 300)))) (Sp.mM (cutRows xs none (some (iMin (iLen xs) 300)))) (iSub (Sp.mT (cutRows xs none (some (iMin (iLen xs) 300)))) (iRem d 2000))) (iSub 0 (Sp.adjust (Sp.mT (cutRows xs none (some (iMin (iLen xs) 300)))) (Sp.mD (cutRows xs none (some (iMin (iLen xs) 300)))) (Sp.mG (cutRows xs none (some (iMin (iLen xs) 300)))) (Sp.mM (cutRows xs none (some (iMin (iLen xs) 300)))) (iAdd (Sp.mT (cutRows xs none (some (iMin (iLen xs) 300)))) (iRem d 2000)))) = false → false = true))) ∧ (bLt (Sp.mT (cutRows xs none (some (iMin (iLen xs) 300)))) (iRem d 2000) = true → (bLt (Sp.mD (cutRows xs none (some (iMin (iLen xs) 300)))) (iRem d 2000) = false → (bEq (Sp.adjust (Sp.mT (cutRows xs none (some (iMin (iLen xs) 300)))) (Sp.mD (cutRows xs none (some (iMin (iLen xs) 300)))) (Sp.mG (cutRows xs none (some (iMin (iLen xs) 300)))) (Sp.mM (cutRows xs none (some (iMin (iLen xs) 300)))) (iAdd (Sp.mT (cutRows xs none (some (iMin (iLen xs) 300)))) (iRem d 2000))) 0 = true → (bLe (iRem d 2000) (Sp.mD (cutRows xs none (some (iMin (iLen xs) 300)))) = false → (bEq (Sp.mM (cutRows xs none (some (iMin (iLen xs) 300)))) 0 = false → bLt 0 (Sp.adjust (Sp.mT (cutRows xs none (some (iMin (iLen xs) 300)))) (Sp.mD (cutRows xs none (some (iMin (iLen xs) 300)))) (Sp.mG (cutRows xs none (some (iMin (iLen xs) 300)))) (Sp.mM (cutRows xs none (some (iMin (iLen xs) 300)))) (iAdd (Sp.mT (cutRows xs none (some (iMin (iLen xs) 300)))) (iRem d 2000))) = true) ∧ (bEq (Sp.mM (cutRows xs none (some (iMin (iLen xs) 300)))) 0 = true → true = true)) ∧ (bLe (iRem d 2000) (Sp.mD (cutRows xs none (some (iMin (iLen xs) 300)))) = true → true = true)) ∧ (bEq (Sp.adjust (Sp.mT (cutRows xs none (some (iMin (iLen xs) 300)))) (Sp.mD (cutRows xs none (some (iMin (iLen xs) 300)))) (Sp.mG (cutRows xs none (some (iMin (iLen xs) 300)))) (Sp.mM (cutRows xs none (some (iMin (iLen xs) 300)))) (iAdd (Sp.mT (cutRows xs none (some (iMin (iLen xs) 300)))) (iRem d 2000))) 0 = false → false = true)) ∧ (bLt (Sp.mD (cutRows xs none (some (iMin (iLen xs) 300)))) (iRem d 2000) = true → (bLe (iRem d 2000) (Sp.mD (cutRows xs none (some (iMin (iLen xs) 300)))) = false → (bEq (Sp.mM (cutRows xs none (some (iMin (iLen xs) 300)))) 0 = false → bLt 0 (Sp.adjust (Sp.mT (cutRows xs none (some (iMin (iLen xs) 300)))) (Sp.mD (cutRows xs none (some (iMin (iLen xs) 300)))) (Sp.mG (cutRows xs none (some (iMin (iLen xs) 300)))) (Sp.mM (cutRows xs none (some (iMin (iLen xs) 300)))) (iAdd (Sp.mT (cutRows xs none (some (iMin (iLen xs) 300)))) (iRem d 2000))) = true) ∧ (bEq (Sp.mM (cutRows xs none (some (iMin (iLen xs) 300)))) 0 = true → true = true)) ∧ (bLe (iRem d 2000) (Sp.mD (cutRows xs none (some (iMin (iLen xs) 300)))) = true → true = true)))) ∧ (bLe (Sp.adjust (Sp.mT (cutRows xs none (some (iMin (iLen xs) 300)))) (Sp.mD (cutRows xs none (some (iMin (iLen xs) 300)))) (Sp.mG (cutRows xs none (some (iMin (iLen xs) 300)))) (Sp.mM (cutRows xs none (some (iMin (iLen xs) 300)))) (iAdd (iAdd (Sp.mT (cutRows xs none (some (iMin (iLen xs) 300)))) (iRem d 2000)) e)) (Sp.mM (cutRows xs none (some (iMin (iLen xs) 300)))) = false → false = true)) ∧ (bLe 0 (Sp.adjust (Sp.mT (cutRows xs none (some (iMin (iLen xs) 300)))) (Sp.mD (cutRows xs none (some (iMin (iLen xs) 300)))) (Sp.mG (cutRows xs none (some (iMin (iLen xs) 300)))) (Sp.mM (cutRows xs none (some (iMin (iLen xs) 300)))) (iAdd (Sp.mT (cutRows xs none (some (iMin (iLen xs) 300)))) (iRem d 2000))) = false → false = true)) ∧ (bLe (Sp.adjust (Sp.mT (cutRows xs none (some (iMin (iLen xs) 300)))) (Sp.mD (cutRows xs none (some (iMin (iLen xs) 300)))) (Sp.mG (cutRows xs none (some (iMin (iLen xs) 300)))) (Sp.mM (cutRows xs none (some (iMin (iLen xs) 300)))) (iAdd (Sp.mT (cutRows xs none (some (iMin (iLen xs) 300)))) (iRem d 2000))) (Sp.adjust (Sp.mT (cutRows xs none (some (iMin (iLen xs) 300)))) (Sp.mD (cutRows xs none (some (iMin (iLen xs) 300)))) (Sp.mG (cutRows xs none (some (iMin (iLen xs) 300)))) (Sp.mM (cutRows xs none (some (iMin (iLen xs) 300)))) (iAdd (iAdd (Sp.mT (cutRows xs none (some (iMin (iLen xs) 300)))) (iRem d 2000)) e)) = false → false = true))))))) := by kernel_rfl
theorem v4 (xs : List (List C)) (d : Int) (e : Int) : Holds (Wfs [.sl [.int .u8] xs, .int .u16 d, .int .u8 e] → True → vcF Go.Proofs.Try.prog (look tb4) (fun _ => false) (fun _ _ => LoopAnn.unroll 200) 8 4 [.sl [.int .u8] xs, .int .u16 d, .int .u8 e] [] (fun sv _ => isTrue sv)) := by
  refine ⟨fun hw hp => ?_⟩
  rw [e4]
  generalize cutRows xs none (some (iMin (iLen xs) 300)) = ys
  simp only [Wfs, Wf, InR, and_true] at hw
  have hn := rem_bd d (b := 2000) (by omega)
  have hn0 : 0 ≤ d.tmod 2000 := Int.tmod_nonneg _ (by omega)
  have hv := Sp.made_valid ys
  have hb := Sp.made_bd ys
  simp only [iRem]
  generalize d.tmod 2000 = n at *
  have e1 := Sp.adj_up (n := n) hv hn0 (by omega)
  have e2 := Sp.adj_up (n := n + e) hv (by omega) (by omega)
  have hm : max 0 (n - Sp.mD ys) * Sp.mG ys ≤ max 0 (n + e - Sp.mD ys) * Sp.mG ys := Int.mul_le_mul_of_nonneg_right (by omega) (by omega)
  have h0 : 0 ≤ max 0 (n - Sp.mD ys) * Sp.mG ys := Int.mul_nonneg (by omega) (by omega)
  have hz : n ≤ Sp.mD ys → max 0 (n - Sp.mD ys) * Sp.mG ys = 0 := fun h => by rw [show max 0 (n - Sp.mD ys) = 0 by omega]; omega
  have hp : Sp.mD ys < n → 1 * 1 ≤ max 0 (n - Sp.mD ys) * Sp.mG ys := fun h => Int.mul_le_mul (by omega) (by omega) (by omega) (by omega)
  rw [show Sp.mT ys + (n + e) = Sp.mT ys + n + e by omega] at e2
  have e3 : n ≤ Sp.mT ys → Sp.adjust (Sp.mT ys) (Sp.mD ys) (Sp.mG ys) (Sp.mM ys) (Sp.mT ys - n) = -(min (Sp.mM ys) (max 0 (n - Sp.mD ys) * Sp.mG ys)) := fun h => Sp.adj_dn hv hn0 h
  simp only [iAdd, iSub, e1, e2]
  clear e1 e2 hv
  generalize max 0 (n - Sp.mD ys) * Sp.mG ys = aa at *
  generalize max 0 (n + e - Sp.mD ys) * Sp.mG ys = bb at *
  generalize Sp.adjust (Sp.mT ys) (Sp.mD ys) (Sp.mG ys) (Sp.mM ys) (Sp.mT ys - n) = cc at *
  generalize Sp.mT ys = t at *
  generalize Sp.mD ys = dd at *
  generalize Sp.mG ys = g at *
  generalize Sp.mM ys = m at *
  simp only [bNot, bLe, bLt, bEq, iLen, iMin, geB, pLe, pNe, InR, decide_eq_true_eq, decide_eq_false_iff_not, Bool.not_true, true_implies, implies_true, true_and, and_true, Bool.false_eq_true, false_implies]
  repeat' (first | apply And.intro | intro _)
  all_goals (first | trivial | omega)
end Go.Sx

