/- Contracts and conditions, continued. -/
import Derived.Test.YtodpeopfbcblaaaSxUse
import Derived.Test.YtodpeopfbcblaaaC18f
import Derived.Test.YtodpeopfbcblaaaSxBits
import Derived.Lib.Mul64
import Derived.KernelRfl
set_option linter.unusedVariables false
set_option linter.unusedSimpArgs false
set_option maxRecDepth 100000
set_option maxHeartbeats 4000000

namespace Go.Sx
def ct46 : Ct := { ps := [(false, [.int .u64]), (false, [.int .u64]), (false, [.int .u64])], rs := [(false, [.int .u64]), (false, [.int .u64])], pre := fun a => pLe (cel 0 (arg 2 a)).int 1 ∧ True, out := fun a => [[.i (Sp.subD (cel 0 (arg 0 a)).int (cel 0 (arg 1 a)).int (cel 0 (arg 2 a)).int)], [.i (Sp.subB (cel 0 (arg 0 a)).int (cel 0 (arg 1 a)).int (cel 0 (arg 2 a)).int)]] }
theorem s46 : SoundCt Go.Proofs.Try.prog 46 ct46 := sub64_sound (fn := Go.Proofs.Try.f46) (by kernel_rfl) (by kernel_rfl) (by kernel_rfl) (by kernel_rfl) (by kernel_rfl)
end Go.Sx

namespace Go.Sx
def ct49 : Ct := { ps := [(false, [.int .u64]), (false, [.int .u64]), (false, [.int .u64])], rs := [(false, [.int .u64]), (false, [.int .u64])], pre := fun a => pLe (cel 0 (arg 2 a)).int 1 ∧ True, out := fun a => [[.i (Sp.addD (cel 0 (arg 0 a)).int (cel 0 (arg 1 a)).int (cel 0 (arg 2 a)).int)], [.i (Sp.addB (cel 0 (arg 0 a)).int (cel 0 (arg 1 a)).int (cel 0 (arg 2 a)).int)]] }
theorem s49 : SoundCt Go.Proofs.Try.prog 49 ct49 := add64_sound (fn := Go.Proofs.Try.f49) (by kernel_rfl) (by kernel_rfl) (by kernel_rfl) (by kernel_rfl) (by kernel_rfl)
end Go.Sx

namespace Go
open Go.Sx
def Sp.w1 (n : Int) : Int := n / 18446744073709551616 % 18446744073709551616
def Sp.w0 (n : Int) : Int := n % 18446744073709551616
def Sp.un (h l : Int) : Int := h * 18446744073709551616 + l
def Sp.sg (h l : Int) : Int := if h < 9223372036854775808 then h * 18446744073709551616 + l else h * 18446744073709551616 + l - 340282366920938463463374607431768211456
end Go

namespace Go
open Go.Sx
def Sp.mhi (a b : Int) : Int := a * b / 18446744073709551616
def Sp.mlo (a b : Int) : Int := a * b % 18446744073709551616
end Go

namespace Go
open Go.Sx
theorem Sp.and_nat (a b : Nat) (ha : a < 18446744073709551616) (hb : b < 18446744073709551616) : iAnd .u64 (a : Int) (b : Int) = ((a &&& b : Nat) : Int) := by
  show IntKind.u64.wrap _ = _
  rw [IntKind.wrap_u64]
  have h1 : (BitVec.ofInt IntKind.u64.bits (a : Int) &&& BitVec.ofInt IntKind.u64.bits (b : Int)).toNat = a &&& b := by
    show (BitVec.ofInt 64 (a : Int) &&& BitVec.ofInt 64 (b : Int)).toNat = _
    rw [BitVec.toNat_and, BitVec.ofInt_natCast, BitVec.ofInt_natCast, BitVec.toNat_ofNat, BitVec.toNat_ofNat, Nat.mod_eq_of_lt ha, Nat.mod_eq_of_lt hb]
  rw [h1]
  have := Nat.and_le_left (n := a) (m := b)
  omega
theorem Sp.or_nat (a b : Nat) (ha : a < 18446744073709551616) (hb : b < 18446744073709551616) : iOr .u64 (a : Int) (b : Int) = ((a ||| b : Nat) : Int) := by
  show IntKind.u64.wrap _ = _
  rw [IntKind.wrap_u64]
  have h1 : (BitVec.ofInt IntKind.u64.bits (a : Int) ||| BitVec.ofInt IntKind.u64.bits (b : Int)).toNat = a ||| b := by
    show (BitVec.ofInt 64 (a : Int) ||| BitVec.ofInt 64 (b : Int)).toNat = _
    rw [BitVec.toNat_or, BitVec.ofInt_natCast, BitVec.ofInt_natCast, BitVec.toNat_ofNat, BitVec.toNat_ofNat, Nat.mod_eq_of_lt ha, Nat.mod_eq_of_lt hb]
  rw [h1]
  have := Nat.or_lt_two_pow (n := 64) (x := a) (y := b) (by simpa using ha) (by simpa using hb)
  have e : (2 : Nat) ^ 64 = 18446744073709551616 := by decide
  omega
theorem Sp.and32 {x : Int} (h0 : 0 ≤ x) (h1 : x ≤ 18446744073709551615) : iAnd .u64 x 4294967295 = x % 4294967296 := by
  obtain ⟨a, rfl⟩ := Int.eq_ofNat_of_zero_le h0
  have := Sp.and_nat a 4294967295 (by omega) (by omega)
  have e := Nat.and_two_pow_sub_one_eq_mod a 32
  simp only [show (2 : Nat) ^ 32 = 4294967296 by decide] at e
  rw [show (4294967296 - 1 : Nat) = 4294967295 by decide] at e
  rw [e] at this
  rw [show ((4294967295 : Nat) : Int) = 4294967295 from rfl] at this
  rw [this]
  omega
theorem Sp.wrap64 {x : Int} (h0 : 0 ≤ x) (h1 : x ≤ 18446744073709551615) : iWrap .u64 x = x := by show IntKind.u64.wrap x = x; rw [IntKind.wrap_u64]; omega
theorem Sp.wrap64m (x : Int) : iWrap .u64 x = x % 18446744073709551616 := by show IntKind.u64.wrap x = _; rw [IntKind.wrap_u64]
theorem Sp.shr32 (x : Int) : iShr x 32 = x / 4294967296 := by
  show x.fdiv (2 ^ (32 : Int).toNat) = _
  rw [Int.fdiv_eq_ediv_of_nonneg _ (by decide)]
  rfl
theorem Sp.mul64_int {x y : Int} (hx : 0 ≤ x) (hx' : x ≤ 18446744073709551615) (hy : 0 ≤ y) (hy' : y ≤ 18446744073709551615) :
    0 ≤ (x % 4294967296) * (y % 4294967296) ∧ (x % 4294967296) * (y % 4294967296) < 18446744073709551616 ∧ 0 ≤ (x / 4294967296) * (y % 4294967296) ∧ (x / 4294967296) * (y % 4294967296) < 18446744073709551616 ∧
      (x / 4294967296) * (y % 4294967296) + (x % 4294967296) * (y % 4294967296) / 4294967296 < 18446744073709551616 ∧ 0 ≤ (x % 4294967296) * (y / 4294967296) ∧ (x % 4294967296) * (y / 4294967296) < 18446744073709551616 ∧
      ((x / 4294967296) * (y % 4294967296) + (x % 4294967296) * (y % 4294967296) / 4294967296) % 4294967296 + (x % 4294967296) * (y / 4294967296) < 18446744073709551616 ∧
      0 ≤ (x / 4294967296) * (y / 4294967296) ∧ (x / 4294967296) * (y / 4294967296) < 18446744073709551616 ∧ 0 ≤ x * y / 18446744073709551616 ∧ x * y / 18446744073709551616 < 18446744073709551616 ∧
      (x / 4294967296) * (y / 4294967296) + ((x / 4294967296) * (y % 4294967296) + (x % 4294967296) * (y % 4294967296) / 4294967296) / 4294967296 + (((x / 4294967296) * (y % 4294967296) + (x % 4294967296) * (y % 4294967296) / 4294967296) % 4294967296 + (x % 4294967296) * (y / 4294967296)) / 4294967296 = x * y / 18446744073709551616 := by
  obtain ⟨a, rfl⟩ := Int.eq_ofNat_of_zero_le hx
  obtain ⟨b, rfl⟩ := Int.eq_ofNat_of_zero_le hy
  have := Go.Lib.mul64_hi a b (by omega) (by omega)
  have q1 := Go.Lib.half_mul_le (a := a / 4294967296) (b := b / 4294967296) (by omega) (by omega)
  have q2 := Go.Lib.half_mul_le (a := a / 4294967296) (b := b % 4294967296) (by omega) (by omega)
  have q3 := Go.Lib.half_mul_le (a := a % 4294967296) (b := b / 4294967296) (by omega) (by omega)
  have q4 := Go.Lib.half_mul_le (a := a % 4294967296) (b := b % 4294967296) (by omega) (by omega)
  have e1 : ((a : Int) % 4294967296) = ((a % 4294967296 : Nat) : Int) := by omega
  have e2 : ((b : Int) % 4294967296) = ((b % 4294967296 : Nat) : Int) := by omega
  have e3 : ((a : Int) / 4294967296) = ((a / 4294967296 : Nat) : Int) := by omega
  have e4 : ((b : Int) / 4294967296) = ((b / 4294967296 : Nat) : Int) := by omega
  rw [e1, e2, e3, e4, ← Int.natCast_mul, ← Int.natCast_mul, ← Int.natCast_mul, ← Int.natCast_mul, ← Int.natCast_mul]
  generalize (a / 4294967296) * (b / 4294967296) = p at *
  generalize (a / 4294967296) * (b % 4294967296) = q at *
  generalize (a % 4294967296) * (b / 4294967296) = r at *
  generalize (a % 4294967296) * (b % 4294967296) = s at *
  generalize a * b = z at *
  omega
end Go

namespace Go.Sx
/-! ### function 45: bits.Mul64 -/
def ct45 : Ct := { ps := [(false, [.int .u64]), (false, [.int .u64])], rs := [(false, [.int .u64]), (false, [.int .u64])], pre := fun _ => True, out := fun a => [[.i (Sp.mhi (cel 0 (arg 0 a)).int (cel 0 (arg 1 a)).int)], [.i (Sp.mlo (cel 0 (arg 0 a)).int (cel 0 (arg 1 a)).int)]] }
def tb45 : List (Nat × Ct) := []
theorem e45 (x : Int) (y : Int) : vcF Go.Proofs.Try.prog (look tb45) (fun _ => true) (fun _ _ => LoopAnn.unroll 200) 6 45 [.int .u64 x, .int .u64 y] [] (fun sv heap => Gives [(false, [.int .u64]), (false, [.int .u64])] [[.i (Sp.mhi x y)], [.i (Sp.mlo x y)]] sv heap) = (pSh 64 32 ∧ pSh 64 32 ∧ pSh 64 32 ∧ pSh 64 32 ∧ pSh 64 32 ∧ (iWrap IntKind.u64 (iAdd (iWrap IntKind.u64 (iAdd (iWrap IntKind.u64 (iMul (iShr x 32) (iShr y 32))) (iShr (iWrap IntKind.u64 (iAdd (iWrap IntKind.u64 (iMul (iShr x 32) (iAnd IntKind.u64 y 4294967295))) (iShr (iWrap IntKind.u64 (iMul (iAnd IntKind.u64 x 4294967295) (iAnd IntKind.u64 y 4294967295))) 32))) 32))) (iShr (iWrap IntKind.u64 (iAdd (iAnd IntKind.u64 (iWrap IntKind.u64 (iAdd (iWrap IntKind.u64 (iMul (iShr x 32) (iAnd IntKind.u64 y 4294967295))) (iShr (iWrap IntKind.u64 (iMul (iAnd IntKind.u64 x 4294967295) (iAnd IntKind.u64 y 4294967295))) 32))) 4294967295) (iWrap IntKind.u64 (iMul (iAnd IntKind.u64 x 4294967295) (iShr y 32))))) 32)) = Sp.mhi x y ∧ True) ∧ (iWrap IntKind.u64 (iMul x y) = Sp.mlo x y ∧ True) ∧ True) := by kernel_rfl
theorem v45 (x : Int) (y : Int) : Holds (Wfs [.int .u64 x, .int .u64 y] → True → vcF Go.Proofs.Try.prog (look tb45) (fun _ => true) (fun _ _ => LoopAnn.unroll 200) 6 45 [.int .u64 x, .int .u64 y] [] (fun sv heap => Gives [(false, [.int .u64]), (false, [.int .u64])] [[.i (Sp.mhi x y)], [.i (Sp.mlo x y)]] sv heap)) := by
  refine ⟨fun hw hp => ?_⟩
  rw [e45]
  simp only [Wfs, Wf, InR, and_true] at hw
  have c : pSh 64 32 := by decide
  refine ⟨c, c, c, c, c, ?_⟩
  have m := Sp.mul64_int (x := x) (y := y) (by omega) (by omega) (by omega) (by omega)
  simp only [Sp.shr32, iMul, iAdd]
  rw [Sp.and32 (x := x) (by omega) (by omega), Sp.and32 (x := y) (by omega) (by omega)]
  rw [Sp.wrap64 (x := x % 4294967296 * (y % 4294967296)) (by omega) (by omega), Sp.wrap64 (x := x / 4294967296 * (y % 4294967296)) (by omega) (by omega)]
  rw [Sp.wrap64 (x := x / 4294967296 * (y % 4294967296) + x % 4294967296 * (y % 4294967296) / 4294967296) (by omega) (by omega)]
  rw [Sp.wrap64 (x := x % 4294967296 * (y / 4294967296)) (by omega) (by omega), Sp.wrap64 (x := x / 4294967296 * (y / 4294967296)) (by omega) (by omega)]
  rw [Sp.and32 (by omega) (by omega)]
  rw [Sp.wrap64 (x := (x / 4294967296 * (y % 4294967296) + x % 4294967296 * (y % 4294967296) / 4294967296) % 4294967296 + x % 4294967296 * (y / 4294967296)) (by omega) (by omega)]
  rw [Sp.wrap64 (x := x / 4294967296 * (y / 4294967296) + (x / 4294967296 * (y % 4294967296) + x % 4294967296 * (y % 4294967296) / 4294967296) / 4294967296) (by omega) (by omega)]
  rw [Sp.wrap64 (x := x / 4294967296 * (y / 4294967296) + (x / 4294967296 * (y % 4294967296) + x % 4294967296 * (y % 4294967296) / 4294967296) / 4294967296 + _) (by omega) (by omega)]
  rw [Sp.wrap64m]
  unfold Sp.mhi Sp.mlo
  simp only [m.2.2.2.2.2.2.2.2.2.2.2.2]
  simp
theorem s45 : SoundCt Go.Proofs.Try.prog 45 ct45 :=
  contractH followsMixed (look_sound (show Tb Go.Proofs.Try.prog tb45 from trivial)) (fun _ => true) (fun _ => fun _ _ => LoopAnn.unroll 200) 6 45 ct45 rfl (by simp [ct45]) fun a => Eq.mp (by kernel_rfl) (v45 ((cel 0 (arg 0 a)).int) ((cel 0 (arg 1 a)).int))
end Go.Sx

namespace Go.Sx
/-! ### function 35: control.product -/
def ct35 : Ct := { ps := [(false, [.int .i64]), (false, [.int .i64])], rs := [(true, [.int .u64, .int .u64])], pre := fun a => 0 ≤ (cel 0 (arg 0 a)).int ∧ 0 ≤ (cel 0 (arg 1 a)).int, out := fun a => [[.i (Sp.w1 ((cel 0 (arg 0 a)).int * (cel 0 (arg 1 a)).int)), .i (Sp.w0 ((cel 0 (arg 0 a)).int * (cel 0 (arg 1 a)).int))]] }
def tb35 : List (Nat × Ct) := [(45, ct45)]
theorem e35 (p : Int) (q : Int) : vcF Go.Proofs.Try.prog (look tb35) (fun _ => true) (fun _ _ => LoopAnn.unroll 200) 6 35 [.int .i64 p, .int .i64 q] [] (fun sv heap => Gives [(true, [.int .u64, .int .u64])] [[.i (Sp.w1 (p * q)), .i (Sp.w0 (p * q))]] sv heap) = (True ∧ (InR IntKind.u64 (Sp.mhi (iWrap IntKind.u64 p) (iWrap IntKind.u64 q)) ∧ InR IntKind.u64 (Sp.mlo (iWrap IntKind.u64 p) (iWrap IntKind.u64 q)) ∧ True → (Sp.mhi (iWrap IntKind.u64 p) (iWrap IntKind.u64 q) = Sp.w1 (p * q) ∧ Sp.mlo (iWrap IntKind.u64 p) (iWrap IntKind.u64 q) = Sp.w0 (p * q) ∧ True) ∧ True)) := by kernel_rfl
theorem v35 (p : Int) (q : Int) : Holds (Wfs [.int .i64 p, .int .i64 q] → 0 ≤ p ∧ 0 ≤ q → vcF Go.Proofs.Try.prog (look tb35) (fun _ => true) (fun _ _ => LoopAnn.unroll 200) 6 35 [.int .i64 p, .int .i64 q] [] (fun sv heap => Gives [(true, [.int .u64, .int .u64])] [[.i (Sp.w1 (p * q)), .i (Sp.w0 (p * q))]] sv heap)) := by
  refine ⟨fun hw hp => ?_⟩
  rw [e35]
  simp only [Wfs, Wf, InR, and_true] at hw
  rw [Sp.wrap64 (x := p) (by omega) (by omega), Sp.wrap64 (x := q) (by omega) (by omega)]
  have m := mul_bd (x := p) (X := 9223372036854775807) (y := q) (Y := 9223372036854775807) (by omega) (by omega) (by omega) (by omega)
  simp only [Sp.mhi, Sp.mlo, Sp.w1, Sp.w0]
  generalize p * q = z at *
  repeat' (first | apply And.intro | intro _)
  all_goals (first | trivial | omega)
theorem s35 : SoundCt Go.Proofs.Try.prog 35 ct35 :=
  contractH followsMixed (look_sound (show Tb Go.Proofs.Try.prog tb35 from ⟨s45, trivial⟩)) (fun _ => true) (fun _ => fun _ _ => LoopAnn.unroll 200) 6 35 ct35 rfl (by simp [ct35]) fun a => Eq.mp (by kernel_rfl) (v35 ((cel 0 (arg 0 a)).int) ((cel 0 (arg 1 a)).int))
end Go.Sx

namespace Go.Sx
/-! ### function 36: control.less -/
def ct36 : Ct := { ps := [(true, [.int .u64, .int .u64]), (true, [.int .u64, .int .u64])], rs := [(true, [.int .u64, .int .u64])], pre := fun _ => True, out := fun a => [[.i (Sp.w1 (Sp.un (cel 0 (arg 0 a)).int (cel 1 (arg 0 a)).int - Sp.un (cel 0 (arg 1 a)).int (cel 1 (arg 1 a)).int)), .i (Sp.w0 (Sp.un (cel 0 (arg 0 a)).int (cel 1 (arg 0 a)).int - Sp.un (cel 0 (arg 1 a)).int (cel 1 (arg 1 a)).int))]] }
def tb36 : List (Nat × Ct) := [(46, ct46)]
theorem e36 (a : Int) (b : Int) (c : Int) (d : Int) : vcF Go.Proofs.Try.prog (look tb36) (fun _ => false) (fun _ _ => LoopAnn.unroll 200) 6 36 [.agg [.int .u64 a, .int .u64 b], .agg [.int .u64 c, .int .u64 d]] [] (fun sv heap => Gives [(true, [.int .u64, .int .u64])] [[.i (Sp.w1 (Sp.un a b - Sp.un c d)), .i (Sp.w0 (Sp.un a b - Sp.un c d))]] sv heap) = ((pLe 0 1 ∧ True) ∧ (InR IntKind.u64 (Sp.subD b d 0) ∧ InR IntKind.u64 (Sp.subB b d 0) ∧ True → (pLe (Sp.subB b d 0) 1 ∧ True) ∧ (InR IntKind.u64 (Sp.subD a c (Sp.subB b d 0)) ∧ InR IntKind.u64 (Sp.subB a c (Sp.subB b d 0)) ∧ True → (Sp.subD a c (Sp.subB b d 0) = Sp.w1 (Sp.un a b - Sp.un c d) ∧ Sp.subD b d 0 = Sp.w0 (Sp.un a b - Sp.un c d) ∧ True) ∧ True))) := by kernel_rfl
theorem v36 (a : Int) (b : Int) (c : Int) (d : Int) : Holds (Wfs [.agg [.int .u64 a, .int .u64 b], .agg [.int .u64 c, .int .u64 d]] → True → vcF Go.Proofs.Try.prog (look tb36) (fun _ => false) (fun _ _ => LoopAnn.unroll 200) 6 36 [.agg [.int .u64 a, .int .u64 b], .agg [.int .u64 c, .int .u64 d]] [] (fun sv heap => Gives [(true, [.int .u64, .int .u64])] [[.i (Sp.w1 (Sp.un a b - Sp.un c d)), .i (Sp.w0 (Sp.un a b - Sp.un c d))]] sv heap)) := by
  refine ⟨fun hw hp => ?_⟩
  rw [e36]
  simp only [Wfs, Wf, InR, and_true] at hw
  simp only [Sp.subD, Sp.subB, Sp.w1, Sp.w0, Sp.un, InR, pLe]
  repeat' (first | apply And.intro | intro _)
  all_goals (first | trivial | omega | (split <;> omega) | (split <;> split <;> omega))
theorem s36 : SoundCt Go.Proofs.Try.prog 36 ct36 :=
  contractH followsMixed (look_sound (show Tb Go.Proofs.Try.prog tb36 from ⟨s46, trivial⟩)) (fun _ => false) (fun _ => fun _ _ => LoopAnn.unroll 200) 6 36 ct36 rfl (by simp [ct36]) fun a => Eq.mp (by kernel_rfl) (v36 ((cel 0 (arg 0 a)).int) ((cel 1 (arg 0 a)).int) ((cel 0 (arg 1 a)).int) ((cel 1 (arg 1 a)).int))
end Go.Sx

namespace Go.Sx
/-! ### function 47: control.below -/
def ct47 : Ct := { ps := [(true, [.int .u64, .int .u64]), (true, [.int .u64, .int .u64])], rs := [(false, [.bool])], pre := fun _ => True, out := fun a => [[.b (decide (Sp.sg (cel 0 (arg 0 a)).int (cel 1 (arg 0 a)).int < Sp.sg (cel 0 (arg 1 a)).int (cel 1 (arg 1 a)).int))]] }
def tb47 : List (Nat × Ct) := []
theorem e47 (a : Int) (b : Int) (c : Int) (d : Int) : vcF Go.Proofs.Try.prog (look tb47) (fun _ => true) (fun _ _ => LoopAnn.unroll 200) 6 47 [.agg [.int .u64 a, .int .u64 b], .agg [.int .u64 c, .int .u64 d]] [] (fun sv heap => Gives [(false, [.bool])] [[.b (decide (Sp.sg a b < Sp.sg c d))]] sv heap) = ((bLt (iWrap IntKind.i64 a) (iWrap IntKind.i64 c) = false → (bEq a c = true → (bLt b d = decide (Sp.sg a b < Sp.sg c d) ∧ True) ∧ True) ∧ (bEq a c = false → (false = decide (Sp.sg a b < Sp.sg c d) ∧ True) ∧ True)) ∧ (bLt (iWrap IntKind.i64 a) (iWrap IntKind.i64 c) = true → (true = decide (Sp.sg a b < Sp.sg c d) ∧ True) ∧ True)) := by kernel_rfl
theorem v47 (a : Int) (b : Int) (c : Int) (d : Int) : Holds (Wfs [.agg [.int .u64 a, .int .u64 b], .agg [.int .u64 c, .int .u64 d]] → True → vcF Go.Proofs.Try.prog (look tb47) (fun _ => true) (fun _ _ => LoopAnn.unroll 200) 6 47 [.agg [.int .u64 a, .int .u64 b], .agg [.int .u64 c, .int .u64 d]] [] (fun sv heap => Gives [(false, [.bool])] [[.b (decide (Sp.sg a b < Sp.sg c d))]] sv heap)) := by
  refine ⟨fun hw hp => ?_⟩
  rw [e47]
  simp only [Wfs, Wf, InR, and_true] at hw
  have wa : iWrap .i64 a = if a < 9223372036854775808 then a else a - 18446744073709551616 := by
    show IntKind.i64.wrap a = _
    rw [IntKind.wrap_i64]; split <;> omega
  have wc : iWrap .i64 c = if c < 9223372036854775808 then c else c - 18446744073709551616 := by
    show IntKind.i64.wrap c = _
    rw [IntKind.wrap_i64]; split <;> omega
  rw [wa, wc]
  clear wa wc
  unfold Sp.sg
  by_cases hA : a < 9223372036854775808 <;> by_cases hC : c < 9223372036854775808 <;> simp only [hA, hC, if_true, if_false]
  all_goals simp only [bLt, bEq, Sp.sg, decide_eq_true_eq, decide_eq_false_iff_not, true_and, and_true, eq_comm (a := true), eq_comm (a := false), decide_eq_decide]
  all_goals repeat' (first | apply And.intro | intro _)
  all_goals (first | trivial | omega)
theorem s47 : SoundCt Go.Proofs.Try.prog 47 ct47 :=
  contractH followsMixed (look_sound (show Tb Go.Proofs.Try.prog tb47 from trivial)) (fun _ => true) (fun _ => fun _ _ => LoopAnn.unroll 200) 6 47 ct47 rfl (by simp [ct47]) fun a => Eq.mp (by kernel_rfl) (v47 ((cel 0 (arg 0 a)).int) ((cel 1 (arg 0 a)).int) ((cel 0 (arg 1 a)).int) ((cel 1 (arg 1 a)).int))
end Go.Sx

namespace Go.Sx
/-! ### function 40: ref18.times -/
def ct40 : Ct := { ps := [(false, [.int .u64]), (false, [.int .u64]), (false, [.int .u64])], rs := [(true, [.int .u64, .int .u64])], pre := fun a => pLe ((cel 0 (arg 0 a)).int * (cel 0 (arg 1 a)).int * (cel 0 (arg 2 a)).int) 340282366920938463463374607431768211455 ∧ True, out := fun a => [[.i (Sp.w1 ((cel 0 (arg 0 a)).int * (cel 0 (arg 1 a)).int * (cel 0 (arg 2 a)).int)), .i (Sp.w0 ((cel 0 (arg 0 a)).int * (cel 0 (arg 1 a)).int * (cel 0 (arg 2 a)).int))]] }
def tb40 : List (Nat × Ct) := [(45, ct45)]
theorem e40 (a : Int) (b : Int) (c : Int) : vcF Go.Proofs.Try.prog (look tb40) (fun _ => true) (fun _ _ => LoopAnn.unroll 200) 6 40 [.int .u64 a, .int .u64 b, .int .u64 c] [] (fun sv heap => Gives [(true, [.int .u64, .int .u64])] [[.i (Sp.w1 (a * b * c)), .i (Sp.w0 (a * b * c))]] sv heap) = (True ∧ (InR IntKind.u64 (Sp.mhi a b) ∧ InR IntKind.u64 (Sp.mlo a b) ∧ True → True ∧ (InR IntKind.u64 (Sp.mhi (Sp.mlo a b) c) ∧ InR IntKind.u64 (Sp.mlo (Sp.mlo a b) c) ∧ True → (iWrap IntKind.u64 (iAdd (iWrap IntKind.u64 (iMul (Sp.mhi a b) c)) (Sp.mhi (Sp.mlo a b) c)) = Sp.w1 (a * b * c) ∧ Sp.mlo (Sp.mlo a b) c = Sp.w0 (a * b * c) ∧ True) ∧ True))) := by kernel_rfl
theorem v40 (a : Int) (b : Int) (c : Int) : Holds (Wfs [.int .u64 a, .int .u64 b, .int .u64 c] → pLe (a * b * c) 340282366920938463463374607431768211455 ∧ True → vcF Go.Proofs.Try.prog (look tb40) (fun _ => true) (fun _ _ => LoopAnn.unroll 200) 6 40 [.int .u64 a, .int .u64 b, .int .u64 c] [] (fun sv heap => Gives [(true, [.int .u64, .int .u64])] [[.i (Sp.w1 (a * b * c)), .i (Sp.w0 (a * b * c))]] sv heap)) := by
  refine ⟨fun hw hp => ?_⟩
  rw [e40]
  simp only [Wfs, Wf, InR, and_true] at hw
  have h0 : 0 ≤ a * b := Int.mul_nonneg (by omega) (by omega)
  have hp := hp.1
  simp only [pLe] at hp
  simp only [Sp.mhi, Sp.mlo, Sp.w1, Sp.w0, iMul, iAdd, Sp.wrap64m, InR]
  generalize a * b = z at *
  have e : z * c = z / 18446744073709551616 * c * 18446744073709551616 + z % 18446744073709551616 * c := by
    have h := Int.ediv_mul_add_emod z 18446744073709551616
    calc z * c = (z / 18446744073709551616 * 18446744073709551616 + z % 18446744073709551616) * c := by rw [h]
      _ = _ := by rw [Int.add_mul]; congr 1; ac_rfl
  have p1 : 0 ≤ z / 18446744073709551616 * c := Int.mul_nonneg (by omega) (by omega)
  have p2 : 0 ≤ z % 18446744073709551616 * c := Int.mul_nonneg (by omega) (by omega)
  rw [e] at hp ⊢
  clear e
  generalize z / 18446744073709551616 * c = P at *
  generalize z % 18446744073709551616 * c = Q at *
  repeat' (first | apply And.intro | intro _)
  all_goals (first | trivial | omega)
theorem s40 : SoundCt Go.Proofs.Try.prog 40 ct40 :=
  contractH followsMixed (look_sound (show Tb Go.Proofs.Try.prog tb40 from ⟨s45, trivial⟩)) (fun _ => true) (fun _ => fun _ _ => LoopAnn.unroll 200) 6 40 ct40 rfl (by simp [ct40]) fun a => Eq.mp (by kernel_rfl) (v40 ((cel 0 (arg 0 a)).int) ((cel 0 (arg 1 a)).int) ((cel 0 (arg 2 a)).int))
end Go.Sx

namespace Go.Sx
/-! ### function 41: ref18.plus -/
def ct41 : Ct := { ps := [(true, [.int .u64, .int .u64]), (true, [.int .u64, .int .u64])], rs := [(true, [.int .u64, .int .u64])], pre := fun _ => True, out := fun a => [[.i (Sp.w1 (Sp.un (cel 0 (arg 0 a)).int (cel 1 (arg 0 a)).int + Sp.un (cel 0 (arg 1 a)).int (cel 1 (arg 1 a)).int)), .i (Sp.w0 (Sp.un (cel 0 (arg 0 a)).int (cel 1 (arg 0 a)).int + Sp.un (cel 0 (arg 1 a)).int (cel 1 (arg 1 a)).int))]] }
def tb41 : List (Nat × Ct) := [(49, ct49)]
theorem e41 (a : Int) (b : Int) (c : Int) (d : Int) : vcF Go.Proofs.Try.prog (look tb41) (fun _ => false) (fun _ _ => LoopAnn.unroll 200) 6 41 [.agg [.int .u64 a, .int .u64 b], .agg [.int .u64 c, .int .u64 d]] [] (fun sv heap => Gives [(true, [.int .u64, .int .u64])] [[.i (Sp.w1 (Sp.un a b + Sp.un c d)), .i (Sp.w0 (Sp.un a b + Sp.un c d))]] sv heap) = ((pLe 0 1 ∧ True) ∧ (InR IntKind.u64 (Sp.addD b d 0) ∧ InR IntKind.u64 (Sp.addB b d 0) ∧ True → (pLe (Sp.addB b d 0) 1 ∧ True) ∧ (InR IntKind.u64 (Sp.addD a c (Sp.addB b d 0)) ∧ InR IntKind.u64 (Sp.addB a c (Sp.addB b d 0)) ∧ True → (Sp.addD a c (Sp.addB b d 0) = Sp.w1 (Sp.un a b + Sp.un c d) ∧ Sp.addD b d 0 = Sp.w0 (Sp.un a b + Sp.un c d) ∧ True) ∧ True))) := by kernel_rfl
theorem v41 (a : Int) (b : Int) (c : Int) (d : Int) : Holds (Wfs [.agg [.int .u64 a, .int .u64 b], .agg [.int .u64 c, .int .u64 d]] → True → vcF Go.Proofs.Try.prog (look tb41) (fun _ => false) (fun _ _ => LoopAnn.unroll 200) 6 41 [.agg [.int .u64 a, .int .u64 b], .agg [.int .u64 c, .int .u64 d]] [] (fun sv heap => Gives [(true, [.int .u64, .int .u64])] [[.i (Sp.w1 (Sp.un a b + Sp.un c d)), .i (Sp.w0 (Sp.un a b + Sp.un c d))]] sv heap)) := by
  refine ⟨fun hw hp => ?_⟩
  rw [e41]
  simp only [Wfs, Wf, InR, and_true] at hw
  simp only [Sp.addD, Sp.addB, Sp.w1, Sp.w0, Sp.un, InR, pLe]
  repeat' (first | apply And.intro | intro _)
  all_goals (first | trivial | omega | (split <;> omega) | (split <;> split <;> omega))
theorem s41 : SoundCt Go.Proofs.Try.prog 41 ct41 :=
  contractH followsMixed (look_sound (show Tb Go.Proofs.Try.prog tb41 from ⟨s49, trivial⟩)) (fun _ => false) (fun _ => fun _ _ => LoopAnn.unroll 200) 6 41 ct41 rfl (by simp [ct41]) fun a => Eq.mp (by kernel_rfl) (v41 ((cel 0 (arg 0 a)).int) ((cel 1 (arg 0 a)).int) ((cel 0 (arg 1 a)).int) ((cel 1 (arg 1 a)).int))
end Go.Sx

namespace Go.Sx
/-! ### function 50: ref18.more -/
def ct50 : Ct := { ps := [(true, [.int .u64, .int .u64]), (true, [.int .u64, .int .u64])], rs := [(false, [.bool])], pre := fun _ => True, out := fun a => [[.b (decide (Sp.un (cel 0 (arg 1 a)).int (cel 1 (arg 1 a)).int < Sp.un (cel 0 (arg 0 a)).int (cel 1 (arg 0 a)).int))]] }
def tb50 : List (Nat × Ct) := []
theorem e50 (a : Int) (b : Int) (c : Int) (d : Int) : vcF Go.Proofs.Try.prog (look tb50) (fun _ => false) (fun _ _ => LoopAnn.unroll 200) 6 50 [.agg [.int .u64 a, .int .u64 b], .agg [.int .u64 c, .int .u64 d]] [] (fun sv heap => Gives [(false, [.bool])] [[.b (decide (Sp.un c d < Sp.un a b))]] sv heap) = ((bLt c a = false → (bEq a c = true → (bLt d b = decide (Sp.un c d < Sp.un a b) ∧ True) ∧ True) ∧ (bEq a c = false → (false = decide (Sp.un c d < Sp.un a b) ∧ True) ∧ True)) ∧ (bLt c a = true → (true = decide (Sp.un c d < Sp.un a b) ∧ True) ∧ True)) := by kernel_rfl
theorem v50 (a : Int) (b : Int) (c : Int) (d : Int) : Holds (Wfs [.agg [.int .u64 a, .int .u64 b], .agg [.int .u64 c, .int .u64 d]] → True → vcF Go.Proofs.Try.prog (look tb50) (fun _ => false) (fun _ _ => LoopAnn.unroll 200) 6 50 [.agg [.int .u64 a, .int .u64 b], .agg [.int .u64 c, .int .u64 d]] [] (fun sv heap => Gives [(false, [.bool])] [[.b (decide (Sp.un c d < Sp.un a b))]] sv heap)) := by
  refine ⟨fun hw hp => ?_⟩
  rw [e50]
  simp only [Wfs, Wf, InR, and_true] at hw
  have e1 : Sp.un a b = a * 18446744073709551616 + b := rfl
  have e2 : Sp.un c d = c * 18446744073709551616 + d := rfl
  generalize Sp.un a b = X at *
  generalize Sp.un c d = Y at *
  simp only [bLt, bEq, decide_eq_true_eq, decide_eq_false_iff_not, true_and, and_true]
  repeat' (first | apply And.intro | intro _)
  all_goals (first | trivial | (rw [decide_eq_decide]; omega) | (symm; rw [decide_eq_true_eq]; omega) | (symm; rw [decide_eq_false_iff_not]; omega))
theorem s50 : SoundCt Go.Proofs.Try.prog 50 ct50 :=
  contractH followsMixed (look_sound (show Tb Go.Proofs.Try.prog tb50 from trivial)) (fun _ => false) (fun _ => fun _ _ => LoopAnn.unroll 200) 6 50 ct50 rfl (by simp [ct50]) fun a => Eq.mp (by kernel_rfl) (v50 ((cel 0 (arg 0 a)).int) ((cel 1 (arg 0 a)).int) ((cel 0 (arg 1 a)).int) ((cel 1 (arg 1 a)).int))
end Go.Sx

namespace Go
open Go.Sx
def Sp.m28 (n : Int) : Int := n % 340282366920938463463374607431768211456
def Sp.nearB (x y z : Int) : Bool := !decide (Sp.m28 (y + z) < x) && !decide (Sp.m28 (x + z) < y)
end Go

theorem Go.Sp.un_m (n : Int) : Sp.un (Sp.w1 n) (Sp.w0 n) = Sp.m28 n := by
  unfold Go.Sp.un Go.Sp.w1 Go.Sp.w0 Go.Sp.m28; omega

namespace Go.Sx
/-! ### function 42: ref18.near -/
def ct42 : Ct := { ps := [(true, [.int .u64, .int .u64]), (true, [.int .u64, .int .u64]), (true, [.int .u64, .int .u64])], rs := [(false, [.bool])], pre := fun _ => True, out := fun a => [[.b (Sp.nearB (Sp.un (cel 0 (arg 0 a)).int (cel 1 (arg 0 a)).int) (Sp.un (cel 0 (arg 1 a)).int (cel 1 (arg 1 a)).int) (Sp.un (cel 0 (arg 2 a)).int (cel 1 (arg 2 a)).int))]] }
def tb42 : List (Nat × Ct) := [(41, ct41), (50, ct50)]
theorem e42 (a : Int) (b : Int) (c : Int) (d : Int) (e : Int) (f : Int) : vcF Go.Proofs.Try.prog (look tb42) (fun _ => false) (fun _ _ => LoopAnn.unroll 200) 6 42 [.agg [.int .u64 a, .int .u64 b], .agg [.int .u64 c, .int .u64 d], .agg [.int .u64 e, .int .u64 f]] [] (fun sv heap => Gives [(false, [.bool])] [[.b (Sp.nearB (Sp.un a b) (Sp.un c d) (Sp.un e f))]] sv heap) = (True ∧ (InR IntKind.u64 (Sp.w1 (Sp.un c d + Sp.un e f)) ∧ InR IntKind.u64 (Sp.w0 (Sp.un c d + Sp.un e f)) ∧ True → True ∧ (True → True ∧ (bNot (decide (Sp.un (Sp.w1 (Sp.un c d + Sp.un e f)) (Sp.w0 (Sp.un c d + Sp.un e f)) < Sp.un a b)) = true → True ∧ (InR IntKind.u64 (Sp.w1 (Sp.un a b + Sp.un e f)) ∧ InR IntKind.u64 (Sp.w0 (Sp.un a b + Sp.un e f)) ∧ True → True ∧ (True → True ∧ (bNot (decide (Sp.un (Sp.w1 (Sp.un a b + Sp.un e f)) (Sp.w0 (Sp.un a b + Sp.un e f)) < Sp.un c d)) = Sp.nearB (Sp.un a b) (Sp.un c d) (Sp.un e f) ∧ True) ∧ True))) ∧ (bNot (decide (Sp.un (Sp.w1 (Sp.un c d + Sp.un e f)) (Sp.w0 (Sp.un c d + Sp.un e f)) < Sp.un a b)) = false → (false = Sp.nearB (Sp.un a b) (Sp.un c d) (Sp.un e f) ∧ True) ∧ True)))) := by kernel_rfl
theorem v42 (a : Int) (b : Int) (c : Int) (d : Int) (e : Int) (f : Int) : Holds (Wfs [.agg [.int .u64 a, .int .u64 b], .agg [.int .u64 c, .int .u64 d], .agg [.int .u64 e, .int .u64 f]] → True → vcF Go.Proofs.Try.prog (look tb42) (fun _ => false) (fun _ _ => LoopAnn.unroll 200) 6 42 [.agg [.int .u64 a, .int .u64 b], .agg [.int .u64 c, .int .u64 d], .agg [.int .u64 e, .int .u64 f]] [] (fun sv heap => Gives [(false, [.bool])] [[.b (Sp.nearB (Sp.un a b) (Sp.un c d) (Sp.un e f))]] sv heap)) := by
  refine ⟨fun hw hp => ?_⟩
  rw [e42]
  simp only [Sp.un_m]
  generalize Sp.un a b = x at *
  generalize Sp.un c d = y at *
  generalize Sp.un e f = z at *
  have e : Sp.nearB x y z = (!decide (Sp.m28 (y + z) < x) && !decide (Sp.m28 (x + z) < y)) := rfl
  rw [e]
  generalize decide (Sp.m28 (y + z) < x) = p
  generalize decide (Sp.m28 (x + z) < y) = q
  cases p <;> cases q <;> simp [bNot]
theorem s42 : SoundCt Go.Proofs.Try.prog 42 ct42 :=
  contractH followsMixed (look_sound (show Tb Go.Proofs.Try.prog tb42 from ⟨s41, ⟨s50, trivial⟩⟩)) (fun _ => false) (fun _ => fun _ _ => LoopAnn.unroll 200) 6 42 ct42 rfl (by simp [ct42]) fun a => Eq.mp (by kernel_rfl) (v42 ((cel 0 (arg 0 a)).int) ((cel 1 (arg 0 a)).int) ((cel 0 (arg 1 a)).int) ((cel 1 (arg 1 a)).int) ((cel 0 (arg 2 a)).int) ((cel 1 (arg 2 a)).int))
end Go.Sx

