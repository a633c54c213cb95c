/- The functions of chapter 13 and of what it uses: what they compute. -/
import Derived.Test.YtmoeognojncmhaaSxUse
import Derived.Test.YtmoeognojncmhaaProg
import Derived.Lib.Mul64
import Derived.KernelRfl
set_option linter.unusedVariables false
set_option linter.unusedSimpArgs false
set_option maxRecDepth 100000
set_option maxHeartbeats 4000000
namespace Go.Sx
open Go.RowKit
theorem followsMixed : Go.Proofs.Try.prog.follows .mixedOrders = true := by kernel_rfl
end Go.Sx

namespace Go
open Go.Sx
def Sp.gcd (a b : Int) : Int := (Int.gcd a b : Int)
def Sp.rvalid (n d : Int) : Bool := decide (1 ≤ n ∧ 1 ≤ d ∧ n ≤ 68719476736 ∧ d ≤ 68719476736 ∧ Sp.gcd n d = 1)
def Sp.mhi (a b : Int) : Int := a * b / 18446744073709551616
def Sp.mlo (a b : Int) : Int := a * b % 18446744073709551616
def Sp.len64 (a : Int) : Int := if a = 0 then 0 else (a.toNat.log2 : Int) + 1
def Sp.dv (h l y : Int) : Int := (h * 18446744073709551616 + l) / y
def Sp.dr (h l y : Int) : Int := (h * 18446744073709551616 + l) % y
def Sp.mkE (a b : Int) : Int := if a < 1 ∨ b < 1 then 1 else if 68719476736 < a / Sp.gcd a b ∨ 68719476736 < b / Sp.gcd a b then 2 else 0
def Sp.mkV (a b v : Int) : Int := if Sp.mkE a b = 0 then v / Sp.gcd a b else 0
end Go

namespace Go
open Go.Sx
theorem Sp.gcd_step (a b : Int) : Sp.gcd b (a.tmod b) = Sp.gcd a b := by
  unfold Sp.gcd Int.gcd
  rw [Int.natAbs_tmod, Nat.gcd_comm b.natAbs, ← Nat.gcd_rec, Nat.gcd_comm]
theorem Sp.gcd_end {a : Int} (h : 0 < a) : Sp.gcd a 0 = a := by
  unfold Sp.gcd
  rw [Int.gcd_zero_right]; omega
theorem Sp.gcd_pos {a b : Int} (h : 1 ≤ a) : 1 ≤ Sp.gcd a b ∧ Sp.gcd a b ≤ a := by
  unfold Sp.gcd
  have h1 : 0 < Int.gcd a b := Int.gcd_pos_of_ne_zero_left _ (by omega)
  have h2 : (Int.gcd a b : Int) ≤ a := Int.le_of_dvd (by omega) (Int.gcd_dvd_left ..)
  omega
theorem Sp.gcd_le2 {a b : Int} (h : 1 ≤ b) : Sp.gcd a b ≤ b := by
  unfold Sp.gcd
  exact Int.le_of_dvd (by omega) (Int.gcd_dvd_right ..)
theorem Sp.gcd_quo {a b : Int} (h : 1 ≤ a) (h' : 1 ≤ b) : 1 ≤ a / Sp.gcd a b ∧ a / Sp.gcd a b ≤ a ∧ 1 ≤ b / Sp.gcd a b ∧ b / Sp.gcd a b ≤ b := by
  have p := Sp.gcd_pos (b := b) h
  have q := Sp.gcd_le2 (a := a) h'
  refine ⟨?_, Int.ediv_le_self _ (by omega), ?_, Int.ediv_le_self _ (by omega)⟩
  · exact (Int.le_ediv_iff_mul_le (by omega)).2 (by omega)
  · exact (Int.le_ediv_iff_mul_le (by omega)).2 (by omega)
theorem Sp.gcd_one {a b : Int} (h : 1 ≤ a) : Sp.gcd (a / Sp.gcd a b) (b / Sp.gcd a b) = 1 := by
  have h1 : 0 < Int.gcd a b := Int.gcd_pos_of_ne_zero_left _ (by omega)
  unfold Sp.gcd
  have := Int.gcd_ediv_gcd_ediv_gcd h1
  rw [this]; rfl
theorem Sp.and_nat (a b : Nat) (ha : a < 18446744073709551616) (hb : b < 18446744073709551616) : iAnd .u64 (a : Int) (b : Int) = ((a &&& b : Nat) : Int) := by
  show IntKind.u64.wrap _ = _
  rw [IntKind.wrap_u64]
  have h1 : (BitVec.ofInt IntKind.u64.bits (a : Int) &&& BitVec.ofInt IntKind.u64.bits (b : Int)).toNat = a &&& b := by
    show (BitVec.ofInt 64 (a : Int) &&& BitVec.ofInt 64 (b : Int)).toNat = _
    rw [BitVec.toNat_and, BitVec.ofInt_natCast, BitVec.ofInt_natCast, BitVec.toNat_ofNat, BitVec.toNat_ofNat, Nat.mod_eq_of_lt ha, Nat.mod_eq_of_lt hb]
  rw [h1]
  have := Nat.and_le_left (n := a) (m := b)
  omega
theorem Sp.or_nat (a b : Nat) (ha : a < 18446744073709551616) (hb : b < 18446744073709551616) : iOr .u64 (a : Int) (b : Int) = ((a ||| b : Nat) : Int) := by
  show IntKind.u64.wrap _ = _
  rw [IntKind.wrap_u64]
  have h1 : (BitVec.ofInt IntKind.u64.bits (a : Int) ||| BitVec.ofInt IntKind.u64.bits (b : Int)).toNat = a ||| b := by
    show (BitVec.ofInt 64 (a : Int) ||| BitVec.ofInt 64 (b : Int)).toNat = _
    rw [BitVec.toNat_or, BitVec.ofInt_natCast, BitVec.ofInt_natCast, BitVec.toNat_ofNat, BitVec.toNat_ofNat, Nat.mod_eq_of_lt ha, Nat.mod_eq_of_lt hb]
  rw [h1]
  have := Nat.or_lt_two_pow (n := 64) (x := a) (y := b) (by simpa using ha) (by simpa using hb)
  have e : (2 : Nat) ^ 64 = 18446744073709551616 := by decide
  omega
theorem Sp.and32 {x : Int} (h0 : 0 ≤ x) (h1 : x ≤ 18446744073709551615) : iAnd .u64 x 4294967295 = x % 4294967296 := by
  obtain ⟨a, rfl⟩ := Int.eq_ofNat_of_zero_le h0
  have := Sp.and_nat a 4294967295 (by omega) (by omega)
  have e := Nat.and_two_pow_sub_one_eq_mod a 32
  simp only [show (2 : Nat) ^ 32 = 4294967296 by decide] at e
  rw [show (4294967296 - 1 : Nat) = 4294967295 by decide] at e
  rw [e] at this
  rw [show ((4294967295 : Nat) : Int) = 4294967295 from rfl] at this
  rw [this]
  omega
theorem Sp.wrap64 {x : Int} (h0 : 0 ≤ x) (h1 : x ≤ 18446744073709551615) : iWrap .u64 x = x := by show IntKind.u64.wrap x = x; rw [IntKind.wrap_u64]; omega
theorem Sp.wrap64m (x : Int) : iWrap .u64 x = x % 18446744073709551616 := by show IntKind.u64.wrap x = _; rw [IntKind.wrap_u64]
theorem Sp.shr32 (x : Int) : iShr x 32 = x / 4294967296 := by
  show x.fdiv (2 ^ (32 : Int).toNat) = _
  rw [Int.fdiv_eq_ediv_of_nonneg _ (by decide)]
  rfl
theorem Sp.mul64_int {x y : Int} (hx : 0 ≤ x) (hx' : x ≤ 18446744073709551615) (hy : 0 ≤ y) (hy' : y ≤ 18446744073709551615) :
    0 ≤ (x % 4294967296) * (y % 4294967296) ∧ (x % 4294967296) * (y % 4294967296) < 18446744073709551616 ∧ 0 ≤ (x / 4294967296) * (y % 4294967296) ∧ (x / 4294967296) * (y % 4294967296) < 18446744073709551616 ∧
      (x / 4294967296) * (y % 4294967296) + (x % 4294967296) * (y % 4294967296) / 4294967296 < 18446744073709551616 ∧ 0 ≤ (x % 4294967296) * (y / 4294967296) ∧ (x % 4294967296) * (y / 4294967296) < 18446744073709551616 ∧
      ((x / 4294967296) * (y % 4294967296) + (x % 4294967296) * (y % 4294967296) / 4294967296) % 4294967296 + (x % 4294967296) * (y / 4294967296) < 18446744073709551616 ∧
      0 ≤ (x / 4294967296) * (y / 4294967296) ∧ (x / 4294967296) * (y / 4294967296) < 18446744073709551616 ∧ 0 ≤ x * y / 18446744073709551616 ∧ x * y / 18446744073709551616 < 18446744073709551616 ∧
      (x / 4294967296) * (y / 4294967296) + ((x / 4294967296) * (y % 4294967296) + (x % 4294967296) * (y % 4294967296) / 4294967296) / 4294967296 + (((x / 4294967296) * (y % 4294967296) + (x % 4294967296) * (y % 4294967296) / 4294967296) % 4294967296 + (x % 4294967296) * (y / 4294967296)) / 4294967296 = x * y / 18446744073709551616 := by
  obtain ⟨a, rfl⟩ := Int.eq_ofNat_of_zero_le hx
  obtain ⟨b, rfl⟩ := Int.eq_ofNat_of_zero_le hy
  have := Go.Lib.mul64_hi a b (by omega) (by omega)
  have q1 := Go.Lib.half_mul_le (a := a / 4294967296) (b := b / 4294967296) (by omega) (by omega)
  have q2 := Go.Lib.half_mul_le (a := a / 4294967296) (b := b % 4294967296) (by omega) (by omega)
  have q3 := Go.Lib.half_mul_le (a := a % 4294967296) (b := b / 4294967296) (by omega) (by omega)
  have q4 := Go.Lib.half_mul_le (a := a % 4294967296) (b := b % 4294967296) (by omega) (by omega)
  have e1 : ((a : Int) % 4294967296) = ((a % 4294967296 : Nat) : Int) := by omega
  have e2 : ((b : Int) % 4294967296) = ((b % 4294967296 : Nat) : Int) := by omega
  have e3 : ((a : Int) / 4294967296) = ((a / 4294967296 : Nat) : Int) := by omega
  have e4 : ((b : Int) / 4294967296) = ((b / 4294967296 : Nat) : Int) := by omega
  rw [e1, e2, e3, e4, ← Int.natCast_mul, ← Int.natCast_mul, ← Int.natCast_mul, ← Int.natCast_mul, ← Int.natCast_mul]
  generalize (a / 4294967296) * (b / 4294967296) = p at *
  generalize (a / 4294967296) * (b % 4294967296) = q at *
  generalize (a % 4294967296) * (b / 4294967296) = r at *
  generalize (a % 4294967296) * (b % 4294967296) = s at *
  generalize a * b = z at *
  omega
end Go

namespace Go.Sx
/-! ### function 51: ratio.divisor -/
def ct51 : Ct := { ps := [(false, [.int .i64]), (false, [.int .i64])], rs := [(false, [.int .i64])], pre := fun a => 0 < (cel 0 (arg 0 a)).int ∧ 0 ≤ (cel 0 (arg 1 a)).int, out := fun a => [[.i (Sp.gcd (cel 0 (arg 0 a)).int (cel 0 (arg 1 a)).int)]] }
def tb51 : List (Nat × Ct) := []
theorem e51 (p : Int) (q : Int) : vcF Go.Proofs.Try.prog (look tb51) (fun _ => false) (fun _ _ => .inv (Int × Int) (fun x => 0 < x.1 ∧ 0 ≤ x.2 ∧ Sp.gcd x.1 x.2 = Sp.gcd p q) (fun x => [(0, .int .i64 x.1), (1, .int .i64 x.2)]) (fun _ => []) [] [0, 1, 4, 6] (fun x => x.2.toNat)) 6 51 [.int .i64 p, .int .i64 q] [] (fun sv heap => Gives [(false, [.int .i64])] [[.i (Sp.gcd p q)]] sv heap) = ((∃ (x : Int × Int), (0 < x.1 ∧ 0 ≤ x.2 ∧ Sp.gcd x.1 x.2 = Sp.gcd p q) ∧ true = true ∧ ((IntKind.i64 = IntKind.i64 ∧ p = x.1) ∧ (IntKind.i64 = IntKind.i64 ∧ q = x.2) ∧ True) ∧ True) ∧ (∀ (x : Int × Int), true = true ∧ true = true) ∧ ∀ (x : Int × Int), 0 < x.1 ∧ 0 ≤ x.2 ∧ Sp.gcd x.1 x.2 = Sp.gcd p q → InR IntKind.i64 x.1 ∧ InR IntKind.i64 x.2 ∧ True → True → (bNe x.2 0 = true → pNe x.2 0 ∧ (true = true ∧ [SV.lit IntKind.i64 0] = [SV.lit IntKind.i64 0]) ∧ ([] : List HB) = [] ∧ ∃ (y : Int × Int), (0 < y.1 ∧ 0 ≤ y.2 ∧ Sp.gcd y.1 y.2 = Sp.gcd p q) ∧ true = true ∧ ((IntKind.i64 = IntKind.i64 ∧ x.2 = y.1) ∧ (IntKind.i64 = IntKind.i64 ∧ iRem x.1 x.2 = y.2) ∧ True) ∧ True ∧ y.2.toNat < x.2.toNat) ∧ (bNe x.2 0 = false → (x.1 = Sp.gcd p q ∧ True) ∧ True)) := by kernel_rfl
theorem v51 (p : Int) (q : Int) : Holds (Wfs [.int .i64 p, .int .i64 q] → 0 < p ∧ 0 ≤ q → vcF Go.Proofs.Try.prog (look tb51) (fun _ => false) (fun _ _ => .inv (Int × Int) (fun x => 0 < x.1 ∧ 0 ≤ x.2 ∧ Sp.gcd x.1 x.2 = Sp.gcd p q) (fun x => [(0, .int .i64 x.1), (1, .int .i64 x.2)]) (fun _ => []) [] [0, 1, 4, 6] (fun x => x.2.toNat)) 6 51 [.int .i64 p, .int .i64 q] [] (fun sv heap => Gives [(false, [.int .i64])] [[.i (Sp.gcd p q)]] sv heap)) := by
  refine ⟨fun hw hp => ?_⟩
  rw [e51]
  refine ⟨⟨(p, q), ⟨hp.1, hp.2, rfl⟩, rfl, ⟨⟨rfl, rfl⟩, ⟨rfl, rfl⟩, trivial⟩, trivial⟩, fun _ => ⟨rfl, rfl⟩, fun x hx _ _ => ⟨fun h => ?_, fun h => ⟨⟨?_, trivial⟩, trivial⟩⟩⟩
  · have hne : x.2 ≠ 0 := by simpa using h
    have hb := rem_bd x.1 (b := x.2) (by omega)
    have h0 : 0 ≤ x.1.tmod x.2 := Int.tmod_nonneg _ (by omega)
    exact ⟨hne, ⟨rfl, rfl⟩, rfl, (x.2, x.1.tmod x.2), ⟨by simp only; omega, h0, by rw [Sp.gcd_step]; exact hx.2.2⟩, rfl, ⟨⟨rfl, rfl⟩, ⟨rfl, rfl⟩, trivial⟩, trivial, by simp only; omega⟩
  · have h0 : x.2 = 0 := by simpa using h
    rw [← hx.2.2, h0, Sp.gcd_end hx.1]
theorem s51 : SoundCt Go.Proofs.Try.prog 51 ct51 :=
  contractH followsMixed (look_sound (show Tb Go.Proofs.Try.prog tb51 from trivial)) (fun _ => false) (fun a => fun _ _ => .inv (Int × Int) (fun x => 0 < x.1 ∧ 0 ≤ x.2 ∧ Sp.gcd x.1 x.2 = Sp.gcd (cel 0 (arg 0 a)).int (cel 0 (arg 1 a)).int) (fun x => [(0, .int .i64 x.1), (1, .int .i64 x.2)]) (fun _ => []) [] [0, 1, 4, 6] (fun x => x.2.toNat)) 6 51 ct51 rfl (by simp [ct51]) fun a => Eq.mp (by kernel_rfl) (v51 ((cel 0 (arg 0 a)).int) ((cel 0 (arg 1 a)).int))
end Go.Sx

namespace Go.Sx
/-! ### function 34: ref03.gcd -/
def ct34 : Ct := { ps := [(false, [.int .i64]), (false, [.int .i64])], rs := [(false, [.int .i64])], pre := fun a => 0 < (cel 0 (arg 0 a)).int ∧ 0 ≤ (cel 0 (arg 1 a)).int, out := fun a => [[.i (Sp.gcd (cel 0 (arg 0 a)).int (cel 0 (arg 1 a)).int)]] }
def tb34 : List (Nat × Ct) := []
theorem e34 (p : Int) (q : Int) : vcF Go.Proofs.Try.prog (look tb34) (fun _ => false) (fun _ _ => .inv (Int × Int) (fun x => 0 < x.1 ∧ 0 ≤ x.2 ∧ Sp.gcd x.1 x.2 = Sp.gcd p q) (fun x => [(0, .int .i64 x.1), (1, .int .i64 x.2)]) (fun _ => []) [] [0, 1, 4, 6] (fun x => x.2.toNat)) 6 34 [.int .i64 p, .int .i64 q] [] (fun sv heap => Gives [(false, [.int .i64])] [[.i (Sp.gcd p q)]] sv heap) = ((∃ (x : Int × Int), (0 < x.1 ∧ 0 ≤ x.2 ∧ Sp.gcd x.1 x.2 = Sp.gcd p q) ∧ true = true ∧ ((IntKind.i64 = IntKind.i64 ∧ p = x.1) ∧ (IntKind.i64 = IntKind.i64 ∧ q = x.2) ∧ True) ∧ True) ∧ (∀ (x : Int × Int), true = true ∧ true = true) ∧ ∀ (x : Int × Int), 0 < x.1 ∧ 0 ≤ x.2 ∧ Sp.gcd x.1 x.2 = Sp.gcd p q → InR IntKind.i64 x.1 ∧ InR IntKind.i64 x.2 ∧ True → True → (bNe x.2 0 = true → pNe x.2 0 ∧ (true = true ∧ [SV.lit IntKind.i64 0] = [SV.lit IntKind.i64 0]) ∧ ([] : List HB) = [] ∧ ∃ (y : Int × Int), (0 < y.1 ∧ 0 ≤ y.2 ∧ Sp.gcd y.1 y.2 = Sp.gcd p q) ∧ true = true ∧ ((IntKind.i64 = IntKind.i64 ∧ x.2 = y.1) ∧ (IntKind.i64 = IntKind.i64 ∧ iRem x.1 x.2 = y.2) ∧ True) ∧ True ∧ y.2.toNat < x.2.toNat) ∧ (bNe x.2 0 = false → (x.1 = Sp.gcd p q ∧ True) ∧ True)) := by kernel_rfl
theorem v34 (p : Int) (q : Int) : Holds (Wfs [.int .i64 p, .int .i64 q] → 0 < p ∧ 0 ≤ q → vcF Go.Proofs.Try.prog (look tb34) (fun _ => false) (fun _ _ => .inv (Int × Int) (fun x => 0 < x.1 ∧ 0 ≤ x.2 ∧ Sp.gcd x.1 x.2 = Sp.gcd p q) (fun x => [(0, .int .i64 x.1), (1, .int .i64 x.2)]) (fun _ => []) [] [0, 1, 4, 6] (fun x => x.2.toNat)) 6 34 [.int .i64 p, .int .i64 q] [] (fun sv heap => Gives [(false, [.int .i64])] [[.i (Sp.gcd p q)]] sv heap)) := by
  refine ⟨fun hw hp => ?_⟩
  rw [e34]
  refine ⟨⟨(p, q), ⟨hp.1, hp.2, rfl⟩, rfl, ⟨⟨rfl, rfl⟩, ⟨rfl, rfl⟩, trivial⟩, trivial⟩, fun _ => ⟨rfl, rfl⟩, fun x hx _ _ => ⟨fun h => ?_, fun h => ⟨⟨?_, trivial⟩, trivial⟩⟩⟩
  · have hne : x.2 ≠ 0 := by simpa using h
    have hb := rem_bd x.1 (b := x.2) (by omega)
    have h0 : 0 ≤ x.1.tmod x.2 := Int.tmod_nonneg _ (by omega)
    exact ⟨hne, ⟨rfl, rfl⟩, rfl, (x.2, x.1.tmod x.2), ⟨by simp only; omega, h0, by rw [Sp.gcd_step]; exact hx.2.2⟩, rfl, ⟨⟨rfl, rfl⟩, ⟨rfl, rfl⟩, trivial⟩, trivial, by simp only; omega⟩
  · have h0 : x.2 = 0 := by simpa using h
    rw [← hx.2.2, h0, Sp.gcd_end hx.1]
theorem s34 : SoundCt Go.Proofs.Try.prog 34 ct34 :=
  contractH followsMixed (look_sound (show Tb Go.Proofs.Try.prog tb34 from trivial)) (fun _ => false) (fun a => fun _ _ => .inv (Int × Int) (fun x => 0 < x.1 ∧ 0 ≤ x.2 ∧ Sp.gcd x.1 x.2 = Sp.gcd (cel 0 (arg 0 a)).int (cel 0 (arg 1 a)).int) (fun x => [(0, .int .i64 x.1), (1, .int .i64 x.2)]) (fun _ => []) [] [0, 1, 4, 6] (fun x => x.2.toNat)) 6 34 ct34 rfl (by simp [ct34]) fun a => Eq.mp (by kernel_rfl) (v34 ((cel 0 (arg 0 a)).int) ((cel 0 (arg 1 a)).int))
end Go.Sx

namespace Go.Sx
/-! ### function 40: ratio.Valid -/
def ct40 : Ct := { ps := [(true, [.int .i64, .int .i64])], rs := [(false, [.bool])], pre := fun _ => True, out := fun a => [[.b (Sp.rvalid (cel 0 (arg 0 a)).int (cel 1 (arg 0 a)).int)]] }
def tb40 : List (Nat × Ct) := [(51, ct51)]
theorem e40 (n : Int) (d : Int) : vcF Go.Proofs.Try.prog (look tb40) (fun _ => false) (fun _ _ => LoopAnn.unroll 200) 6 40 [.agg [.int .i64 n, .int .i64 d]] [] (fun sv heap => Gives [(false, [.bool])] [[.b (Sp.rvalid n d)]] sv heap) = ((bLe 1 n = true → (bLe 1 d = true → (bLe n 68719476736 = true → (bLe d 68719476736 = true → (0 < n ∧ 0 ≤ d) ∧ (InR IntKind.i64 (Sp.gcd n d) → (bEq (Sp.gcd n d) 1 = Sp.rvalid n d ∧ True) ∧ True)) ∧ (bLe d 68719476736 = false → (false = Sp.rvalid n d ∧ True) ∧ True)) ∧ (bLe n 68719476736 = false → (false = Sp.rvalid n d ∧ True) ∧ True)) ∧ (bLe 1 d = false → (false = Sp.rvalid n d ∧ True) ∧ True)) ∧ (bLe 1 n = false → (false = Sp.rvalid n d ∧ True) ∧ True)) := by kernel_rfl
theorem v40 (n : Int) (d : Int) : Holds (Wfs [.agg [.int .i64 n, .int .i64 d]] → True → vcF Go.Proofs.Try.prog (look tb40) (fun _ => false) (fun _ _ => LoopAnn.unroll 200) 6 40 [.agg [.int .i64 n, .int .i64 d]] [] (fun sv heap => Gives [(false, [.bool])] [[.b (Sp.rvalid n d)]] sv heap)) := by
  refine ⟨fun hw hp => ?_⟩
  rw [e40]
  simp only [bLe, bEq, decide_eq_true_eq, decide_eq_false_iff_not, Sp.rvalid, and_true]
  repeat' (first | apply And.intro | intro _)
  all_goals (first | omega | (simp only [decide_eq_decide]; omega) | (symm; simp only [decide_eq_false_iff_not]; omega))
theorem s40 : SoundCt Go.Proofs.Try.prog 40 ct40 :=
  contractH followsMixed (look_sound (show Tb Go.Proofs.Try.prog tb40 from ⟨s51, trivial⟩)) (fun _ => false) (fun _ => fun _ _ => LoopAnn.unroll 200) 6 40 ct40 rfl (by simp [ct40]) fun a => Eq.mp (by kernel_rfl) (v40 ((cel 0 (arg 0 a)).int) ((cel 1 (arg 0 a)).int))
end Go.Sx

namespace Go.Sx
/-! ### function 44: ref03.Valid -/
def ct44 : Ct := { ps := [(true, [.int .i64, .int .i64])], rs := [(false, [.bool])], pre := fun _ => True, out := fun a => [[.b (Sp.rvalid (cel 0 (arg 0 a)).int (cel 1 (arg 0 a)).int)]] }
def tb44 : List (Nat × Ct) := [(34, ct34)]
theorem e44 (n : Int) (d : Int) : vcF Go.Proofs.Try.prog (look tb44) (fun _ => false) (fun _ _ => LoopAnn.unroll 200) 6 44 [.agg [.int .i64 n, .int .i64 d]] [] (fun sv heap => Gives [(false, [.bool])] [[.b (Sp.rvalid n d)]] sv heap) = ((bLe 1 n = true → (bLe 1 d = true → (bLe n 68719476736 = true → (bLe d 68719476736 = true → (0 < n ∧ 0 ≤ d) ∧ (InR IntKind.i64 (Sp.gcd n d) → (bEq (Sp.gcd n d) 1 = Sp.rvalid n d ∧ True) ∧ True)) ∧ (bLe d 68719476736 = false → (false = Sp.rvalid n d ∧ True) ∧ True)) ∧ (bLe n 68719476736 = false → (false = Sp.rvalid n d ∧ True) ∧ True)) ∧ (bLe 1 d = false → (false = Sp.rvalid n d ∧ True) ∧ True)) ∧ (bLe 1 n = false → (false = Sp.rvalid n d ∧ True) ∧ True)) := by kernel_rfl
theorem v44 (n : Int) (d : Int) : Holds (Wfs [.agg [.int .i64 n, .int .i64 d]] → True → vcF Go.Proofs.Try.prog (look tb44) (fun _ => false) (fun _ _ => LoopAnn.unroll 200) 6 44 [.agg [.int .i64 n, .int .i64 d]] [] (fun sv heap => Gives [(false, [.bool])] [[.b (Sp.rvalid n d)]] sv heap)) := by
  refine ⟨fun hw hp => ?_⟩
  rw [e44]
  simp only [bLe, bEq, decide_eq_true_eq, decide_eq_false_iff_not, Sp.rvalid, and_true]
  repeat' (first | apply And.intro | intro _)
  all_goals (first | omega | (simp only [decide_eq_decide]; omega) | (symm; simp only [decide_eq_false_iff_not]; omega))
theorem s44 : SoundCt Go.Proofs.Try.prog 44 ct44 :=
  contractH followsMixed (look_sound (show Tb Go.Proofs.Try.prog tb44 from ⟨s34, trivial⟩)) (fun _ => false) (fun _ => fun _ _ => LoopAnn.unroll 200) 6 44 ct44 rfl (by simp [ct44]) fun a => Eq.mp (by kernel_rfl) (v44 ((cel 0 (arg 0 a)).int) ((cel 1 (arg 0 a)).int))
end Go.Sx

namespace Go.Sx
/-! ### function 52: bits.Mul64 -/
def ct52 : Ct := { ps := [(false, [.int .u64]), (false, [.int .u64])], rs := [(false, [.int .u64]), (false, [.int .u64])], pre := fun _ => True, out := fun a => [[.i (Sp.mhi (cel 0 (arg 0 a)).int (cel 0 (arg 1 a)).int)], [.i (Sp.mlo (cel 0 (arg 0 a)).int (cel 0 (arg 1 a)).int)]] }
def tb52 : List (Nat × Ct) := []
theorem e52 (x : Int) (y : Int) : vcF Go.Proofs.Try.prog (look tb52) (fun _ => true) (fun _ _ => LoopAnn.unroll 200) 6 52 [.int .u64 x, .int .u64 y] [] (fun sv heap => Gives [(false, [.int .u64]), (false, [.int .u64])] [[.i (Sp.mhi x y)], [.i (Sp.mlo x y)]] sv heap) = (pSh 64 32 ∧ pSh 64 32 ∧ pSh 64 32 ∧ pSh 64 32 ∧ pSh 64 32 ∧ (iWrap IntKind.u64 (iAdd (iWrap IntKind.u64 (iAdd (iWrap IntKind.u64 (iMul (iShr x 32) (iShr y 32))) (iShr (iWrap IntKind.u64 (iAdd (iWrap IntKind.u64 (iMul (iShr x 32) (iAnd IntKind.u64 y 4294967295))) (iShr (iWrap IntKind.u64 (iMul (iAnd IntKind.u64 x 4294967295) (iAnd IntKind.u64 y 4294967295))) 32))) 32))) (iShr (iWrap IntKind.u64 (iAdd (iAnd IntKind.u64 (iWrap IntKind.u64 (iAdd (iWrap IntKind.u64 (iMul (iShr x 32) (iAnd IntKind.u64 y 4294967295))) (iShr (iWrap IntKind.u64 (iMul (iAnd IntKind.u64 x 4294967295) (iAnd IntKind.u64 y 4294967295))) 32))) 4294967295) (iWrap IntKind.u64 (iMul (iAnd IntKind.u64 x 4294967295) (iShr y 32))))) 32)) = Sp.mhi x y ∧ True) ∧ (iWrap IntKind.u64 (iMul x y) = Sp.mlo x y ∧ True) ∧ True) := by kernel_rfl
theorem v52 (x : Int) (y : Int) : Holds (Wfs [.int .u64 x, .int .u64 y] → True → vcF Go.Proofs.Try.prog (look tb52) (fun _ => true) (fun _ _ => LoopAnn.unroll 200) 6 52 [.int .u64 x, .int .u64 y] [] (fun sv heap => Gives [(false, [.int .u64]), (false, [.int .u64])] [[.i (Sp.mhi x y)], [.i (Sp.mlo x y)]] sv heap)) := by
  refine ⟨fun hw hp => ?_⟩
  rw [e52]
  simp only [Wfs, Wf, InR, and_true] at hw
  have c : pSh 64 32 := by decide
  refine ⟨c, c, c, c, c, ?_⟩
  have m := Sp.mul64_int (x := x) (y := y) (by omega) (by omega) (by omega) (by omega)
  simp only [Sp.shr32, iMul, iAdd]
  rw [Sp.and32 (x := x) (by omega) (by omega), Sp.and32 (x := y) (by omega) (by omega)]
  rw [Sp.wrap64 (x := x % 4294967296 * (y % 4294967296)) (by omega) (by omega), Sp.wrap64 (x := x / 4294967296 * (y % 4294967296)) (by omega) (by omega)]
  rw [Sp.wrap64 (x := x / 4294967296 * (y % 4294967296) + x % 4294967296 * (y % 4294967296) / 4294967296) (by omega) (by omega)]
  rw [Sp.wrap64 (x := x % 4294967296 * (y / 4294967296)) (by omega) (by omega), Sp.wrap64 (x := x / 4294967296 * (y / 4294967296)) (by omega) (by omega)]
  rw [Sp.and32 (by omega) (by omega)]
  rw [Sp.wrap64 (x := (x / 4294967296 * (y % 4294967296) + x % 4294967296 * (y % 4294967296) / 4294967296) % 4294967296 + x % 4294967296 * (y / 4294967296)) (by omega) (by omega)]
  rw [Sp.wrap64 (x := x / 4294967296 * (y / 4294967296) + (x / 4294967296 * (y % 4294967296) + x % 4294967296 * (y % 4294967296) / 4294967296) / 4294967296) (by omega) (by omega)]
  rw [Sp.wrap64 (x := x / 4294967296 * (y / 4294967296) + (x / 4294967296 * (y % 4294967296) + x % 4294967296 * (y % 4294967296) / 4294967296) / 4294967296 + _) (by omega) (by omega)]
  rw [Sp.wrap64m]
  unfold Sp.mhi Sp.mlo
  simp only [m.2.2.2.2.2.2.2.2.2.2.2.2]
  simp
theorem s52 : SoundCt Go.Proofs.Try.prog 52 ct52 :=
  contractH followsMixed (look_sound (show Tb Go.Proofs.Try.prog tb52 from trivial)) (fun _ => true) (fun _ => fun _ _ => LoopAnn.unroll 200) 6 52 ct52 rfl (by simp [ct52]) fun a => Eq.mp (by kernel_rfl) (v52 ((cel 0 (arg 0 a)).int) ((cel 0 (arg 1 a)).int))
end Go.Sx

