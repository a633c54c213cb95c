/- Contracts and conditions, continued. -/
import Derived.Test.YtmoeognojncmhaaSxUse
import Derived.Test.YtmoeognojncmhaaR13b
import Derived.KernelRfl
set_option linter.unusedVariables false
set_option linter.unusedSimpArgs false
set_option maxRecDepth 100000
set_option maxHeartbeats 4000000

namespace Go
open Go.Sx
def Sp.ab (n : Int) : Int := if n < 0 then -n else n
def Sp.flo (n a b : Int) : Int := n * a / b
def Sp.res (n a b : Int) : Int := n * a % b
def Sp.cei (n a b : Int) : Int := -(-n * a / b)
def Sp.quo (n a b : Int) : Int := Sp.ab n * a / b
def Sp.inr (v : Int) : Bool := decide (-4611686018427387904 ≤ v ∧ v ≤ 4611686018427387904)
def Sp.okq (n a b : Int) : Bool := decide (Sp.quo n a b ≤ 4611686018427387904)
def Sp.dF (n a b : Int) : Int := bif Sp.okq n a b then Sp.flo n a b else 0
def Sp.dR (n a b : Int) : Int := bif Sp.okq n a b then Sp.res n a b else 0
def Sp.eF (n a b : Int) : Int := bif Sp.inr (Sp.flo n a b) then Sp.flo n a b else 0
def Sp.eR (n a b : Int) : Int := bif Sp.inr (Sp.flo n a b) then Sp.res n a b else 0
def Sp.chk (n a b : Int) : Int := if Sp.rvalid a b = false then 1 else if n < -1125899906842624 ∨ 1125899906842624 < n then 2 else 0
def Sp.floE (n a b : Int) : Int := if Sp.chk n a b ≠ 0 then Sp.chk n a b else bif Sp.inr (Sp.flo n a b) then 0 else 2
def Sp.floV (n a b : Int) : Int := if Sp.floE n a b = 0 then Sp.flo n a b else 0
def Sp.resV (n a b : Int) : Int := if Sp.floE n a b = 0 then Sp.res n a b else 0
def Sp.ceiE (n a b : Int) : Int := if Sp.chk n a b ≠ 0 then Sp.chk n a b else bif Sp.inr (Sp.cei n a b) then 0 else 2
def Sp.ceiV (n a b : Int) : Int := if Sp.ceiE n a b = 0 then Sp.cei n a b else 0
end Go

namespace Go
open Go.Sx
theorem Sp.neg_div {m b : Int} (hb : 1 ≤ b) : (m % b = 0 → -m / b = -(m / b) ∧ -m % b = 0) ∧ (m % b ≠ 0 → -m / b = -(m / b) - 1 ∧ -m % b = b - m % b) := by
  have d1 := Int.emod_add_mul_ediv m b
  have d2 := Int.emod_nonneg m (show b ≠ 0 by omega)
  have d3 := Int.emod_lt_of_pos m (show 0 < b by omega)
  constructor
  · intro h
    have := (Int.ediv_emod_unique (a := -m) (b := b) (r := 0) (q := -(m / b)) (by omega)).2 ⟨by rw [Int.mul_neg]; omega, by omega, by omega⟩
    exact this
  · intro h
    have := (Int.ediv_emod_unique (a := -m) (b := b) (r := b - m % b) (q := -(m / b) - 1) (by omega)).2 ⟨by rw [Int.mul_sub, Int.mul_neg]; omega, by omega, by omega⟩
    exact this
theorem Sp.dv_mul (x y b : Int) : Sp.dv (Sp.mhi x y) (Sp.mlo x y) b = x * y / b ∧ Sp.dr (Sp.mhi x y) (Sp.mlo x y) b = x * y % b := by
  have e : Sp.mhi x y * 18446744073709551616 + Sp.mlo x y = x * y := by unfold Sp.mhi Sp.mlo; omega
  unfold Sp.dv Sp.dr
  rw [e]; exact ⟨rfl, rfl⟩
/-- What a division does to a number and its amount. -/
structure Sp.Fl (n a b : Int) : Prop where
  q0 : 0 ≤ Sp.quo n a b
  m0 : 0 ≤ Sp.ab n * a
  m1 : Sp.ab n * a ≤ 77371252455336267181195264
  r0 : 0 ≤ Sp.ab n * a % b
  r1 : Sp.ab n * a % b < b
  qe : Sp.ab n * a / b = Sp.quo n a b
  hi0 : 0 ≤ Sp.mhi (Sp.ab n) a
  hi : b ≤ Sp.mhi (Sp.ab n) a → 4611686018427387904 < Sp.quo n a b
  pos : 0 ≤ n → Sp.flo n a b = Sp.quo n a b ∧ Sp.res n a b = Sp.ab n * a % b
  neg0 : n < 0 → Sp.ab n * a % b = 0 → Sp.flo n a b = -(Sp.quo n a b) ∧ Sp.res n a b = 0
  neg1 : n < 0 → Sp.ab n * a % b ≠ 0 → Sp.flo n a b = -(Sp.quo n a b) - 1 ∧ Sp.res n a b = b - Sp.ab n * a % b
theorem Sp.fl {n a b : Int} (h : 1 ≤ a ∧ a ≤ 68719476736 ∧ 1 ≤ b ∧ b ≤ 68719476736 ∧ -1125899906842624 ≤ n ∧ n ≤ 1125899906842624) : Sp.Fl n a b := by
  have hab : 0 ≤ Sp.ab n ∧ Sp.ab n ≤ 1125899906842624 := by unfold Sp.ab; split <;> omega
  have m := mul_bd (x := Sp.ab n) (X := 1125899906842624) (y := a) (Y := 68719476736) hab.1 hab.2 (by omega) (by omega)
  have nd := Sp.neg_div (m := Sp.ab n * a) (b := b) (by omega)
  have en : n < 0 → n * a = -(Sp.ab n * a) := fun hn => by unfold Sp.ab; rw [if_pos hn, Int.neg_mul, Int.neg_neg]
  have ep : 0 ≤ n → n * a = Sp.ab n * a := fun hn => by unfold Sp.ab; rw [if_neg (by omega)]
  refine ⟨Int.ediv_nonneg m.1 (by omega), m.1, by omega, Int.emod_nonneg _ (by omega), Int.emod_lt_of_pos _ (by omega), rfl, Int.ediv_nonneg m.1 (by omega), fun hb => ?_, fun hn => ?_, fun hn hr => ?_, fun hn hr => ?_⟩
  · have : b * 18446744073709551616 ≤ Sp.ab n * a := by unfold Sp.mhi at hb; omega
    have := Sp.quo_le (N := Sp.ab n * a) (D := b) (q := 18446744073709551616) (by omega) (by omega)
    show _ < Sp.ab n * a / b
    omega
  · unfold Sp.flo Sp.res Sp.quo; rw [ep hn]; exact ⟨rfl, rfl⟩
  · unfold Sp.flo Sp.res Sp.quo; rw [en hn]; exact nd.1 hr
  · unfold Sp.flo Sp.res Sp.quo; rw [en hn]; exact nd.2 hr
theorem Sp.ab_wrap {n : Int} (h : -9223372036854775808 ≤ n ∧ n ≤ 9223372036854775807) : (n < 0 → iWrap .u64 (iSub 0 (iWrap .u64 n)) = Sp.ab n) ∧ (0 ≤ n → iWrap .u64 n = Sp.ab n) := by
  unfold Sp.ab
  constructor
  · intro hn; rw [if_pos hn]; simp only [Sp.wrap64m, iSub]; omega
  · intro hn; rw [if_neg (by omega)]; simp only [Sp.wrap64m]; omega
theorem Sp.wrapi {e : Int} (h0 : -9223372036854775808 ≤ e) (h1 : e ≤ 9223372036854775807) : iWrap .i64 e = e := InR.wrap (by simp only [InR]; omega)
theorem Sp.rvalid_of {a b : Int} (h : Sp.rvalid a b = true) : 1 ≤ a ∧ a ≤ 68719476736 ∧ 1 ≤ b ∧ b ≤ 68719476736 ∧ Sp.gcd a b = 1 := by
  unfold Sp.rvalid at h; simp only [decide_eq_true_eq] at h; omega
end Go

namespace Go.Sx
/-! ### function 50: ratio.divide -/
def ct50 : Ct := { ps := [(false, [.int .i64]), (true, [.int .i64, .int .i64])], rs := [(false, [.int .i64]), (false, [.int .i64]), (false, [.bool])], pre := fun a => 1 ≤ (cel 0 (arg 1 a)).int ∧ (cel 0 (arg 1 a)).int ≤ 68719476736 ∧ 1 ≤ (cel 1 (arg 1 a)).int ∧ (cel 1 (arg 1 a)).int ≤ 68719476736 ∧ -1125899906842624 ≤ (cel 0 (arg 0 a)).int ∧ (cel 0 (arg 0 a)).int ≤ 1125899906842624, out := fun a => [[.i (Sp.dF (cel 0 (arg 0 a)).int (cel 0 (arg 1 a)).int (cel 1 (arg 1 a)).int)], [.i (Sp.dR (cel 0 (arg 0 a)).int (cel 0 (arg 1 a)).int (cel 1 (arg 1 a)).int)], [.b (Sp.okq (cel 0 (arg 0 a)).int (cel 0 (arg 1 a)).int (cel 1 (arg 1 a)).int)]] }
def tb50 : List (Nat × Ct) := [(52, ct52), (57, ct57)]
theorem e50 (n : Int) (a : Int) (b : Int) : vcF Go.Proofs.Try.prog (look tb50) (fun _ => true) (fun _ _ => LoopAnn.unroll 200) 6 50 [.int .i64 n, .agg [.int .i64 a, .int .i64 b]] [] (fun sv heap => Gives [(false, [.int .i64]), (false, [.int .i64]), (false, [.bool])] [[.i (Sp.dF n a b)], [.i (Sp.dR n a b)], [.b (Sp.okq n a b)]] sv heap) = ((bLt n 0 = true → True ∧ (InR IntKind.u64 (Sp.mhi (iWrap IntKind.u64 (iSub 0 (iWrap IntKind.u64 n))) (iWrap IntKind.u64 a)) ∧ InR IntKind.u64 (Sp.mlo (iWrap IntKind.u64 (iSub 0 (iWrap IntKind.u64 n))) (iWrap IntKind.u64 a)) ∧ True → (bLe (iWrap IntKind.u64 b) (Sp.mhi (iWrap IntKind.u64 (iSub 0 (iWrap IntKind.u64 n))) (iWrap IntKind.u64 a)) = true → (0 = Sp.dF n a b ∧ True) ∧ (0 = Sp.dR n a b ∧ True) ∧ (false = Sp.okq n a b ∧ True) ∧ True) ∧ (bLe (iWrap IntKind.u64 b) (Sp.mhi (iWrap IntKind.u64 (iSub 0 (iWrap IntKind.u64 n))) (iWrap IntKind.u64 a)) = false → (Sp.mhi (iWrap IntKind.u64 (iSub 0 (iWrap IntKind.u64 n))) (iWrap IntKind.u64 a) < iWrap IntKind.u64 b ∧ True) ∧ (InR IntKind.u64 (Sp.dv (Sp.mhi (iWrap IntKind.u64 (iSub 0 (iWrap IntKind.u64 n))) (iWrap IntKind.u64 a)) (Sp.mlo (iWrap IntKind.u64 (iSub 0 (iWrap IntKind.u64 n))) (iWrap IntKind.u64 a)) (iWrap IntKind.u64 b)) ∧ InR IntKind.u64 (Sp.dr (Sp.mhi (iWrap IntKind.u64 (iSub 0 (iWrap IntKind.u64 n))) (iWrap IntKind.u64 a)) (Sp.mlo (iWrap IntKind.u64 (iSub 0 (iWrap IntKind.u64 n))) (iWrap IntKind.u64 a)) (iWrap IntKind.u64 b)) ∧ True → (bLt 4611686018427387904 (Sp.dv (Sp.mhi (iWrap IntKind.u64 (iSub 0 (iWrap IntKind.u64 n))) (iWrap IntKind.u64 a)) (Sp.mlo (iWrap IntKind.u64 (iSub 0 (iWrap IntKind.u64 n))) (iWrap IntKind.u64 a)) (iWrap IntKind.u64 b)) = true → (0 = Sp.dF n a b ∧ True) ∧ (0 = Sp.dR n a b ∧ True) ∧ (false = Sp.okq n a b ∧ True) ∧ True) ∧ (bLt 4611686018427387904 (Sp.dv (Sp.mhi (iWrap IntKind.u64 (iSub 0 (iWrap IntKind.u64 n))) (iWrap IntKind.u64 a)) (Sp.mlo (iWrap IntKind.u64 (iSub 0 (iWrap IntKind.u64 n))) (iWrap IntKind.u64 a)) (iWrap IntKind.u64 b)) = false → (bLt n 0 = true → (bLt 0 (iWrap IntKind.i64 (Sp.dr (Sp.mhi (iWrap IntKind.u64 (iSub 0 (iWrap IntKind.u64 n))) (iWrap IntKind.u64 a)) (Sp.mlo (iWrap IntKind.u64 (iSub 0 (iWrap IntKind.u64 n))) (iWrap IntKind.u64 a)) (iWrap IntKind.u64 b))) = true → (iWrap IntKind.i64 (iSub (iWrap IntKind.i64 (iSub 0 (iWrap IntKind.i64 (Sp.dv (Sp.mhi (iWrap IntKind.u64 (iSub 0 (iWrap IntKind.u64 n))) (iWrap IntKind.u64 a)) (Sp.mlo (iWrap IntKind.u64 (iSub 0 (iWrap IntKind.u64 n))) (iWrap IntKind.u64 a)) (iWrap IntKind.u64 b))))) 1) = Sp.dF n a b ∧ True) ∧ (iWrap IntKind.i64 (iSub b (iWrap IntKind.i64 (Sp.dr (Sp.mhi (iWrap IntKind.u64 (iSub 0 (iWrap IntKind.u64 n))) (iWrap IntKind.u64 a)) (Sp.mlo (iWrap IntKind.u64 (iSub 0 (iWrap IntKind.u64 n))) (iWrap IntKind.u64 a)) (iWrap IntKind.u64 b)))) = Sp.dR n a b ∧ True) ∧ (true = Sp.okq n a b ∧ True) ∧ True) ∧ (bLt 0 (iWrap IntKind.i64 (Sp.dr (Sp.mhi (iWrap IntKind.u64 (iSub 0 (iWrap IntKind.u64 n))) (iWrap IntKind.u64 a)) (Sp.mlo (iWrap IntKind.u64 (iSub 0 (iWrap IntKind.u64 n))) (iWrap IntKind.u64 a)) (iWrap IntKind.u64 b))) = false → (iWrap IntKind.i64 (iSub 0 (iWrap IntKind.i64 (Sp.dv (Sp.mhi (iWrap IntKind.u64 (iSub 0 (iWrap IntKind.u64 n))) (iWrap IntKind.u64 a)) (Sp.mlo (iWrap IntKind.u64 (iSub 0 (iWrap IntKind.u64 n))) (iWrap IntKind.u64 a)) (iWrap IntKind.u64 b)))) = Sp.dF n a b ∧ True) ∧ (iWrap IntKind.i64 (Sp.dr (Sp.mhi (iWrap IntKind.u64 (iSub 0 (iWrap IntKind.u64 n))) (iWrap IntKind.u64 a)) (Sp.mlo (iWrap IntKind.u64 (iSub 0 (iWrap IntKind.u64 n))) (iWrap IntKind.u64 a)) (iWrap IntKind.u64 b)) = Sp.dR n a b ∧ True) ∧ (true = Sp.okq n a b ∧ True) ∧ True)) ∧ (bLt n 0 = false → (iWrap IntKind.i64 (Sp.dv (Sp.mhi (iWrap IntKind.u64 (iSub 0 (iWrap IntKind.u64 n))) (iWrap IntKind.u64 a)) (Sp.mlo (iWrap IntKind.u64 (iSub 0 (iWrap IntKind.u64 n))) (iWrap IntKind.u64 a)) (iWrap IntKind.u64 b)) = Sp.dF n a b ∧ True) ∧ (iWrap IntKind.i64 (Sp.dr (Sp.mhi (iWrap IntKind.u64 (iSub 0 (iWrap IntKind.u64 n))) (iWrap IntKind.u64 a)) (Sp.mlo (iWrap IntKind.u64 (iSub 0 (iWrap IntKind.u64 n))) (iWrap IntKind.u64 a)) (iWrap IntKind.u64 b)) = Sp.dR n a b ∧ True) ∧ (true = Sp.okq n a b ∧ True) ∧ True)))))) ∧ (bLt n 0 = false → True ∧ (InR IntKind.u64 (Sp.mhi (iWrap IntKind.u64 n) (iWrap IntKind.u64 a)) ∧ InR IntKind.u64 (Sp.mlo (iWrap IntKind.u64 n) (iWrap IntKind.u64 a)) ∧ True → (bLe (iWrap IntKind.u64 b) (Sp.mhi (iWrap IntKind.u64 n) (iWrap IntKind.u64 a)) = true → (0 = Sp.dF n a b ∧ True) ∧ (0 = Sp.dR n a b ∧ True) ∧ (false = Sp.okq n a b ∧ True) ∧ True) ∧ (bLe (iWrap IntKind.u64 b) (Sp.mhi (iWrap IntKind.u64 n) (iWrap IntKind.u64 a)) = false → (Sp.mhi (iWrap IntKind.u64 n) (iWrap IntKind.u64 a) < iWrap IntKind.u64 b ∧ True) ∧ (InR IntKind.u64 (Sp.dv (Sp.mhi (iWrap IntKind.u64 n) (iWrap IntKind.u64 a)) (Sp.mlo (iWrap IntKind.u64 n) (iWrap IntKind.u64 a)) (iWrap IntKind.u64 b)) ∧ InR IntKind.u64 (Sp.dr (Sp.mhi (iWrap IntKind.u64 n) (iWrap IntKind.u64 a)) (Sp.mlo (iWrap IntKind.u64 n) (iWrap IntKind.u64 a)) (iWrap IntKind.u64 b)) ∧ True → (bLt 4611686018427387904 (Sp.dv (Sp.mhi (iWrap IntKind.u64 n) (iWrap IntKind.u64 a)) (Sp.mlo (iWrap IntKind.u64 n) (iWrap IntKind.u64 a)) (iWrap IntKind.u64 b)) = true → (0 = Sp.dF n a b ∧ True) ∧ (0 = Sp.dR n a b ∧ True) ∧ (false = Sp.okq n a b ∧ True) ∧ True) ∧ (bLt 4611686018427387904 (Sp.dv (Sp.mhi (iWrap IntKind.u64 n) (iWrap IntKind.u64 a)) (Sp.mlo (iWrap IntKind.u64 n) (iWrap IntKind.u64 a)) (iWrap IntKind.u64 b)) = false → (bLt n 0 = true → (bLt 0 (iWrap IntKind.i64 (Sp.dr (Sp.mhi (iWrap IntKind.u64 n) (iWrap IntKind.u64 a)) (Sp.mlo (iWrap IntKind.u64 n) (iWrap IntKind.u64 a)) (iWrap IntKind.u64 b))) = true → (iWrap IntKind.i64 (iSub (iWrap IntKind.i64 (iSub 0 (iWrap IntKind.i64 (Sp.dv (Sp.mhi (iWrap IntKind.u64 n) (iWrap IntKind.u64 a)) (Sp.mlo (iWrap IntKind.u64 n) (iWrap IntKind.u64 a)) (iWrap IntKind.u64 b))))) 1) = Sp.dF n a b ∧ True) ∧ (iWrap IntKind.i64 (iSub b (iWrap IntKind.i64 (Sp.dr (Sp.mhi (iWrap IntKind.u64 n) (iWrap IntKind.u64 a)) (Sp.mlo (iWrap IntKind.u64 n) (iWrap IntKind.u64 a)) (iWrap IntKind.u64 b)))) = Sp.dR n a b ∧ True) ∧ (true = Sp.okq n a b ∧ True) ∧ True) ∧ (bLt 0 (iWrap IntKind.i64 (Sp.dr (Sp.mhi (iWrap IntKind.u64 n) (iWrap IntKind.u64 a)) (Sp.mlo (iWrap IntKind.u64 n) (iWrap IntKind.u64 a)) (iWrap IntKind.u64 b))) = false → (iWrap IntKind.i64 (iSub 0 (iWrap IntKind.i64 (Sp.dv (Sp.mhi (iWrap IntKind.u64 n) (iWrap IntKind.u64 a)) (Sp.mlo (iWrap IntKind.u64 n) (iWrap IntKind.u64 a)) (iWrap IntKind.u64 b)))) = Sp.dF n a b ∧ True) ∧ (iWrap IntKind.i64 (Sp.dr (Sp.mhi (iWrap IntKind.u64 n) (iWrap IntKind.u64 a)) (Sp.mlo (iWrap IntKind.u64 n) (iWrap IntKind.u64 a)) (iWrap IntKind.u64 b)) = Sp.dR n a b ∧ True) ∧ (true = Sp.okq n a b ∧ True) ∧ True)) ∧ (bLt n 0 = false → (iWrap IntKind.i64 (Sp.dv (Sp.mhi (iWrap IntKind.u64 n) (iWrap IntKind.u64 a)) (Sp.mlo (iWrap IntKind.u64 n) (iWrap IntKind.u64 a)) (iWrap IntKind.u64 b)) = Sp.dF n a b ∧ True) ∧ (iWrap IntKind.i64 (Sp.dr (Sp.mhi (iWrap IntKind.u64 n) (iWrap IntKind.u64 a)) (Sp.mlo (iWrap IntKind.u64 n) (iWrap IntKind.u64 a)) (iWrap IntKind.u64 b)) = Sp.dR n a b ∧ True) ∧ (true = Sp.okq n a b ∧ True) ∧ True))))))) := by kernel_rfl
theorem v50 (n : Int) (a : Int) (b : Int) : Holds (Wfs [.int .i64 n, .agg [.int .i64 a, .int .i64 b]] → 1 ≤ a ∧ a ≤ 68719476736 ∧ 1 ≤ b ∧ b ≤ 68719476736 ∧ -1125899906842624 ≤ n ∧ n ≤ 1125899906842624 → vcF Go.Proofs.Try.prog (look tb50) (fun _ => true) (fun _ _ => LoopAnn.unroll 200) 6 50 [.int .i64 n, .agg [.int .i64 a, .int .i64 b]] [] (fun sv heap => Gives [(false, [.int .i64]), (false, [.int .i64]), (false, [.bool])] [[.i (Sp.dF n a b)], [.i (Sp.dR n a b)], [.b (Sp.okq n a b)]] sv heap)) := by
  refine ⟨fun hw hp => ?_⟩
  rw [e50]
  simp only [Wfs, Wf, InR, and_true] at hw
  have F := Sp.fl hp
  have A := Sp.ab_wrap (n := n) (by omega)
  have wa : iWrap .u64 a = a := Sp.wrap64 (by omega) (by omega)
  have wb : iWrap .u64 b = b := Sp.wrap64 (by omega) (by omega)
  rw [wa, wb]
  have hm := F.hi0
  have k1 := F.q0
  have k2 := F.r0
  have k3 := F.r1
  have k4 := F.hi
  have k5 := F.pos
  have k6 := F.neg0
  have k7 := F.neg1
  have v1 : Sp.dv (Sp.mhi (Sp.ab n) a) (Sp.mlo (Sp.ab n) a) b = Sp.quo n a b := (Sp.dv_mul _ _ _).1
  have v2 : Sp.dr (Sp.mhi (Sp.ab n) a) (Sp.mlo (Sp.ab n) a) b = Sp.ab n * a % b := (Sp.dv_mul _ _ _).2
  have okI : (Sp.quo n a b ≤ 4611686018427387904 → Sp.okq n a b = true ∧ Sp.dF n a b = Sp.flo n a b ∧ Sp.dR n a b = Sp.res n a b) ∧ (4611686018427387904 < Sp.quo n a b → Sp.okq n a b = false ∧ Sp.dF n a b = 0 ∧ Sp.dR n a b = 0) := by
    constructor
    · intro h
      have e : Sp.okq n a b = true := by unfold Sp.okq; simpa using h
      exact ⟨e, by unfold Sp.dF; rw [e]; rfl, by unfold Sp.dR; rw [e]; rfl⟩
    · intro h
      have e : Sp.okq n a b = false := by unfold Sp.okq; simp; omega
      exact ⟨e, by unfold Sp.dF; rw [e]; rfl, by unfold Sp.dR; rw [e]; rfl⟩
  have erI : (-4611686018427387904 ≤ Sp.flo n a b ∧ Sp.flo n a b ≤ 4611686018427387904 → Sp.inr (Sp.flo n a b) = true ∧ Sp.eF n a b = Sp.flo n a b ∧ Sp.eR n a b = Sp.res n a b) ∧ (¬ (-4611686018427387904 ≤ Sp.flo n a b ∧ Sp.flo n a b ≤ 4611686018427387904) → Sp.inr (Sp.flo n a b) = false ∧ Sp.eF n a b = 0 ∧ Sp.eR n a b = 0) := by
    constructor
    · intro h
      have e : Sp.inr (Sp.flo n a b) = true := by unfold Sp.inr; simpa using h
      exact ⟨e, by unfold Sp.eF; rw [e]; rfl, by unfold Sp.eR; rw [e]; rfl⟩
    · intro h
      have e : Sp.inr (Sp.flo n a b) = false := by unfold Sp.inr; simp; omega
      exact ⟨e, by unfold Sp.eF; rw [e]; rfl, by unfold Sp.eR; rw [e]; rfl⟩
  have wq : Sp.quo n a b ≤ 4611686018427387904 → iWrap .i64 (Sp.quo n a b) = Sp.quo n a b := fun h => Sp.wrapi (by omega) (by omega)
  have w0 : Sp.quo n a b ≤ 4611686018427387904 → iWrap .i64 (iSub 0 (Sp.quo n a b)) = -(Sp.quo n a b) := fun h => by rw [Sp.wrapi (by simp only [iSub]; omega) (by simp only [iSub]; omega)]; simp only [iSub]; omega
  have w1 : Sp.quo n a b ≤ 4611686018427387904 → iWrap .i64 (iSub (-(Sp.quo n a b)) 1) = -(Sp.quo n a b) - 1 := fun h => Sp.wrapi (by simp only [iSub]; omega) (by simp only [iSub]; omega)
  have wR : iWrap .i64 (Sp.ab n * a % b) = Sp.ab n * a % b := Sp.wrapi (by omega) (by omega)
  have wbR : iWrap .i64 (iSub b (Sp.ab n * a % b)) = b - Sp.ab n * a % b := Sp.wrapi (by simp only [iSub]; omega) (by simp only [iSub]; omega)
  refine ⟨fun h => ?_, fun h => ?_⟩
  · simp only [bLt, decide_eq_true_eq] at h
    have hW := A.1 h
    rw [hW, v1, v2]
    clear v1 v2 hW
    generalize Sp.mhi (Sp.ab n) a = mh at *
    generalize Sp.mlo (Sp.ab n) a = ml at *
    generalize Sp.ab n * a % b = R at *
    generalize Sp.quo n a b = Q at *
    generalize Sp.flo n a b = fl at *
    generalize Sp.res n a b = re at *
    generalize Sp.okq n a b = okq at *
    generalize Sp.inr fl = inr at *
    generalize Sp.dF n a b = dF at *
    generalize Sp.dR n a b = dR at *
    generalize Sp.eF n a b = eF at *
    generalize Sp.eR n a b = eR at *
    simp only [bLt, bLe, bEq, bNe, bNot, Bool.not_eq_true', Bool.not_eq_false', decide_eq_true_eq, decide_eq_false_iff_not, true_and, and_true]
    repeat' (first | apply And.intro | intro _)
    all_goals (first
      | trivial
      | omega
      | exact (okI.1 (by omega)).1.symm
      | exact (okI.2 (by omega)).1.symm
      | exact (erI.1 (by omega)).1.symm
      | exact (erI.2 (by omega)).1.symm
      | (have hq : Q ≤ 4611686018427387904 := by omega
         (try rw [wq hq]); (try rw [w0 hq]); (try rw [w1 hq]); (try rw [wR]); (try rw [wbR])
         first
         | (have := okI.1 hq; omega)
         | (have := erI.1 (by omega); omega)
         | (have := erI.2 (by omega); omega))
      | (have := okI.2 (by omega); omega)
      | (have := erI.2 (by omega); omega))
  · simp only [bLt, decide_eq_false_iff_not] at h
    have hW := A.2 (by omega)
    rw [hW, v1, v2]
    clear v1 v2 hW
    generalize Sp.mhi (Sp.ab n) a = mh at *
    generalize Sp.mlo (Sp.ab n) a = ml at *
    generalize Sp.ab n * a % b = R at *
    generalize Sp.quo n a b = Q at *
    generalize Sp.flo n a b = fl at *
    generalize Sp.res n a b = re at *
    generalize Sp.okq n a b = okq at *
    generalize Sp.inr fl = inr at *
    generalize Sp.dF n a b = dF at *
    generalize Sp.dR n a b = dR at *
    generalize Sp.eF n a b = eF at *
    generalize Sp.eR n a b = eR at *
    simp only [bLt, bLe, bEq, bNe, bNot, Bool.not_eq_true', Bool.not_eq_false', decide_eq_true_eq, decide_eq_false_iff_not, true_and, and_true]
    repeat' (first | apply And.intro | intro _)
    all_goals (first
      | trivial
      | omega
      | exact (okI.1 (by omega)).1.symm
      | exact (okI.2 (by omega)).1.symm
      | exact (erI.1 (by omega)).1.symm
      | exact (erI.2 (by omega)).1.symm
      | (have hq : Q ≤ 4611686018427387904 := by omega
         (try rw [wq hq]); (try rw [w0 hq]); (try rw [w1 hq]); (try rw [wR]); (try rw [wbR])
         first
         | (have := okI.1 hq; omega)
         | (have := erI.1 (by omega); omega)
         | (have := erI.2 (by omega); omega))
      | (have := okI.2 (by omega); omega)
      | (have := erI.2 (by omega); omega))
theorem s50 : SoundCt Go.Proofs.Try.prog 50 ct50 :=
  contractH followsMixed (look_sound (show Tb Go.Proofs.Try.prog tb50 from ⟨s52, ⟨s57, trivial⟩⟩)) (fun _ => true) (fun _ => fun _ _ => LoopAnn.unroll 200) 6 50 ct50 rfl (by simp [ct50]) fun a => Eq.mp (by kernel_rfl) (v50 ((cel 0 (arg 0 a)).int) ((cel 0 (arg 1 a)).int) ((cel 1 (arg 1 a)).int))
end Go.Sx

namespace Go.Sx
/-! ### function 55: ref03.divide -/
def ct55 : Ct := { ps := [(false, [.int .i64]), (true, [.int .i64, .int .i64])], rs := [(false, [.int .i64]), (false, [.int .i64]), (false, [.bool])], pre := fun a => 1 ≤ (cel 0 (arg 1 a)).int ∧ (cel 0 (arg 1 a)).int ≤ 68719476736 ∧ 1 ≤ (cel 1 (arg 1 a)).int ∧ (cel 1 (arg 1 a)).int ≤ 68719476736 ∧ -1125899906842624 ≤ (cel 0 (arg 0 a)).int ∧ (cel 0 (arg 0 a)).int ≤ 1125899906842624, out := fun a => [[.i (Sp.eF (cel 0 (arg 0 a)).int (cel 0 (arg 1 a)).int (cel 1 (arg 1 a)).int)], [.i (Sp.eR (cel 0 (arg 0 a)).int (cel 0 (arg 1 a)).int (cel 1 (arg 1 a)).int)], [.b (Sp.inr (Sp.flo (cel 0 (arg 0 a)).int (cel 0 (arg 1 a)).int (cel 1 (arg 1 a)).int))]] }
def tb55 : List (Nat × Ct) := [(52, ct52), (57, ct57)]
theorem e55 (n : Int) (a : Int) (b : Int) : vcF Go.Proofs.Try.prog (look tb55) (fun _ => true) (fun _ _ => LoopAnn.unroll 200) 6 55 [.int .i64 n, .agg [.int .i64 a, .int .i64 b]] [] (fun sv heap => Gives [(false, [.int .i64]), (false, [.int .i64]), (false, [.bool])] [[.i (Sp.eF n a b)], [.i (Sp.eR n a b)], [.b (Sp.inr (Sp.flo n a b))]] sv heap) = ((bLt n 0 = true → True ∧ (InR IntKind.u64 (Sp.mhi (iWrap IntKind.u64 (iSub 0 (iWrap IntKind.u64 n))) (iWrap IntKind.u64 a)) ∧ InR IntKind.u64 (Sp.mlo (iWrap IntKind.u64 (iSub 0 (iWrap IntKind.u64 n))) (iWrap IntKind.u64 a)) ∧ True → (bLe (iWrap IntKind.u64 b) (Sp.mhi (iWrap IntKind.u64 (iSub 0 (iWrap IntKind.u64 n))) (iWrap IntKind.u64 a)) = true → (0 = Sp.eF n a b ∧ True) ∧ (0 = Sp.eR n a b ∧ True) ∧ (false = Sp.inr (Sp.flo n a b) ∧ True) ∧ True) ∧ (bLe (iWrap IntKind.u64 b) (Sp.mhi (iWrap IntKind.u64 (iSub 0 (iWrap IntKind.u64 n))) (iWrap IntKind.u64 a)) = false → (Sp.mhi (iWrap IntKind.u64 (iSub 0 (iWrap IntKind.u64 n))) (iWrap IntKind.u64 a) < iWrap IntKind.u64 b ∧ True) ∧ (InR IntKind.u64 (Sp.dv (Sp.mhi (iWrap IntKind.u64 (iSub 0 (iWrap IntKind.u64 n))) (iWrap IntKind.u64 a)) (Sp.mlo (iWrap IntKind.u64 (iSub 0 (iWrap IntKind.u64 n))) (iWrap IntKind.u64 a)) (iWrap IntKind.u64 b)) ∧ InR IntKind.u64 (Sp.dr (Sp.mhi (iWrap IntKind.u64 (iSub 0 (iWrap IntKind.u64 n))) (iWrap IntKind.u64 a)) (Sp.mlo (iWrap IntKind.u64 (iSub 0 (iWrap IntKind.u64 n))) (iWrap IntKind.u64 a)) (iWrap IntKind.u64 b)) ∧ True → (bLt 4611686018427387904 (Sp.dv (Sp.mhi (iWrap IntKind.u64 (iSub 0 (iWrap IntKind.u64 n))) (iWrap IntKind.u64 a)) (Sp.mlo (iWrap IntKind.u64 (iSub 0 (iWrap IntKind.u64 n))) (iWrap IntKind.u64 a)) (iWrap IntKind.u64 b)) = true → (0 = Sp.eF n a b ∧ True) ∧ (0 = Sp.eR n a b ∧ True) ∧ (false = Sp.inr (Sp.flo n a b) ∧ True) ∧ True) ∧ (bLt 4611686018427387904 (Sp.dv (Sp.mhi (iWrap IntKind.u64 (iSub 0 (iWrap IntKind.u64 n))) (iWrap IntKind.u64 a)) (Sp.mlo (iWrap IntKind.u64 (iSub 0 (iWrap IntKind.u64 n))) (iWrap IntKind.u64 a)) (iWrap IntKind.u64 b)) = false → True ∧ (bNot (bLt n 0) = true → (iWrap IntKind.i64 (Sp.dv (Sp.mhi (iWrap IntKind.u64 (iSub 0 (iWrap IntKind.u64 n))) (iWrap IntKind.u64 a)) (Sp.mlo (iWrap IntKind.u64 (iSub 0 (iWrap IntKind.u64 n))) (iWrap IntKind.u64 a)) (iWrap IntKind.u64 b)) = Sp.eF n a b ∧ True) ∧ (iWrap IntKind.i64 (Sp.dr (Sp.mhi (iWrap IntKind.u64 (iSub 0 (iWrap IntKind.u64 n))) (iWrap IntKind.u64 a)) (Sp.mlo (iWrap IntKind.u64 (iSub 0 (iWrap IntKind.u64 n))) (iWrap IntKind.u64 a)) (iWrap IntKind.u64 b)) = Sp.eR n a b ∧ True) ∧ (true = Sp.inr (Sp.flo n a b) ∧ True) ∧ True) ∧ (bNot (bLt n 0) = false → (bEq (Sp.dr (Sp.mhi (iWrap IntKind.u64 (iSub 0 (iWrap IntKind.u64 n))) (iWrap IntKind.u64 a)) (Sp.mlo (iWrap IntKind.u64 (iSub 0 (iWrap IntKind.u64 n))) (iWrap IntKind.u64 a)) (iWrap IntKind.u64 b)) 0 = true → (iWrap IntKind.i64 (iSub 0 (iWrap IntKind.i64 (Sp.dv (Sp.mhi (iWrap IntKind.u64 (iSub 0 (iWrap IntKind.u64 n))) (iWrap IntKind.u64 a)) (Sp.mlo (iWrap IntKind.u64 (iSub 0 (iWrap IntKind.u64 n))) (iWrap IntKind.u64 a)) (iWrap IntKind.u64 b)))) = Sp.eF n a b ∧ True) ∧ (0 = Sp.eR n a b ∧ True) ∧ (true = Sp.inr (Sp.flo n a b) ∧ True) ∧ True) ∧ (bEq (Sp.dr (Sp.mhi (iWrap IntKind.u64 (iSub 0 (iWrap IntKind.u64 n))) (iWrap IntKind.u64 a)) (Sp.mlo (iWrap IntKind.u64 (iSub 0 (iWrap IntKind.u64 n))) (iWrap IntKind.u64 a)) (iWrap IntKind.u64 b)) 0 = false → (bEq (Sp.dv (Sp.mhi (iWrap IntKind.u64 (iSub 0 (iWrap IntKind.u64 n))) (iWrap IntKind.u64 a)) (Sp.mlo (iWrap IntKind.u64 (iSub 0 (iWrap IntKind.u64 n))) (iWrap IntKind.u64 a)) (iWrap IntKind.u64 b)) 4611686018427387904 = true → (0 = Sp.eF n a b ∧ True) ∧ (0 = Sp.eR n a b ∧ True) ∧ (false = Sp.inr (Sp.flo n a b) ∧ True) ∧ True) ∧ (bEq (Sp.dv (Sp.mhi (iWrap IntKind.u64 (iSub 0 (iWrap IntKind.u64 n))) (iWrap IntKind.u64 a)) (Sp.mlo (iWrap IntKind.u64 (iSub 0 (iWrap IntKind.u64 n))) (iWrap IntKind.u64 a)) (iWrap IntKind.u64 b)) 4611686018427387904 = false → (iWrap IntKind.i64 (iSub (iWrap IntKind.i64 (iSub 0 (iWrap IntKind.i64 (Sp.dv (Sp.mhi (iWrap IntKind.u64 (iSub 0 (iWrap IntKind.u64 n))) (iWrap IntKind.u64 a)) (Sp.mlo (iWrap IntKind.u64 (iSub 0 (iWrap IntKind.u64 n))) (iWrap IntKind.u64 a)) (iWrap IntKind.u64 b))))) 1) = Sp.eF n a b ∧ True) ∧ (iWrap IntKind.i64 (iSub b (iWrap IntKind.i64 (Sp.dr (Sp.mhi (iWrap IntKind.u64 (iSub 0 (iWrap IntKind.u64 n))) (iWrap IntKind.u64 a)) (Sp.mlo (iWrap IntKind.u64 (iSub 0 (iWrap IntKind.u64 n))) (iWrap IntKind.u64 a)) (iWrap IntKind.u64 b)))) = Sp.eR n a b ∧ True) ∧ (true = Sp.inr (Sp.flo n a b) ∧ True) ∧ True)))))))) ∧ (bLt n 0 = false → True ∧ (InR IntKind.u64 (Sp.mhi (iWrap IntKind.u64 n) (iWrap IntKind.u64 a)) ∧ InR IntKind.u64 (Sp.mlo (iWrap IntKind.u64 n) (iWrap IntKind.u64 a)) ∧ True → (bLe (iWrap IntKind.u64 b) (Sp.mhi (iWrap IntKind.u64 n) (iWrap IntKind.u64 a)) = true → (0 = Sp.eF n a b ∧ True) ∧ (0 = Sp.eR n a b ∧ True) ∧ (false = Sp.inr (Sp.flo n a b) ∧ True) ∧ True) ∧ (bLe (iWrap IntKind.u64 b) (Sp.mhi (iWrap IntKind.u64 n) (iWrap IntKind.u64 a)) = false → (Sp.mhi (iWrap IntKind.u64 n) (iWrap IntKind.u64 a) < iWrap IntKind.u64 b ∧ True) ∧ (InR IntKind.u64 (Sp.dv (Sp.mhi (iWrap IntKind.u64 n) (iWrap IntKind.u64 a)) (Sp.mlo (iWrap IntKind.u64 n) (iWrap IntKind.u64 a)) (iWrap IntKind.u64 b)) ∧ InR IntKind.u64 (Sp.dr (Sp.mhi (iWrap IntKind.u64 n) (iWrap IntKind.u64 a)) (Sp.mlo (iWrap IntKind.u64 n) (iWrap IntKind.u64 a)) (iWrap IntKind.u64 b)) ∧ True → (bLt 4611686018427387904 (Sp.dv (Sp.mhi (iWrap IntKind.u64 n) (iWrap IntKind.u64 a)) (Sp.mlo (iWrap IntKind.u64 n) (iWrap IntKind.u64 a)) (iWrap IntKind.u64 b)) = true → (0 = Sp.eF n a b ∧ True) ∧ (0 = Sp.eR n a b ∧ True) ∧ (false = Sp.inr (Sp.flo n a b) ∧ True) ∧ True) ∧ (bLt 4611686018427387904 (Sp.dv (Sp.mhi (iWrap IntKind.u64 n) (iWrap IntKind.u64 a)) (Sp.mlo (iWrap IntKind.u64 n) (iWrap IntKind.u64 a)) (iWrap IntKind.u64 b)) = false → True ∧ (bNot (bLt n 0) = true → (iWrap IntKind.i64 (Sp.dv (Sp.mhi (iWrap IntKind.u64 n) (iWrap IntKind.u64 a)) (Sp.mlo (iWrap IntKind.u64 n) (iWrap IntKind.u64 a)) (iWrap IntKind.u64 b)) = Sp.eF n a b ∧ True) ∧ (iWrap IntKind.i64 (Sp.dr (Sp.mhi (iWrap IntKind.u64 n) (iWrap IntKind.u64 a)) (Sp.mlo (iWrap IntKind.u64 n) (iWrap IntKind.u64 a)) (iWrap IntKind.u64 b)) = Sp.eR n a b ∧ True) ∧ (true = Sp.inr (Sp.flo n a b) ∧ True) ∧ True) ∧ (bNot (bLt n 0) = false → (bEq (Sp.dr (Sp.mhi (iWrap IntKind.u64 n) (iWrap IntKind.u64 a)) (Sp.mlo (iWrap IntKind.u64 n) (iWrap IntKind.u64 a)) (iWrap IntKind.u64 b)) 0 = true → (iWrap IntKind.i64 (iSub 0 (iWrap IntKind.i64 (Sp.dv (Sp.mhi (iWrap IntKind.u64 n) (iWrap IntKind.u64 a)) (Sp.mlo (iWrap IntKind.u64 n) (iWrap IntKind.u64 a)) (iWrap IntKind.u64 b)))) = Sp.eF n a b ∧ True) ∧ (0 = Sp.eR n a b ∧ True) ∧ (true = Sp.inr (Sp.flo n a b) ∧ True) ∧ True) ∧ (bEq (Sp.dr (Sp.mhi (iWrap IntKind.u64 n) (iWrap IntKind.u64 a)) (Sp.mlo (iWrap IntKind.u64 n) (iWrap IntKind.u64 a)) (iWrap IntKind.u64 b)) 0 = false → (bEq (Sp.dv (Sp.mhi (iWrap IntKind.u64 n) (iWrap IntKind.u64 a)) (Sp.mlo (iWrap IntKind.u64 n) (iWrap IntKind.u64 a)) (iWrap IntKind.u64 b)) 4611686018427387904 = true → (0 = Sp.eF n a b ∧ True) ∧ (0 = Sp.eR n a b ∧ True) ∧ (false = Sp.inr (Sp.flo n a b) ∧ True) ∧ True) ∧ (bEq (Sp.dv (Sp.mhi (iWrap IntKind.u64 n) (iWrap IntKind.u64 a)) (Sp.mlo (iWrap IntKind.u64 n) (iWrap IntKind.u64 a)) (iWrap IntKind.u64 b)) 4611686018427387904 = false → (iWrap IntKind.i64 (iSub (iWrap IntKind.i64 (iSub 0 (iWrap IntKind.i64 (Sp.dv (Sp.mhi (iWrap IntKind.u64 n) (iWrap IntKind.u64 a)) (Sp.mlo (iWrap IntKind.u64 n) (iWrap IntKind.u64 a)) (iWrap IntKind.u64 b))))) 1) = Sp.eF n a b ∧ True) ∧ (iWrap IntKind.i64 (iSub b (iWrap IntKind.i64 (Sp.dr (Sp.mhi (iWrap IntKind.u64 n) (iWrap IntKind.u64 a)) (Sp.mlo (iWrap IntKind.u64 n) (iWrap IntKind.u64 a)) (iWrap IntKind.u64 b)))) = Sp.eR n a b ∧ True) ∧ (true = Sp.inr (Sp.flo n a b) ∧ True) ∧ True))))))))) := by kernel_rfl
theorem v55 (n : Int) (a : Int) (b : Int) : Holds (Wfs [.int .i64 n, .agg [.int .i64 a, .int .i64 b]] → 1 ≤ a ∧ a ≤ 68719476736 ∧ 1 ≤ b ∧ b ≤ 68719476736 ∧ -1125899906842624 ≤ n ∧ n ≤ 1125899906842624 → vcF Go.Proofs.Try.prog (look tb55) (fun _ => true) (fun _ _ => LoopAnn.unroll 200) 6 55 [.int .i64 n, .agg [.int .i64 a, .int .i64 b]] [] (fun sv heap => Gives [(false, [.int .i64]), (false, [.int .i64]), (false, [.bool])] [[.i (Sp.eF n a b)], [.i (Sp.eR n a b)], [.b (Sp.inr (Sp.flo n a b))]] sv heap)) := by
  refine ⟨fun hw hp => ?_⟩
  rw [e55]
  simp only [Wfs, Wf, InR, and_true] at hw
  have F := Sp.fl hp
  have A := Sp.ab_wrap (n := n) (by omega)
  have wa : iWrap .u64 a = a := Sp.wrap64 (by omega) (by omega)
  have wb : iWrap .u64 b = b := Sp.wrap64 (by omega) (by omega)
  rw [wa, wb]
  have hm := F.hi0
  have k1 := F.q0
  have k2 := F.r0
  have k3 := F.r1
  have k4 := F.hi
  have k5 := F.pos
  have k6 := F.neg0
  have k7 := F.neg1
  have v1 : Sp.dv (Sp.mhi (Sp.ab n) a) (Sp.mlo (Sp.ab n) a) b = Sp.quo n a b := (Sp.dv_mul _ _ _).1
  have v2 : Sp.dr (Sp.mhi (Sp.ab n) a) (Sp.mlo (Sp.ab n) a) b = Sp.ab n * a % b := (Sp.dv_mul _ _ _).2
  have okI : (Sp.quo n a b ≤ 4611686018427387904 → Sp.okq n a b = true ∧ Sp.dF n a b = Sp.flo n a b ∧ Sp.dR n a b = Sp.res n a b) ∧ (4611686018427387904 < Sp.quo n a b → Sp.okq n a b = false ∧ Sp.dF n a b = 0 ∧ Sp.dR n a b = 0) := by
    constructor
    · intro h
      have e : Sp.okq n a b = true := by unfold Sp.okq; simpa using h
      exact ⟨e, by unfold Sp.dF; rw [e]; rfl, by unfold Sp.dR; rw [e]; rfl⟩
    · intro h
      have e : Sp.okq n a b = false := by unfold Sp.okq; simp; omega
      exact ⟨e, by unfold Sp.dF; rw [e]; rfl, by unfold Sp.dR; rw [e]; rfl⟩
  have erI : (-4611686018427387904 ≤ Sp.flo n a b ∧ Sp.flo n a b ≤ 4611686018427387904 → Sp.inr (Sp.flo n a b) = true ∧ Sp.eF n a b = Sp.flo n a b ∧ Sp.eR n a b = Sp.res n a b) ∧ (¬ (-4611686018427387904 ≤ Sp.flo n a b ∧ Sp.flo n a b ≤ 4611686018427387904) → Sp.inr (Sp.flo n a b) = false ∧ Sp.eF n a b = 0 ∧ Sp.eR n a b = 0) := by
    constructor
    · intro h
      have e : Sp.inr (Sp.flo n a b) = true := by unfold Sp.inr; simpa using h
      exact ⟨e, by unfold Sp.eF; rw [e]; rfl, by unfold Sp.eR; rw [e]; rfl⟩
    · intro h
      have e : Sp.inr (Sp.flo n a b) = false := by unfold Sp.inr; simp; omega
      exact ⟨e, by unfold Sp.eF; rw [e]; rfl, by unfold Sp.eR; rw [e]; rfl⟩
  have wq : Sp.quo n a b ≤ 4611686018427387904 → iWrap .i64 (Sp.quo n a b) = Sp.quo n a b := fun h => Sp.wrapi (by omega) (by omega)
  have w0 : Sp.quo n a b ≤ 4611686018427387904 → iWrap .i64 (iSub 0 (Sp.quo n a b)) = -(Sp.quo n a b) := fun h => by rw [Sp.wrapi (by simp only [iSub]; omega) (by simp only [iSub]; omega)]; simp only [iSub]; omega
  have w1 : Sp.quo n a b ≤ 4611686018427387904 → iWrap .i64 (iSub (-(Sp.quo n a b)) 1) = -(Sp.quo n a b) - 1 := fun h => Sp.wrapi (by simp only [iSub]; omega) (by simp only [iSub]; omega)
  have wR : iWrap .i64 (Sp.ab n * a % b) = Sp.ab n * a % b := Sp.wrapi (by omega) (by omega)
  have wbR : iWrap .i64 (iSub b (Sp.ab n * a % b)) = b - Sp.ab n * a % b := Sp.wrapi (by simp only [iSub]; omega) (by simp only [iSub]; omega)
  refine ⟨fun h => ?_, fun h => ?_⟩
  · simp only [bLt, decide_eq_true_eq] at h
    have hW := A.1 h
    rw [hW, v1, v2]
    clear v1 v2 hW
    generalize Sp.mhi (Sp.ab n) a = mh at *
    generalize Sp.mlo (Sp.ab n) a = ml at *
    generalize Sp.ab n * a % b = R at *
    generalize Sp.quo n a b = Q at *
    generalize Sp.flo n a b = fl at *
    generalize Sp.res n a b = re at *
    generalize Sp.okq n a b = okq at *
    generalize Sp.inr fl = inr at *
    generalize Sp.dF n a b = dF at *
    generalize Sp.dR n a b = dR at *
    generalize Sp.eF n a b = eF at *
    generalize Sp.eR n a b = eR at *
    simp only [bLt, bLe, bEq, bNe, bNot, Bool.not_eq_true', Bool.not_eq_false', decide_eq_true_eq, decide_eq_false_iff_not, true_and, and_true]
    repeat' (first | apply And.intro | intro _)
    all_goals (first
      | trivial
      | omega
      | exact (okI.1 (by omega)).1.symm
      | exact (okI.2 (by omega)).1.symm
      | exact (erI.1 (by omega)).1.symm
      | exact (erI.2 (by omega)).1.symm
      | (have hq : Q ≤ 4611686018427387904 := by omega
         (try rw [wq hq]); (try rw [w0 hq]); (try rw [w1 hq]); (try rw [wR]); (try rw [wbR])
         first
         | (have := okI.1 hq; omega)
         | (have := erI.1 (by omega); omega)
         | (have := erI.2 (by omega); omega))
      | (have := okI.2 (by omega); omega)
      | (have := erI.2 (by omega); omega))
  · simp only [bLt, decide_eq_false_iff_not] at h
    have hW := A.2 (by omega)
    rw [hW, v1, v2]
    clear v1 v2 hW
    generalize Sp.mhi (Sp.ab n) a = mh at *
    generalize Sp.mlo (Sp.ab n) a = ml at *
    generalize Sp.ab n * a % b = R at *
    generalize Sp.quo n a b = Q at *
    generalize Sp.flo n a b = fl at *
    generalize Sp.res n a b = re at *
    generalize Sp.okq n a b = okq at *
    generalize Sp.inr fl = inr at *
    generalize Sp.dF n a b = dF at *
    generalize Sp.dR n a b = dR at *
    generalize Sp.eF n a b = eF at *
    generalize Sp.eR n a b = eR at *
    simp only [bLt, bLe, bEq, bNe, bNot, Bool.not_eq_true', Bool.not_eq_false', decide_eq_true_eq, decide_eq_false_iff_not, true_and, and_true]
    repeat' (first | apply And.intro | intro _)
    all_goals (first
      | trivial
      | omega
      | exact (okI.1 (by omega)).1.symm
      | exact (okI.2 (by omega)).1.symm
      | exact (erI.1 (by omega)).1.symm
      | exact (erI.2 (by omega)).1.symm
      | (have hq : Q ≤ 4611686018427387904 := by omega
         (try rw [wq hq]); (try rw [w0 hq]); (try rw [w1 hq]); (try rw [wR]); (try rw [wbR])
         first
         | (have := okI.1 hq; omega)
         | (have := erI.1 (by omega); omega)
         | (have := erI.2 (by omega); omega))
      | (have := okI.2 (by omega); omega)
      | (have := erI.2 (by omega); omega))
theorem s55 : SoundCt Go.Proofs.Try.prog 55 ct55 :=
  contractH followsMixed (look_sound (show Tb Go.Proofs.Try.prog tb55 from ⟨s52, ⟨s57, trivial⟩⟩)) (fun _ => true) (fun _ => fun _ _ => LoopAnn.unroll 200) 6 55 ct55 rfl (by simp [ct55]) fun a => Eq.mp (by kernel_rfl) (v55 ((cel 0 (arg 0 a)).int) ((cel 0 (arg 1 a)).int) ((cel 1 (arg 1 a)).int))
end Go.Sx

namespace Go.Sx
/-! ### function 49: ratio.check -/
def ct49 : Ct := { ps := [(false, [.int .i64]), (true, [.int .i64, .int .i64])], rs := [(false, [.int .i64])], pre := fun _ => True, out := fun a => [[.i (Sp.chk (cel 0 (arg 0 a)).int (cel 0 (arg 1 a)).int (cel 1 (arg 1 a)).int)]] }
def tb49 : List (Nat × Ct) := [(40, ct40)]
theorem e49 (n : Int) (a : Int) (b : Int) : vcF Go.Proofs.Try.prog (look tb49) (fun _ => false) (fun _ _ => LoopAnn.unroll 200) 6 49 [.int .i64 n, .agg [.int .i64 a, .int .i64 b]] [] (fun sv heap => Gives [(false, [.int .i64])] [[.i (Sp.chk n a b)]] sv heap) = (True ∧ (True → True ∧ (bNot (Sp.rvalid a b) = true → (1 = Sp.chk n a b ∧ True) ∧ True) ∧ (bNot (Sp.rvalid a b) = false → (bLt n (-1125899906842624) = false → (bLt 1125899906842624 n = true → (2 = Sp.chk n a b ∧ True) ∧ True) ∧ (bLt 1125899906842624 n = false → (0 = Sp.chk n a b ∧ True) ∧ True)) ∧ (bLt n (-1125899906842624) = true → (2 = Sp.chk n a b ∧ True) ∧ True)))) := by kernel_rfl
theorem v49 (n : Int) (a : Int) (b : Int) : Holds (Wfs [.int .i64 n, .agg [.int .i64 a, .int .i64 b]] → True → vcF Go.Proofs.Try.prog (look tb49) (fun _ => false) (fun _ _ => LoopAnn.unroll 200) 6 49 [.int .i64 n, .agg [.int .i64 a, .int .i64 b]] [] (fun sv heap => Gives [(false, [.int .i64])] [[.i (Sp.chk n a b)]] sv heap)) := by
  refine ⟨fun hw hp => ?_⟩
  rw [e49]
  unfold Sp.chk
  simp only [decide_eq_decide, beq_eq_false_iff_ne, ne_eq, iAdd, iSub, iMul, iQuo, iRem, iMin, iMax, iLen, geB, pLe, pNe, bNot, bLe, bLt, bEq, bNe, bSame, bDiff, bIf, bAnd, InR, Bool.not_true, Bool.not_false, decide_eq_true_eq, decide_eq_false_iff_not, Bool.not_eq_true', Bool.not_eq_false', beq_iff_eq, true_implies, implies_true, true_and, and_true, Bool.false_eq_true, Bool.true_eq_false, false_implies, reduceCtorEq, Bool.and_eq_true, Bool.and_eq_false_iff]
  cases Sp.rvalid a b <;> simp
  repeat' (first | apply And.intro | intro _)
  all_goals (first | omega | (rw [if_pos (by omega)]) | (rw [if_neg (by omega)]))
theorem s49 : SoundCt Go.Proofs.Try.prog 49 ct49 :=
  contractH followsMixed (look_sound (show Tb Go.Proofs.Try.prog tb49 from ⟨s40, trivial⟩)) (fun _ => false) (fun _ => fun _ _ => LoopAnn.unroll 200) 6 49 ct49 rfl (by simp [ct49]) fun a => Eq.mp (by kernel_rfl) (v49 ((cel 0 (arg 0 a)).int) ((cel 0 (arg 1 a)).int) ((cel 1 (arg 1 a)).int))
end Go.Sx

namespace Go
open Go.Sx
theorem Sp.chk_ok {n a b : Int} (h : Sp.chk n a b = 0) : 1 ≤ a ∧ a ≤ 68719476736 ∧ 1 ≤ b ∧ b ≤ 68719476736 ∧ -1125899906842624 ≤ n ∧ n ≤ 1125899906842624 := by
  unfold Sp.chk at h
  split at h
  · cases h
  · rename_i h1
    split at h
    · cases h
    · have := Sp.rvalid_of (a := a) (b := b) (by simpa using h1)
      omega
theorem Sp.okI (n a b : Int) : (Sp.quo n a b ≤ 4611686018427387904 → Sp.okq n a b = true ∧ Sp.dF n a b = Sp.flo n a b ∧ Sp.dR n a b = Sp.res n a b) ∧ (4611686018427387904 < Sp.quo n a b → Sp.okq n a b = false ∧ Sp.dF n a b = 0 ∧ Sp.dR n a b = 0) := by
  constructor
  · intro h
    have e : Sp.okq n a b = true := by unfold Sp.okq; simpa using h
    exact ⟨e, by unfold Sp.dF; rw [e]; rfl, by unfold Sp.dR; rw [e]; rfl⟩
  · intro h
    have e : Sp.okq n a b = false := by unfold Sp.okq; simp; omega
    exact ⟨e, by unfold Sp.dF; rw [e]; rfl, by unfold Sp.dR; rw [e]; rfl⟩
theorem Sp.okI' (n a b : Int) : (Sp.okq n a b = true → Sp.quo n a b ≤ 4611686018427387904) ∧ (Sp.okq n a b = false → 4611686018427387904 < Sp.quo n a b) := by
  unfold Sp.okq; simp
theorem Sp.floI {n a b : Int} (h : Sp.chk n a b = 0) : (-4611686018427387904 ≤ Sp.flo n a b ∧ Sp.flo n a b ≤ 4611686018427387904 → Sp.floE n a b = 0 ∧ Sp.floV n a b = Sp.flo n a b ∧ Sp.resV n a b = Sp.res n a b ∧ Sp.inr (Sp.flo n a b) = true) ∧
    (¬ (-4611686018427387904 ≤ Sp.flo n a b ∧ Sp.flo n a b ≤ 4611686018427387904) → Sp.floE n a b = 2 ∧ Sp.floV n a b = 0 ∧ Sp.resV n a b = 0 ∧ Sp.inr (Sp.flo n a b) = false) := by
  constructor
  · intro hi
    have e : Sp.inr (Sp.flo n a b) = true := by unfold Sp.inr; simpa using hi
    have f : Sp.floE n a b = 0 := by unfold Sp.floE; rw [if_neg (by omega), e]; rfl
    exact ⟨f, by unfold Sp.floV; rw [if_pos f], by unfold Sp.resV; rw [if_pos f], e⟩
  · intro hi
    have e : Sp.inr (Sp.flo n a b) = false := by unfold Sp.inr; simp; omega
    have f : Sp.floE n a b = 2 := by unfold Sp.floE; rw [if_neg (by omega), e]; rfl
    exact ⟨f, by unfold Sp.floV; rw [if_neg (by omega)], by unfold Sp.resV; rw [if_neg (by omega)], e⟩
theorem Sp.ceiI {n a b : Int} (h : Sp.chk n a b = 0) : (-4611686018427387904 ≤ Sp.cei n a b ∧ Sp.cei n a b ≤ 4611686018427387904 → Sp.ceiE n a b = 0 ∧ Sp.ceiV n a b = Sp.cei n a b) ∧
    (¬ (-4611686018427387904 ≤ Sp.cei n a b ∧ Sp.cei n a b ≤ 4611686018427387904) → Sp.ceiE n a b = 2 ∧ Sp.ceiV n a b = 0) := by
  constructor
  · intro hi
    have e : Sp.inr (Sp.cei n a b) = true := by unfold Sp.inr; simpa using hi
    have f : Sp.ceiE n a b = 0 := by unfold Sp.ceiE; rw [if_neg (by omega), e]; rfl
    exact ⟨f, by unfold Sp.ceiV; rw [if_pos f]⟩
  · intro hi
    have e : Sp.inr (Sp.cei n a b) = false := by unfold Sp.inr; simp; omega
    have f : Sp.ceiE n a b = 2 := by unfold Sp.ceiE; rw [if_neg (by omega), e]; rfl
    exact ⟨f, by unfold Sp.ceiV; rw [if_neg (by omega)]⟩
theorem Sp.bad {n a b : Int} (h : Sp.chk n a b ≠ 0) : Sp.floE n a b = Sp.chk n a b ∧ Sp.floV n a b = 0 ∧ Sp.resV n a b = 0 ∧ Sp.ceiE n a b = Sp.chk n a b ∧ Sp.ceiV n a b = 0 := by
  have e : Sp.floE n a b = Sp.chk n a b := by unfold Sp.floE; rw [if_pos h]
  have f : Sp.ceiE n a b = Sp.chk n a b := by unfold Sp.ceiE; rw [if_pos h]
  exact ⟨e, by unfold Sp.floV; rw [if_neg (by omega)], by unfold Sp.resV; rw [if_neg (by omega)], f, by unfold Sp.ceiV; rw [if_neg (by omega)]⟩
/-- Rounded upwards: one more where there is a rest. -/
theorem Sp.cei_flo {n a b : Int} (hb : 1 ≤ b) : (Sp.res n a b = 0 → Sp.cei n a b = Sp.flo n a b) ∧ (Sp.res n a b ≠ 0 → Sp.cei n a b = Sp.flo n a b + 1) ∧ 0 ≤ Sp.res n a b ∧ Sp.res n a b < b := by
  have nd := Sp.neg_div (m := n * a) (b := b) hb
  unfold Sp.cei Sp.flo Sp.res
  rw [Int.neg_mul]
  exact ⟨fun h => by rw [(nd.1 h).1]; omega, fun h => by rw [(nd.2 h).1]; omega, Int.emod_nonneg _ (by omega), Int.emod_lt_of_pos _ (by omega)⟩
theorem Sp.flo_neg {n a b : Int} : Sp.flo (-n) a b = -(Sp.cei n a b) := by unfold Sp.flo Sp.cei; omega
theorem Sp.chk_neg {n a b : Int} : Sp.chk (-n) a b = Sp.chk n a b := by
  unfold Sp.chk
  split
  · rfl
  · split <;> split <;> first | rfl | omega
end Go

namespace Go.Sx
/-! ### function 56: ratio.both -/
def ct56 : Ct := { ps := [(false, [.int .i64]), (true, [.int .i64, .int .i64])], rs := [(false, [.int .i64]), (false, [.int .i64]), (false, [.int .i64])], pre := fun _ => True, out := fun a => [[.i (Sp.floV (cel 0 (arg 0 a)).int (cel 0 (arg 1 a)).int (cel 1 (arg 1 a)).int)], [.i (Sp.resV (cel 0 (arg 0 a)).int (cel 0 (arg 1 a)).int (cel 1 (arg 1 a)).int)], [.i (Sp.floE (cel 0 (arg 0 a)).int (cel 0 (arg 1 a)).int (cel 1 (arg 1 a)).int)]] }
def tb56 : List (Nat × Ct) := [(49, ct49), (50, ct50)]
theorem e56 (n : Int) (a : Int) (b : Int) : vcF Go.Proofs.Try.prog (look tb56) (fun _ => false) (fun _ _ => LoopAnn.unroll 200) 6 56 [.int .i64 n, .agg [.int .i64 a, .int .i64 b]] [] (fun sv heap => Gives [(false, [.int .i64]), (false, [.int .i64]), (false, [.int .i64])] [[.i (Sp.floV n a b)], [.i (Sp.resV n a b)], [.i (Sp.floE n a b)]] sv heap) = (True ∧ (InR IntKind.i64 (Sp.chk n a b) → (bNe (Sp.chk n a b) 0 = true → (0 = Sp.floV n a b ∧ True) ∧ (0 = Sp.resV n a b ∧ True) ∧ (Sp.chk n a b = Sp.floE n a b ∧ True) ∧ True) ∧ (bNe (Sp.chk n a b) 0 = false → (1 ≤ a ∧ a ≤ 68719476736 ∧ 1 ≤ b ∧ b ≤ 68719476736 ∧ -1125899906842624 ≤ n ∧ n ≤ 1125899906842624) ∧ (InR IntKind.i64 (Sp.dF n a b) ∧ InR IntKind.i64 (Sp.dR n a b) ∧ True ∧ True → True ∧ (bNot (Sp.okq n a b) = false → (bLt (Sp.dF n a b) (-4611686018427387904) = true → (0 = Sp.floV n a b ∧ True) ∧ (0 = Sp.resV n a b ∧ True) ∧ (2 = Sp.floE n a b ∧ True) ∧ True) ∧ (bLt (Sp.dF n a b) (-4611686018427387904) = false → (Sp.dF n a b = Sp.floV n a b ∧ True) ∧ (Sp.dR n a b = Sp.resV n a b ∧ True) ∧ (0 = Sp.floE n a b ∧ True) ∧ True)) ∧ (bNot (Sp.okq n a b) = true → (0 = Sp.floV n a b ∧ True) ∧ (0 = Sp.resV n a b ∧ True) ∧ (2 = Sp.floE n a b ∧ True) ∧ True))))) := by kernel_rfl
theorem v56 (n : Int) (a : Int) (b : Int) : Holds (Wfs [.int .i64 n, .agg [.int .i64 a, .int .i64 b]] → True → vcF Go.Proofs.Try.prog (look tb56) (fun _ => false) (fun _ _ => LoopAnn.unroll 200) 6 56 [.int .i64 n, .agg [.int .i64 a, .int .i64 b]] [] (fun sv heap => Gives [(false, [.int .i64]), (false, [.int .i64]), (false, [.int .i64])] [[.i (Sp.floV n a b)], [.i (Sp.resV n a b)], [.i (Sp.floE n a b)]] sv heap)) := by
  refine ⟨fun hw hp => ?_⟩
  rw [e56]
  simp only [Wfs, Wf, InR, and_true] at hw
  by_cases hc : Sp.chk n a b = 0
  · have ck := Sp.chk_ok hc
    have F := Sp.fl ck
    have o1 := Sp.okI n a b
    have o2 := Sp.okI' n a b
    have f0 := Sp.floI hc
    have f1 := fun h => (⟨(f0.1 h).1, (f0.1 h).2.1, (f0.1 h).2.2.1⟩ : Sp.floE n a b = 0 ∧ Sp.floV n a b = Sp.flo n a b ∧ Sp.resV n a b = Sp.res n a b)
    have f2 := fun h => (⟨(f0.2 h).1, (f0.2 h).2.1, (f0.2 h).2.2.1⟩ : Sp.floE n a b = 2 ∧ Sp.floV n a b = 0 ∧ Sp.resV n a b = 0)
    have c1 := (Sp.ceiI hc).1
    have c2 := (Sp.ceiI hc).2
    clear f0
    have cf := Sp.cei_flo (n := n) (a := a) (b := b) (by omega)
    have k1 := F.q0
    have k2 := F.r0
    have k3 := F.r1
    have k5 := F.pos
    have k6 := F.neg0
    have k7 := F.neg1
    cases hq : Sp.okq n a b <;> simp only [hq, Bool.false_eq_true, Bool.true_eq_false, reduceCtorEq, false_implies, true_implies, and_true, true_and, false_and, and_false, implies_true] at o1 o2 ⊢
    all_goals (clear F; simp only [hc, bNe, bNot, bLt, iAdd, iSub, InR, decide_true, decide_eq_true_eq, decide_eq_false_iff_not, Bool.not_true, Bool.not_false, Bool.not_eq_true', Bool.not_eq_false', Bool.false_eq_true, Bool.true_eq_false, reduceCtorEq, not_true_eq_false, false_implies, true_implies, implies_true, and_true, true_and])
    all_goals
      generalize Sp.ab n * a % b = R at *
      generalize Sp.quo n a b = Q at *
      generalize Sp.floE n a b = fE at *
      generalize Sp.floV n a b = fV at *
      generalize Sp.resV n a b = rV at *
      generalize Sp.ceiE n a b = cE at *
      generalize Sp.ceiV n a b = cV at *
      generalize Sp.cei n a b = ce at *
      generalize Sp.dF n a b = dF at *
      generalize Sp.dR n a b = dR at *
      generalize Sp.flo n a b = fl at *
      generalize Sp.res n a b = re at *
      generalize Sp.chk n a b = ck at *
      repeat' (first | apply And.intro | intro _)
      all_goals (first | trivial | assumption | omega)
  · have bd := Sp.bad hc
    simp only [bNe, bNot, hc, bd, decide_false, decide_true, Bool.not_false, Bool.not_true, Bool.false_eq_true, Bool.true_eq_false, reduceCtorEq, false_implies, true_implies, implies_true, and_true, true_and]
theorem s56 : SoundCt Go.Proofs.Try.prog 56 ct56 :=
  contractH followsMixed (look_sound (show Tb Go.Proofs.Try.prog tb56 from ⟨s49, ⟨s50, trivial⟩⟩)) (fun _ => false) (fun _ => fun _ _ => LoopAnn.unroll 200) 6 56 ct56 rfl (by simp [ct56]) fun a => Eq.mp (by kernel_rfl) (v56 ((cel 0 (arg 0 a)).int) ((cel 0 (arg 1 a)).int) ((cel 1 (arg 1 a)).int))
end Go.Sx

namespace Go.Sx
/-! ### function 48: ratio.Floor -/
def ct48 : Ct := { ps := [(false, [.int .i64]), (true, [.int .i64, .int .i64])], rs := [(false, [.int .i64]), (false, [.int .i64])], pre := fun _ => True, out := fun a => [[.i (Sp.floV (cel 0 (arg 0 a)).int (cel 0 (arg 1 a)).int (cel 1 (arg 1 a)).int)], [.i (Sp.floE (cel 0 (arg 0 a)).int (cel 0 (arg 1 a)).int (cel 1 (arg 1 a)).int)]] }
def tb48 : List (Nat × Ct) := [(56, ct56)]
theorem e48 (n : Int) (a : Int) (b : Int) : vcF Go.Proofs.Try.prog (look tb48) (fun _ => false) (fun _ _ => LoopAnn.unroll 200) 6 48 [.int .i64 n, .agg [.int .i64 a, .int .i64 b]] [] (fun sv heap => Gives [(false, [.int .i64]), (false, [.int .i64])] [[.i (Sp.floV n a b)], [.i (Sp.floE n a b)]] sv heap) = (True ∧ (InR IntKind.i64 (Sp.floV n a b) ∧ InR IntKind.i64 (Sp.resV n a b) ∧ InR IntKind.i64 (Sp.floE n a b) ∧ True → (Sp.floV n a b = Sp.floV n a b ∧ True) ∧ (Sp.floE n a b = Sp.floE n a b ∧ True) ∧ True)) := by kernel_rfl
theorem v48 (n : Int) (a : Int) (b : Int) : Holds (Wfs [.int .i64 n, .agg [.int .i64 a, .int .i64 b]] → True → vcF Go.Proofs.Try.prog (look tb48) (fun _ => false) (fun _ _ => LoopAnn.unroll 200) 6 48 [.int .i64 n, .agg [.int .i64 a, .int .i64 b]] [] (fun sv heap => Gives [(false, [.int .i64]), (false, [.int .i64])] [[.i (Sp.floV n a b)], [.i (Sp.floE n a b)]] sv heap)) := by
  refine ⟨fun hw hp => ?_⟩
  rw [e48]
  exact ⟨trivial, fun _ => ⟨⟨rfl, trivial⟩, ⟨rfl, trivial⟩, trivial⟩⟩
theorem s48 : SoundCt Go.Proofs.Try.prog 48 ct48 :=
  contractH followsMixed (look_sound (show Tb Go.Proofs.Try.prog tb48 from ⟨s56, trivial⟩)) (fun _ => false) (fun _ => fun _ _ => LoopAnn.unroll 200) 6 48 ct48 rfl (by simp [ct48]) fun a => Eq.mp (by kernel_rfl) (v48 ((cel 0 (arg 0 a)).int) ((cel 0 (arg 1 a)).int) ((cel 1 (arg 1 a)).int))
end Go.Sx

namespace Go.Sx
/-! ### function 39: ratio.Ceil -/
def ct39 : Ct := { ps := [(false, [.int .i64]), (true, [.int .i64, .int .i64])], rs := [(false, [.int .i64]), (false, [.int .i64])], pre := fun _ => True, out := fun a => [[.i (Sp.ceiV (cel 0 (arg 0 a)).int (cel 0 (arg 1 a)).int (cel 1 (arg 1 a)).int)], [.i (Sp.ceiE (cel 0 (arg 0 a)).int (cel 0 (arg 1 a)).int (cel 1 (arg 1 a)).int)]] }
def tb39 : List (Nat × Ct) := [(49, ct49), (50, ct50)]
theorem e39 (n : Int) (a : Int) (b : Int) : vcF Go.Proofs.Try.prog (look tb39) (fun _ => false) (fun _ _ => LoopAnn.unroll 200) 6 39 [.int .i64 n, .agg [.int .i64 a, .int .i64 b]] [] (fun sv heap => Gives [(false, [.int .i64]), (false, [.int .i64])] [[.i (Sp.ceiV n a b)], [.i (Sp.ceiE n a b)]] sv heap) = (True ∧ (InR IntKind.i64 (Sp.chk n a b) → (bNe (Sp.chk n a b) 0 = true → (0 = Sp.ceiV n a b ∧ True) ∧ (Sp.chk n a b = Sp.ceiE n a b ∧ True) ∧ True) ∧ (bNe (Sp.chk n a b) 0 = false → (1 ≤ a ∧ a ≤ 68719476736 ∧ 1 ≤ b ∧ b ≤ 68719476736 ∧ -1125899906842624 ≤ n ∧ n ≤ 1125899906842624) ∧ (InR IntKind.i64 (Sp.dF n a b) ∧ InR IntKind.i64 (Sp.dR n a b) ∧ True ∧ True → (Sp.okq n a b = true → (bLt 0 (Sp.dR n a b) = true → InR IntKind.i64 (iAdd (Sp.dF n a b) 1) ∧ True ∧ (bNot (Sp.okq n a b) = false → (bLt (iAdd (Sp.dF n a b) 1) (-4611686018427387904) = false → (bLt 4611686018427387904 (iAdd (Sp.dF n a b) 1) = true → (0 = Sp.ceiV n a b ∧ True) ∧ (2 = Sp.ceiE n a b ∧ True) ∧ True) ∧ (bLt 4611686018427387904 (iAdd (Sp.dF n a b) 1) = false → (iAdd (Sp.dF n a b) 1 = Sp.ceiV n a b ∧ True) ∧ (0 = Sp.ceiE n a b ∧ True) ∧ True)) ∧ (bLt (iAdd (Sp.dF n a b) 1) (-4611686018427387904) = true → (0 = Sp.ceiV n a b ∧ True) ∧ (2 = Sp.ceiE n a b ∧ True) ∧ True)) ∧ (bNot (Sp.okq n a b) = true → (0 = Sp.ceiV n a b ∧ True) ∧ (2 = Sp.ceiE n a b ∧ True) ∧ True)) ∧ (bLt 0 (Sp.dR n a b) = false → True ∧ (bNot (Sp.okq n a b) = false → (bLt (Sp.dF n a b) (-4611686018427387904) = false → (bLt 4611686018427387904 (Sp.dF n a b) = true → (0 = Sp.ceiV n a b ∧ True) ∧ (2 = Sp.ceiE n a b ∧ True) ∧ True) ∧ (bLt 4611686018427387904 (Sp.dF n a b) = false → (Sp.dF n a b = Sp.ceiV n a b ∧ True) ∧ (0 = Sp.ceiE n a b ∧ True) ∧ True)) ∧ (bLt (Sp.dF n a b) (-4611686018427387904) = true → (0 = Sp.ceiV n a b ∧ True) ∧ (2 = Sp.ceiE n a b ∧ True) ∧ True)) ∧ (bNot (Sp.okq n a b) = true → (0 = Sp.ceiV n a b ∧ True) ∧ (2 = Sp.ceiE n a b ∧ True) ∧ True))) ∧ (Sp.okq n a b = false → True ∧ (bNot (Sp.okq n a b) = false → (bLt (Sp.dF n a b) (-4611686018427387904) = false → (bLt 4611686018427387904 (Sp.dF n a b) = true → (0 = Sp.ceiV n a b ∧ True) ∧ (2 = Sp.ceiE n a b ∧ True) ∧ True) ∧ (bLt 4611686018427387904 (Sp.dF n a b) = false → (Sp.dF n a b = Sp.ceiV n a b ∧ True) ∧ (0 = Sp.ceiE n a b ∧ True) ∧ True)) ∧ (bLt (Sp.dF n a b) (-4611686018427387904) = true → (0 = Sp.ceiV n a b ∧ True) ∧ (2 = Sp.ceiE n a b ∧ True) ∧ True)) ∧ (bNot (Sp.okq n a b) = true → (0 = Sp.ceiV n a b ∧ True) ∧ (2 = Sp.ceiE n a b ∧ True) ∧ True)))))) := by kernel_rfl
theorem v39 (n : Int) (a : Int) (b : Int) : Holds (Wfs [.int .i64 n, .agg [.int .i64 a, .int .i64 b]] → True → vcF Go.Proofs.Try.prog (look tb39) (fun _ => false) (fun _ _ => LoopAnn.unroll 200) 6 39 [.int .i64 n, .agg [.int .i64 a, .int .i64 b]] [] (fun sv heap => Gives [(false, [.int .i64]), (false, [.int .i64])] [[.i (Sp.ceiV n a b)], [.i (Sp.ceiE n a b)]] sv heap)) := by
  refine ⟨fun hw hp => ?_⟩
  rw [e39]
  simp only [Wfs, Wf, InR, and_true] at hw
  by_cases hc : Sp.chk n a b = 0
  · have ck := Sp.chk_ok hc
    have F := Sp.fl ck
    have o1 := Sp.okI n a b
    have o2 := Sp.okI' n a b
    have f0 := Sp.floI hc
    have f1 := fun h => (⟨(f0.1 h).1, (f0.1 h).2.1, (f0.1 h).2.2.1⟩ : Sp.floE n a b = 0 ∧ Sp.floV n a b = Sp.flo n a b ∧ Sp.resV n a b = Sp.res n a b)
    have f2 := fun h => (⟨(f0.2 h).1, (f0.2 h).2.1, (f0.2 h).2.2.1⟩ : Sp.floE n a b = 2 ∧ Sp.floV n a b = 0 ∧ Sp.resV n a b = 0)
    have c1 := (Sp.ceiI hc).1
    have c2 := (Sp.ceiI hc).2
    clear f0
    have cf := Sp.cei_flo (n := n) (a := a) (b := b) (by omega)
    have k1 := F.q0
    have k2 := F.r0
    have k3 := F.r1
    have k5 := F.pos
    have k6 := F.neg0
    have k7 := F.neg1
    cases hq : Sp.okq n a b <;> simp only [hq, Bool.false_eq_true, Bool.true_eq_false, reduceCtorEq, false_implies, true_implies, and_true, true_and, false_and, and_false, implies_true] at o1 o2 ⊢
    all_goals (clear F; simp only [hc, bNe, bNot, bLt, iAdd, iSub, InR, decide_true, decide_eq_true_eq, decide_eq_false_iff_not, Bool.not_true, Bool.not_false, Bool.not_eq_true', Bool.not_eq_false', Bool.false_eq_true, Bool.true_eq_false, reduceCtorEq, not_true_eq_false, false_implies, true_implies, implies_true, and_true, true_and])
    all_goals
      generalize Sp.ab n * a % b = R at *
      generalize Sp.quo n a b = Q at *
      generalize Sp.floE n a b = fE at *
      generalize Sp.floV n a b = fV at *
      generalize Sp.resV n a b = rV at *
      generalize Sp.ceiE n a b = cE at *
      generalize Sp.ceiV n a b = cV at *
      generalize Sp.cei n a b = ce at *
      generalize Sp.dF n a b = dF at *
      generalize Sp.dR n a b = dR at *
      generalize Sp.flo n a b = fl at *
      generalize Sp.res n a b = re at *
      generalize Sp.chk n a b = ck at *
      repeat' (first | apply And.intro | intro _)
      all_goals (first | trivial | assumption | omega)
  · have bd := Sp.bad hc
    simp only [bNe, bNot, hc, bd, decide_false, decide_true, Bool.not_false, Bool.not_true, Bool.false_eq_true, Bool.true_eq_false, reduceCtorEq, false_implies, true_implies, implies_true, and_true, true_and]
theorem s39 : SoundCt Go.Proofs.Try.prog 39 ct39 :=
  contractH followsMixed (look_sound (show Tb Go.Proofs.Try.prog tb39 from ⟨s49, ⟨s50, trivial⟩⟩)) (fun _ => false) (fun _ => fun _ _ => LoopAnn.unroll 200) 6 39 ct39 rfl (by simp [ct39]) fun a => Eq.mp (by kernel_rfl) (v39 ((cel 0 (arg 0 a)).int) ((cel 0 (arg 1 a)).int) ((cel 1 (arg 1 a)).int))
end Go.Sx

