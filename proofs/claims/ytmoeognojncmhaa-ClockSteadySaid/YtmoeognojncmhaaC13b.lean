/- Contracts and conditions, continued. -/
import Derived.Test.YtmoeognojncmhaaSxUse
import Derived.Test.YtmoeognojncmhaaC13a
import Derived.KernelRfl
set_option linter.unusedVariables false
set_option linter.unusedSimpArgs false
set_option maxRecDepth 100000
set_option maxHeartbeats 4000000

namespace Go
open Go.Sx
def Sp.pok (f n d u b : Int) : Prop := Sp.cu n d = true ∧ 0 ≤ f ∧ f ≤ u ∧ u ≤ 1099511627776 ∧ 0 ≤ b ∧ b ≤ 1024 * f
def Sp.pat (f n d b t : Int) : Int := b + (t - f) * n / d
end Go

namespace Go
open Go.Sx
theorem Sp.cu_rv {n d : Int} (h : Sp.cu n d = true) : Sp.rvalid n d = true ∧ 1 ≤ n ∧ 1 ≤ d ∧ n ≤ 68719476736 ∧ d ≤ 68719476736 ∧ d ≤ n * 1024 ∧ n ≤ d * 1024 := by
  unfold Sp.cu at h
  rw [Bool.and_eq_true, decide_eq_true_eq] at h
  have h1 := h.1
  simp only [Sp.rvalid, decide_eq_true_eq] at h1
  exact ⟨h.1, h1.1, h1.2.1, h1.2.2.1, h1.2.2.2.1, h.2.1, h.2.2⟩
/-- Up to so many frames at a usual rate. -/
theorem Sp.flo_cu {m n d : Int} (h : Sp.cu n d = true) (h0 : 0 ≤ m) (h1 : m ≤ 1099511627776) : 0 ≤ m * n / d ∧ m * n / d ≤ 1024 * m ∧ Sp.floV m n d = m * n / d ∧ Sp.floE m n d = 0 := by
  obtain ⟨hv, a1, b1, a2, b2, c1, c2⟩ := Sp.cu_rv h
  have k0 : 0 ≤ m * n / d := Int.ediv_nonneg (Int.mul_nonneg h0 (by omega)) (by omega)
  have k1 : m * n / d ≤ 1024 * m := by
    have h3 : m * n ≤ m * (d * 1024) := Int.mul_le_mul_of_nonneg_left c2 h0
    have h4 := Int.ediv_le_ediv (show 0 < d by omega) h3
    rw [show m * (d * 1024) = (1024 * m) * d by rw [Int.mul_comm d 1024, ← Int.mul_assoc, Int.mul_comm m 1024], Int.mul_ediv_cancel _ (by omega)] at h4
    exact h4
  have kc : Sp.chk m n d = 0 := by unfold Sp.chk; rw [if_neg (by simp [hv]), if_neg (by omega)]
  have ki : Sp.inr (Sp.flo m n d) = true := by unfold Sp.inr Sp.flo; rw [decide_eq_true_eq]; omega
  have ke : Sp.floE m n d = 0 := by unfold Sp.floE; rw [if_neg (by simp [kc]), ki]; rfl
  exact ⟨k0, k1, by unfold Sp.floV; rw [if_pos ke]; rfl, ke⟩
end Go

namespace Go.Sx
/-! ### function 37: (clock.piece).at -/
def ct37 : Ct := { ps := [(true, [.int .i64, .int .i64, .int .i64, .int .i64, .int .i64]), (false, [.int .i64])], rs := [(false, [.int .i64])], pre := fun a => Sp.pok (cel 0 (arg 0 a)).int (cel 1 (arg 0 a)).int (cel 2 (arg 0 a)).int (cel 3 (arg 0 a)).int (cel 4 (arg 0 a)).int ∧ ((cel 0 (arg 0 a)).int ≤ (cel 0 (arg 1 a)).int ∧ (cel 0 (arg 1 a)).int ≤ (cel 3 (arg 0 a)).int), out := fun a => [[.i (Sp.pat (cel 0 (arg 0 a)).int (cel 1 (arg 0 a)).int (cel 2 (arg 0 a)).int (cel 4 (arg 0 a)).int (cel 0 (arg 1 a)).int)]] }
def tb37 : List (Nat × Ct) := [(48, ct48)]
theorem e37 (f : Int) (n : Int) (d : Int) (u : Int) (b : Int) (t : Int) : vcF Go.Proofs.Try.prog (look tb37) (fun _ => false) (fun _ _ => LoopAnn.unroll 200) 6 37 [.agg [.int .i64 f, .int .i64 n, .int .i64 d, .int .i64 u, .int .i64 b], .int .i64 t] [] (fun sv heap => Gives [(false, [.int .i64])] [[.i (Sp.pat f n d b t)]] sv heap) = (InR IntKind.i64 (iSub t f) ∧ True ∧ (InR IntKind.i64 (Sp.floV (iSub t f) n d) ∧ InR IntKind.i64 (Sp.floE (iSub t f) n d) ∧ True → InR IntKind.i64 (iAdd b (Sp.floV (iSub t f) n d)) ∧ (iAdd b (Sp.floV (iSub t f) n d) = Sp.pat f n d b t ∧ True) ∧ True)) := by kernel_rfl
theorem v37 (f : Int) (n : Int) (d : Int) (u : Int) (b : Int) (t : Int) : Holds (Wfs [.agg [.int .i64 f, .int .i64 n, .int .i64 d, .int .i64 u, .int .i64 b], .int .i64 t] → Sp.pok f n d u b ∧ (f ≤ t ∧ t ≤ u) → vcF Go.Proofs.Try.prog (look tb37) (fun _ => false) (fun _ _ => LoopAnn.unroll 200) 6 37 [.agg [.int .i64 f, .int .i64 n, .int .i64 d, .int .i64 u, .int .i64 b], .int .i64 t] [] (fun sv heap => Gives [(false, [.int .i64])] [[.i (Sp.pat f n d b t)]] sv heap)) := by
  refine ⟨fun hw hp => ?_⟩
  rw [e37]
  simp only [iAdd, iSub, iMul, iLen, eq_self, true_and, and_true, true_implies, implies_true]
  obtain ⟨⟨hc, h0, h1, h2, h3, h4⟩, h5, h6⟩ := hp
  obtain ⟨k0, k1, k2, k3⟩ := Sp.flo_cu (m := t - f) hc (by omega) (by omega)
  rw [k2]
  simp only [InR]
  exact ⟨by omega, fun _ => ⟨by omega, rfl⟩⟩
theorem s37 : SoundCt Go.Proofs.Try.prog 37 ct37 :=
  contractH followsMixed (look_sound (show Tb Go.Proofs.Try.prog tb37 from ⟨s48, trivial⟩)) (fun _ => false) (fun _ => fun _ _ => LoopAnn.unroll 200) 6 37 ct37 rfl (by simp [ct37]) fun a => Eq.mp (by kernel_rfl) (v37 ((cel 0 (arg 0 a)).int) ((cel 1 (arg 0 a)).int) ((cel 2 (arg 0 a)).int) ((cel 3 (arg 0 a)).int) ((cel 4 (arg 0 a)).int) ((cel 0 (arg 1 a)).int))
end Go.Sx

