/- Contracts and conditions, continued. -/
import Derived.Test.YtmoeognojncmhaaSxUse
import Derived.Test.YtmoeognojncmhaaR13d
import Derived.KernelRfl
set_option linter.unusedVariables false
set_option linter.unusedSimpArgs false
set_option maxRecDepth 100000
set_option maxHeartbeats 4000000

namespace Go
open Go.Sx
def Sp.tmO (p q : Int) : Bool := decide (p * q ≤ 68719476736)
def Sp.tmV (p q : Int) : Int := IntKind.i64.wrap (Sp.mlo p q)
end Go

namespace Go
open Go.Sx
theorem Sp.hl (p q : Int) : p * q = Sp.mhi p q * 18446744073709551616 + Sp.mlo p q ∧ 0 ≤ Sp.mlo p q ∧ Sp.mlo p q < 18446744073709551616 := by unfold Sp.mhi Sp.mlo; omega
theorem Sp.tmV_ok {p q : Int} (h0 : 0 ≤ p * q) (h : p * q ≤ 68719476736) : Sp.tmV p q = p * q := by
  have := Sp.hl p q
  have e : Sp.mlo p q = p * q := by omega
  unfold Sp.tmV; rw [e]
  exact InR.wrap (by simp only [InR]; omega)
end Go

namespace Go.Sx
/-! ### function 45: ref03.Cmp -/
def ct45 : Ct := { ps := [(true, [.int .i64, .int .i64]), (true, [.int .i64, .int .i64])], rs := [(false, [.int .i64])], pre := fun _ => True, out := fun a => [[.i (Sp.cmp (cel 0 (arg 0 a)).int (cel 1 (arg 0 a)).int (cel 0 (arg 1 a)).int (cel 1 (arg 1 a)).int)]] }
def tb45 : List (Nat × Ct) := [(44, ct44), (52, ct52)]
theorem e45 (a : Int) (b : Int) (c : Int) (d : Int) : vcF Go.Proofs.Try.prog (look tb45) (fun _ => false) (fun _ _ => LoopAnn.unroll 200) 6 45 [.agg [.int .i64 a, .int .i64 b], .agg [.int .i64 c, .int .i64 d]] [] (fun sv heap => Gives [(false, [.int .i64])] [[.i (Sp.cmp a b c d)]] sv heap) = (True ∧ (True → True ∧ (bNot (Sp.rvalid a b) = false → True ∧ (True → True ∧ (bNot (Sp.rvalid c d) = true → (0 = Sp.cmp a b c d ∧ True) ∧ True) ∧ (bNot (Sp.rvalid c d) = false → True ∧ (InR IntKind.u64 (Sp.mhi (iWrap IntKind.u64 a) (iWrap IntKind.u64 d)) ∧ InR IntKind.u64 (Sp.mlo (iWrap IntKind.u64 a) (iWrap IntKind.u64 d)) ∧ True → True ∧ (InR IntKind.u64 (Sp.mhi (iWrap IntKind.u64 c) (iWrap IntKind.u64 b)) ∧ InR IntKind.u64 (Sp.mlo (iWrap IntKind.u64 c) (iWrap IntKind.u64 b)) ∧ True → (bLt (Sp.mhi (iWrap IntKind.u64 a) (iWrap IntKind.u64 d)) (Sp.mhi (iWrap IntKind.u64 c) (iWrap IntKind.u64 b)) = false → (bEq (Sp.mhi (iWrap IntKind.u64 a) (iWrap IntKind.u64 d)) (Sp.mhi (iWrap IntKind.u64 c) (iWrap IntKind.u64 b)) = true → (bLt (Sp.mlo (iWrap IntKind.u64 a) (iWrap IntKind.u64 d)) (Sp.mlo (iWrap IntKind.u64 c) (iWrap IntKind.u64 b)) = true → (-1 = Sp.cmp a b c d ∧ True) ∧ True) ∧ (bLt (Sp.mlo (iWrap IntKind.u64 a) (iWrap IntKind.u64 d)) (Sp.mlo (iWrap IntKind.u64 c) (iWrap IntKind.u64 b)) = false → (bLt (Sp.mhi (iWrap IntKind.u64 c) (iWrap IntKind.u64 b)) (Sp.mhi (iWrap IntKind.u64 a) (iWrap IntKind.u64 d)) = false → (bEq (Sp.mhi (iWrap IntKind.u64 a) (iWrap IntKind.u64 d)) (Sp.mhi (iWrap IntKind.u64 c) (iWrap IntKind.u64 b)) = true → (bLt (Sp.mlo (iWrap IntKind.u64 c) (iWrap IntKind.u64 b)) (Sp.mlo (iWrap IntKind.u64 a) (iWrap IntKind.u64 d)) = true → (1 = Sp.cmp a b c d ∧ True) ∧ True) ∧ (bLt (Sp.mlo (iWrap IntKind.u64 c) (iWrap IntKind.u64 b)) (Sp.mlo (iWrap IntKind.u64 a) (iWrap IntKind.u64 d)) = false → (0 = Sp.cmp a b c d ∧ True) ∧ True)) ∧ (bEq (Sp.mhi (iWrap IntKind.u64 a) (iWrap IntKind.u64 d)) (Sp.mhi (iWrap IntKind.u64 c) (iWrap IntKind.u64 b)) = false → (0 = Sp.cmp a b c d ∧ True) ∧ True)) ∧ (bLt (Sp.mhi (iWrap IntKind.u64 c) (iWrap IntKind.u64 b)) (Sp.mhi (iWrap IntKind.u64 a) (iWrap IntKind.u64 d)) = true → (1 = Sp.cmp a b c d ∧ True) ∧ True))) ∧ (bEq (Sp.mhi (iWrap IntKind.u64 a) (iWrap IntKind.u64 d)) (Sp.mhi (iWrap IntKind.u64 c) (iWrap IntKind.u64 b)) = false → (bLt (Sp.mhi (iWrap IntKind.u64 c) (iWrap IntKind.u64 b)) (Sp.mhi (iWrap IntKind.u64 a) (iWrap IntKind.u64 d)) = false → (bEq (Sp.mhi (iWrap IntKind.u64 a) (iWrap IntKind.u64 d)) (Sp.mhi (iWrap IntKind.u64 c) (iWrap IntKind.u64 b)) = true → (bLt (Sp.mlo (iWrap IntKind.u64 c) (iWrap IntKind.u64 b)) (Sp.mlo (iWrap IntKind.u64 a) (iWrap IntKind.u64 d)) = true → (1 = Sp.cmp a b c d ∧ True) ∧ True) ∧ (bLt (Sp.mlo (iWrap IntKind.u64 c) (iWrap IntKind.u64 b)) (Sp.mlo (iWrap IntKind.u64 a) (iWrap IntKind.u64 d)) = false → (0 = Sp.cmp a b c d ∧ True) ∧ True)) ∧ (bEq (Sp.mhi (iWrap IntKind.u64 a) (iWrap IntKind.u64 d)) (Sp.mhi (iWrap IntKind.u64 c) (iWrap IntKind.u64 b)) = false → (0 = Sp.cmp a b c d ∧ True) ∧ True)) ∧ (bLt (Sp.mhi (iWrap IntKind.u64 c) (iWrap IntKind.u64 b)) (Sp.mhi (iWrap IntKind.u64 a) (iWrap IntKind.u64 d)) = true → (1 = Sp.cmp a b c d ∧ True) ∧ True))) ∧ (bLt (Sp.mhi (iWrap IntKind.u64 a) (iWrap IntKind.u64 d)) (Sp.mhi (iWrap IntKind.u64 c) (iWrap IntKind.u64 b)) = true → (-1 = Sp.cmp a b c d ∧ True) ∧ True)))))) ∧ (bNot (Sp.rvalid a b) = true → (0 = Sp.cmp a b c d ∧ True) ∧ True))) := by kernel_rfl
theorem v45 (a : Int) (b : Int) (c : Int) (d : Int) : Holds (Wfs [.agg [.int .i64 a, .int .i64 b], .agg [.int .i64 c, .int .i64 d]] → True → vcF Go.Proofs.Try.prog (look tb45) (fun _ => false) (fun _ _ => LoopAnn.unroll 200) 6 45 [.agg [.int .i64 a, .int .i64 b], .agg [.int .i64 c, .int .i64 d]] [] (fun sv heap => Gives [(false, [.int .i64])] [[.i (Sp.cmp a b c d)]] sv heap)) := by
  refine ⟨fun hw hp => ?_⟩
  rw [e45]
  simp only [Wfs, Wf, InR, and_true] at hw
  have e : Sp.cmp a b c d = if Sp.rvalid a b = false ∨ Sp.rvalid c d = false then 0 else if a * d < c * b then -1 else if a * d = c * b then 0 else 1 := rfl
  cases hv : Sp.rvalid a b
  · simp [bNot, e, hv]
  · cases hw' : Sp.rvalid c d
    · simp [bNot, e, hw']
    · have r := Sp.rvalid_of hv
      have s := Sp.rvalid_of hw'
      have w1 : iWrap .u64 a = a := Sp.wrap64 (by omega) (by omega)
      have w2 : iWrap .u64 b = b := Sp.wrap64 (by omega) (by omega)
      have w3 : iWrap .u64 c = c := Sp.wrap64 (by omega) (by omega)
      have w4 : iWrap .u64 d = d := Sp.wrap64 (by omega) (by omega)
      have l1 := Sp.hl a d
      have l2 := Sp.hl c b
      rw [if_neg (by simp [hv, hw'])] at e
      rw [w1, w2, w3, w4, e]
      generalize Sp.mhi a d = h1 at *
      generalize Sp.mlo a d = m1 at *
      generalize Sp.mhi c b = h2 at *
      generalize Sp.mlo c b = m2 at *
      generalize a * d = p at *
      generalize c * b = q at *
      simp only [bNot, bLt, bEq, Bool.not_true, Bool.not_false, Bool.not_eq_true', Bool.not_eq_false', decide_eq_true_eq, decide_eq_false_iff_not, Bool.false_eq_true, Bool.true_eq_false, reduceCtorEq, false_implies, true_implies, implies_true, true_and, and_true]
      repeat' (first | apply And.intro | intro _)
      all_goals (first | trivial | omega | (rw [if_pos (by omega)]) | (rw [if_neg (by omega), if_pos (by omega)]) | (rw [if_neg (by omega), if_neg (by omega)]))
theorem s45 : SoundCt Go.Proofs.Try.prog 45 ct45 :=
  contractH followsMixed (look_sound (show Tb Go.Proofs.Try.prog tb45 from ⟨s44, ⟨s52, trivial⟩⟩)) (fun _ => false) (fun _ => fun _ _ => LoopAnn.unroll 200) 6 45 ct45 rfl (by simp [ct45]) fun a => Eq.mp (by kernel_rfl) (v45 ((cel 0 (arg 0 a)).int) ((cel 1 (arg 0 a)).int) ((cel 0 (arg 1 a)).int) ((cel 1 (arg 1 a)).int))
end Go.Sx

