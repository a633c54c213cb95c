/- Contracts and conditions, continued. -/
import Derived.Test.YtfdpnjjlhbpbiaaSxUse
import Derived.Test.YtfdpnjjlhbpbiaaC03d
import Derived.KernelRfl
set_option linter.unusedVariables false
set_option linter.unusedSimpArgs false
set_option maxRecDepth 100000
set_option maxHeartbeats 4000000

namespace Go
open Go.Sx
def Sp.tmO (p q : Int) : Bool := decide (p * q ≤ 68719476736)
def Sp.tmV (p q : Int) : Int := IntKind.i64.wrap (Sp.mlo p q)
end Go

namespace Go
open Go.Sx
theorem Sp.hl (p q : Int) : p * q = Sp.mhi p q * 18446744073709551616 + Sp.mlo p q ∧ 0 ≤ Sp.mlo p q ∧ Sp.mlo p q < 18446744073709551616 := by unfold Sp.mhi Sp.mlo; omega
theorem Sp.tmV_ok {p q : Int} (h0 : 0 ≤ p * q) (h : p * q ≤ 68719476736) : Sp.tmV p q = p * q := by
  have := Sp.hl p q
  have e : Sp.mlo p q = p * q := by omega
  unfold Sp.tmV; rw [e]
  exact InR.wrap (by simp only [InR]; omega)
end Go

namespace Go.Sx
/-! ### function 35: ratio.term -/
def ct35 : Ct := { ps := [(false, [.int .i64]), (false, [.int .i64])], rs := [(false, [.int .i64]), (false, [.bool])], pre := fun a => 0 ≤ (cel 0 (arg 0 a)).int ∧ (cel 0 (arg 0 a)).int ≤ 68719476736 ∧ 0 ≤ (cel 0 (arg 1 a)).int ∧ (cel 0 (arg 1 a)).int ≤ 68719476736, out := fun a => [[.i (Sp.tmV (cel 0 (arg 0 a)).int (cel 0 (arg 1 a)).int)], [.b (Sp.tmO (cel 0 (arg 0 a)).int (cel 0 (arg 1 a)).int)]] }
def tb35 : List (Nat × Ct) := [(36, ct36)]
theorem e35 (p : Int) (q : Int) : vcF Go.Proofs.Try.prog (look tb35) (fun _ => true) (fun _ _ => LoopAnn.unroll 200) 6 35 [.int .i64 p, .int .i64 q] [] (fun sv heap => Gives [(false, [.int .i64]), (false, [.bool])] [[.i (Sp.tmV p q)], [.b (Sp.tmO p q)]] sv heap) = (True ∧ (InR IntKind.u64 (Sp.mhi (iWrap IntKind.u64 p) (iWrap IntKind.u64 q)) ∧ InR IntKind.u64 (Sp.mlo (iWrap IntKind.u64 p) (iWrap IntKind.u64 q)) ∧ True → (bEq (Sp.mhi (iWrap IntKind.u64 p) (iWrap IntKind.u64 q)) 0 = true → (iWrap IntKind.i64 (Sp.mlo (iWrap IntKind.u64 p) (iWrap IntKind.u64 q)) = Sp.tmV p q ∧ True) ∧ (bLe (Sp.mlo (iWrap IntKind.u64 p) (iWrap IntKind.u64 q)) 68719476736 = Sp.tmO p q ∧ True) ∧ True) ∧ (bEq (Sp.mhi (iWrap IntKind.u64 p) (iWrap IntKind.u64 q)) 0 = false → (iWrap IntKind.i64 (Sp.mlo (iWrap IntKind.u64 p) (iWrap IntKind.u64 q)) = Sp.tmV p q ∧ True) ∧ (false = Sp.tmO p q ∧ True) ∧ True))) := by kernel_rfl
theorem v35 (p : Int) (q : Int) : Holds (Wfs [.int .i64 p, .int .i64 q] → 0 ≤ p ∧ p ≤ 68719476736 ∧ 0 ≤ q ∧ q ≤ 68719476736 → vcF Go.Proofs.Try.prog (look tb35) (fun _ => true) (fun _ _ => LoopAnn.unroll 200) 6 35 [.int .i64 p, .int .i64 q] [] (fun sv heap => Gives [(false, [.int .i64]), (false, [.bool])] [[.i (Sp.tmV p q)], [.b (Sp.tmO p q)]] sv heap)) := by
  refine ⟨fun hw hp => ?_⟩
  rw [e35]
  have wp : iWrap .u64 p = p := Sp.wrap64 (by omega) (by omega)
  have wq : iWrap .u64 q = q := Sp.wrap64 (by omega) (by omega)
  have m := mul_bd (x := p) (X := 68719476736) (y := q) (Y := 68719476736) (by omega) (by omega) (by omega) (by omega)
  have l := Sp.hl p q
  rw [wp, wq]
  have e : Sp.tmV p q = iWrap .i64 (Sp.mlo p q) := rfl
  have o : Sp.tmO p q = decide (p * q ≤ 68719476736) := rfl
  rw [e, o]
  generalize Sp.mhi p q = mh at *
  generalize Sp.mlo p q = ml at *
  generalize p * q = pq at *
  simp only [bEq, bLe, decide_eq_true_eq, decide_eq_false_iff_not, true_and, and_true]
  repeat' (first | apply And.intro | intro _)
  all_goals (first | trivial | omega | (simp only [decide_eq_decide]; omega) | (symm; simp only [decide_eq_false_iff_not]; omega))
theorem s35 : SoundCt Go.Proofs.Try.prog 35 ct35 :=
  contractH followsMixed (look_sound (show Tb Go.Proofs.Try.prog tb35 from ⟨s36, trivial⟩)) (fun _ => true) (fun _ => fun _ _ => LoopAnn.unroll 200) 6 35 ct35 rfl (by simp [ct35]) fun a => Eq.mp (by kernel_rfl) (v35 ((cel 0 (arg 0 a)).int) ((cel 0 (arg 1 a)).int))
end Go.Sx

namespace Go.Sx
/-! ### function 23: ratio.Mul -/
def ct23 : Ct := { ps := [(true, [.int .i64, .int .i64]), (true, [.int .i64, .int .i64])], rs := [(true, [.int .i64, .int .i64]), (false, [.int .i64])], pre := fun _ => True, out := fun a => [[.i (Sp.mulV (cel 0 (arg 0 a)).int (cel 1 (arg 0 a)).int (cel 0 (arg 1 a)).int (cel 1 (arg 1 a)).int (Sp.mulX (cel 0 (arg 0 a)).int (cel 1 (arg 0 a)).int (cel 0 (arg 1 a)).int (cel 1 (arg 1 a)).int)), .i (Sp.mulV (cel 0 (arg 0 a)).int (cel 1 (arg 0 a)).int (cel 0 (arg 1 a)).int (cel 1 (arg 1 a)).int (Sp.mulY (cel 0 (arg 0 a)).int (cel 1 (arg 0 a)).int (cel 0 (arg 1 a)).int (cel 1 (arg 1 a)).int))], [.i (Sp.mulE (cel 0 (arg 0 a)).int (cel 1 (arg 0 a)).int (cel 0 (arg 1 a)).int (cel 1 (arg 1 a)).int)]] }
def tb23 : List (Nat × Ct) := [(13, ct13), (28, ct28), (35, ct35)]
theorem e23 (a : Int) (b : Int) (c : Int) (d : Int) : vcF Go.Proofs.Try.prog (look tb23) (fun _ => false) (fun _ _ => LoopAnn.unroll 200) 6 23 [.agg [.int .i64 a, .int .i64 b], .agg [.int .i64 c, .int .i64 d]] [] (fun sv heap => Gives [(true, [.int .i64, .int .i64]), (false, [.int .i64])] [[.i (Sp.mulV a b c d (Sp.mulX a b c d)), .i (Sp.mulV a b c d (Sp.mulY a b c d))], [.i (Sp.mulE a b c d)]] sv heap) = (True ∧ (True → True ∧ (bNot (Sp.rvalid a b) = false → True ∧ (True → True ∧ (bNot (Sp.rvalid c d) = true → (0 = Sp.mulV a b c d (Sp.mulX a b c d) ∧ 0 = Sp.mulV a b c d (Sp.mulY a b c d) ∧ True) ∧ (1 = Sp.mulE a b c d ∧ True) ∧ True) ∧ (bNot (Sp.rvalid c d) = false → (0 < a ∧ 0 ≤ d) ∧ (InR IntKind.i64 (Sp.gcd a d) → (0 < c ∧ 0 ≤ b) ∧ (InR IntKind.i64 (Sp.gcd c b) → (pNe (Sp.gcd a d) 0 ∧ InR IntKind.i64 (iQuo a (Sp.gcd a d))) ∧ (pNe (Sp.gcd c b) 0 ∧ InR IntKind.i64 (iQuo c (Sp.gcd c b))) ∧ (0 ≤ iQuo a (Sp.gcd a d) ∧ iQuo a (Sp.gcd a d) ≤ 68719476736 ∧ 0 ≤ iQuo c (Sp.gcd c b) ∧ iQuo c (Sp.gcd c b) ≤ 68719476736) ∧ (InR IntKind.i64 (Sp.tmV (iQuo a (Sp.gcd a d)) (iQuo c (Sp.gcd c b))) ∧ True ∧ True → (pNe (Sp.gcd c b) 0 ∧ InR IntKind.i64 (iQuo b (Sp.gcd c b))) ∧ (pNe (Sp.gcd a d) 0 ∧ InR IntKind.i64 (iQuo d (Sp.gcd a d))) ∧ (0 ≤ iQuo b (Sp.gcd c b) ∧ iQuo b (Sp.gcd c b) ≤ 68719476736 ∧ 0 ≤ iQuo d (Sp.gcd a d) ∧ iQuo d (Sp.gcd a d) ≤ 68719476736) ∧ (InR IntKind.i64 (Sp.tmV (iQuo b (Sp.gcd c b)) (iQuo d (Sp.gcd a d))) ∧ True ∧ True → True ∧ (bNot (Sp.tmO (iQuo a (Sp.gcd a d)) (iQuo c (Sp.gcd c b))) = false → True ∧ (bNot (Sp.tmO (iQuo b (Sp.gcd c b)) (iQuo d (Sp.gcd a d))) = true → (0 = Sp.mulV a b c d (Sp.mulX a b c d) ∧ 0 = Sp.mulV a b c d (Sp.mulY a b c d) ∧ True) ∧ (2 = Sp.mulE a b c d ∧ True) ∧ True) ∧ (bNot (Sp.tmO (iQuo b (Sp.gcd c b)) (iQuo d (Sp.gcd a d))) = false → (Sp.tmV (iQuo a (Sp.gcd a d)) (iQuo c (Sp.gcd c b)) = Sp.mulV a b c d (Sp.mulX a b c d) ∧ Sp.tmV (iQuo b (Sp.gcd c b)) (iQuo d (Sp.gcd a d)) = Sp.mulV a b c d (Sp.mulY a b c d) ∧ True) ∧ (0 = Sp.mulE a b c d ∧ True) ∧ True)) ∧ (bNot (Sp.tmO (iQuo a (Sp.gcd a d)) (iQuo c (Sp.gcd c b))) = true → (0 = Sp.mulV a b c d (Sp.mulX a b c d) ∧ 0 = Sp.mulV a b c d (Sp.mulY a b c d) ∧ True) ∧ (2 = Sp.mulE a b c d ∧ True) ∧ True)))))))) ∧ (bNot (Sp.rvalid a b) = true → (0 = Sp.mulV a b c d (Sp.mulX a b c d) ∧ 0 = Sp.mulV a b c d (Sp.mulY a b c d) ∧ True) ∧ (1 = Sp.mulE a b c d ∧ True) ∧ True))) := by kernel_rfl
theorem v23 (a : Int) (b : Int) (c : Int) (d : Int) : Holds (Wfs [.agg [.int .i64 a, .int .i64 b], .agg [.int .i64 c, .int .i64 d]] → True → vcF Go.Proofs.Try.prog (look tb23) (fun _ => false) (fun _ _ => LoopAnn.unroll 200) 6 23 [.agg [.int .i64 a, .int .i64 b], .agg [.int .i64 c, .int .i64 d]] [] (fun sv heap => Gives [(true, [.int .i64, .int .i64]), (false, [.int .i64])] [[.i (Sp.mulV a b c d (Sp.mulX a b c d)), .i (Sp.mulV a b c d (Sp.mulY a b c d))], [.i (Sp.mulE a b c d)]] sv heap)) := by
  refine ⟨fun hw hp => ?_⟩
  rw [e23]
  simp only [Wfs, Wf, InR, and_true] at hw
  cases hv : Sp.rvalid a b
  · have e : Sp.mulE a b c d = 1 := by unfold Sp.mulE; rw [if_pos (.inl hv)]
    have f : ∀ v, Sp.mulV a b c d v = 0 := fun v => by unfold Sp.mulV; rw [if_neg (by omega)]
    simp [bNot, e, f]
  · cases hw' : Sp.rvalid c d
    · have e : Sp.mulE a b c d = 1 := by unfold Sp.mulE; rw [if_pos (.inr hw')]
      have f : ∀ v, Sp.mulV a b c d v = 0 := fun v => by unfold Sp.mulV; rw [if_neg (by omega)]
      simp [bNot, e, f]
    · have r := Sp.rvalid_of hv
      have s := Sp.rvalid_of hw'
      have g1 := Sp.gcd_pos (a := a) (b := d) (by omega)
      have g2 := Sp.gcd_pos (a := c) (b := b) (by omega)
      have k := Sp.mul_bd4 hv hw'
      have eX : Sp.mulX a b c d = a / Sp.gcd a d * (c / Sp.gcd c b) := rfl
      have eY : Sp.mulY a b c d = b / Sp.gcd c b * (d / Sp.gcd a d) := rfl
      have t1 : iQuo a (Sp.gcd a d) = a / Sp.gcd a d := Int.tdiv_eq_ediv_of_nonneg (by omega)
      have t2 : iQuo c (Sp.gcd c b) = c / Sp.gcd c b := Int.tdiv_eq_ediv_of_nonneg (by omega)
      have t3 : iQuo b (Sp.gcd c b) = b / Sp.gcd c b := Int.tdiv_eq_ediv_of_nonneg (by omega)
      have t4 : iQuo d (Sp.gcd a d) = d / Sp.gcd a d := Int.tdiv_eq_ediv_of_nonneg (by omega)
      have mX := mul_bd (x := a / Sp.gcd a d) (X := 68719476736) (y := c / Sp.gcd c b) (Y := 68719476736) (by omega) (by omega) (by omega) (by omega)
      have mY := mul_bd (x := b / Sp.gcd c b) (X := 68719476736) (y := d / Sp.gcd a d) (Y := 68719476736) (by omega) (by omega) (by omega) (by omega)
      have vX := Sp.tmV_ok mX.1
      have vY := Sp.tmV_ok mY.1
      have oX : Sp.tmO (a / Sp.gcd a d) (c / Sp.gcd c b) = decide (a / Sp.gcd a d * (c / Sp.gcd c b) ≤ 68719476736) := rfl
      have oY : Sp.tmO (b / Sp.gcd c b) (d / Sp.gcd a d) = decide (b / Sp.gcd c b * (d / Sp.gcd a d) ≤ 68719476736) := rfl
      have d1 : iQuo 68719476736 (c / Sp.gcd c b) < a / Sp.gcd a d ↔ 68719476736 < a / Sp.gcd a d * (c / Sp.gcd c b) := by
        rw [show iQuo 68719476736 (c / Sp.gcd c b) = 68719476736 / (c / Sp.gcd c b) from Int.tdiv_eq_ediv_of_nonneg (by omega)]
        exact Int.ediv_lt_iff_lt_mul (by omega)
      have d2 : iQuo 68719476736 (d / Sp.gcd a d) < b / Sp.gcd c b ↔ 68719476736 < b / Sp.gcd c b * (d / Sp.gcd a d) := by
        rw [show iQuo 68719476736 (d / Sp.gcd a d) = 68719476736 / (d / Sp.gcd a d) from Int.tdiv_eq_ediv_of_nonneg (by omega)]
        exact Int.ediv_lt_iff_lt_mul (by omega)
      have b1 : InR .i64 (iQuo 68719476736 (c / Sp.gcd c b)) := by
        have q0 := Int.ediv_nonneg (a := 68719476736) (b := c / Sp.gcd c b) (by omega) (by omega)
        have q1 := Int.ediv_le_self (a := 68719476736) (c / Sp.gcd c b) (by omega)
        rw [show iQuo 68719476736 (c / Sp.gcd c b) = 68719476736 / (c / Sp.gcd c b) from Int.tdiv_eq_ediv_of_nonneg (by omega)]
        simp only [InR]; omega
      have b2 : InR .i64 (iQuo 68719476736 (d / Sp.gcd a d)) := by
        have q0 := Int.ediv_nonneg (a := 68719476736) (b := d / Sp.gcd a d) (by omega) (by omega)
        have q1 := Int.ediv_le_self (a := 68719476736) (d / Sp.gcd a d) (by omega)
        rw [show iQuo 68719476736 (d / Sp.gcd a d) = 68719476736 / (d / Sp.gcd a d) from Int.tdiv_eq_ediv_of_nonneg (by omega)]
        simp only [InR]; omega
      have e : Sp.mulE a b c d = if 68719476736 < Sp.mulX a b c d ∨ 68719476736 < Sp.mulY a b c d then 2 else 0 := by unfold Sp.mulE; rw [if_neg (by simp [hv, hw'])]
      have f : ∀ v, Sp.mulV a b c d v = if Sp.mulE a b c d = 0 then v else 0 := fun v => rfl
      simp only [t1, t2, t3, t4, f, e, eX, eY, oX, oY]
      simp only [bNot, iMul, Bool.not_true, Bool.not_false, Bool.not_eq_true', Bool.not_eq_false', bLt, decide_eq_true_eq, decide_eq_false_iff_not, Bool.false_eq_true, Bool.true_eq_false, reduceCtorEq, false_implies, true_implies, implies_true, true_and, and_true, d1, d2]
      generalize a / Sp.gcd a d = X at *
      generalize c / Sp.gcd c b = Y at *
      generalize b / Sp.gcd c b = U at *
      generalize d / Sp.gcd a d = W at *
      generalize X * Y = XY at *
      generalize U * W = UW at *
      generalize iQuo 68719476736 Y = i1 at *
      generalize iQuo 68719476736 W = i2 at *
      simp only [pNe, iMul, InR] at *
      repeat' (first | apply And.intro | intro _)
      all_goals (first | trivial | omega | (rw [vX (by omega), if_pos (by rw [if_neg (by omega)])]) | (rw [vY (by omega), if_pos (by rw [if_neg (by omega)])]) | (split <;> first | omega | (split <;> omega)) | skip)
theorem s23 : SoundCt Go.Proofs.Try.prog 23 ct23 :=
  contractH followsMixed (look_sound (show Tb Go.Proofs.Try.prog tb23 from ⟨s13, ⟨s28, ⟨s35, trivial⟩⟩⟩)) (fun _ => false) (fun _ => fun _ _ => LoopAnn.unroll 200) 6 23 ct23 rfl (by simp [ct23]) fun a => Eq.mp (by kernel_rfl) (v23 ((cel 0 (arg 0 a)).int) ((cel 1 (arg 0 a)).int) ((cel 0 (arg 1 a)).int) ((cel 1 (arg 1 a)).int))
end Go.Sx

namespace Go.Sx
/-! ### function 24: ref03.Mul -/
def ct24 : Ct := { ps := [(true, [.int .i64, .int .i64]), (true, [.int .i64, .int .i64])], rs := [(true, [.int .i64, .int .i64]), (false, [.int .i64])], pre := fun _ => True, out := fun a => [[.i (Sp.mulV (cel 0 (arg 0 a)).int (cel 1 (arg 0 a)).int (cel 0 (arg 1 a)).int (cel 1 (arg 1 a)).int (Sp.mulX (cel 0 (arg 0 a)).int (cel 1 (arg 0 a)).int (cel 0 (arg 1 a)).int (cel 1 (arg 1 a)).int)), .i (Sp.mulV (cel 0 (arg 0 a)).int (cel 1 (arg 0 a)).int (cel 0 (arg 1 a)).int (cel 1 (arg 1 a)).int (Sp.mulY (cel 0 (arg 0 a)).int (cel 1 (arg 0 a)).int (cel 0 (arg 1 a)).int (cel 1 (arg 1 a)).int))], [.i (Sp.mulE (cel 0 (arg 0 a)).int (cel 1 (arg 0 a)).int (cel 0 (arg 1 a)).int (cel 1 (arg 1 a)).int)]] }
def tb24 : List (Nat × Ct) := [(14, ct14), (29, ct29)]
theorem e24 (a : Int) (b : Int) (c : Int) (d : Int) : vcF Go.Proofs.Try.prog (look tb24) (fun _ => false) (fun _ _ => LoopAnn.unroll 200) 6 24 [.agg [.int .i64 a, .int .i64 b], .agg [.int .i64 c, .int .i64 d]] [] (fun sv heap => Gives [(true, [.int .i64, .int .i64]), (false, [.int .i64])] [[.i (Sp.mulV a b c d (Sp.mulX a b c d)), .i (Sp.mulV a b c d (Sp.mulY a b c d))], [.i (Sp.mulE a b c d)]] sv heap) = (True ∧ (True → True ∧ (bNot (Sp.rvalid a b) = false → True ∧ (True → True ∧ (bNot (Sp.rvalid c d) = true → (0 = Sp.mulV a b c d (Sp.mulX a b c d) ∧ 0 = Sp.mulV a b c d (Sp.mulY a b c d) ∧ True) ∧ (1 = Sp.mulE a b c d ∧ True) ∧ True) ∧ (bNot (Sp.rvalid c d) = false → (0 < a ∧ 0 ≤ d) ∧ (InR IntKind.i64 (Sp.gcd a d) → (0 < c ∧ 0 ≤ b) ∧ (InR IntKind.i64 (Sp.gcd c b) → (pNe (Sp.gcd a d) 0 ∧ InR IntKind.i64 (iQuo a (Sp.gcd a d))) ∧ (pNe (Sp.gcd c b) 0 ∧ InR IntKind.i64 (iQuo c (Sp.gcd c b))) ∧ (pNe (Sp.gcd c b) 0 ∧ InR IntKind.i64 (iQuo b (Sp.gcd c b))) ∧ (pNe (Sp.gcd a d) 0 ∧ InR IntKind.i64 (iQuo d (Sp.gcd a d))) ∧ (pNe (iQuo c (Sp.gcd c b)) 0 ∧ InR IntKind.i64 (iQuo 68719476736 (iQuo c (Sp.gcd c b)))) ∧ (bLt (iQuo 68719476736 (iQuo c (Sp.gcd c b))) (iQuo a (Sp.gcd a d)) = false → (pNe (iQuo d (Sp.gcd a d)) 0 ∧ InR IntKind.i64 (iQuo 68719476736 (iQuo d (Sp.gcd a d)))) ∧ (bLt (iQuo 68719476736 (iQuo d (Sp.gcd a d))) (iQuo b (Sp.gcd c b)) = true → (0 = Sp.mulV a b c d (Sp.mulX a b c d) ∧ 0 = Sp.mulV a b c d (Sp.mulY a b c d) ∧ True) ∧ (2 = Sp.mulE a b c d ∧ True) ∧ True) ∧ (bLt (iQuo 68719476736 (iQuo d (Sp.gcd a d))) (iQuo b (Sp.gcd c b)) = false → InR IntKind.i64 (iMul (iQuo a (Sp.gcd a d)) (iQuo c (Sp.gcd c b))) ∧ InR IntKind.i64 (iMul (iQuo b (Sp.gcd c b)) (iQuo d (Sp.gcd a d))) ∧ (iMul (iQuo a (Sp.gcd a d)) (iQuo c (Sp.gcd c b)) = Sp.mulV a b c d (Sp.mulX a b c d) ∧ iMul (iQuo b (Sp.gcd c b)) (iQuo d (Sp.gcd a d)) = Sp.mulV a b c d (Sp.mulY a b c d) ∧ True) ∧ (0 = Sp.mulE a b c d ∧ True) ∧ True)) ∧ (bLt (iQuo 68719476736 (iQuo c (Sp.gcd c b))) (iQuo a (Sp.gcd a d)) = true → (0 = Sp.mulV a b c d (Sp.mulX a b c d) ∧ 0 = Sp.mulV a b c d (Sp.mulY a b c d) ∧ True) ∧ (2 = Sp.mulE a b c d ∧ True) ∧ True)))))) ∧ (bNot (Sp.rvalid a b) = true → (0 = Sp.mulV a b c d (Sp.mulX a b c d) ∧ 0 = Sp.mulV a b c d (Sp.mulY a b c d) ∧ True) ∧ (1 = Sp.mulE a b c d ∧ True) ∧ True))) := by kernel_rfl
theorem v24 (a : Int) (b : Int) (c : Int) (d : Int) : Holds (Wfs [.agg [.int .i64 a, .int .i64 b], .agg [.int .i64 c, .int .i64 d]] → True → vcF Go.Proofs.Try.prog (look tb24) (fun _ => false) (fun _ _ => LoopAnn.unroll 200) 6 24 [.agg [.int .i64 a, .int .i64 b], .agg [.int .i64 c, .int .i64 d]] [] (fun sv heap => Gives [(true, [.int .i64, .int .i64]), (false, [.int .i64])] [[.i (Sp.mulV a b c d (Sp.mulX a b c d)), .i (Sp.mulV a b c d (Sp.mulY a b c d))], [.i (Sp.mulE a b c d)]] sv heap)) := by
  refine ⟨fun hw hp => ?_⟩
  rw [e24]
  simp only [Wfs, Wf, InR, and_true] at hw
  cases hv : Sp.rvalid a b
  · have e : Sp.mulE a b c d = 1 := by unfold Sp.mulE; rw [if_pos (.inl hv)]
    have f : ∀ v, Sp.mulV a b c d v = 0 := fun v => by unfold Sp.mulV; rw [if_neg (by omega)]
    simp [bNot, e, f]
  · cases hw' : Sp.rvalid c d
    · have e : Sp.mulE a b c d = 1 := by unfold Sp.mulE; rw [if_pos (.inr hw')]
      have f : ∀ v, Sp.mulV a b c d v = 0 := fun v => by unfold Sp.mulV; rw [if_neg (by omega)]
      simp [bNot, e, f]
    · have r := Sp.rvalid_of hv
      have s := Sp.rvalid_of hw'
      have g1 := Sp.gcd_pos (a := a) (b := d) (by omega)
      have g2 := Sp.gcd_pos (a := c) (b := b) (by omega)
      have k := Sp.mul_bd4 hv hw'
      have eX : Sp.mulX a b c d = a / Sp.gcd a d * (c / Sp.gcd c b) := rfl
      have eY : Sp.mulY a b c d = b / Sp.gcd c b * (d / Sp.gcd a d) := rfl
      have t1 : iQuo a (Sp.gcd a d) = a / Sp.gcd a d := Int.tdiv_eq_ediv_of_nonneg (by omega)
      have t2 : iQuo c (Sp.gcd c b) = c / Sp.gcd c b := Int.tdiv_eq_ediv_of_nonneg (by omega)
      have t3 : iQuo b (Sp.gcd c b) = b / Sp.gcd c b := Int.tdiv_eq_ediv_of_nonneg (by omega)
      have t4 : iQuo d (Sp.gcd a d) = d / Sp.gcd a d := Int.tdiv_eq_ediv_of_nonneg (by omega)
      have mX := mul_bd (x := a / Sp.gcd a d) (X := 68719476736) (y := c / Sp.gcd c b) (Y := 68719476736) (by omega) (by omega) (by omega) (by omega)
      have mY := mul_bd (x := b / Sp.gcd c b) (X := 68719476736) (y := d / Sp.gcd a d) (Y := 68719476736) (by omega) (by omega) (by omega) (by omega)
      have vX := Sp.tmV_ok mX.1
      have vY := Sp.tmV_ok mY.1
      have oX : Sp.tmO (a / Sp.gcd a d) (c / Sp.gcd c b) = decide (a / Sp.gcd a d * (c / Sp.gcd c b) ≤ 68719476736) := rfl
      have oY : Sp.tmO (b / Sp.gcd c b) (d / Sp.gcd a d) = decide (b / Sp.gcd c b * (d / Sp.gcd a d) ≤ 68719476736) := rfl
      have d1 : iQuo 68719476736 (c / Sp.gcd c b) < a / Sp.gcd a d ↔ 68719476736 < a / Sp.gcd a d * (c / Sp.gcd c b) := by
        rw [show iQuo 68719476736 (c / Sp.gcd c b) = 68719476736 / (c / Sp.gcd c b) from Int.tdiv_eq_ediv_of_nonneg (by omega)]
        exact Int.ediv_lt_iff_lt_mul (by omega)
      have d2 : iQuo 68719476736 (d / Sp.gcd a d) < b / Sp.gcd c b ↔ 68719476736 < b / Sp.gcd c b * (d / Sp.gcd a d) := by
        rw [show iQuo 68719476736 (d / Sp.gcd a d) = 68719476736 / (d / Sp.gcd a d) from Int.tdiv_eq_ediv_of_nonneg (by omega)]
        exact Int.ediv_lt_iff_lt_mul (by omega)
      have b1 : InR .i64 (iQuo 68719476736 (c / Sp.gcd c b)) := by
        have q0 := Int.ediv_nonneg (a := 68719476736) (b := c / Sp.gcd c b) (by omega) (by omega)
        have q1 := Int.ediv_le_self (a := 68719476736) (c / Sp.gcd c b) (by omega)
        rw [show iQuo 68719476736 (c / Sp.gcd c b) = 68719476736 / (c / Sp.gcd c b) from Int.tdiv_eq_ediv_of_nonneg (by omega)]
        simp only [InR]; omega
      have b2 : InR .i64 (iQuo 68719476736 (d / Sp.gcd a d)) := by
        have q0 := Int.ediv_nonneg (a := 68719476736) (b := d / Sp.gcd a d) (by omega) (by omega)
        have q1 := Int.ediv_le_self (a := 68719476736) (d / Sp.gcd a d) (by omega)
        rw [show iQuo 68719476736 (d / Sp.gcd a d) = 68719476736 / (d / Sp.gcd a d) from Int.tdiv_eq_ediv_of_nonneg (by omega)]
        simp only [InR]; omega
      have e : Sp.mulE a b c d = if 68719476736 < Sp.mulX a b c d ∨ 68719476736 < Sp.mulY a b c d then 2 else 0 := by unfold Sp.mulE; rw [if_neg (by simp [hv, hw'])]
      have f : ∀ v, Sp.mulV a b c d v = if Sp.mulE a b c d = 0 then v else 0 := fun v => rfl
      simp only [t1, t2, t3, t4, f, e, eX, eY, oX, oY]
      simp only [bNot, iMul, Bool.not_true, Bool.not_false, Bool.not_eq_true', Bool.not_eq_false', bLt, decide_eq_true_eq, decide_eq_false_iff_not, Bool.false_eq_true, Bool.true_eq_false, reduceCtorEq, false_implies, true_implies, implies_true, true_and, and_true, d1, d2]
      generalize a / Sp.gcd a d = X at *
      generalize c / Sp.gcd c b = Y at *
      generalize b / Sp.gcd c b = U at *
      generalize d / Sp.gcd a d = W at *
      generalize X * Y = XY at *
      generalize U * W = UW at *
      generalize iQuo 68719476736 Y = i1 at *
      generalize iQuo 68719476736 W = i2 at *
      simp only [pNe, iMul, InR] at *
      repeat' (first | apply And.intro | intro _)
      all_goals (first | trivial | omega | (rw [vX (by omega), if_pos (by rw [if_neg (by omega)])]) | (rw [vY (by omega), if_pos (by rw [if_neg (by omega)])]) | (split <;> first | omega | (split <;> omega)) | skip)
theorem s24 : SoundCt Go.Proofs.Try.prog 24 ct24 :=
  contractH followsMixed (look_sound (show Tb Go.Proofs.Try.prog tb24 from ⟨s14, ⟨s29, trivial⟩⟩)) (fun _ => false) (fun _ => fun _ _ => LoopAnn.unroll 200) 6 24 ct24 rfl (by simp [ct24]) fun a => Eq.mp (by kernel_rfl) (v24 ((cel 0 (arg 0 a)).int) ((cel 1 (arg 0 a)).int) ((cel 0 (arg 1 a)).int) ((cel 1 (arg 1 a)).int))
end Go.Sx

namespace Go.Sx
/-! ### function 26: ratio.Cmp -/
def ct26 : Ct := { ps := [(true, [.int .i64, .int .i64]), (true, [.int .i64, .int .i64])], rs := [(false, [.int .i64])], pre := fun _ => True, out := fun a => [[.i (Sp.cmp (cel 0 (arg 0 a)).int (cel 1 (arg 0 a)).int (cel 0 (arg 1 a)).int (cel 1 (arg 1 a)).int)]] }
def tb26 : List (Nat × Ct) := [(13, ct13), (36, ct36)]
theorem e26 (a : Int) (b : Int) (c : Int) (d : Int) : vcF Go.Proofs.Try.prog (look tb26) (fun _ => false) (fun _ _ => LoopAnn.unroll 200) 6 26 [.agg [.int .i64 a, .int .i64 b], .agg [.int .i64 c, .int .i64 d]] [] (fun sv heap => Gives [(false, [.int .i64])] [[.i (Sp.cmp a b c d)]] sv heap) = (True ∧ (True → True ∧ (bNot (Sp.rvalid a b) = false → True ∧ (True → True ∧ (bNot (Sp.rvalid c d) = true → (0 = Sp.cmp a b c d ∧ True) ∧ True) ∧ (bNot (Sp.rvalid c d) = false → True ∧ (InR IntKind.u64 (Sp.mhi (iWrap IntKind.u64 a) (iWrap IntKind.u64 d)) ∧ InR IntKind.u64 (Sp.mlo (iWrap IntKind.u64 a) (iWrap IntKind.u64 d)) ∧ True → True ∧ (InR IntKind.u64 (Sp.mhi (iWrap IntKind.u64 c) (iWrap IntKind.u64 b)) ∧ InR IntKind.u64 (Sp.mlo (iWrap IntKind.u64 c) (iWrap IntKind.u64 b)) ∧ True → (bLt (Sp.mhi (iWrap IntKind.u64 a) (iWrap IntKind.u64 d)) (Sp.mhi (iWrap IntKind.u64 c) (iWrap IntKind.u64 b)) = false → (bEq (Sp.mhi (iWrap IntKind.u64 a) (iWrap IntKind.u64 d)) (Sp.mhi (iWrap IntKind.u64 c) (iWrap IntKind.u64 b)) = true → (bLt (Sp.mlo (iWrap IntKind.u64 a) (iWrap IntKind.u64 d)) (Sp.mlo (iWrap IntKind.u64 c) (iWrap IntKind.u64 b)) = true → (-1 = Sp.cmp a b c d ∧ True) ∧ True) ∧ (bLt (Sp.mlo (iWrap IntKind.u64 a) (iWrap IntKind.u64 d)) (Sp.mlo (iWrap IntKind.u64 c) (iWrap IntKind.u64 b)) = false → (bEq (Sp.mhi (iWrap IntKind.u64 a) (iWrap IntKind.u64 d)) (Sp.mhi (iWrap IntKind.u64 c) (iWrap IntKind.u64 b)) = true → (bEq (Sp.mlo (iWrap IntKind.u64 a) (iWrap IntKind.u64 d)) (Sp.mlo (iWrap IntKind.u64 c) (iWrap IntKind.u64 b)) = true → (0 = Sp.cmp a b c d ∧ True) ∧ True) ∧ (bEq (Sp.mlo (iWrap IntKind.u64 a) (iWrap IntKind.u64 d)) (Sp.mlo (iWrap IntKind.u64 c) (iWrap IntKind.u64 b)) = false → (1 = Sp.cmp a b c d ∧ True) ∧ True)) ∧ (bEq (Sp.mhi (iWrap IntKind.u64 a) (iWrap IntKind.u64 d)) (Sp.mhi (iWrap IntKind.u64 c) (iWrap IntKind.u64 b)) = false → (1 = Sp.cmp a b c d ∧ True) ∧ True))) ∧ (bEq (Sp.mhi (iWrap IntKind.u64 a) (iWrap IntKind.u64 d)) (Sp.mhi (iWrap IntKind.u64 c) (iWrap IntKind.u64 b)) = false → (bEq (Sp.mhi (iWrap IntKind.u64 a) (iWrap IntKind.u64 d)) (Sp.mhi (iWrap IntKind.u64 c) (iWrap IntKind.u64 b)) = true → (bEq (Sp.mlo (iWrap IntKind.u64 a) (iWrap IntKind.u64 d)) (Sp.mlo (iWrap IntKind.u64 c) (iWrap IntKind.u64 b)) = true → (0 = Sp.cmp a b c d ∧ True) ∧ True) ∧ (bEq (Sp.mlo (iWrap IntKind.u64 a) (iWrap IntKind.u64 d)) (Sp.mlo (iWrap IntKind.u64 c) (iWrap IntKind.u64 b)) = false → (1 = Sp.cmp a b c d ∧ True) ∧ True)) ∧ (bEq (Sp.mhi (iWrap IntKind.u64 a) (iWrap IntKind.u64 d)) (Sp.mhi (iWrap IntKind.u64 c) (iWrap IntKind.u64 b)) = false → (1 = Sp.cmp a b c d ∧ True) ∧ True))) ∧ (bLt (Sp.mhi (iWrap IntKind.u64 a) (iWrap IntKind.u64 d)) (Sp.mhi (iWrap IntKind.u64 c) (iWrap IntKind.u64 b)) = true → (-1 = Sp.cmp a b c d ∧ True) ∧ True)))))) ∧ (bNot (Sp.rvalid a b) = true → (0 = Sp.cmp a b c d ∧ True) ∧ True))) := by kernel_rfl
theorem v26 (a : Int) (b : Int) (c : Int) (d : Int) : Holds (Wfs [.agg [.int .i64 a, .int .i64 b], .agg [.int .i64 c, .int .i64 d]] → True → vcF Go.Proofs.Try.prog (look tb26) (fun _ => false) (fun _ _ => LoopAnn.unroll 200) 6 26 [.agg [.int .i64 a, .int .i64 b], .agg [.int .i64 c, .int .i64 d]] [] (fun sv heap => Gives [(false, [.int .i64])] [[.i (Sp.cmp a b c d)]] sv heap)) := by
  refine ⟨fun hw hp => ?_⟩
  rw [e26]
  simp only [Wfs, Wf, InR, and_true] at hw
  have e : Sp.cmp a b c d = if Sp.rvalid a b = false ∨ Sp.rvalid c d = false then 0 else if a * d < c * b then -1 else if a * d = c * b then 0 else 1 := rfl
  cases hv : Sp.rvalid a b
  · simp [bNot, e, hv]
  · cases hw' : Sp.rvalid c d
    · simp [bNot, e, hw']
    · have r := Sp.rvalid_of hv
      have s := Sp.rvalid_of hw'
      have w1 : iWrap .u64 a = a := Sp.wrap64 (by omega) (by omega)
      have w2 : iWrap .u64 b = b := Sp.wrap64 (by omega) (by omega)
      have w3 : iWrap .u64 c = c := Sp.wrap64 (by omega) (by omega)
      have w4 : iWrap .u64 d = d := Sp.wrap64 (by omega) (by omega)
      have l1 := Sp.hl a d
      have l2 := Sp.hl c b
      rw [if_neg (by simp [hv, hw'])] at e
      rw [w1, w2, w3, w4, e]
      generalize Sp.mhi a d = h1 at *
      generalize Sp.mlo a d = m1 at *
      generalize Sp.mhi c b = h2 at *
      generalize Sp.mlo c b = m2 at *
      generalize a * d = p at *
      generalize c * b = q at *
      simp only [bNot, bLt, bEq, Bool.not_true, Bool.not_false, Bool.not_eq_true', Bool.not_eq_false', decide_eq_true_eq, decide_eq_false_iff_not, Bool.false_eq_true, Bool.true_eq_false, reduceCtorEq, false_implies, true_implies, implies_true, true_and, and_true]
      repeat' (first | apply And.intro | intro _)
      all_goals (first | trivial | omega | (rw [if_pos (by omega)]) | (rw [if_neg (by omega), if_pos (by omega)]) | (rw [if_neg (by omega), if_neg (by omega)]))
theorem s26 : SoundCt Go.Proofs.Try.prog 26 ct26 :=
  contractH followsMixed (look_sound (show Tb Go.Proofs.Try.prog tb26 from ⟨s13, ⟨s36, trivial⟩⟩)) (fun _ => false) (fun _ => fun _ _ => LoopAnn.unroll 200) 6 26 ct26 rfl (by simp [ct26]) fun a => Eq.mp (by kernel_rfl) (v26 ((cel 0 (arg 0 a)).int) ((cel 1 (arg 0 a)).int) ((cel 0 (arg 1 a)).int) ((cel 1 (arg 1 a)).int))
end Go.Sx

namespace Go.Sx
/-! ### function 27: ref03.Cmp -/
def ct27 : Ct := { ps := [(true, [.int .i64, .int .i64]), (true, [.int .i64, .int .i64])], rs := [(false, [.int .i64])], pre := fun _ => True, out := fun a => [[.i (Sp.cmp (cel 0 (arg 0 a)).int (cel 1 (arg 0 a)).int (cel 0 (arg 1 a)).int (cel 1 (arg 1 a)).int)]] }
def tb27 : List (Nat × Ct) := [(14, ct14), (36, ct36)]
theorem e27 (a : Int) (b : Int) (c : Int) (d : Int) : vcF Go.Proofs.Try.prog (look tb27) (fun _ => false) (fun _ _ => LoopAnn.unroll 200) 6 27 [.agg [.int .i64 a, .int .i64 b], .agg [.int .i64 c, .int .i64 d]] [] (fun sv heap => Gives [(false, [.int .i64])] [[.i (Sp.cmp a b c d)]] sv heap) = (True ∧ (True → True ∧ (bNot (Sp.rvalid a b) = false → True ∧ (True → True ∧ (bNot (Sp.rvalid c d) = true → (0 = Sp.cmp a b c d ∧ True) ∧ True) ∧ (bNot (Sp.rvalid c d) = false → True ∧ (InR IntKind.u64 (Sp.mhi (iWrap IntKind.u64 a) (iWrap IntKind.u64 d)) ∧ InR IntKind.u64 (Sp.mlo (iWrap IntKind.u64 a) (iWrap IntKind.u64 d)) ∧ True → True ∧ (InR IntKind.u64 (Sp.mhi (iWrap IntKind.u64 c) (iWrap IntKind.u64 b)) ∧ InR IntKind.u64 (Sp.mlo (iWrap IntKind.u64 c) (iWrap IntKind.u64 b)) ∧ True → (bLt (Sp.mhi (iWrap IntKind.u64 a) (iWrap IntKind.u64 d)) (Sp.mhi (iWrap IntKind.u64 c) (iWrap IntKind.u64 b)) = false → (bEq (Sp.mhi (iWrap IntKind.u64 a) (iWrap IntKind.u64 d)) (Sp.mhi (iWrap IntKind.u64 c) (iWrap IntKind.u64 b)) = true → (bLt (Sp.mlo (iWrap IntKind.u64 a) (iWrap IntKind.u64 d)) (Sp.mlo (iWrap IntKind.u64 c) (iWrap IntKind.u64 b)) = true → (-1 = Sp.cmp a b c d ∧ True) ∧ True) ∧ (bLt (Sp.mlo (iWrap IntKind.u64 a) (iWrap IntKind.u64 d)) (Sp.mlo (iWrap IntKind.u64 c) (iWrap IntKind.u64 b)) = false → (bLt (Sp.mhi (iWrap IntKind.u64 c) (iWrap IntKind.u64 b)) (Sp.mhi (iWrap IntKind.u64 a) (iWrap IntKind.u64 d)) = false → (bEq (Sp.mhi (iWrap IntKind.u64 a) (iWrap IntKind.u64 d)) (Sp.mhi (iWrap IntKind.u64 c) (iWrap IntKind.u64 b)) = true → (bLt (Sp.mlo (iWrap IntKind.u64 c) (iWrap IntKind.u64 b)) (Sp.mlo (iWrap IntKind.u64 a) (iWrap IntKind.u64 d)) = true → (1 = Sp.cmp a b c d ∧ True) ∧ True) ∧ (bLt (Sp.mlo (iWrap IntKind.u64 c) (iWrap IntKind.u64 b)) (Sp.mlo (iWrap IntKind.u64 a) (iWrap IntKind.u64 d)) = false → (0 = Sp.cmp a b c d ∧ True) ∧ True)) ∧ (bEq (Sp.mhi (iWrap IntKind.u64 a) (iWrap IntKind.u64 d)) (Sp.mhi (iWrap IntKind.u64 c) (iWrap IntKind.u64 b)) = false → (0 = Sp.cmp a b c d ∧ True) ∧ True)) ∧ (bLt (Sp.mhi (iWrap IntKind.u64 c) (iWrap IntKind.u64 b)) (Sp.mhi (iWrap IntKind.u64 a) (iWrap IntKind.u64 d)) = true → (1 = Sp.cmp a b c d ∧ True) ∧ True))) ∧ (bEq (Sp.mhi (iWrap IntKind.u64 a) (iWrap IntKind.u64 d)) (Sp.mhi (iWrap IntKind.u64 c) (iWrap IntKind.u64 b)) = false → (bLt (Sp.mhi (iWrap IntKind.u64 c) (iWrap IntKind.u64 b)) (Sp.mhi (iWrap IntKind.u64 a) (iWrap IntKind.u64 d)) = false → (bEq (Sp.mhi (iWrap IntKind.u64 a) (iWrap IntKind.u64 d)) (Sp.mhi (iWrap IntKind.u64 c) (iWrap IntKind.u64 b)) = true → (bLt (Sp.mlo (iWrap IntKind.u64 c) (iWrap IntKind.u64 b)) (Sp.mlo (iWrap IntKind.u64 a) (iWrap IntKind.u64 d)) = true → (1 = Sp.cmp a b c d ∧ True) ∧ True) ∧ (bLt (Sp.mlo (iWrap IntKind.u64 c) (iWrap IntKind.u64 b)) (Sp.mlo (iWrap IntKind.u64 a) (iWrap IntKind.u64 d)) = false → (0 = Sp.cmp a b c d ∧ True) ∧ True)) ∧ (bEq (Sp.mhi (iWrap IntKind.u64 a) (iWrap IntKind.u64 d)) (Sp.mhi (iWrap IntKind.u64 c) (iWrap IntKind.u64 b)) = false → (0 = Sp.cmp a b c d ∧ True) ∧ True)) ∧ (bLt (Sp.mhi (iWrap IntKind.u64 c) (iWrap IntKind.u64 b)) (Sp.mhi (iWrap IntKind.u64 a) (iWrap IntKind.u64 d)) = true → (1 = Sp.cmp a b c d ∧ True) ∧ True))) ∧ (bLt (Sp.mhi (iWrap IntKind.u64 a) (iWrap IntKind.u64 d)) (Sp.mhi (iWrap IntKind.u64 c) (iWrap IntKind.u64 b)) = true → (-1 = Sp.cmp a b c d ∧ True) ∧ True)))))) ∧ (bNot (Sp.rvalid a b) = true → (0 = Sp.cmp a b c d ∧ True) ∧ True))) := by kernel_rfl
theorem v27 (a : Int) (b : Int) (c : Int) (d : Int) : Holds (Wfs [.agg [.int .i64 a, .int .i64 b], .agg [.int .i64 c, .int .i64 d]] → True → vcF Go.Proofs.Try.prog (look tb27) (fun _ => false) (fun _ _ => LoopAnn.unroll 200) 6 27 [.agg [.int .i64 a, .int .i64 b], .agg [.int .i64 c, .int .i64 d]] [] (fun sv heap => Gives [(false, [.int .i64])] [[.i (Sp.cmp a b c d)]] sv heap)) := by
  refine ⟨fun hw hp => ?_⟩
  rw [e27]
  simp only [Wfs, Wf, InR, and_true] at hw
  have e : Sp.cmp a b c d = if Sp.rvalid a b = false ∨ Sp.rvalid c d = false then 0 else if a * d < c * b then -1 else if a * d = c * b then 0 else 1 := rfl
  cases hv : Sp.rvalid a b
  · simp [bNot, e, hv]
  · cases hw' : Sp.rvalid c d
    · simp [bNot, e, hw']
    · have r := Sp.rvalid_of hv
      have s := Sp.rvalid_of hw'
      have w1 : iWrap .u64 a = a := Sp.wrap64 (by omega) (by omega)
      have w2 : iWrap .u64 b = b := Sp.wrap64 (by omega) (by omega)
      have w3 : iWrap .u64 c = c := Sp.wrap64 (by omega) (by omega)
      have w4 : iWrap .u64 d = d := Sp.wrap64 (by omega) (by omega)
      have l1 := Sp.hl a d
      have l2 := Sp.hl c b
      rw [if_neg (by simp [hv, hw'])] at e
      rw [w1, w2, w3, w4, e]
      generalize Sp.mhi a d = h1 at *
      generalize Sp.mlo a d = m1 at *
      generalize Sp.mhi c b = h2 at *
      generalize Sp.mlo c b = m2 at *
      generalize a * d = p at *
      generalize c * b = q at *
      simp only [bNot, bLt, bEq, Bool.not_true, Bool.not_false, Bool.not_eq_true', Bool.not_eq_false', decide_eq_true_eq, decide_eq_false_iff_not, Bool.false_eq_true, Bool.true_eq_false, reduceCtorEq, false_implies, true_implies, implies_true, true_and, and_true]
      repeat' (first | apply And.intro | intro _)
      all_goals (first | trivial | omega | (rw [if_pos (by omega)]) | (rw [if_neg (by omega), if_pos (by omega)]) | (rw [if_neg (by omega), if_neg (by omega)]))
theorem s27 : SoundCt Go.Proofs.Try.prog 27 ct27 :=
  contractH followsMixed (look_sound (show Tb Go.Proofs.Try.prog tb27 from ⟨s14, ⟨s36, trivial⟩⟩)) (fun _ => false) (fun _ => fun _ _ => LoopAnn.unroll 200) 6 27 ct27 rfl (by simp [ct27]) fun a => Eq.mp (by kernel_rfl) (v27 ((cel 0 (arg 0 a)).int) ((cel 1 (arg 0 a)).int) ((cel 0 (arg 1 a)).int) ((cel 1 (arg 1 a)).int))
end Go.Sx

namespace Go.Sx
/-! ### function 10: law03.sane -/
def ct10 : Ct := { ps := [], rs := [(false, [.bool])], pre := fun _ => True, out := fun _ => [[.b true]] }
def tb10 : List (Nat × Ct) := [(11, ct11), (16, ct16), (18, ct18), (20, ct20)]
theorem e10  : vcF Go.Proofs.Try.prog (look tb10) (fun _ => false) (fun _ _ => LoopAnn.unroll 200) 6 10 [] [] (fun sv heap => Gives [(false, [.bool])] [[.b true]] sv heap) = (True ∧ ((InR IntKind.i64 (Sp.mkV 44100 48000 44100) ∧ InR IntKind.i64 (Sp.mkV 44100 48000 48000) ∧ True) ∧ InR IntKind.i64 (Sp.mkE 44100 48000) ∧ True → True ∧ (InR IntKind.i64 (Sp.floV 1000 (Sp.mkV 44100 48000 44100) (Sp.mkV 44100 48000 48000)) ∧ InR IntKind.i64 (Sp.floE 1000 (Sp.mkV 44100 48000 44100) (Sp.mkV 44100 48000 48000)) ∧ True → True ∧ (InR IntKind.i64 (Sp.ceiV 1000 (Sp.mkV 44100 48000 44100) (Sp.mkV 44100 48000 48000)) ∧ InR IntKind.i64 (Sp.ceiE 1000 (Sp.mkV 44100 48000 44100) (Sp.mkV 44100 48000 48000)) ∧ True → True ∧ (InR IntKind.i64 (Sp.resV 1000 (Sp.mkV 44100 48000 44100) (Sp.mkV 44100 48000 48000)) ∧ InR IntKind.i64 (Sp.floE 1000 (Sp.mkV 44100 48000 44100) (Sp.mkV 44100 48000 48000)) ∧ True → (bEq (Sp.mkE 44100 48000) 0 = true → (bAnd (bEq (Sp.mkV 44100 48000 44100) 147) (bEq (Sp.mkV 44100 48000 48000) 160) = true → (bEq (Sp.floE 1000 (Sp.mkV 44100 48000 44100) (Sp.mkV 44100 48000 48000)) 0 = true → (bEq (Sp.floV 1000 (Sp.mkV 44100 48000 44100) (Sp.mkV 44100 48000 48000)) 918 = true → (bEq (Sp.ceiE 1000 (Sp.mkV 44100 48000 44100) (Sp.mkV 44100 48000 48000)) 0 = true → (bEq (Sp.ceiV 1000 (Sp.mkV 44100 48000 44100) (Sp.mkV 44100 48000 48000)) 919 = true → (bEq (Sp.floE 1000 (Sp.mkV 44100 48000 44100) (Sp.mkV 44100 48000 48000)) 0 = true → (bEq (Sp.resV 1000 (Sp.mkV 44100 48000 44100) (Sp.mkV 44100 48000 48000)) 120 = true ∧ True) ∧ True) ∧ (bEq (Sp.floE 1000 (Sp.mkV 44100 48000 44100) (Sp.mkV 44100 48000 48000)) 0 = false → (false = true ∧ True) ∧ True)) ∧ (bEq (Sp.ceiV 1000 (Sp.mkV 44100 48000 44100) (Sp.mkV 44100 48000 48000)) 919 = false → (false = true ∧ True) ∧ True)) ∧ (bEq (Sp.ceiE 1000 (Sp.mkV 44100 48000 44100) (Sp.mkV 44100 48000 48000)) 0 = false → (false = true ∧ True) ∧ True)) ∧ (bEq (Sp.floV 1000 (Sp.mkV 44100 48000 44100) (Sp.mkV 44100 48000 48000)) 918 = false → (false = true ∧ True) ∧ True)) ∧ (bEq (Sp.floE 1000 (Sp.mkV 44100 48000 44100) (Sp.mkV 44100 48000 48000)) 0 = false → (false = true ∧ True) ∧ True)) ∧ (bAnd (bEq (Sp.mkV 44100 48000 44100) 147) (bEq (Sp.mkV 44100 48000 48000) 160) = false → (false = true ∧ True) ∧ True)) ∧ (bEq (Sp.mkE 44100 48000) 0 = false → (false = true ∧ True) ∧ True)))))) := by kernel_rfl
theorem v10  : Holds (Wfs [] → True → vcF Go.Proofs.Try.prog (look tb10) (fun _ => false) (fun _ _ => LoopAnn.unroll 200) 6 10 [] [] (fun sv heap => Gives [(false, [.bool])] [[.b true]] sv heap)) := by
  refine ⟨fun hw hp => ?_⟩
  rw [e10]
  have m1 : Sp.mkV 44100 48000 44100 = 147 := by decide +kernel
  have m2 : Sp.mkV 44100 48000 48000 = 160 := by decide +kernel
  have m3 : Sp.mkE 44100 48000 = 0 := by decide +kernel
  have f1 : Sp.floV 1000 147 160 = 918 := by decide +kernel
  have f2 : Sp.floE 1000 147 160 = 0 := by decide +kernel
  have f3 : Sp.ceiV 1000 147 160 = 919 := by decide +kernel
  have f4 : Sp.ceiE 1000 147 160 = 0 := by decide +kernel
  have f5 : Sp.resV 1000 147 160 = 120 := by decide +kernel
  simp [m1, m2, m3, f1, f2, f3, f4, f5, bEq, bAnd]
theorem s10 : SoundCt Go.Proofs.Try.prog 10 ct10 :=
  contractH followsMixed (look_sound (show Tb Go.Proofs.Try.prog tb10 from ⟨s11, ⟨s16, ⟨s18, ⟨s20, trivial⟩⟩⟩⟩)) (fun _ => false) (fun _ => fun _ _ => LoopAnn.unroll 200) 6 10 ct10 rfl (by simp [ct10]) fun a => Eq.mp (by kernel_rfl) (v10 )
end Go.Sx

