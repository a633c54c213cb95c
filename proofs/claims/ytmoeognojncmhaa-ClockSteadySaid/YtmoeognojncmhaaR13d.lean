/- Contracts and conditions, continued. -/
import Derived.Test.YtmoeognojncmhaaSxUse
import Derived.Test.YtmoeognojncmhaaR13c
import Derived.KernelRfl
set_option linter.unusedVariables false
set_option linter.unusedSimpArgs false
set_option maxRecDepth 100000
set_option maxHeartbeats 4000000

namespace Go
open Go.Sx
def Sp.mulX (a b c d : Int) : Int := a / Sp.gcd a d * (c / Sp.gcd c b)
def Sp.mulY (a b c d : Int) : Int := b / Sp.gcd c b * (d / Sp.gcd a d)
def Sp.mulE (a b c d : Int) : Int := if Sp.rvalid a b = false ∨ Sp.rvalid c d = false then 1 else if 68719476736 < Sp.mulX a b c d ∨ 68719476736 < Sp.mulY a b c d then 2 else 0
def Sp.mulV (a b c d v : Int) : Int := if Sp.mulE a b c d = 0 then v else 0
def Sp.invE (a b : Int) : Int := bif Sp.rvalid a b then 0 else 1
def Sp.invV (a b v : Int) : Int := bif Sp.rvalid a b then v else 0
def Sp.cmp (a b c d : Int) : Int := if Sp.rvalid a b = false ∨ Sp.rvalid c d = false then 0 else if a * d < c * b then -1 else if a * d = c * b then 0 else 1
def Sp.trm (n : Int) : Int := Sp.ab (n.tmod 68719476736) + 1
def Sp.mA (p q : Int) : Int := Sp.trm p / Sp.gcd (Sp.trm p) (Sp.trm q)
def Sp.mB (p q : Int) : Int := Sp.trm q / Sp.gcd (Sp.trm p) (Sp.trm q)
end Go

namespace Go
open Go.Sx
theorem Sp.erI (n a b : Int) : (-4611686018427387904 ≤ Sp.flo n a b ∧ Sp.flo n a b ≤ 4611686018427387904 → Sp.inr (Sp.flo n a b) = true ∧ Sp.eF n a b = Sp.flo n a b ∧ Sp.eR n a b = Sp.res n a b) ∧ (¬ (-4611686018427387904 ≤ Sp.flo n a b ∧ Sp.flo n a b ≤ 4611686018427387904) → Sp.inr (Sp.flo n a b) = false ∧ Sp.eF n a b = 0 ∧ Sp.eR n a b = 0) := by
  constructor
  · intro h
    have e : Sp.inr (Sp.flo n a b) = true := by unfold Sp.inr; simpa using h
    exact ⟨e, by unfold Sp.eF; rw [e]; rfl, by unfold Sp.eR; rw [e]; rfl⟩
  · intro h
    have e : Sp.inr (Sp.flo n a b) = false := by unfold Sp.inr; simp; omega
    exact ⟨e, by unfold Sp.eF; rw [e]; rfl, by unfold Sp.eR; rw [e]; rfl⟩
theorem Sp.chk_c (n a b : Int) : (Sp.rvalid a b = false → Sp.chk n a b = 1) ∧ (Sp.rvalid a b = true → (n < -1125899906842624 ∨ 1125899906842624 < n → Sp.chk n a b = 2) ∧ (-1125899906842624 ≤ n ∧ n ≤ 1125899906842624 → Sp.chk n a b = 0)) := by
  unfold Sp.chk
  refine ⟨fun h => if_pos h, fun h => ⟨fun h1 => ?_, fun h1 => ?_⟩⟩
  · rw [if_neg (by simp [h]), if_pos h1]
  · rw [if_neg (by simp [h]), if_neg (by omega)]
theorem Sp.trm_bd (n : Int) : 1 ≤ Sp.trm n ∧ Sp.trm n ≤ 68719476736 := by
  have := rem_bd n (b := 68719476736) (by omega)
  unfold Sp.trm Sp.ab
  split <;> omega
theorem Sp.made_bd (p q : Int) : 1 ≤ Sp.mA p q ∧ Sp.mA p q ≤ 68719476736 ∧ 1 ≤ Sp.mB p q ∧ Sp.mB p q ≤ 68719476736 ∧ Sp.rvalid (Sp.mA p q) (Sp.mB p q) = true := by
  have h1 := Sp.trm_bd p
  have h2 := Sp.trm_bd q
  have h := Sp.gcd_quo (a := Sp.trm p) (b := Sp.trm q) h1.1 h2.1
  have g := Sp.gcd_one (a := Sp.trm p) (b := Sp.trm q) h1.1
  have a1 : 1 ≤ Sp.mA p q := h.1
  have a2 : Sp.mA p q ≤ Sp.trm p := h.2.1
  have a3 : 1 ≤ Sp.mB p q := h.2.2.1
  have a4 : Sp.mB p q ≤ Sp.trm q := h.2.2.2
  have a5 : Sp.gcd (Sp.mA p q) (Sp.mB p q) = 1 := g
  refine ⟨a1, by omega, a3, by omega, ?_⟩
  unfold Sp.rvalid
  simp only [decide_eq_true_eq]
  omega
theorem Sp.mk_ok {a b : Int} (h1 : 1 ≤ a) (h2 : a ≤ 68719476736) (h3 : 1 ≤ b) (h4 : b ≤ 68719476736) : Sp.mkE a b = 0 := by
  have h := Sp.gcd_quo (a := a) (b := b) h1 h3
  unfold Sp.mkE
  rw [if_neg (by omega), if_neg (by omega)]
theorem Sp.mul_bd4 {a b c d : Int} (h : Sp.rvalid a b = true) (h' : Sp.rvalid c d = true) :
    1 ≤ a / Sp.gcd a d ∧ a / Sp.gcd a d ≤ 68719476736 ∧ 1 ≤ c / Sp.gcd c b ∧ c / Sp.gcd c b ≤ 68719476736 ∧ 1 ≤ b / Sp.gcd c b ∧ b / Sp.gcd c b ≤ 68719476736 ∧ 1 ≤ d / Sp.gcd a d ∧ d / Sp.gcd a d ≤ 68719476736 := by
  have r := Sp.rvalid_of h
  have s := Sp.rvalid_of h'
  have x := Sp.gcd_quo (a := a) (b := d) (by omega) (by omega)
  have y := Sp.gcd_quo (a := c) (b := b) (by omega) (by omega)
  omega
end Go

namespace Go.Sx
/-! ### function 46: ref03.Floor -/
def ct46 : Ct := { ps := [(false, [.int .i64]), (true, [.int .i64, .int .i64])], rs := [(false, [.int .i64]), (false, [.int .i64])], pre := fun _ => True, out := fun a => [[.i (Sp.floV (cel 0 (arg 0 a)).int (cel 0 (arg 1 a)).int (cel 1 (arg 1 a)).int)], [.i (Sp.floE (cel 0 (arg 0 a)).int (cel 0 (arg 1 a)).int (cel 1 (arg 1 a)).int)]] }
def tb46 : List (Nat × Ct) := [(44, ct44), (55, ct55)]
theorem e46 (n : Int) (a : Int) (b : Int) : vcF Go.Proofs.Try.prog (look tb46) (fun _ => false) (fun _ _ => LoopAnn.unroll 200) 6 46 [.int .i64 n, .agg [.int .i64 a, .int .i64 b]] [] (fun sv heap => Gives [(false, [.int .i64]), (false, [.int .i64])] [[.i (Sp.floV n a b)], [.i (Sp.floE n a b)]] sv heap) = (True ∧ (True → True ∧ (bNot (Sp.rvalid a b) = true → (0 = Sp.floV n a b ∧ True) ∧ (1 = Sp.floE n a b ∧ True) ∧ True) ∧ (bNot (Sp.rvalid a b) = false → (bLt n (-1125899906842624) = false → (bLt 1125899906842624 n = true → (0 = Sp.floV n a b ∧ True) ∧ (2 = Sp.floE n a b ∧ True) ∧ True) ∧ (bLt 1125899906842624 n = false → (1 ≤ a ∧ a ≤ 68719476736 ∧ 1 ≤ b ∧ b ≤ 68719476736 ∧ -1125899906842624 ≤ n ∧ n ≤ 1125899906842624) ∧ (InR IntKind.i64 (Sp.eF n a b) ∧ InR IntKind.i64 (Sp.eR n a b) ∧ True ∧ True → True ∧ (bNot (Sp.inr (Sp.flo n a b)) = true → (0 = Sp.floV n a b ∧ True) ∧ (2 = Sp.floE n a b ∧ True) ∧ True) ∧ (bNot (Sp.inr (Sp.flo n a b)) = false → (Sp.eF n a b = Sp.floV n a b ∧ True) ∧ (0 = Sp.floE n a b ∧ True) ∧ True)))) ∧ (bLt n (-1125899906842624) = true → (0 = Sp.floV n a b ∧ True) ∧ (2 = Sp.floE n a b ∧ True) ∧ True)))) := by kernel_rfl
theorem v46 (n : Int) (a : Int) (b : Int) : Holds (Wfs [.int .i64 n, .agg [.int .i64 a, .int .i64 b]] → True → vcF Go.Proofs.Try.prog (look tb46) (fun _ => false) (fun _ _ => LoopAnn.unroll 200) 6 46 [.int .i64 n, .agg [.int .i64 a, .int .i64 b]] [] (fun sv heap => Gives [(false, [.int .i64]), (false, [.int .i64])] [[.i (Sp.floV n a b)], [.i (Sp.floE n a b)]] sv heap)) := by
  refine ⟨fun hw hp => ?_⟩
  rw [e46]
  simp only [Wfs, Wf, InR, and_true] at hw
  have cc := Sp.chk_c n a b
  cases hv : Sp.rvalid a b
  · have e := cc.1 hv
    have bd := Sp.bad (n := n) (a := a) (b := b) (by omega)
    have r1 : Sp.floE n a b = 1 := by rw [bd.1]; omega
    have r2 : Sp.floV n a b = 0 := by exact bd.2.1
    simp only [bNot, bNe, r1, r2, Bool.not_false, Bool.not_true, Bool.false_eq_true, Bool.true_eq_false, reduceCtorEq, false_implies, true_implies, implies_true, and_true, true_and]
  · by_cases hr : -1125899906842624 ≤ n ∧ n ≤ 1125899906842624
    · have hc := (cc.2 hv).2 hr
      have rv := Sp.rvalid_of hv
      have f0 := Sp.floI hc
      have f1 := fun h => (⟨(f0.1 h).1, (f0.1 h).2.1, (f0.1 h).2.2.1⟩ : Sp.floE n a b = 0 ∧ Sp.floV n a b = Sp.flo n a b ∧ Sp.resV n a b = Sp.res n a b)
      have f2 := fun h => (⟨(f0.2 h).1, (f0.2 h).2.1, (f0.2 h).2.2.1⟩ : Sp.floE n a b = 2 ∧ Sp.floV n a b = 0 ∧ Sp.resV n a b = 0)
      have c1 := (Sp.ceiI hc).1
      have c2 := (Sp.ceiI hc).2
      have en := Sp.flo_neg (n := n) (a := a) (b := b)
      have er := Sp.erI n a b
      simp only [iSub, Int.zero_sub, bLt, bNot, bNe, InR, decide_true, decide_eq_true_eq, decide_eq_false_iff_not, Bool.not_true, Bool.not_false, Bool.false_eq_true, Bool.true_eq_false, reduceCtorEq, not_true_eq_false, false_implies, true_implies, implies_true, and_true, true_and]
      clear f0 cc hw hp
      by_cases hin : -4611686018427387904 ≤ Sp.flo n a b ∧ Sp.flo n a b ≤ 4611686018427387904
      · have er := er.1 hin
        simp only [er, decide_true, Bool.not_true, Bool.false_eq_true, Bool.true_eq_false, reduceCtorEq, false_implies, true_implies, implies_true, and_true, true_and]
        repeat' (first | apply And.intro | intro _)
        all_goals (first | trivial | assumption | omega)
      · have er := er.2 hin
        simp only [er, Bool.not_false, Bool.false_eq_true, Bool.true_eq_false, reduceCtorEq, false_implies, true_implies, implies_true, and_true, true_and]
        repeat' (first | apply And.intro | intro _)
        all_goals (first | trivial | assumption | omega)
    · have e := (cc.2 hv).1 (by omega)
      have bd := Sp.bad (n := n) (a := a) (b := b) (by omega)
      have r1 : Sp.floE n a b = 2 := by rw [bd.1]; omega
      have r2 : Sp.floV n a b = 0 := by exact bd.2.1
      simp only [bNot, bNe, bLt, r1, r2, decide_eq_true_eq, decide_eq_false_iff_not, Bool.not_false, Bool.not_true, Bool.false_eq_true, Bool.true_eq_false, reduceCtorEq, false_implies, true_implies, implies_true, and_true, true_and]
      repeat' (first | apply And.intro | intro _)
      all_goals (first | trivial | omega)
theorem s46 : SoundCt Go.Proofs.Try.prog 46 ct46 :=
  contractH followsMixed (look_sound (show Tb Go.Proofs.Try.prog tb46 from ⟨s44, ⟨s55, trivial⟩⟩)) (fun _ => false) (fun _ => fun _ _ => LoopAnn.unroll 200) 6 46 ct46 rfl (by simp [ct46]) fun a => Eq.mp (by kernel_rfl) (v46 ((cel 0 (arg 0 a)).int) ((cel 0 (arg 1 a)).int) ((cel 1 (arg 1 a)).int))
end Go.Sx

namespace Go.Sx
/-! ### function 22: ref03.Make -/
def ct22 : Ct := { ps := [(false, [.int .i64]), (false, [.int .i64])], rs := [(true, [.int .i64, .int .i64]), (false, [.int .i64])], pre := fun _ => True, out := fun a => [[.i (Sp.mkV (cel 0 (arg 0 a)).int (cel 0 (arg 1 a)).int (cel 0 (arg 0 a)).int), .i (Sp.mkV (cel 0 (arg 0 a)).int (cel 0 (arg 1 a)).int (cel 0 (arg 1 a)).int)], [.i (Sp.mkE (cel 0 (arg 0 a)).int (cel 0 (arg 1 a)).int)]] }
def tb22 : List (Nat × Ct) := [(34, ct34)]
theorem e22 (p : Int) (q : Int) : vcF Go.Proofs.Try.prog (look tb22) (fun _ => false) (fun _ _ => LoopAnn.unroll 200) 6 22 [.int .i64 p, .int .i64 q] [] (fun sv heap => Gives [(true, [.int .i64, .int .i64]), (false, [.int .i64])] [[.i (Sp.mkV p q p), .i (Sp.mkV p q q)], [.i (Sp.mkE p q)]] sv heap) = ((bLt p 1 = false → (bLt q 1 = true → (0 = Sp.mkV p q p ∧ 0 = Sp.mkV p q q ∧ True) ∧ (1 = Sp.mkE p q ∧ True) ∧ True) ∧ (bLt q 1 = false → (0 < p ∧ 0 ≤ q) ∧ (InR IntKind.i64 (Sp.gcd p q) → (pNe (Sp.gcd p q) 0 ∧ InR IntKind.i64 (iQuo p (Sp.gcd p q))) ∧ (pNe (Sp.gcd p q) 0 ∧ InR IntKind.i64 (iQuo q (Sp.gcd p q))) ∧ (bLt 68719476736 (iQuo p (Sp.gcd p q)) = false → (bLt 68719476736 (iQuo q (Sp.gcd p q)) = true → (0 = Sp.mkV p q p ∧ 0 = Sp.mkV p q q ∧ True) ∧ (2 = Sp.mkE p q ∧ True) ∧ True) ∧ (bLt 68719476736 (iQuo q (Sp.gcd p q)) = false → (iQuo p (Sp.gcd p q) = Sp.mkV p q p ∧ iQuo q (Sp.gcd p q) = Sp.mkV p q q ∧ True) ∧ (0 = Sp.mkE p q ∧ True) ∧ True)) ∧ (bLt 68719476736 (iQuo p (Sp.gcd p q)) = true → (0 = Sp.mkV p q p ∧ 0 = Sp.mkV p q q ∧ True) ∧ (2 = Sp.mkE p q ∧ True) ∧ True)))) ∧ (bLt p 1 = true → (0 = Sp.mkV p q p ∧ 0 = Sp.mkV p q q ∧ True) ∧ (1 = Sp.mkE p q ∧ True) ∧ True)) := by kernel_rfl
theorem v22 (p : Int) (q : Int) : Holds (Wfs [.int .i64 p, .int .i64 q] → True → vcF Go.Proofs.Try.prog (look tb22) (fun _ => false) (fun _ _ => LoopAnn.unroll 200) 6 22 [.int .i64 p, .int .i64 q] [] (fun sv heap => Gives [(true, [.int .i64, .int .i64]), (false, [.int .i64])] [[.i (Sp.mkV p q p), .i (Sp.mkV p q q)], [.i (Sp.mkE p q)]] sv heap)) := by
  refine ⟨fun hw hp => ?_⟩
  rw [e22]
  simp only [Wfs, Wf, InR, and_true] at hw
  by_cases h : p < 1 ∨ q < 1
  · have e : Sp.mkE p q = 1 := by unfold Sp.mkE; rw [if_pos h]
    have f : ∀ v, Sp.mkV p q v = 0 := fun v => by unfold Sp.mkV; rw [if_neg (by omega)]
    simp only [e, f, bLt, bLe, decide_eq_true_eq, decide_eq_false_iff_not]
    repeat' (first | apply And.intro | intro _)
    all_goals (first | trivial | omega)
  · have g := Sp.gcd_quo (a := p) (b := q) (by omega) (by omega)
    have g1 := Sp.gcd_pos (a := p) (b := q) (by omega)
    have t1 : iQuo p (Sp.gcd p q) = p / Sp.gcd p q := Int.tdiv_eq_ediv_of_nonneg (by omega)
    have t2 : iQuo q (Sp.gcd p q) = q / Sp.gcd p q := Int.tdiv_eq_ediv_of_nonneg (by omega)
    have e : Sp.mkE p q = if 68719476736 < p / Sp.gcd p q ∨ 68719476736 < q / Sp.gcd p q then 2 else 0 := by unfold Sp.mkE; rw [if_neg h]
    have f : ∀ v, Sp.mkV p q v = if Sp.mkE p q = 0 then v / Sp.gcd p q else 0 := fun v => rfl
    simp only [t1, t2, f, e]
    generalize p / Sp.gcd p q = P at *
    generalize q / Sp.gcd p q = Q at *
    simp only [bLt, bLe, pNe, InR, decide_eq_true_eq, decide_eq_false_iff_not]
    repeat' (first | apply And.intro | intro _)
    all_goals (first | trivial | omega | (split <;> first | omega | (split <;> omega)))
theorem s22 : SoundCt Go.Proofs.Try.prog 22 ct22 :=
  contractH followsMixed (look_sound (show Tb Go.Proofs.Try.prog tb22 from ⟨s34, trivial⟩)) (fun _ => false) (fun _ => fun _ _ => LoopAnn.unroll 200) 6 22 ct22 rfl (by simp [ct22]) fun a => Eq.mp (by kernel_rfl) (v22 ((cel 0 (arg 0 a)).int) ((cel 0 (arg 1 a)).int))
end Go.Sx

namespace Go.Sx
/-! ### function 38: ratio.Inverse -/
def ct38 : Ct := { ps := [(true, [.int .i64, .int .i64])], rs := [(true, [.int .i64, .int .i64]), (false, [.int .i64])], pre := fun _ => True, out := fun a => [[.i (Sp.invV (cel 0 (arg 0 a)).int (cel 1 (arg 0 a)).int (cel 1 (arg 0 a)).int), .i (Sp.invV (cel 0 (arg 0 a)).int (cel 1 (arg 0 a)).int (cel 0 (arg 0 a)).int)], [.i (Sp.invE (cel 0 (arg 0 a)).int (cel 1 (arg 0 a)).int)]] }
def tb38 : List (Nat × Ct) := [(40, ct40)]
theorem e38 (a : Int) (b : Int) : vcF Go.Proofs.Try.prog (look tb38) (fun _ => false) (fun _ _ => LoopAnn.unroll 200) 6 38 [.agg [.int .i64 a, .int .i64 b]] [] (fun sv heap => Gives [(true, [.int .i64, .int .i64]), (false, [.int .i64])] [[.i (Sp.invV a b b), .i (Sp.invV a b a)], [.i (Sp.invE a b)]] sv heap) = (True ∧ (True → True ∧ (bNot (Sp.rvalid a b) = true → (0 = Sp.invV a b b ∧ 0 = Sp.invV a b a ∧ True) ∧ (1 = Sp.invE a b ∧ True) ∧ True) ∧ (bNot (Sp.rvalid a b) = false → (b = Sp.invV a b b ∧ a = Sp.invV a b a ∧ True) ∧ (0 = Sp.invE a b ∧ True) ∧ True))) := by kernel_rfl
theorem v38 (a : Int) (b : Int) : Holds (Wfs [.agg [.int .i64 a, .int .i64 b]] → True → vcF Go.Proofs.Try.prog (look tb38) (fun _ => false) (fun _ _ => LoopAnn.unroll 200) 6 38 [.agg [.int .i64 a, .int .i64 b]] [] (fun sv heap => Gives [(true, [.int .i64, .int .i64]), (false, [.int .i64])] [[.i (Sp.invV a b b), .i (Sp.invV a b a)], [.i (Sp.invE a b)]] sv heap)) := by
  refine ⟨fun hw hp => ?_⟩
  rw [e38]
  unfold Sp.invV Sp.invE
  cases Sp.rvalid a b <;> simp [bNot]
theorem s38 : SoundCt Go.Proofs.Try.prog 38 ct38 :=
  contractH followsMixed (look_sound (show Tb Go.Proofs.Try.prog tb38 from ⟨s40, trivial⟩)) (fun _ => false) (fun _ => fun _ _ => LoopAnn.unroll 200) 6 38 ct38 rfl (by simp [ct38]) fun a => Eq.mp (by kernel_rfl) (v38 ((cel 0 (arg 0 a)).int) ((cel 1 (arg 0 a)).int))
end Go.Sx

