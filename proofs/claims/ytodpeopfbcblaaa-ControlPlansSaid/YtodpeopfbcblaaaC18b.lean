/- Contracts and conditions, continued. -/
import Derived.Test.YtodpeopfbcblaaaSxUse
import Derived.Test.YtodpeopfbcblaaaC18a
import Derived.KernelRfl
set_option linter.unusedVariables false
set_option linter.unusedSimpArgs false
set_option maxRecDepth 100000
set_option maxHeartbeats 4000000

namespace Go
open Go.Sx
def Sp.gcd (a b : Int) : Int := (Int.gcd a b : Int)
def Sp.rvalid (n d : Int) : Bool := decide (1 ≤ n ∧ 1 ≤ d ∧ n ≤ 68719476736 ∧ d ≤ 68719476736 ∧ Sp.gcd n d = 1)
def Sp.poss (n d : Int) : Bool := Sp.rvalid n d && decide (d ≤ 768000 ∧ d ≤ n * 64 ∧ n ≤ d * 64 * 8192)
def Sp.decl (n d k j : Int) : Bool := Sp.poss n d && decide (0 ≤ k ∧ k ≤ 4096 ∧ 0 ≤ j ∧ j ≤ 65536)
def Sp.up (a b : Int) : Int := (a + b - 1) / b
def Sp.wob (n d k : Int) : Int := Sp.up (2 * k * n) (65536 * d)
end Go

namespace Go
theorem Sp.gcd_step (a b : Int) : Sp.gcd b (a.tmod b) = Sp.gcd a b := by
  unfold Sp.gcd Int.gcd
  rw [Int.natAbs_tmod, Nat.gcd_comm b.natAbs, ← Nat.gcd_rec, Nat.gcd_comm]
theorem Sp.gcd_end {a : Int} (h : 0 < a) : Sp.gcd a 0 = a := by
  unfold Sp.gcd
  rw [Int.gcd_zero_right]; omega
end Go

namespace Go.Sx
/-! ### function 44: ratio.divisor -/
def ct44 : Ct := { ps := [(false, [.int .i64]), (false, [.int .i64])], rs := [(false, [.int .i64])], pre := fun a => 0 < (cel 0 (arg 0 a)).int ∧ 0 ≤ (cel 0 (arg 1 a)).int, out := fun a => [[.i (Sp.gcd (cel 0 (arg 0 a)).int (cel 0 (arg 1 a)).int)]] }
def tb44 : List (Nat × Ct) := []
theorem e44 (p : Int) (q : Int) : vcF Go.Proofs.Try.prog (look tb44) (fun _ => false) (fun _ _ => .inv (Int × Int) (fun x => 0 < x.1 ∧ 0 ≤ x.2 ∧ Sp.gcd x.1 x.2 = Sp.gcd p q) (fun x => [(0, .int .i64 x.1), (1, .int .i64 x.2)]) (fun _ => []) [] [0, 1, 4, 6] (fun x => x.2.toNat)) 6 44 [.int .i64 p, .int .i64 q] [] (fun sv heap => Gives [(false, [.int .i64])] [[.i (Sp.gcd p q)]] sv heap) = ((∃ (x : Int × Int), (0 < x.1 ∧ 0 ≤ x.2 ∧ Sp.gcd x.1 x.2 = Sp.gcd p q) ∧ true = true ∧ ((IntKind.i64 = IntKind.i64 ∧ p = x.1) ∧ (IntKind.i64 = IntKind.i64 ∧ q = x.2) ∧ True) ∧ True) ∧ (∀ (x : Int × Int), true = true ∧ true = true) ∧ ∀ (x : Int × Int), 0 < x.1 ∧ 0 ≤ x.2 ∧ Sp.gcd x.1 x.2 = Sp.gcd p q → InR IntKind.i64 x.1 ∧ InR IntKind.i64 x.2 ∧ True → True → (bNe x.2 0 = true → pNe x.2 0 ∧ (true = true ∧ [SV.lit IntKind.i64 0] = [SV.lit IntKind.i64 0]) ∧ ([] : List HB) = [] ∧ ∃ (y : Int × Int), (0 < y.1 ∧ 0 ≤ y.2 ∧ Sp.gcd y.1 y.2 = Sp.gcd p q) ∧ true = true ∧ ((IntKind.i64 = IntKind.i64 ∧ x.2 = y.1) ∧ (IntKind.i64 = IntKind.i64 ∧ iRem x.1 x.2 = y.2) ∧ True) ∧ True ∧ y.2.toNat < x.2.toNat) ∧ (bNe x.2 0 = false → (x.1 = Sp.gcd p q ∧ True) ∧ True)) := by kernel_rfl
theorem v44 (p : Int) (q : Int) : Holds (Wfs [.int .i64 p, .int .i64 q] → 0 < p ∧ 0 ≤ q → vcF Go.Proofs.Try.prog (look tb44) (fun _ => false) (fun _ _ => .inv (Int × Int) (fun x => 0 < x.1 ∧ 0 ≤ x.2 ∧ Sp.gcd x.1 x.2 = Sp.gcd p q) (fun x => [(0, .int .i64 x.1), (1, .int .i64 x.2)]) (fun _ => []) [] [0, 1, 4, 6] (fun x => x.2.toNat)) 6 44 [.int .i64 p, .int .i64 q] [] (fun sv heap => Gives [(false, [.int .i64])] [[.i (Sp.gcd p q)]] sv heap)) := by
  refine ⟨fun hw hp => ?_⟩
  rw [e44]
  refine ⟨⟨(p, q), ⟨hp.1, hp.2, rfl⟩, rfl, ⟨⟨rfl, rfl⟩, ⟨rfl, rfl⟩, trivial⟩, trivial⟩, fun _ => ⟨rfl, rfl⟩, fun x hx _ _ => ⟨fun h => ?_, fun h => ⟨⟨?_, trivial⟩, trivial⟩⟩⟩
  · have hne : x.2 ≠ 0 := by simpa using h
    have hb := rem_bd x.1 (b := x.2) (by omega)
    have h0 : 0 ≤ x.1.tmod x.2 := Int.tmod_nonneg _ (by omega)
    exact ⟨hne, ⟨rfl, rfl⟩, rfl, (x.2, x.1.tmod x.2), ⟨by simp only; omega, h0, by rw [Sp.gcd_step]; exact hx.2.2⟩, rfl, ⟨⟨rfl, rfl⟩, ⟨rfl, rfl⟩, trivial⟩, trivial, by simp only; omega⟩
  · have h0 : x.2 = 0 := by simpa using h
    rw [← hx.2.2, h0, Sp.gcd_end hx.1]
theorem s44 : SoundCt Go.Proofs.Try.prog 44 ct44 :=
  contractH followsMixed (look_sound (show Tb Go.Proofs.Try.prog tb44 from trivial)) (fun _ => false) (fun a => fun _ _ => .inv (Int × Int) (fun x => 0 < x.1 ∧ 0 ≤ x.2 ∧ Sp.gcd x.1 x.2 = Sp.gcd (cel 0 (arg 0 a)).int (cel 0 (arg 1 a)).int) (fun x => [(0, .int .i64 x.1), (1, .int .i64 x.2)]) (fun _ => []) [] [0, 1, 4, 6] (fun x => x.2.toNat)) 6 44 ct44 rfl (by simp [ct44]) fun a => Eq.mp (by kernel_rfl) (v44 ((cel 0 (arg 0 a)).int) ((cel 0 (arg 1 a)).int))
end Go.Sx

namespace Go.Sx
/-! ### function 48: ref03.gcd -/
def ct48 : Ct := { ps := [(false, [.int .i64]), (false, [.int .i64])], rs := [(false, [.int .i64])], pre := fun a => 0 < (cel 0 (arg 0 a)).int ∧ 0 ≤ (cel 0 (arg 1 a)).int, out := fun a => [[.i (Sp.gcd (cel 0 (arg 0 a)).int (cel 0 (arg 1 a)).int)]] }
def tb48 : List (Nat × Ct) := []
theorem e48 (p : Int) (q : Int) : vcF Go.Proofs.Try.prog (look tb48) (fun _ => false) (fun _ _ => .inv (Int × Int) (fun x => 0 < x.1 ∧ 0 ≤ x.2 ∧ Sp.gcd x.1 x.2 = Sp.gcd p q) (fun x => [(0, .int .i64 x.1), (1, .int .i64 x.2)]) (fun _ => []) [] [0, 1, 4, 6] (fun x => x.2.toNat)) 6 48 [.int .i64 p, .int .i64 q] [] (fun sv heap => Gives [(false, [.int .i64])] [[.i (Sp.gcd p q)]] sv heap) = ((∃ (x : Int × Int), (0 < x.1 ∧ 0 ≤ x.2 ∧ Sp.gcd x.1 x.2 = Sp.gcd p q) ∧ true = true ∧ ((IntKind.i64 = IntKind.i64 ∧ p = x.1) ∧ (IntKind.i64 = IntKind.i64 ∧ q = x.2) ∧ True) ∧ True) ∧ (∀ (x : Int × Int), true = true ∧ true = true) ∧ ∀ (x : Int × Int), 0 < x.1 ∧ 0 ≤ x.2 ∧ Sp.gcd x.1 x.2 = Sp.gcd p q → InR IntKind.i64 x.1 ∧ InR IntKind.i64 x.2 ∧ True → True → (bNe x.2 0 = true → pNe x.2 0 ∧ (true = true ∧ [SV.lit IntKind.i64 0] = [SV.lit IntKind.i64 0]) ∧ ([] : List HB) = [] ∧ ∃ (y : Int × Int), (0 < y.1 ∧ 0 ≤ y.2 ∧ Sp.gcd y.1 y.2 = Sp.gcd p q) ∧ true = true ∧ ((IntKind.i64 = IntKind.i64 ∧ x.2 = y.1) ∧ (IntKind.i64 = IntKind.i64 ∧ iRem x.1 x.2 = y.2) ∧ True) ∧ True ∧ y.2.toNat < x.2.toNat) ∧ (bNe x.2 0 = false → (x.1 = Sp.gcd p q ∧ True) ∧ True)) := by kernel_rfl
theorem v48 (p : Int) (q : Int) : Holds (Wfs [.int .i64 p, .int .i64 q] → 0 < p ∧ 0 ≤ q → vcF Go.Proofs.Try.prog (look tb48) (fun _ => false) (fun _ _ => .inv (Int × Int) (fun x => 0 < x.1 ∧ 0 ≤ x.2 ∧ Sp.gcd x.1 x.2 = Sp.gcd p q) (fun x => [(0, .int .i64 x.1), (1, .int .i64 x.2)]) (fun _ => []) [] [0, 1, 4, 6] (fun x => x.2.toNat)) 6 48 [.int .i64 p, .int .i64 q] [] (fun sv heap => Gives [(false, [.int .i64])] [[.i (Sp.gcd p q)]] sv heap)) := by
  refine ⟨fun hw hp => ?_⟩
  rw [e48]
  refine ⟨⟨(p, q), ⟨hp.1, hp.2, rfl⟩, rfl, ⟨⟨rfl, rfl⟩, ⟨rfl, rfl⟩, trivial⟩, trivial⟩, fun _ => ⟨rfl, rfl⟩, fun x hx _ _ => ⟨fun h => ?_, fun h => ⟨⟨?_, trivial⟩, trivial⟩⟩⟩
  · have hne : x.2 ≠ 0 := by simpa using h
    have hb := rem_bd x.1 (b := x.2) (by omega)
    have h0 : 0 ≤ x.1.tmod x.2 := Int.tmod_nonneg _ (by omega)
    exact ⟨hne, ⟨rfl, rfl⟩, rfl, (x.2, x.1.tmod x.2), ⟨by simp only; omega, h0, by rw [Sp.gcd_step]; exact hx.2.2⟩, rfl, ⟨⟨rfl, rfl⟩, ⟨rfl, rfl⟩, trivial⟩, trivial, by simp only; omega⟩
  · have h0 : x.2 = 0 := by simpa using h
    rw [← hx.2.2, h0, Sp.gcd_end hx.1]
theorem s48 : SoundCt Go.Proofs.Try.prog 48 ct48 :=
  contractH followsMixed (look_sound (show Tb Go.Proofs.Try.prog tb48 from trivial)) (fun _ => false) (fun a => fun _ _ => .inv (Int × Int) (fun x => 0 < x.1 ∧ 0 ≤ x.2 ∧ Sp.gcd x.1 x.2 = Sp.gcd (cel 0 (arg 0 a)).int (cel 0 (arg 1 a)).int) (fun x => [(0, .int .i64 x.1), (1, .int .i64 x.2)]) (fun _ => []) [] [0, 1, 4, 6] (fun x => x.2.toNat)) 6 48 ct48 rfl (by simp [ct48]) fun a => Eq.mp (by kernel_rfl) (v48 ((cel 0 (arg 0 a)).int) ((cel 0 (arg 1 a)).int))
end Go.Sx

namespace Go.Sx
/-! ### function 34: ratio.Valid -/
def ct34 : Ct := { ps := [(true, [.int .i64, .int .i64])], rs := [(false, [.bool])], pre := fun _ => True, out := fun a => [[.b (Sp.rvalid (cel 0 (arg 0 a)).int (cel 1 (arg 0 a)).int)]] }
def tb34 : List (Nat × Ct) := [(44, ct44)]
theorem e34 (n : Int) (d : Int) : vcF Go.Proofs.Try.prog (look tb34) (fun _ => false) (fun _ _ => LoopAnn.unroll 200) 6 34 [.agg [.int .i64 n, .int .i64 d]] [] (fun sv heap => Gives [(false, [.bool])] [[.b (Sp.rvalid n d)]] sv heap) = ((bLe 1 n = true → (bLe 1 d = true → (bLe n 68719476736 = true → (bLe d 68719476736 = true → (0 < n ∧ 0 ≤ d) ∧ (InR IntKind.i64 (Sp.gcd n d) → (bEq (Sp.gcd n d) 1 = Sp.rvalid n d ∧ True) ∧ True)) ∧ (bLe d 68719476736 = false → (false = Sp.rvalid n d ∧ True) ∧ True)) ∧ (bLe n 68719476736 = false → (false = Sp.rvalid n d ∧ True) ∧ True)) ∧ (bLe 1 d = false → (false = Sp.rvalid n d ∧ True) ∧ True)) ∧ (bLe 1 n = false → (false = Sp.rvalid n d ∧ True) ∧ True)) := by kernel_rfl
theorem v34 (n : Int) (d : Int) : Holds (Wfs [.agg [.int .i64 n, .int .i64 d]] → True → vcF Go.Proofs.Try.prog (look tb34) (fun _ => false) (fun _ _ => LoopAnn.unroll 200) 6 34 [.agg [.int .i64 n, .int .i64 d]] [] (fun sv heap => Gives [(false, [.bool])] [[.b (Sp.rvalid n d)]] sv heap)) := by
  refine ⟨fun hw hp => ?_⟩
  rw [e34]
  simp only [bLe, bEq, decide_eq_true_eq, decide_eq_false_iff_not, Sp.rvalid, and_true]
  repeat' (first | apply And.intro | intro _)
  all_goals (first | omega | (simp only [decide_eq_decide]; omega) | (symm; simp only [decide_eq_false_iff_not]; omega))
theorem s34 : SoundCt Go.Proofs.Try.prog 34 ct34 :=
  contractH followsMixed (look_sound (show Tb Go.Proofs.Try.prog tb34 from ⟨s44, trivial⟩)) (fun _ => false) (fun _ => fun _ _ => LoopAnn.unroll 200) 6 34 ct34 rfl (by simp [ct34]) fun a => Eq.mp (by kernel_rfl) (v34 ((cel 0 (arg 0 a)).int) ((cel 1 (arg 0 a)).int))
end Go.Sx

namespace Go.Sx
/-! ### function 38: ref03.Valid -/
def ct38 : Ct := { ps := [(true, [.int .i64, .int .i64])], rs := [(false, [.bool])], pre := fun _ => True, out := fun a => [[.b (Sp.rvalid (cel 0 (arg 0 a)).int (cel 1 (arg 0 a)).int)]] }
def tb38 : List (Nat × Ct) := [(48, ct48)]
theorem e38 (n : Int) (d : Int) : vcF Go.Proofs.Try.prog (look tb38) (fun _ => false) (fun _ _ => LoopAnn.unroll 200) 6 38 [.agg [.int .i64 n, .int .i64 d]] [] (fun sv heap => Gives [(false, [.bool])] [[.b (Sp.rvalid n d)]] sv heap) = ((bLe 1 n = true → (bLe 1 d = true → (bLe n 68719476736 = true → (bLe d 68719476736 = true → (0 < n ∧ 0 ≤ d) ∧ (InR IntKind.i64 (Sp.gcd n d) → (bEq (Sp.gcd n d) 1 = Sp.rvalid n d ∧ True) ∧ True)) ∧ (bLe d 68719476736 = false → (false = Sp.rvalid n d ∧ True) ∧ True)) ∧ (bLe n 68719476736 = false → (false = Sp.rvalid n d ∧ True) ∧ True)) ∧ (bLe 1 d = false → (false = Sp.rvalid n d ∧ True) ∧ True)) ∧ (bLe 1 n = false → (false = Sp.rvalid n d ∧ True) ∧ True)) := by kernel_rfl
theorem v38 (n : Int) (d : Int) : Holds (Wfs [.agg [.int .i64 n, .int .i64 d]] → True → vcF Go.Proofs.Try.prog (look tb38) (fun _ => false) (fun _ _ => LoopAnn.unroll 200) 6 38 [.agg [.int .i64 n, .int .i64 d]] [] (fun sv heap => Gives [(false, [.bool])] [[.b (Sp.rvalid n d)]] sv heap)) := by
  refine ⟨fun hw hp => ?_⟩
  rw [e38]
  simp only [bLe, bEq, decide_eq_true_eq, decide_eq_false_iff_not, Sp.rvalid, and_true]
  repeat' (first | apply And.intro | intro _)
  all_goals (first | omega | (simp only [decide_eq_decide]; omega) | (symm; simp only [decide_eq_false_iff_not]; omega))
theorem s38 : SoundCt Go.Proofs.Try.prog 38 ct38 :=
  contractH followsMixed (look_sound (show Tb Go.Proofs.Try.prog tb38 from ⟨s48, trivial⟩)) (fun _ => false) (fun _ => fun _ _ => LoopAnn.unroll 200) 6 38 ct38 rfl (by simp [ct38]) fun a => Eq.mp (by kernel_rfl) (v38 ((cel 0 (arg 0 a)).int) ((cel 1 (arg 0 a)).int))
end Go.Sx

namespace Go.Sx
/-! ### function 43: control.possible -/
def ct43 : Ct := { ps := [(true, [.int .i64, .int .i64])], rs := [(false, [.bool])], pre := fun _ => True, out := fun a => [[.b (Sp.poss (cel 0 (arg 0 a)).int (cel 1 (arg 0 a)).int)]] }
def tb43 : List (Nat × Ct) := [(34, ct34)]
theorem e43 (n : Int) (d : Int) : vcF Go.Proofs.Try.prog (look tb43) (fun _ => false) (fun _ _ => LoopAnn.unroll 200) 6 43 [.agg [.int .i64 n, .int .i64 d]] [] (fun sv heap => Gives [(false, [.bool])] [[.b (Sp.poss n d)]] sv heap) = (True ∧ (True → (Sp.rvalid n d = true → (bLe d 768000 = true → InR IntKind.i64 (iMul n 64) ∧ (bLe d (iMul n 64) = true → InR IntKind.i64 (iMul d 64) ∧ InR IntKind.i64 (iMul (iMul d 64) 8192) ∧ (bLe n (iMul (iMul d 64) 8192) = Sp.poss n d ∧ True) ∧ True) ∧ (bLe d (iMul n 64) = false → (false = Sp.poss n d ∧ True) ∧ True)) ∧ (bLe d 768000 = false → (false = Sp.poss n d ∧ True) ∧ True)) ∧ (Sp.rvalid n d = false → (false = Sp.poss n d ∧ True) ∧ True))) := by kernel_rfl
theorem v43 (n : Int) (d : Int) : Holds (Wfs [.agg [.int .i64 n, .int .i64 d]] → True → vcF Go.Proofs.Try.prog (look tb43) (fun _ => false) (fun _ _ => LoopAnn.unroll 200) 6 43 [.agg [.int .i64 n, .int .i64 d]] [] (fun sv heap => Gives [(false, [.bool])] [[.b (Sp.poss n d)]] sv heap)) := by
  refine ⟨fun hw hp => ?_⟩
  rw [e43]
  simp only [bLe, bEq, iMul, InR, decide_eq_true_eq, decide_eq_false_iff_not, Sp.poss, and_true]
  have hv : Sp.rvalid n d = true → 1 ≤ n ∧ 1 ≤ d ∧ n ≤ 68719476736 ∧ d ≤ 68719476736 := fun h => by simp [Sp.rvalid] at h; omega
  cases hr : Sp.rvalid n d
  · simp
  · have hv := hv hr
    simp only [Bool.true_and, Bool.true_eq_false, false_implies, true_implies, and_true, true_and]
    repeat' (first | apply And.intro | intro _)
    all_goals (first | omega | (simp only [decide_eq_decide]; omega) | (symm; simp only [decide_eq_false_iff_not]; omega))
theorem s43 : SoundCt Go.Proofs.Try.prog 43 ct43 :=
  contractH followsMixed (look_sound (show Tb Go.Proofs.Try.prog tb43 from ⟨s34, trivial⟩)) (fun _ => false) (fun _ => fun _ _ => LoopAnn.unroll 200) 6 43 ct43 rfl (by simp [ct43]) fun a => Eq.mp (by kernel_rfl) (v43 ((cel 0 (arg 0 a)).int) ((cel 1 (arg 0 a)).int))
end Go.Sx

namespace Go.Sx
/-! ### function 39: ref18.Possible -/
def ct39 : Ct := { ps := [(true, [.int .i64, .int .i64])], rs := [(false, [.bool])], pre := fun _ => True, out := fun a => [[.b (Sp.poss (cel 0 (arg 0 a)).int (cel 1 (arg 0 a)).int)]] }
def tb39 : List (Nat × Ct) := [(38, ct38)]
theorem e39 (n : Int) (d : Int) : vcF Go.Proofs.Try.prog (look tb39) (fun _ => false) (fun _ _ => LoopAnn.unroll 200) 6 39 [.agg [.int .i64 n, .int .i64 d]] [] (fun sv heap => Gives [(false, [.bool])] [[.b (Sp.poss n d)]] sv heap) = (True ∧ (True → (Sp.rvalid n d = true → (bLe d 768000 = true → InR IntKind.i64 (iMul 64 n) ∧ (bLe d (iMul 64 n) = true → InR IntKind.i64 (iMul 524288 d) ∧ (bLe n (iMul 524288 d) = Sp.poss n d ∧ True) ∧ True) ∧ (bLe d (iMul 64 n) = false → (false = Sp.poss n d ∧ True) ∧ True)) ∧ (bLe d 768000 = false → (false = Sp.poss n d ∧ True) ∧ True)) ∧ (Sp.rvalid n d = false → (false = Sp.poss n d ∧ True) ∧ True))) := by kernel_rfl
theorem v39 (n : Int) (d : Int) : Holds (Wfs [.agg [.int .i64 n, .int .i64 d]] → True → vcF Go.Proofs.Try.prog (look tb39) (fun _ => false) (fun _ _ => LoopAnn.unroll 200) 6 39 [.agg [.int .i64 n, .int .i64 d]] [] (fun sv heap => Gives [(false, [.bool])] [[.b (Sp.poss n d)]] sv heap)) := by
  refine ⟨fun hw hp => ?_⟩
  rw [e39]
  simp only [bLe, bEq, iMul, InR, decide_eq_true_eq, decide_eq_false_iff_not, Sp.poss, and_true]
  have hv : Sp.rvalid n d = true → 1 ≤ n ∧ 1 ≤ d ∧ n ≤ 68719476736 ∧ d ≤ 68719476736 := fun h => by simp [Sp.rvalid] at h; omega
  cases hr : Sp.rvalid n d
  · simp
  · have hv := hv hr
    simp only [Bool.true_and, Bool.true_eq_false, false_implies, true_implies, and_true, true_and]
    repeat' (first | apply And.intro | intro _)
    all_goals (first | omega | (simp only [decide_eq_decide]; omega) | (symm; simp only [decide_eq_false_iff_not]; omega))
theorem s39 : SoundCt Go.Proofs.Try.prog 39 ct39 :=
  contractH followsMixed (look_sound (show Tb Go.Proofs.Try.prog tb39 from ⟨s38, trivial⟩)) (fun _ => false) (fun _ => fun _ _ => LoopAnn.unroll 200) 6 39 ct39 rfl (by simp [ct39]) fun a => Eq.mp (by kernel_rfl) (v39 ((cel 0 (arg 0 a)).int) ((cel 1 (arg 0 a)).int))
end Go.Sx

namespace Go.Sx
/-! ### function 27: control.declared -/
def ct27 : Ct := { ps := [(true, [.int .i64, .int .i64]), (false, [.int .i64]), (false, [.int .i64])], rs := [(false, [.bool])], pre := fun _ => True, out := fun a => [[.b (Sp.decl (cel 0 (arg 0 a)).int (cel 1 (arg 0 a)).int (cel 0 (arg 1 a)).int (cel 0 (arg 2 a)).int)]] }
def tb27 : List (Nat × Ct) := [(43, ct43)]
theorem e27 (n : Int) (d : Int) (k : Int) (j : Int) : vcF Go.Proofs.Try.prog (look tb27) (fun _ => false) (fun _ _ => LoopAnn.unroll 200) 6 27 [.agg [.int .i64 n, .int .i64 d], .int .i64 k, .int .i64 j] [] (fun sv heap => Gives [(false, [.bool])] [[.b (Sp.decl n d k j)]] sv heap) = (True ∧ (True → (Sp.poss n d = true → (bLe 0 k = true → (bLe k 4096 = true → (bLe 0 j = true → (bLe j 65536 = Sp.decl n d k j ∧ True) ∧ True) ∧ (bLe 0 j = false → (false = Sp.decl n d k j ∧ True) ∧ True)) ∧ (bLe k 4096 = false → (false = Sp.decl n d k j ∧ True) ∧ True)) ∧ (bLe 0 k = false → (false = Sp.decl n d k j ∧ True) ∧ True)) ∧ (Sp.poss n d = false → (false = Sp.decl n d k j ∧ True) ∧ True))) := by kernel_rfl
theorem v27 (n : Int) (d : Int) (k : Int) (j : Int) : Holds (Wfs [.agg [.int .i64 n, .int .i64 d], .int .i64 k, .int .i64 j] → True → vcF Go.Proofs.Try.prog (look tb27) (fun _ => false) (fun _ _ => LoopAnn.unroll 200) 6 27 [.agg [.int .i64 n, .int .i64 d], .int .i64 k, .int .i64 j] [] (fun sv heap => Gives [(false, [.bool])] [[.b (Sp.decl n d k j)]] sv heap)) := by
  refine ⟨fun hw hp => ?_⟩
  rw [e27]
  simp only [bLe, bEq, decide_eq_true_eq, decide_eq_false_iff_not, Sp.decl, and_true]
  cases hr : Sp.poss n d
  · simp
  · simp only [Bool.true_and, Bool.true_eq_false, false_implies, true_implies, and_true, true_and]
    repeat' (first | apply And.intro | intro _)
    all_goals (first | omega | (simp only [decide_eq_decide]; omega) | (symm; simp only [decide_eq_false_iff_not]; omega))
theorem s27 : SoundCt Go.Proofs.Try.prog 27 ct27 :=
  contractH followsMixed (look_sound (show Tb Go.Proofs.Try.prog tb27 from ⟨s43, trivial⟩)) (fun _ => false) (fun _ => fun _ _ => LoopAnn.unroll 200) 6 27 ct27 rfl (by simp [ct27]) fun a => Eq.mp (by kernel_rfl) (v27 ((cel 0 (arg 0 a)).int) ((cel 1 (arg 0 a)).int) ((cel 0 (arg 1 a)).int) ((cel 0 (arg 2 a)).int))
end Go.Sx

namespace Go.Sx
/-! ### function 30: ref18.given -/
def ct30 : Ct := { ps := [(true, [.int .i64, .int .i64]), (false, [.int .i64]), (false, [.int .i64])], rs := [(false, [.bool])], pre := fun _ => True, out := fun a => [[.b (Sp.decl (cel 0 (arg 0 a)).int (cel 1 (arg 0 a)).int (cel 0 (arg 1 a)).int (cel 0 (arg 2 a)).int)]] }
def tb30 : List (Nat × Ct) := [(39, ct39)]
theorem e30 (n : Int) (d : Int) (k : Int) (j : Int) : vcF Go.Proofs.Try.prog (look tb30) (fun _ => false) (fun _ _ => LoopAnn.unroll 200) 6 30 [.agg [.int .i64 n, .int .i64 d], .int .i64 k, .int .i64 j] [] (fun sv heap => Gives [(false, [.bool])] [[.b (Sp.decl n d k j)]] sv heap) = (True ∧ (True → (Sp.poss n d = true → (bLe 0 k = true → (bLe k 4096 = true → (bLe 0 j = true → (bLe j 65536 = Sp.decl n d k j ∧ True) ∧ True) ∧ (bLe 0 j = false → (false = Sp.decl n d k j ∧ True) ∧ True)) ∧ (bLe k 4096 = false → (false = Sp.decl n d k j ∧ True) ∧ True)) ∧ (bLe 0 k = false → (false = Sp.decl n d k j ∧ True) ∧ True)) ∧ (Sp.poss n d = false → (false = Sp.decl n d k j ∧ True) ∧ True))) := by kernel_rfl
theorem v30 (n : Int) (d : Int) (k : Int) (j : Int) : Holds (Wfs [.agg [.int .i64 n, .int .i64 d], .int .i64 k, .int .i64 j] → True → vcF Go.Proofs.Try.prog (look tb30) (fun _ => false) (fun _ _ => LoopAnn.unroll 200) 6 30 [.agg [.int .i64 n, .int .i64 d], .int .i64 k, .int .i64 j] [] (fun sv heap => Gives [(false, [.bool])] [[.b (Sp.decl n d k j)]] sv heap)) := by
  refine ⟨fun hw hp => ?_⟩
  rw [e30]
  simp only [bLe, bEq, decide_eq_true_eq, decide_eq_false_iff_not, Sp.decl, and_true]
  cases hr : Sp.poss n d
  · simp
  · simp only [Bool.true_and, Bool.true_eq_false, false_implies, true_implies, and_true, true_and]
    repeat' (first | apply And.intro | intro _)
    all_goals (first | omega | (simp only [decide_eq_decide]; omega) | (symm; simp only [decide_eq_false_iff_not]; omega))
theorem s30 : SoundCt Go.Proofs.Try.prog 30 ct30 :=
  contractH followsMixed (look_sound (show Tb Go.Proofs.Try.prog tb30 from ⟨s39, trivial⟩)) (fun _ => false) (fun _ => fun _ _ => LoopAnn.unroll 200) 6 30 ct30 rfl (by simp [ct30]) fun a => Eq.mp (by kernel_rfl) (v30 ((cel 0 (arg 0 a)).int) ((cel 1 (arg 0 a)).int) ((cel 0 (arg 1 a)).int) ((cel 0 (arg 2 a)).int))
end Go.Sx

namespace Go.Sx
/-! ### function 28: control.up -/
def ct28 : Ct := { ps := [(false, [.int .i64]), (false, [.int .i64])], rs := [(false, [.int .i64])], pre := fun a => 0 ≤ (cel 0 (arg 0 a)).int ∧ 1 ≤ (cel 0 (arg 1 a)).int ∧ (cel 0 (arg 0 a)).int + (cel 0 (arg 1 a)).int ≤ 9223372036854775807, out := fun a => [[.i (Sp.up (cel 0 (arg 0 a)).int (cel 0 (arg 1 a)).int)]] }
def tb28 : List (Nat × Ct) := []
theorem e28 (p : Int) (q : Int) : vcF Go.Proofs.Try.prog (look tb28) (fun _ => false) (fun _ _ => LoopAnn.unroll 200) 6 28 [.int .i64 p, .int .i64 q] [] (fun sv heap => Gives [(false, [.int .i64])] [[.i (Sp.up p q)]] sv heap) = (InR IntKind.i64 (iAdd p q) ∧ InR IntKind.i64 (iSub (iAdd p q) 1) ∧ (pNe q 0 ∧ InR IntKind.i64 (iQuo (iSub (iAdd p q) 1) q)) ∧ (iQuo (iSub (iAdd p q) 1) q = Sp.up p q ∧ True) ∧ True) := by kernel_rfl
theorem v28 (p : Int) (q : Int) : Holds (Wfs [.int .i64 p, .int .i64 q] → 0 ≤ p ∧ 1 ≤ q ∧ p + q ≤ 9223372036854775807 → vcF Go.Proofs.Try.prog (look tb28) (fun _ => false) (fun _ _ => LoopAnn.unroll 200) 6 28 [.int .i64 p, .int .i64 q] [] (fun sv heap => Gives [(false, [.int .i64])] [[.i (Sp.up p q)]] sv heap)) := by
  refine ⟨fun hw hp => ?_⟩
  rw [e28]
  simp only [iAdd, iSub, iQuo, InR, pNe, Sp.up, and_true]
  have e : (p + q - 1).tdiv q = (p + q - 1) / q := Int.tdiv_eq_ediv_of_nonneg (by omega)
  rw [e]
  have h0 : 0 ≤ (p + q - 1) / q := Int.ediv_nonneg (by omega) (by omega)
  have h1 : (p + q - 1) / q ≤ p + q - 1 := Int.ediv_le_self _ (by omega)
  omega
theorem s28 : SoundCt Go.Proofs.Try.prog 28 ct28 :=
  contractH followsMixed (look_sound (show Tb Go.Proofs.Try.prog tb28 from trivial)) (fun _ => false) (fun _ => fun _ _ => LoopAnn.unroll 200) 6 28 ct28 rfl (by simp [ct28]) fun a => Eq.mp (by kernel_rfl) (v28 ((cel 0 (arg 0 a)).int) ((cel 0 (arg 1 a)).int))
end Go.Sx

namespace Go.Sx
/-! ### function 31: ref18.up -/
def ct31 : Ct := { ps := [(false, [.int .i64]), (false, [.int .i64])], rs := [(false, [.int .i64])], pre := fun a => 0 ≤ (cel 0 (arg 0 a)).int ∧ 1 ≤ (cel 0 (arg 1 a)).int ∧ (cel 0 (arg 0 a)).int + (cel 0 (arg 1 a)).int ≤ 9223372036854775807, out := fun a => [[.i (Sp.up (cel 0 (arg 0 a)).int (cel 0 (arg 1 a)).int)]] }
def tb31 : List (Nat × Ct) := []
theorem e31 (p : Int) (q : Int) : vcF Go.Proofs.Try.prog (look tb31) (fun _ => false) (fun _ _ => LoopAnn.unroll 200) 6 31 [.int .i64 p, .int .i64 q] [] (fun sv heap => Gives [(false, [.int .i64])] [[.i (Sp.up p q)]] sv heap) = (InR IntKind.i64 (iAdd p q) ∧ InR IntKind.i64 (iSub (iAdd p q) 1) ∧ (pNe q 0 ∧ InR IntKind.i64 (iQuo (iSub (iAdd p q) 1) q)) ∧ (iQuo (iSub (iAdd p q) 1) q = Sp.up p q ∧ True) ∧ True) := by kernel_rfl
theorem v31 (p : Int) (q : Int) : Holds (Wfs [.int .i64 p, .int .i64 q] → 0 ≤ p ∧ 1 ≤ q ∧ p + q ≤ 9223372036854775807 → vcF Go.Proofs.Try.prog (look tb31) (fun _ => false) (fun _ _ => LoopAnn.unroll 200) 6 31 [.int .i64 p, .int .i64 q] [] (fun sv heap => Gives [(false, [.int .i64])] [[.i (Sp.up p q)]] sv heap)) := by
  refine ⟨fun hw hp => ?_⟩
  rw [e31]
  simp only [iAdd, iSub, iQuo, InR, pNe, Sp.up, and_true]
  have e : (p + q - 1).tdiv q = (p + q - 1) / q := Int.tdiv_eq_ediv_of_nonneg (by omega)
  rw [e]
  have h0 : 0 ≤ (p + q - 1) / q := Int.ediv_nonneg (by omega) (by omega)
  have h1 : (p + q - 1) / q ≤ p + q - 1 := Int.ediv_le_self _ (by omega)
  omega
theorem s31 : SoundCt Go.Proofs.Try.prog 31 ct31 :=
  contractH followsMixed (look_sound (show Tb Go.Proofs.Try.prog tb31 from trivial)) (fun _ => false) (fun _ => fun _ _ => LoopAnn.unroll 200) 6 31 ct31 rfl (by simp [ct31]) fun a => Eq.mp (by kernel_rfl) (v31 ((cel 0 (arg 0 a)).int) ((cel 0 (arg 1 a)).int))
end Go.Sx

namespace Go.Sx
/-! ### function 29: control.wobble -/
def ct29 : Ct := { ps := [(true, [.int .i64, .int .i64]), (false, [.int .i64])], rs := [(false, [.int .i64])], pre := fun a => 1 ≤ (cel 0 (arg 0 a)).int ∧ 1 ≤ (cel 1 (arg 0 a)).int ∧ (cel 1 (arg 0 a)).int ≤ 768000 ∧ (cel 0 (arg 0 a)).int ≤ (cel 1 (arg 0 a)).int * 64 * 8192 ∧ 0 ≤ (cel 0 (arg 1 a)).int ∧ (cel 0 (arg 1 a)).int ≤ 8192, out := fun a => [[.i (Sp.wob (cel 0 (arg 0 a)).int (cel 1 (arg 0 a)).int (cel 0 (arg 1 a)).int)]] }
def tb29 : List (Nat × Ct) := [(28, ct28)]
theorem e29 (n : Int) (d : Int) (k : Int) : vcF Go.Proofs.Try.prog (look tb29) (fun _ => false) (fun _ _ => LoopAnn.unroll 200) 6 29 [.agg [.int .i64 n, .int .i64 d], .int .i64 k] [] (fun sv heap => Gives [(false, [.int .i64])] [[.i (Sp.wob n d k)]] sv heap) = (InR IntKind.i64 (iMul 2 k) ∧ InR IntKind.i64 (iMul (iMul 2 k) n) ∧ InR IntKind.i64 (iMul 65536 d) ∧ (0 ≤ iMul (iMul 2 k) n ∧ 1 ≤ iMul 65536 d ∧ iMul (iMul 2 k) n + iMul 65536 d ≤ 9223372036854775807) ∧ (InR IntKind.i64 (Sp.up (iMul (iMul 2 k) n) (iMul 65536 d)) → (Sp.up (iMul (iMul 2 k) n) (iMul 65536 d) = Sp.wob n d k ∧ True) ∧ True)) := by kernel_rfl
theorem v29 (n : Int) (d : Int) (k : Int) : Holds (Wfs [.agg [.int .i64 n, .int .i64 d], .int .i64 k] → 1 ≤ n ∧ 1 ≤ d ∧ d ≤ 768000 ∧ n ≤ d * 64 * 8192 ∧ 0 ≤ k ∧ k ≤ 8192 → vcF Go.Proofs.Try.prog (look tb29) (fun _ => false) (fun _ _ => LoopAnn.unroll 200) 6 29 [.agg [.int .i64 n, .int .i64 d], .int .i64 k] [] (fun sv heap => Gives [(false, [.int .i64])] [[.i (Sp.wob n d k)]] sv heap)) := by
  refine ⟨fun hw hp => ?_⟩
  rw [e29]
  simp only [iMul, InR, Sp.wob, and_true]
  have hb := mul_bd (x := 2 * k) (X := 16384) (y := n) (Y := 402653184000) (by omega) (by omega) (by omega) (by omega)
  exact ⟨by omega, by omega, by omega, by omega, fun _ => by first | trivial | rfl⟩
theorem s29 : SoundCt Go.Proofs.Try.prog 29 ct29 :=
  contractH followsMixed (look_sound (show Tb Go.Proofs.Try.prog tb29 from ⟨s28, trivial⟩)) (fun _ => false) (fun _ => fun _ _ => LoopAnn.unroll 200) 6 29 ct29 rfl (by simp [ct29]) fun a => Eq.mp (by kernel_rfl) (v29 ((cel 0 (arg 0 a)).int) ((cel 1 (arg 0 a)).int) ((cel 0 (arg 1 a)).int))
end Go.Sx

namespace Go.Sx
/-! ### function 32: ref18.sway -/
def ct32 : Ct := { ps := [(true, [.int .i64, .int .i64]), (false, [.int .i64])], rs := [(false, [.int .i64])], pre := fun a => 1 ≤ (cel 0 (arg 0 a)).int ∧ 1 ≤ (cel 1 (arg 0 a)).int ∧ (cel 1 (arg 0 a)).int ≤ 768000 ∧ (cel 0 (arg 0 a)).int ≤ (cel 1 (arg 0 a)).int * 64 * 8192 ∧ 0 ≤ (cel 0 (arg 1 a)).int ∧ (cel 0 (arg 1 a)).int ≤ 8192, out := fun a => [[.i (Sp.wob (cel 0 (arg 0 a)).int (cel 1 (arg 0 a)).int (cel 0 (arg 1 a)).int)]] }
def tb32 : List (Nat × Ct) := [(31, ct31)]
theorem e32 (n : Int) (d : Int) (k : Int) : vcF Go.Proofs.Try.prog (look tb32) (fun _ => false) (fun _ _ => LoopAnn.unroll 200) 6 32 [.agg [.int .i64 n, .int .i64 d], .int .i64 k] [] (fun sv heap => Gives [(false, [.int .i64])] [[.i (Sp.wob n d k)]] sv heap) = (InR IntKind.i64 (iMul 2 n) ∧ InR IntKind.i64 (iMul (iMul 2 n) k) ∧ InR IntKind.i64 (iMul d 65536) ∧ (0 ≤ iMul (iMul 2 n) k ∧ 1 ≤ iMul d 65536 ∧ iMul (iMul 2 n) k + iMul d 65536 ≤ 9223372036854775807) ∧ (InR IntKind.i64 (Sp.up (iMul (iMul 2 n) k) (iMul d 65536)) → (Sp.up (iMul (iMul 2 n) k) (iMul d 65536) = Sp.wob n d k ∧ True) ∧ True)) := by kernel_rfl
theorem v32 (n : Int) (d : Int) (k : Int) : Holds (Wfs [.agg [.int .i64 n, .int .i64 d], .int .i64 k] → 1 ≤ n ∧ 1 ≤ d ∧ d ≤ 768000 ∧ n ≤ d * 64 * 8192 ∧ 0 ≤ k ∧ k ≤ 8192 → vcF Go.Proofs.Try.prog (look tb32) (fun _ => false) (fun _ _ => LoopAnn.unroll 200) 6 32 [.agg [.int .i64 n, .int .i64 d], .int .i64 k] [] (fun sv heap => Gives [(false, [.int .i64])] [[.i (Sp.wob n d k)]] sv heap)) := by
  refine ⟨fun hw hp => ?_⟩
  rw [e32]
  simp only [iMul, InR, Sp.wob, and_true]
  have hb := mul_bd (x := 2 * k) (X := 16384) (y := n) (Y := 402653184000) (by omega) (by omega) (by omega) (by omega)
  rw [Int.mul_right_comm 2 n k, Int.mul_comm d 65536]
  exact ⟨by omega, by omega, by omega, by omega, fun _ => by first | trivial | rfl⟩
theorem s32 : SoundCt Go.Proofs.Try.prog 32 ct32 :=
  contractH followsMixed (look_sound (show Tb Go.Proofs.Try.prog tb32 from ⟨s31, trivial⟩)) (fun _ => false) (fun _ => fun _ _ => LoopAnn.unroll 200) 6 32 ct32 rfl (by simp [ct32]) fun a => Eq.mp (by kernel_rfl) (v32 ((cel 0 (arg 0 a)).int) ((cel 1 (arg 0 a)).int) ((cel 0 (arg 1 a)).int))
end Go.Sx

