/- Contracts and conditions, continued. -/
import Derived.Test.YtfdpnjjlhbpbiaaSxUse
import Derived.Test.YtfdpnjjlhbpbiaaC03g
import Derived.KernelRfl
set_option linter.unusedVariables false
set_option linter.unusedSimpArgs false
set_option maxRecDepth 100000
set_option maxHeartbeats 4000000

namespace Go
open Go.Sx
theorem Sp.madeM (p q : Int) {M : Int} (h0 : 0 < M) (h1 : M ≤ 68719476736) : 1 ≤ Sp.mA (p.tmod M) (q.tmod M) ∧ Sp.mA (p.tmod M) (q.tmod M) ≤ M ∧ 1 ≤ Sp.mB (p.tmod M) (q.tmod M) ∧ Sp.mB (p.tmod M) (q.tmod M) ≤ M ∧ Sp.rvalid (Sp.mA (p.tmod M) (q.tmod M)) (Sp.mB (p.tmod M) (q.tmod M)) = true := by
  have a := rem_bd p (b := M) h0
  have b := rem_bd q (b := M) h0
  generalize p.tmod M = x at *
  generalize q.tmod M = y at *
  have t : ∀ z : Int, -M < z → z < M → Sp.trm z ≤ M := by
    intro z h2 h3
    have e : z.tmod 68719476736 = z := by
      rcases Int.lt_or_le z 0 with h | h
      · have := Int.tmod_eq_of_lt (a := -z) (b := 68719476736) (by omega) (by omega)
        rw [Int.neg_tmod] at this; omega
      · exact Int.tmod_eq_of_lt h (by omega)
    unfold Sp.trm Sp.ab
    rw [e]; split <;> omega
  have m := Sp.made_bd x y
  have tx := Sp.trm_bd x
  have ty := Sp.trm_bd y
  have g := Sp.gcd_quo (a := Sp.trm x) (b := Sp.trm y) tx.1 ty.1
  have e1 : Sp.mA x y ≤ Sp.trm x := g.2.1
  have e2 : Sp.mB x y ≤ Sp.trm y := g.2.2.2
  have u := t x (by omega) (by omega)
  have v := t y (by omega) (by omega)
  exact ⟨m.1, by omega, m.2.2.1, by omega, m.2.2.2.2⟩
theorem Sp.mulr {k a b : Int} (L : Int) (hv : Sp.rvalid a b = true) (hk1 : -1125899906842624 ≤ k) (hk2 : k ≤ 1125899906842624) (h1 : -L ≤ k * a) (h2 : k * a ≤ L) (hL : L ≤ 4611686018427387904) :
    Sp.floE k a b = 0 ∧ Sp.floV k a b = Sp.flo k a b ∧ Sp.resV k a b = Sp.res k a b ∧ Sp.ceiE k a b = 0 ∧ Sp.ceiV k a b = Sp.cei k a b ∧ Sp.flo k a b * b + Sp.res k a b = k * a ∧ 0 ≤ Sp.res k a b ∧ Sp.res k a b < b ∧
    (Sp.res k a b = 0 → Sp.cei k a b = Sp.flo k a b) ∧ (Sp.res k a b ≠ 0 → Sp.cei k a b = Sp.flo k a b + 1) ∧ -L ≤ Sp.flo k a b ∧ Sp.flo k a b ≤ L ∧ -L ≤ Sp.cei k a b ∧ Sp.cei k a b ≤ L := by
  have r := Sp.rvalid_of hv
  have hb : 0 < b := by omega
  have c : Sp.chk k a b = 0 := by
    unfold Sp.chk
    rw [if_neg (by simp [hv]), if_neg (by omega)]
  have f := Sp.floI c
  have g := Sp.ceiI c
  have w := Sp.cei_flo (n := k) (a := a) (b := b) (by omega)
  have m : Sp.flo k a b * b + Sp.res k a b = k * a := Int.ediv_mul_add_emod ..
  have d1 : -L ≤ Sp.flo k a b := (Int.le_ediv_iff_mul_le hb).2 (by
    have : 0 ≤ L * (b - 1) := Int.mul_nonneg (by omega) (by omega)
    rw [Int.mul_sub] at this
    rw [Int.neg_mul]
    omega)
  have d2 : Sp.flo k a b ≤ L := by
    have : Sp.flo k a b < L + 1 := Int.ediv_lt_of_lt_mul hb (by
      have : 0 ≤ L * (b - 1) := Int.mul_nonneg (by omega) (by omega)
      rw [Int.mul_sub] at this
      rw [Int.add_mul]
      omega)
    omega
  have d3 : Sp.cei k a b ≤ L := by
    have : -L ≤ -k * a / b := (Int.le_ediv_iff_mul_le hb).2 (by
      have : 0 ≤ L * (b - 1) := Int.mul_nonneg (by omega) (by omega)
      rw [Int.mul_sub] at this
      rw [Int.neg_mul, Int.neg_mul]
      omega)
    unfold Sp.cei; omega
  have d4 : -L ≤ Sp.cei k a b := by
    rcases Int.lt_or_le (Sp.res k a b) 0 with _ | _
    · omega
    · by_cases h0 : Sp.res k a b = 0
      · rw [w.1 h0]; exact d1
      · rw [w.2.1 h0]; omega
  have f := f.1 (by omega)
  have g := g.1 (by omega)
  exact ⟨f.1, f.2.1, f.2.2.1, g.1, g.2, m, w.2.2.1, w.2.2.2, w.1, w.2.1, d1, d2, d4, d3⟩
theorem Sp.le_flo {m n a b : Int} (hb : 0 < b) : m ≤ Sp.flo n a b ↔ m * b ≤ n * a := Int.le_ediv_iff_mul_le hb
theorem Sp.cei_le {m n a b : Int} (hb : 0 < b) : Sp.cei m a b ≤ n ↔ m * a ≤ n * b := by
  have : -n ≤ -m * a / b ↔ -n * b ≤ -m * a := Int.le_ediv_iff_mul_le hb
  rw [Int.neg_mul, Int.neg_mul] at this
  unfold Sp.cei
  rw [Int.neg_mul]
  omega
theorem Sp.prod_bd {k a K M : Int} (h1 : -K ≤ k) (h2 : k ≤ K) (h3 : 0 ≤ a) (h4 : a ≤ M) : -(K * M) ≤ k * a ∧ k * a ≤ K * M := by
  have hK : 0 ≤ K := by omega
  have x1 : 0 ≤ K * (M - a) := Int.mul_nonneg hK (by omega)
  have x2 : 0 ≤ (K - k) * a := Int.mul_nonneg (by omega) h3
  have x3 : 0 ≤ (K + k) * a := Int.mul_nonneg (by omega) h3
  rw [Int.mul_sub] at x1
  rw [Int.sub_mul] at x2
  rw [Int.add_mul] at x3
  omega
theorem Sp.cei_of {n a b : Int} (h : Sp.ceiE n a b = 0) : Sp.ceiV n a b = Sp.cei n a b := by unfold Sp.ceiV; rw [if_pos h]
theorem Sp.flo_of {n a b : Int} (h : Sp.floE n a b = 0) : Sp.floV n a b = Sp.flo n a b := by unfold Sp.floV; rw [if_pos h]
theorem Sp.rvalid_swap {a b : Int} (h : Sp.rvalid a b = true) : Sp.rvalid b a = true := by
  have r := Sp.rvalid_of h
  have : Sp.gcd b a = Sp.gcd a b := by unfold Sp.gcd; rw [Int.gcd_comm]
  unfold Sp.rvalid
  rw [this]
  simp only [decide_eq_true_eq]; omega
theorem Sp.gcd_dvd {a b : Int} (h : 1 ≤ a) : a / Sp.gcd a b * Sp.gcd a b = a ∧ b / Sp.gcd a b * Sp.gcd a b = b := by
  exact ⟨Int.ediv_mul_cancel (Int.gcd_dvd_left ..), Int.ediv_mul_cancel (Int.gcd_dvd_right ..)⟩
theorem Sp.gcd_self {a : Int} (h : 1 ≤ a) : Sp.gcd a a = a := by
  unfold Sp.gcd
  rw [Int.gcd_self]; omega
theorem Sp.mul_inv {a b : Int} (h1 : 1 ≤ a) (h2 : 1 ≤ b) : Sp.mulX a b b a = 1 ∧ Sp.mulY a b b a = 1 := by
  unfold Sp.mulX Sp.mulY
  rw [Sp.gcd_self h1, Sp.gcd_self h2, Int.ediv_self (by omega), Int.ediv_self (by omega)]
  exact ⟨rfl, rfl⟩
theorem Sp.mul_comm' (a b c d : Int) : Sp.mulX c d a b = Sp.mulX a b c d ∧ Sp.mulY c d a b = Sp.mulY a b c d := by
  unfold Sp.mulX Sp.mulY
  exact ⟨Int.mul_comm .., Int.mul_comm ..⟩
theorem Sp.mul_val {a b c d : Int} (h1 : 1 ≤ a) (h2 : 1 ≤ c) : Sp.mulX a b c d * (Sp.gcd a d * Sp.gcd c b) = a * c ∧ Sp.mulY a b c d * (Sp.gcd a d * Sp.gcd c b) = b * d := by
  have e1 := Sp.gcd_dvd (a := a) (b := d) h1
  have e2 := Sp.gcd_dvd (a := c) (b := b) h2
  unfold Sp.mulX Sp.mulY
  constructor
  · rw [show a / Sp.gcd a d * (c / Sp.gcd c b) * (Sp.gcd a d * Sp.gcd c b) = (a / Sp.gcd a d * Sp.gcd a d) * (c / Sp.gcd c b * Sp.gcd c b) by ac_rfl, e1.1, e2.1]
  · rw [show b / Sp.gcd c b * (d / Sp.gcd a d) * (Sp.gcd a d * Sp.gcd c b) = (b / Sp.gcd c b * Sp.gcd c b) * (d / Sp.gcd a d * Sp.gcd a d) by ac_rfl, e1.2, e2.2]
/-- Rounding twice gives no more than rounding once. -/
theorem Sp.chain {m a b c d : Int} (ha : 1 ≤ a) (hb : 1 ≤ b) (hc : 1 ≤ c) (hd : 1 ≤ d) : Sp.flo (Sp.flo m a b) c d ≤ Sp.flo m (Sp.mulX a b c d) (Sp.mulY a b c d) := by
  have v := Sp.mul_val (a := a) (b := b) (c := c) (d := d) ha hc
  have g1 := Sp.gcd_pos (a := a) (b := d) ha
  have g2 := Sp.gcd_pos (a := c) (b := b) hc
  have hg : 0 < Sp.gcd a d * Sp.gcd c b := Int.mul_pos (by omega) (by omega)
  have hY : 0 < Sp.mulY a b c d := Int.mul_pos (by have := Sp.gcd_quo (a := c) (b := b) hc hb; omega) (by have := Sp.gcd_quo (a := a) (b := d) ha hd; omega)
  rw [Sp.le_flo hY]
  have l1 : Sp.flo (Sp.flo m a b) c d * d ≤ Sp.flo m a b * c := (Sp.le_flo (by omega)).1 (Int.le_refl _)
  have l2 : Sp.flo m a b * b ≤ m * a := (Sp.le_flo (by omega)).1 (Int.le_refl _)
  generalize Sp.flo (Sp.flo m a b) c d = u at *
  generalize Sp.flo m a b = i at *
  have k1 : u * d * b ≤ i * c * b := Int.mul_le_mul_of_nonneg_right l1 (by omega)
  have k2 : i * b * c ≤ m * a * c := Int.mul_le_mul_of_nonneg_right l2 (by omega)
  refine Int.le_of_mul_le_mul_right (a := Sp.gcd a d * Sp.gcd c b) ?_ hg
  rw [Int.mul_assoc, v.2, Int.mul_assoc, v.1]
  rw [show u * (b * d) = u * d * b by ac_rfl, show m * (a * c) = m * a * c by ac_rfl]
  rw [show i * b * c = i * c * b by ac_rfl] at k2
  omega
/-- Rounded multiples add up but for one. -/
theorem Sp.add_flo {m n a b : Int} (hb : 1 ≤ b) : Sp.flo (m + n) a b - Sp.flo m a b - Sp.flo n a b = 0 ∨ Sp.flo (m + n) a b - Sp.flo m a b - Sp.flo n a b = 1 := by
  have e1 : Sp.flo m a b * b + Sp.res m a b = m * a := Int.ediv_mul_add_emod ..
  have e2 : Sp.flo n a b * b + Sp.res n a b = n * a := Int.ediv_mul_add_emod ..
  have e3 : Sp.flo (m + n) a b * b + Sp.res (m + n) a b = (m + n) * a := Int.ediv_mul_add_emod ..
  have w1 := Sp.cei_flo (n := m) (a := a) (b := b) (by omega)
  have w2 := Sp.cei_flo (n := n) (a := a) (b := b) (by omega)
  have w3 := Sp.cei_flo (n := m + n) (a := a) (b := b) (by omega)
  rw [Int.add_mul] at e3
  generalize Sp.flo (m + n) a b = k at *
  generalize Sp.flo m a b = i at *
  generalize Sp.flo n a b = j at *
  have e : (k - i - j) * b = k * b - i * b - j * b := by rw [Int.sub_mul, Int.sub_mul]
  have u1 : (-1) * b < (k - i - j) * b := by omega
  have u2 : (k - i - j) * b < 2 * b := by omega
  have v1 := Int.lt_of_mul_lt_mul_right u1 (by omega)
  have v2 := Int.lt_of_mul_lt_mul_right u2 (by omega)
  omega
theorem Sp.flo_mono {n a b c d : Int} (hb : 1 ≤ b) (hd : 1 ≤ d) (hn : 0 ≤ n) (h : a * d ≤ c * b) : Sp.flo n a b ≤ Sp.flo n c d := by
  rw [Sp.le_flo (by omega)]
  have l : Sp.flo n a b * b ≤ n * a := (Sp.le_flo (by omega)).1 (Int.le_refl _)
  generalize Sp.flo n a b = q at *
  have k1 : q * b * d ≤ n * a * d := Int.mul_le_mul_of_nonneg_right l (by omega)
  have k2 : n * (a * d) ≤ n * (c * b) := Int.mul_le_mul_of_nonneg_left h hn
  refine Int.le_of_mul_le_mul_right (a := b) ?_ (by omega)
  rw [show q * d * b = q * b * d by ac_rfl, show n * c * b = n * (c * b) by ac_rfl]
  rw [Int.mul_assoc n] at k1
  omega
theorem Sp.cross {a b c d : Int} (h : Sp.rvalid a b = true) (h' : Sp.rvalid c d = true) (e : a * d = c * b) : a = c ∧ b = d := by
  have r := Sp.rvalid_of h
  have s := Sp.rvalid_of h'
  have c1 : Nat.Coprime a.natAbs b.natAbs := by have := r.2.2.2.2; unfold Sp.gcd Int.gcd at this; show Nat.gcd _ _ = 1; omega
  have c2 : Nat.Coprime c.natAbs d.natAbs := by have := s.2.2.2.2; unfold Sp.gcd Int.gcd at this; show Nat.gcd _ _ = 1; omega
  have en : a.natAbs * d.natAbs = c.natAbs * b.natAbs := by rw [← Int.natAbs_mul, ← Int.natAbs_mul, e]
  have d1 : a ∣ c := Int.natAbs_dvd_natAbs.1 (c1.dvd_of_dvd_mul_right ⟨d.natAbs, en.symm⟩)
  have d2 : c ∣ a := Int.natAbs_dvd_natAbs.1 (c2.dvd_of_dvd_mul_right ⟨b.natAbs, en⟩)
  have e1 : a = c := Int.le_antisymm (Int.le_of_dvd (by omega) d1) (Int.le_of_dvd (by omega) d2)
  subst e1
  exact ⟨rfl, (Int.eq_of_mul_eq_mul_left (by omega) e).symm⟩
end Go

namespace Go.Sx
/-! ### function 5: law03.RatioDivides -/
def tb5 : List (Nat × Ct) := [(10, ct10), (15, ct15), (16, ct16), (20, ct20), (18, ct18)]
theorem e5 (n : Int) (p : Int) (q : Int) : vcF Go.Proofs.Try.prog (look tb5) (fun _ => false) (fun _ _ => LoopAnn.unroll 200) 8 5 [.int .i64 n, .int .i64 p, .int .i64 q] [] (fun sv _ => isTrue sv) = (True ∧ (True → True ∧ (bNot true = true → false = true) ∧ (bNot true = false → pNe 1048576 0 ∧ pNe 1048576 0 ∧ pNe 1048576 0 ∧ True ∧ (InR IntKind.i64 (Sp.mA (iRem p 1048576) (iRem q 1048576)) ∧ InR IntKind.i64 (Sp.mB (iRem p 1048576) (iRem q 1048576)) ∧ True → True ∧ (InR IntKind.i64 (Sp.floV (iRem n 1048576) (Sp.mA (iRem p 1048576) (iRem q 1048576)) (Sp.mB (iRem p 1048576) (iRem q 1048576))) ∧ InR IntKind.i64 (Sp.floE (iRem n 1048576) (Sp.mA (iRem p 1048576) (iRem q 1048576)) (Sp.mB (iRem p 1048576) (iRem q 1048576))) ∧ True → True ∧ (InR IntKind.i64 (Sp.resV (iRem n 1048576) (Sp.mA (iRem p 1048576) (iRem q 1048576)) (Sp.mB (iRem p 1048576) (iRem q 1048576))) ∧ InR IntKind.i64 (Sp.floE (iRem n 1048576) (Sp.mA (iRem p 1048576) (iRem q 1048576)) (Sp.mB (iRem p 1048576) (iRem q 1048576))) ∧ True → True ∧ (InR IntKind.i64 (Sp.ceiV (iRem n 1048576) (Sp.mA (iRem p 1048576) (iRem q 1048576)) (Sp.mB (iRem p 1048576) (iRem q 1048576))) ∧ InR IntKind.i64 (Sp.ceiE (iRem n 1048576) (Sp.mA (iRem p 1048576) (iRem q 1048576)) (Sp.mB (iRem p 1048576) (iRem q 1048576))) ∧ True → (bEq (Sp.floE (iRem n 1048576) (Sp.mA (iRem p 1048576) (iRem q 1048576)) (Sp.mB (iRem p 1048576) (iRem q 1048576))) 0 = true → (bEq (Sp.floE (iRem n 1048576) (Sp.mA (iRem p 1048576) (iRem q 1048576)) (Sp.mB (iRem p 1048576) (iRem q 1048576))) 0 = true → (bEq (Sp.ceiE (iRem n 1048576) (Sp.mA (iRem p 1048576) (iRem q 1048576)) (Sp.mB (iRem p 1048576) (iRem q 1048576))) 0 = true → InR IntKind.i64 (iMul (Sp.floV (iRem n 1048576) (Sp.mA (iRem p 1048576) (iRem q 1048576)) (Sp.mB (iRem p 1048576) (iRem q 1048576))) (Sp.mB (iRem p 1048576) (iRem q 1048576))) ∧ InR IntKind.i64 (iAdd (iMul (Sp.floV (iRem n 1048576) (Sp.mA (iRem p 1048576) (iRem q 1048576)) (Sp.mB (iRem p 1048576) (iRem q 1048576))) (Sp.mB (iRem p 1048576) (iRem q 1048576))) (Sp.resV (iRem n 1048576) (Sp.mA (iRem p 1048576) (iRem q 1048576)) (Sp.mB (iRem p 1048576) (iRem q 1048576)))) ∧ InR IntKind.i64 (iMul (iRem n 1048576) (Sp.mA (iRem p 1048576) (iRem q 1048576))) ∧ (bEq (iAdd (iMul (Sp.floV (iRem n 1048576) (Sp.mA (iRem p 1048576) (iRem q 1048576)) (Sp.mB (iRem p 1048576) (iRem q 1048576))) (Sp.mB (iRem p 1048576) (iRem q 1048576))) (Sp.resV (iRem n 1048576) (Sp.mA (iRem p 1048576) (iRem q 1048576)) (Sp.mB (iRem p 1048576) (iRem q 1048576)))) (iMul (iRem n 1048576) (Sp.mA (iRem p 1048576) (iRem q 1048576))) = true → (bLe 0 (Sp.resV (iRem n 1048576) (Sp.mA (iRem p 1048576) (iRem q 1048576)) (Sp.mB (iRem p 1048576) (iRem q 1048576))) = true → (bLt (Sp.resV (iRem n 1048576) (Sp.mA (iRem p 1048576) (iRem q 1048576)) (Sp.mB (iRem p 1048576) (iRem q 1048576))) (Sp.mB (iRem p 1048576) (iRem q 1048576)) = true → (bEq (Sp.resV (iRem n 1048576) (Sp.mA (iRem p 1048576) (iRem q 1048576)) (Sp.mB (iRem p 1048576) (iRem q 1048576))) 0 = true → (bEq (Sp.ceiV (iRem n 1048576) (Sp.mA (iRem p 1048576) (iRem q 1048576)) (Sp.mB (iRem p 1048576) (iRem q 1048576))) (Sp.floV (iRem n 1048576) (Sp.mA (iRem p 1048576) (iRem q 1048576)) (Sp.mB (iRem p 1048576) (iRem q 1048576))) = false → (bLt 0 (Sp.resV (iRem n 1048576) (Sp.mA (iRem p 1048576) (iRem q 1048576)) (Sp.mB (iRem p 1048576) (iRem q 1048576))) = true → InR IntKind.i64 (iAdd (Sp.floV (iRem n 1048576) (Sp.mA (iRem p 1048576) (iRem q 1048576)) (Sp.mB (iRem p 1048576) (iRem q 1048576))) 1) ∧ bEq (Sp.ceiV (iRem n 1048576) (Sp.mA (iRem p 1048576) (iRem q 1048576)) (Sp.mB (iRem p 1048576) (iRem q 1048576))) (iAdd (Sp.floV (iRem n 1048576) (Sp.mA (iRem p 1048576) (iRem q 1048576)) (Sp.mB (iRem p 1048576) (iRem q 1048576))) 1) = true) ∧ (bLt 0 (Sp.resV (iRem n 1048576) (Sp.mA (iRem p 1048576) (iRem q 1048576)) (Sp.mB (iRem p 1048576) (iRem q 1048576))) = false → false = true)) ∧ (bEq (Sp.ceiV (iRem n 1048576) (Sp.mA (iRem p 1048576) (iRem q 1048576)) (Sp.mB (iRem p 1048576) (iRem q 1048576))) (Sp.floV (iRem n 1048576) (Sp.mA (iRem p 1048576) (iRem q 1048576)) (Sp.mB (iRem p 1048576) (iRem q 1048576))) = true → true = true)) ∧ (bEq (Sp.resV (iRem n 1048576) (Sp.mA (iRem p 1048576) (iRem q 1048576)) (Sp.mB (iRem p 1048576) (iRem q 1048576))) 0 = false → (bLt 0 (Sp.resV (iRem n 1048576) (Sp.mA (iRem p 1048576) (iRem q 1048576)) (Sp.mB (iRem p 1048576) (iRem q 1048576))) = true → InR IntKind.i64 (iAdd (Sp.floV (iRem n 1048576) (Sp.mA (iRem p 1048576) (iRem q 1048576)) (Sp.mB (iRem p 1048576) (iRem q 1048576))) 1) ∧ bEq (Sp.ceiV (iRem n 1048576) (Sp.mA (iRem p 1048576) (iRem q 1048576)) (Sp.mB (iRem p 1048576) (iRem q 1048576))) (iAdd (Sp.floV (iRem n 1048576) (Sp.mA (iRem p 1048576) (iRem q 1048576)) (Sp.mB (iRem p 1048576) (iRem q 1048576))) 1) = true) ∧ (bLt 0 (Sp.resV (iRem n 1048576) (Sp.mA (iRem p 1048576) (iRem q 1048576)) (Sp.mB (iRem p 1048576) (iRem q 1048576))) = false → false = true))) ∧ (bLt (Sp.resV (iRem n 1048576) (Sp.mA (iRem p 1048576) (iRem q 1048576)) (Sp.mB (iRem p 1048576) (iRem q 1048576))) (Sp.mB (iRem p 1048576) (iRem q 1048576)) = false → false = true)) ∧ (bLe 0 (Sp.resV (iRem n 1048576) (Sp.mA (iRem p 1048576) (iRem q 1048576)) (Sp.mB (iRem p 1048576) (iRem q 1048576))) = false → false = true)) ∧ (bEq (iAdd (iMul (Sp.floV (iRem n 1048576) (Sp.mA (iRem p 1048576) (iRem q 1048576)) (Sp.mB (iRem p 1048576) (iRem q 1048576))) (Sp.mB (iRem p 1048576) (iRem q 1048576))) (Sp.resV (iRem n 1048576) (Sp.mA (iRem p 1048576) (iRem q 1048576)) (Sp.mB (iRem p 1048576) (iRem q 1048576)))) (iMul (iRem n 1048576) (Sp.mA (iRem p 1048576) (iRem q 1048576))) = false → false = true)) ∧ (bEq (Sp.ceiE (iRem n 1048576) (Sp.mA (iRem p 1048576) (iRem q 1048576)) (Sp.mB (iRem p 1048576) (iRem q 1048576))) 0 = false → false = true)) ∧ (bEq (Sp.floE (iRem n 1048576) (Sp.mA (iRem p 1048576) (iRem q 1048576)) (Sp.mB (iRem p 1048576) (iRem q 1048576))) 0 = false → false = true)) ∧ (bEq (Sp.floE (iRem n 1048576) (Sp.mA (iRem p 1048576) (iRem q 1048576)) (Sp.mB (iRem p 1048576) (iRem q 1048576))) 0 = false → false = true)))))))) := by kernel_rfl
theorem v5 (n : Int) (p : Int) (q : Int) : Holds (Wfs [.int .i64 n, .int .i64 p, .int .i64 q] → True → vcF Go.Proofs.Try.prog (look tb5) (fun _ => false) (fun _ _ => LoopAnn.unroll 200) 8 5 [.int .i64 n, .int .i64 p, .int .i64 q] [] (fun sv _ => isTrue sv)) := by
  refine ⟨fun hw hp => ?_⟩
  rw [e5]
  simp only [Wfs, Wf, InR, and_true] at hw
  have M := Sp.madeM p q (M := 1048576) (by omega) (by omega)
  have K := rem_bd n (b := 1048576) (by omega)
  simp only [iRem]
  generalize Sp.mA (p.tmod 1048576) (q.tmod 1048576) = A at *
  generalize Sp.mB (p.tmod 1048576) (q.tmod 1048576) = B at *
  generalize n.tmod 1048576 = k at *
  have P := Sp.prod_bd (k := k) (a := A) (K := 1048576) (M := 1048576) (by omega) (by omega) (by omega) (by omega)
  obtain ⟨e1, e2, e3, e4, e5, h⟩ := Sp.mulr (1048576 * 1048576) M.2.2.2.2 (k := k) (by omega) (by omega) P.1 P.2 (by omega)
  rw [e1, e2, e3, e4, e5]
  simp only [iMul]
  generalize Sp.flo k A B * B = fB at *
  generalize k * A = kA at *
  generalize Sp.flo k A B = f at *
  generalize Sp.cei k A B = c at *
  generalize Sp.res k A B = r at *
  simp only [bNot, bEq, bLe, bLt, iAdd, pNe, InR, decide_eq_true_eq, decide_eq_false_iff_not, Bool.not_true, Bool.not_false, Bool.false_eq_true, Bool.true_eq_false, reduceCtorEq, false_implies, true_implies, implies_true, and_true, true_and]
  repeat' (first | apply And.intro | intro _)
  all_goals (first | trivial | omega | skip)
end Go.Sx

namespace Go.Sx
/-! ### function 6: law03.RatioGalois -/
def tb6 : List (Nat × Ct) := [(10, ct10), (15, ct15), (22, ct22), (16, ct16), (18, ct18)]
theorem e6 (m : Int) (n : Int) (p : Int) (q : Int) : vcF Go.Proofs.Try.prog (look tb6) (fun _ => false) (fun _ _ => LoopAnn.unroll 200) 8 6 [.int .i32 m, .int .i32 n, .int .i64 p, .int .i64 q] [] (fun sv _ => isTrue sv) = (True ∧ (True → True ∧ (bNot true = true → false = true) ∧ (bNot true = false → pNe 1048576 0 ∧ pNe 1048576 0 ∧ True ∧ (InR IntKind.i64 (Sp.mA (iRem p 1048576) (iRem q 1048576)) ∧ InR IntKind.i64 (Sp.mB (iRem p 1048576) (iRem q 1048576)) ∧ True → True ∧ ((InR IntKind.i64 (Sp.invV (Sp.mA (iRem p 1048576) (iRem q 1048576)) (Sp.mB (iRem p 1048576) (iRem q 1048576)) (Sp.mB (iRem p 1048576) (iRem q 1048576))) ∧ InR IntKind.i64 (Sp.invV (Sp.mA (iRem p 1048576) (iRem q 1048576)) (Sp.mB (iRem p 1048576) (iRem q 1048576)) (Sp.mA (iRem p 1048576) (iRem q 1048576))) ∧ True) ∧ InR IntKind.i64 (Sp.invE (Sp.mA (iRem p 1048576) (iRem q 1048576)) (Sp.mB (iRem p 1048576) (iRem q 1048576))) ∧ True → True ∧ (InR IntKind.i64 (Sp.floV n (Sp.mA (iRem p 1048576) (iRem q 1048576)) (Sp.mB (iRem p 1048576) (iRem q 1048576))) ∧ InR IntKind.i64 (Sp.floE n (Sp.mA (iRem p 1048576) (iRem q 1048576)) (Sp.mB (iRem p 1048576) (iRem q 1048576))) ∧ True → True ∧ (InR IntKind.i64 (Sp.ceiV m (Sp.invV (Sp.mA (iRem p 1048576) (iRem q 1048576)) (Sp.mB (iRem p 1048576) (iRem q 1048576)) (Sp.mB (iRem p 1048576) (iRem q 1048576))) (Sp.invV (Sp.mA (iRem p 1048576) (iRem q 1048576)) (Sp.mB (iRem p 1048576) (iRem q 1048576)) (Sp.mA (iRem p 1048576) (iRem q 1048576)))) ∧ InR IntKind.i64 (Sp.ceiE m (Sp.invV (Sp.mA (iRem p 1048576) (iRem q 1048576)) (Sp.mB (iRem p 1048576) (iRem q 1048576)) (Sp.mB (iRem p 1048576) (iRem q 1048576))) (Sp.invV (Sp.mA (iRem p 1048576) (iRem q 1048576)) (Sp.mB (iRem p 1048576) (iRem q 1048576)) (Sp.mA (iRem p 1048576) (iRem q 1048576)))) ∧ True → True ∧ (InR IntKind.i64 (Sp.ceiV (Sp.floV n (Sp.mA (iRem p 1048576) (iRem q 1048576)) (Sp.mB (iRem p 1048576) (iRem q 1048576))) (Sp.invV (Sp.mA (iRem p 1048576) (iRem q 1048576)) (Sp.mB (iRem p 1048576) (iRem q 1048576)) (Sp.mB (iRem p 1048576) (iRem q 1048576))) (Sp.invV (Sp.mA (iRem p 1048576) (iRem q 1048576)) (Sp.mB (iRem p 1048576) (iRem q 1048576)) (Sp.mA (iRem p 1048576) (iRem q 1048576)))) ∧ InR IntKind.i64 (Sp.ceiE (Sp.floV n (Sp.mA (iRem p 1048576) (iRem q 1048576)) (Sp.mB (iRem p 1048576) (iRem q 1048576))) (Sp.invV (Sp.mA (iRem p 1048576) (iRem q 1048576)) (Sp.mB (iRem p 1048576) (iRem q 1048576)) (Sp.mB (iRem p 1048576) (iRem q 1048576))) (Sp.invV (Sp.mA (iRem p 1048576) (iRem q 1048576)) (Sp.mB (iRem p 1048576) (iRem q 1048576)) (Sp.mA (iRem p 1048576) (iRem q 1048576)))) ∧ True → (bEq (Sp.invE (Sp.mA (iRem p 1048576) (iRem q 1048576)) (Sp.mB (iRem p 1048576) (iRem q 1048576))) 0 = true → (bEq (Sp.floE n (Sp.mA (iRem p 1048576) (iRem q 1048576)) (Sp.mB (iRem p 1048576) (iRem q 1048576))) 0 = true → (bEq (Sp.ceiE m (Sp.invV (Sp.mA (iRem p 1048576) (iRem q 1048576)) (Sp.mB (iRem p 1048576) (iRem q 1048576)) (Sp.mB (iRem p 1048576) (iRem q 1048576))) (Sp.invV (Sp.mA (iRem p 1048576) (iRem q 1048576)) (Sp.mB (iRem p 1048576) (iRem q 1048576)) (Sp.mA (iRem p 1048576) (iRem q 1048576)))) 0 = true → (bSame (bLe m (Sp.floV n (Sp.mA (iRem p 1048576) (iRem q 1048576)) (Sp.mB (iRem p 1048576) (iRem q 1048576)))) (bLe (Sp.ceiV m (Sp.invV (Sp.mA (iRem p 1048576) (iRem q 1048576)) (Sp.mB (iRem p 1048576) (iRem q 1048576)) (Sp.mB (iRem p 1048576) (iRem q 1048576))) (Sp.invV (Sp.mA (iRem p 1048576) (iRem q 1048576)) (Sp.mB (iRem p 1048576) (iRem q 1048576)) (Sp.mA (iRem p 1048576) (iRem q 1048576)))) n) = true → (bNe (Sp.ceiE (Sp.floV n (Sp.mA (iRem p 1048576) (iRem q 1048576)) (Sp.mB (iRem p 1048576) (iRem q 1048576))) (Sp.invV (Sp.mA (iRem p 1048576) (iRem q 1048576)) (Sp.mB (iRem p 1048576) (iRem q 1048576)) (Sp.mB (iRem p 1048576) (iRem q 1048576))) (Sp.invV (Sp.mA (iRem p 1048576) (iRem q 1048576)) (Sp.mB (iRem p 1048576) (iRem q 1048576)) (Sp.mA (iRem p 1048576) (iRem q 1048576)))) 0 = false → bLe (Sp.ceiV (Sp.floV n (Sp.mA (iRem p 1048576) (iRem q 1048576)) (Sp.mB (iRem p 1048576) (iRem q 1048576))) (Sp.invV (Sp.mA (iRem p 1048576) (iRem q 1048576)) (Sp.mB (iRem p 1048576) (iRem q 1048576)) (Sp.mB (iRem p 1048576) (iRem q 1048576))) (Sp.invV (Sp.mA (iRem p 1048576) (iRem q 1048576)) (Sp.mB (iRem p 1048576) (iRem q 1048576)) (Sp.mA (iRem p 1048576) (iRem q 1048576)))) n = true) ∧ (bNe (Sp.ceiE (Sp.floV n (Sp.mA (iRem p 1048576) (iRem q 1048576)) (Sp.mB (iRem p 1048576) (iRem q 1048576))) (Sp.invV (Sp.mA (iRem p 1048576) (iRem q 1048576)) (Sp.mB (iRem p 1048576) (iRem q 1048576)) (Sp.mB (iRem p 1048576) (iRem q 1048576))) (Sp.invV (Sp.mA (iRem p 1048576) (iRem q 1048576)) (Sp.mB (iRem p 1048576) (iRem q 1048576)) (Sp.mA (iRem p 1048576) (iRem q 1048576)))) 0 = true → true = true)) ∧ (bSame (bLe m (Sp.floV n (Sp.mA (iRem p 1048576) (iRem q 1048576)) (Sp.mB (iRem p 1048576) (iRem q 1048576)))) (bLe (Sp.ceiV m (Sp.invV (Sp.mA (iRem p 1048576) (iRem q 1048576)) (Sp.mB (iRem p 1048576) (iRem q 1048576)) (Sp.mB (iRem p 1048576) (iRem q 1048576))) (Sp.invV (Sp.mA (iRem p 1048576) (iRem q 1048576)) (Sp.mB (iRem p 1048576) (iRem q 1048576)) (Sp.mA (iRem p 1048576) (iRem q 1048576)))) n) = false → false = true)) ∧ (bEq (Sp.ceiE m (Sp.invV (Sp.mA (iRem p 1048576) (iRem q 1048576)) (Sp.mB (iRem p 1048576) (iRem q 1048576)) (Sp.mB (iRem p 1048576) (iRem q 1048576))) (Sp.invV (Sp.mA (iRem p 1048576) (iRem q 1048576)) (Sp.mB (iRem p 1048576) (iRem q 1048576)) (Sp.mA (iRem p 1048576) (iRem q 1048576)))) 0 = false → false = true)) ∧ (bEq (Sp.floE n (Sp.mA (iRem p 1048576) (iRem q 1048576)) (Sp.mB (iRem p 1048576) (iRem q 1048576))) 0 = false → false = true)) ∧ (bEq (Sp.invE (Sp.mA (iRem p 1048576) (iRem q 1048576)) (Sp.mB (iRem p 1048576) (iRem q 1048576))) 0 = false → false = true))))))))) := by kernel_rfl
theorem v6 (m : Int) (n : Int) (p : Int) (q : Int) : Holds (Wfs [.int .i32 m, .int .i32 n, .int .i64 p, .int .i64 q] → True → vcF Go.Proofs.Try.prog (look tb6) (fun _ => false) (fun _ _ => LoopAnn.unroll 200) 8 6 [.int .i32 m, .int .i32 n, .int .i64 p, .int .i64 q] [] (fun sv _ => isTrue sv)) := by
  refine ⟨fun hw hp => ?_⟩
  rw [e6]
  simp only [Wfs, Wf, InR, and_true] at hw
  have M := Sp.madeM p q (M := 1048576) (by omega) (by omega)
  simp only [iRem]
  generalize Sp.mA (p.tmod 1048576) (q.tmod 1048576) = A at *
  generalize Sp.mB (p.tmod 1048576) (q.tmod 1048576) = B at *
  have v := M.2.2.2.2
  have w := Sp.rvalid_swap v
  have i1 : Sp.invE A B = 0 := by unfold Sp.invE; rw [v]; rfl
  have i2 : Sp.invV A B B = B := by unfold Sp.invV; rw [v]; rfl
  have i3 : Sp.invV A B A = A := by unfold Sp.invV; rw [v]; rfl
  have P := Sp.prod_bd (k := n) (a := A) (K := 2147483648) (M := 1048576) (by omega) (by omega) (by omega) (by omega)
  have Q := Sp.prod_bd (k := m) (a := B) (K := 2147483648) (M := 1048576) (by omega) (by omega) (by omega) (by omega)
  obtain ⟨e1, e2, e3, e4, e5, h⟩ := Sp.mulr (2147483648 * 1048576) v (k := n) (by omega) (by omega) P.1 P.2 (by omega)
  obtain ⟨f1, f2, f3, f4, f5, g⟩ := Sp.mulr (2147483648 * 1048576) w (k := m) (by omega) (by omega) Q.1 Q.2 (by omega)
  have a1 := Sp.le_flo (m := m) (n := n) (a := A) (b := B) (by omega)
  have a2 := Sp.cei_le (m := m) (n := n) (a := B) (b := A) (by omega)
  have a3 := Sp.cei_le (m := Sp.flo n A B) (n := n) (a := B) (b := A) (by omega)
  have a4 := Sp.le_flo (m := Sp.flo n A B) (n := n) (a := A) (b := B) (by omega)
  have a5 := Sp.cei_of (n := Sp.flo n A B) (a := B) (b := A)
  simp only [i1, i2, i3, e1, e2, f4, f5]
  simp only [Int.le_refl, true_iff] at a4
  have a6 : Sp.ceiE (Sp.flo n A B) B A = 0 → Sp.ceiV (Sp.flo n A B) B A ≤ n := fun h => by rw [a5 h]; exact a3.2 a4
  generalize Sp.ceiE (Sp.flo n A B) B A = z1 at *
  generalize Sp.ceiV (Sp.flo n A B) B A = z2 at *
  have a7 : bSame (bLe m (Sp.flo n A B)) (bLe (Sp.cei m B A) n) = true := by
    have : m ≤ Sp.flo n A B ↔ Sp.cei m B A ≤ n := a1.trans a2.symm
    simp [bSame, bLe, this]
  simp only [bNot, bNe, Bool.not_eq_true', Bool.not_eq_false', bEq, pNe, a7, decide_eq_true_eq, decide_eq_false_iff_not, Bool.not_true, Bool.not_false, Bool.false_eq_true, Bool.true_eq_false, reduceCtorEq, false_implies, true_implies, implies_true, and_true, true_and, decide_true, not_true_eq_false]
  simp only [InR]
  repeat' (first | apply And.intro | intro _)
  all_goals (first | trivial | assumption | omega | (apply a6; assumption) | skip)
end Go.Sx

namespace Go.Sx
/-! ### function 7: law03.RatioChains -/
def tb7 : List (Nat × Ct) := [(10, ct10), (15, ct15), (23, ct23), (16, ct16)]
theorem e7 (m : Int) (n : Int) (p : Int) (q : Int) (c : Int) (d : Int) : vcF Go.Proofs.Try.prog (look tb7) (fun _ => false) (fun _ _ => LoopAnn.unroll 200) 8 7 [.int .u32 m, .int .u32 n, .int .i64 p, .int .i64 q, .int .i64 c, .int .i64 d] [] (fun sv _ => isTrue sv) = (True ∧ (True → True ∧ (bNot true = true → false = true) ∧ (bNot true = false → pNe 65536 0 ∧ pNe 65536 0 ∧ True ∧ (InR IntKind.i64 (Sp.mA (iRem p 65536) (iRem q 65536)) ∧ InR IntKind.i64 (Sp.mB (iRem p 65536) (iRem q 65536)) ∧ True → pNe 65536 0 ∧ pNe 65536 0 ∧ True ∧ (InR IntKind.i64 (Sp.mA (iRem c 65536) (iRem d 65536)) ∧ InR IntKind.i64 (Sp.mB (iRem c 65536) (iRem d 65536)) ∧ True → True ∧ ((InR IntKind.i64 (Sp.mulV (Sp.mA (iRem p 65536) (iRem q 65536)) (Sp.mB (iRem p 65536) (iRem q 65536)) (Sp.mA (iRem c 65536) (iRem d 65536)) (Sp.mB (iRem c 65536) (iRem d 65536)) (Sp.mulX (Sp.mA (iRem p 65536) (iRem q 65536)) (Sp.mB (iRem p 65536) (iRem q 65536)) (Sp.mA (iRem c 65536) (iRem d 65536)) (Sp.mB (iRem c 65536) (iRem d 65536)))) ∧ InR IntKind.i64 (Sp.mulV (Sp.mA (iRem p 65536) (iRem q 65536)) (Sp.mB (iRem p 65536) (iRem q 65536)) (Sp.mA (iRem c 65536) (iRem d 65536)) (Sp.mB (iRem c 65536) (iRem d 65536)) (Sp.mulY (Sp.mA (iRem p 65536) (iRem q 65536)) (Sp.mB (iRem p 65536) (iRem q 65536)) (Sp.mA (iRem c 65536) (iRem d 65536)) (Sp.mB (iRem c 65536) (iRem d 65536)))) ∧ True) ∧ InR IntKind.i64 (Sp.mulE (Sp.mA (iRem p 65536) (iRem q 65536)) (Sp.mB (iRem p 65536) (iRem q 65536)) (Sp.mA (iRem c 65536) (iRem d 65536)) (Sp.mB (iRem c 65536) (iRem d 65536))) ∧ True → True ∧ (InR IntKind.i64 (Sp.floV m (Sp.mA (iRem p 65536) (iRem q 65536)) (Sp.mB (iRem p 65536) (iRem q 65536))) ∧ InR IntKind.i64 (Sp.floE m (Sp.mA (iRem p 65536) (iRem q 65536)) (Sp.mB (iRem p 65536) (iRem q 65536))) ∧ True → True ∧ (InR IntKind.i64 (Sp.floV n (Sp.mA (iRem p 65536) (iRem q 65536)) (Sp.mB (iRem p 65536) (iRem q 65536))) ∧ InR IntKind.i64 (Sp.floE n (Sp.mA (iRem p 65536) (iRem q 65536)) (Sp.mB (iRem p 65536) (iRem q 65536))) ∧ True → InR IntKind.i64 (iAdd m n) ∧ True ∧ (InR IntKind.i64 (Sp.floV (iAdd m n) (Sp.mA (iRem p 65536) (iRem q 65536)) (Sp.mB (iRem p 65536) (iRem q 65536))) ∧ InR IntKind.i64 (Sp.floE (iAdd m n) (Sp.mA (iRem p 65536) (iRem q 65536)) (Sp.mB (iRem p 65536) (iRem q 65536))) ∧ True → (bNe (Sp.mulE (Sp.mA (iRem p 65536) (iRem q 65536)) (Sp.mB (iRem p 65536) (iRem q 65536)) (Sp.mA (iRem c 65536) (iRem d 65536)) (Sp.mB (iRem c 65536) (iRem d 65536))) 0 = false → (bNe (Sp.floE m (Sp.mA (iRem p 65536) (iRem q 65536)) (Sp.mB (iRem p 65536) (iRem q 65536))) 0 = false → (bNe (Sp.floE n (Sp.mA (iRem p 65536) (iRem q 65536)) (Sp.mB (iRem p 65536) (iRem q 65536))) 0 = false → (bNe (Sp.floE (iAdd m n) (Sp.mA (iRem p 65536) (iRem q 65536)) (Sp.mB (iRem p 65536) (iRem q 65536))) 0 = false → InR IntKind.i64 (iSub (Sp.floV (iAdd m n) (Sp.mA (iRem p 65536) (iRem q 65536)) (Sp.mB (iRem p 65536) (iRem q 65536))) (Sp.floV m (Sp.mA (iRem p 65536) (iRem q 65536)) (Sp.mB (iRem p 65536) (iRem q 65536)))) ∧ InR IntKind.i64 (iSub (iSub (Sp.floV (iAdd m n) (Sp.mA (iRem p 65536) (iRem q 65536)) (Sp.mB (iRem p 65536) (iRem q 65536))) (Sp.floV m (Sp.mA (iRem p 65536) (iRem q 65536)) (Sp.mB (iRem p 65536) (iRem q 65536)))) (Sp.floV n (Sp.mA (iRem p 65536) (iRem q 65536)) (Sp.mB (iRem p 65536) (iRem q 65536)))) ∧ (bNe (iSub (iSub (Sp.floV (iAdd m n) (Sp.mA (iRem p 65536) (iRem q 65536)) (Sp.mB (iRem p 65536) (iRem q 65536))) (Sp.floV m (Sp.mA (iRem p 65536) (iRem q 65536)) (Sp.mB (iRem p 65536) (iRem q 65536)))) (Sp.floV n (Sp.mA (iRem p 65536) (iRem q 65536)) (Sp.mB (iRem p 65536) (iRem q 65536)))) 0 = true → InR IntKind.i64 (iSub (Sp.floV (iAdd m n) (Sp.mA (iRem p 65536) (iRem q 65536)) (Sp.mB (iRem p 65536) (iRem q 65536))) (Sp.floV m (Sp.mA (iRem p 65536) (iRem q 65536)) (Sp.mB (iRem p 65536) (iRem q 65536)))) ∧ InR IntKind.i64 (iSub (iSub (Sp.floV (iAdd m n) (Sp.mA (iRem p 65536) (iRem q 65536)) (Sp.mB (iRem p 65536) (iRem q 65536))) (Sp.floV m (Sp.mA (iRem p 65536) (iRem q 65536)) (Sp.mB (iRem p 65536) (iRem q 65536)))) (Sp.floV n (Sp.mA (iRem p 65536) (iRem q 65536)) (Sp.mB (iRem p 65536) (iRem q 65536)))) ∧ (bNe (iSub (iSub (Sp.floV (iAdd m n) (Sp.mA (iRem p 65536) (iRem q 65536)) (Sp.mB (iRem p 65536) (iRem q 65536))) (Sp.floV m (Sp.mA (iRem p 65536) (iRem q 65536)) (Sp.mB (iRem p 65536) (iRem q 65536)))) (Sp.floV n (Sp.mA (iRem p 65536) (iRem q 65536)) (Sp.mB (iRem p 65536) (iRem q 65536)))) 1 = true → false = true) ∧ (bNe (iSub (iSub (Sp.floV (iAdd m n) (Sp.mA (iRem p 65536) (iRem q 65536)) (Sp.mB (iRem p 65536) (iRem q 65536))) (Sp.floV m (Sp.mA (iRem p 65536) (iRem q 65536)) (Sp.mB (iRem p 65536) (iRem q 65536)))) (Sp.floV n (Sp.mA (iRem p 65536) (iRem q 65536)) (Sp.mB (iRem p 65536) (iRem q 65536)))) 1 = false → True ∧ (InR IntKind.i64 (Sp.floV (Sp.floV m (Sp.mA (iRem p 65536) (iRem q 65536)) (Sp.mB (iRem p 65536) (iRem q 65536))) (Sp.mA (iRem c 65536) (iRem d 65536)) (Sp.mB (iRem c 65536) (iRem d 65536))) ∧ InR IntKind.i64 (Sp.floE (Sp.floV m (Sp.mA (iRem p 65536) (iRem q 65536)) (Sp.mB (iRem p 65536) (iRem q 65536))) (Sp.mA (iRem c 65536) (iRem d 65536)) (Sp.mB (iRem c 65536) (iRem d 65536))) ∧ True → True ∧ (InR IntKind.i64 (Sp.floV m (Sp.mulV (Sp.mA (iRem p 65536) (iRem q 65536)) (Sp.mB (iRem p 65536) (iRem q 65536)) (Sp.mA (iRem c 65536) (iRem d 65536)) (Sp.mB (iRem c 65536) (iRem d 65536)) (Sp.mulX (Sp.mA (iRem p 65536) (iRem q 65536)) (Sp.mB (iRem p 65536) (iRem q 65536)) (Sp.mA (iRem c 65536) (iRem d 65536)) (Sp.mB (iRem c 65536) (iRem d 65536)))) (Sp.mulV (Sp.mA (iRem p 65536) (iRem q 65536)) (Sp.mB (iRem p 65536) (iRem q 65536)) (Sp.mA (iRem c 65536) (iRem d 65536)) (Sp.mB (iRem c 65536) (iRem d 65536)) (Sp.mulY (Sp.mA (iRem p 65536) (iRem q 65536)) (Sp.mB (iRem p 65536) (iRem q 65536)) (Sp.mA (iRem c 65536) (iRem d 65536)) (Sp.mB (iRem c 65536) (iRem d 65536))))) ∧ InR IntKind.i64 (Sp.floE m (Sp.mulV (Sp.mA (iRem p 65536) (iRem q 65536)) (Sp.mB (iRem p 65536) (iRem q 65536)) (Sp.mA (iRem c 65536) (iRem d 65536)) (Sp.mB (iRem c 65536) (iRem d 65536)) (Sp.mulX (Sp.mA (iRem p 65536) (iRem q 65536)) (Sp.mB (iRem p 65536) (iRem q 65536)) (Sp.mA (iRem c 65536) (iRem d 65536)) (Sp.mB (iRem c 65536) (iRem d 65536)))) (Sp.mulV (Sp.mA (iRem p 65536) (iRem q 65536)) (Sp.mB (iRem p 65536) (iRem q 65536)) (Sp.mA (iRem c 65536) (iRem d 65536)) (Sp.mB (iRem c 65536) (iRem d 65536)) (Sp.mulY (Sp.mA (iRem p 65536) (iRem q 65536)) (Sp.mB (iRem p 65536) (iRem q 65536)) (Sp.mA (iRem c 65536) (iRem d 65536)) (Sp.mB (iRem c 65536) (iRem d 65536))))) ∧ True → (bNe (Sp.floE (Sp.floV m (Sp.mA (iRem p 65536) (iRem q 65536)) (Sp.mB (iRem p 65536) (iRem q 65536))) (Sp.mA (iRem c 65536) (iRem d 65536)) (Sp.mB (iRem c 65536) (iRem d 65536))) 0 = false → (bNe (Sp.floE m (Sp.mulV (Sp.mA (iRem p 65536) (iRem q 65536)) (Sp.mB (iRem p 65536) (iRem q 65536)) (Sp.mA (iRem c 65536) (iRem d 65536)) (Sp.mB (iRem c 65536) (iRem d 65536)) (Sp.mulX (Sp.mA (iRem p 65536) (iRem q 65536)) (Sp.mB (iRem p 65536) (iRem q 65536)) (Sp.mA (iRem c 65536) (iRem d 65536)) (Sp.mB (iRem c 65536) (iRem d 65536)))) (Sp.mulV (Sp.mA (iRem p 65536) (iRem q 65536)) (Sp.mB (iRem p 65536) (iRem q 65536)) (Sp.mA (iRem c 65536) (iRem d 65536)) (Sp.mB (iRem c 65536) (iRem d 65536)) (Sp.mulY (Sp.mA (iRem p 65536) (iRem q 65536)) (Sp.mB (iRem p 65536) (iRem q 65536)) (Sp.mA (iRem c 65536) (iRem d 65536)) (Sp.mB (iRem c 65536) (iRem d 65536))))) 0 = false → bLe (Sp.floV (Sp.floV m (Sp.mA (iRem p 65536) (iRem q 65536)) (Sp.mB (iRem p 65536) (iRem q 65536))) (Sp.mA (iRem c 65536) (iRem d 65536)) (Sp.mB (iRem c 65536) (iRem d 65536))) (Sp.floV m (Sp.mulV (Sp.mA (iRem p 65536) (iRem q 65536)) (Sp.mB (iRem p 65536) (iRem q 65536)) (Sp.mA (iRem c 65536) (iRem d 65536)) (Sp.mB (iRem c 65536) (iRem d 65536)) (Sp.mulX (Sp.mA (iRem p 65536) (iRem q 65536)) (Sp.mB (iRem p 65536) (iRem q 65536)) (Sp.mA (iRem c 65536) (iRem d 65536)) (Sp.mB (iRem c 65536) (iRem d 65536)))) (Sp.mulV (Sp.mA (iRem p 65536) (iRem q 65536)) (Sp.mB (iRem p 65536) (iRem q 65536)) (Sp.mA (iRem c 65536) (iRem d 65536)) (Sp.mB (iRem c 65536) (iRem d 65536)) (Sp.mulY (Sp.mA (iRem p 65536) (iRem q 65536)) (Sp.mB (iRem p 65536) (iRem q 65536)) (Sp.mA (iRem c 65536) (iRem d 65536)) (Sp.mB (iRem c 65536) (iRem d 65536))))) = true) ∧ (bNe (Sp.floE m (Sp.mulV (Sp.mA (iRem p 65536) (iRem q 65536)) (Sp.mB (iRem p 65536) (iRem q 65536)) (Sp.mA (iRem c 65536) (iRem d 65536)) (Sp.mB (iRem c 65536) (iRem d 65536)) (Sp.mulX (Sp.mA (iRem p 65536) (iRem q 65536)) (Sp.mB (iRem p 65536) (iRem q 65536)) (Sp.mA (iRem c 65536) (iRem d 65536)) (Sp.mB (iRem c 65536) (iRem d 65536)))) (Sp.mulV (Sp.mA (iRem p 65536) (iRem q 65536)) (Sp.mB (iRem p 65536) (iRem q 65536)) (Sp.mA (iRem c 65536) (iRem d 65536)) (Sp.mB (iRem c 65536) (iRem d 65536)) (Sp.mulY (Sp.mA (iRem p 65536) (iRem q 65536)) (Sp.mB (iRem p 65536) (iRem q 65536)) (Sp.mA (iRem c 65536) (iRem d 65536)) (Sp.mB (iRem c 65536) (iRem d 65536))))) 0 = true → true = true)) ∧ (bNe (Sp.floE (Sp.floV m (Sp.mA (iRem p 65536) (iRem q 65536)) (Sp.mB (iRem p 65536) (iRem q 65536))) (Sp.mA (iRem c 65536) (iRem d 65536)) (Sp.mB (iRem c 65536) (iRem d 65536))) 0 = true → true = true))))) ∧ (bNe (iSub (iSub (Sp.floV (iAdd m n) (Sp.mA (iRem p 65536) (iRem q 65536)) (Sp.mB (iRem p 65536) (iRem q 65536))) (Sp.floV m (Sp.mA (iRem p 65536) (iRem q 65536)) (Sp.mB (iRem p 65536) (iRem q 65536)))) (Sp.floV n (Sp.mA (iRem p 65536) (iRem q 65536)) (Sp.mB (iRem p 65536) (iRem q 65536)))) 0 = false → True ∧ (InR IntKind.i64 (Sp.floV (Sp.floV m (Sp.mA (iRem p 65536) (iRem q 65536)) (Sp.mB (iRem p 65536) (iRem q 65536))) (Sp.mA (iRem c 65536) (iRem d 65536)) (Sp.mB (iRem c 65536) (iRem d 65536))) ∧ InR IntKind.i64 (Sp.floE (Sp.floV m (Sp.mA (iRem p 65536) (iRem q 65536)) (Sp.mB (iRem p 65536) (iRem q 65536))) (Sp.mA (iRem c 65536) (iRem d 65536)) (Sp.mB (iRem c 65536) (iRem d 65536))) ∧ True → True ∧ (InR IntKind.i64 (Sp.floV m (Sp.mulV (Sp.mA (iRem p 65536) (iRem q 65536)) (Sp.mB (iRem p 65536) (iRem q 65536)) (Sp.mA (iRem c 65536) (iRem d 65536)) (Sp.mB (iRem c 65536) (iRem d 65536)) (Sp.mulX (Sp.mA (iRem p 65536) (iRem q 65536)) (Sp.mB (iRem p 65536) (iRem q 65536)) (Sp.mA (iRem c 65536) (iRem d 65536)) (Sp.mB (iRem c 65536) (iRem d 65536)))) (Sp.mulV (Sp.mA (iRem p 65536) (iRem q 65536)) (Sp.mB (iRem p 65536) (iRem q 65536)) (Sp.mA (iRem c 65536) (iRem d 65536)) (Sp.mB (iRem c 65536) (iRem d 65536)) (Sp.mulY (Sp.mA (iRem p 65536) (iRem q 65536)) (Sp.mB (iRem p 65536) (iRem q 65536)) (Sp.mA (iRem c 65536) (iRem d 65536)) (Sp.mB (iRem c 65536) (iRem d 65536))))) ∧ InR IntKind.i64 (Sp.floE m (Sp.mulV (Sp.mA (iRem p 65536) (iRem q 65536)) (Sp.mB (iRem p 65536) (iRem q 65536)) (Sp.mA (iRem c 65536) (iRem d 65536)) (Sp.mB (iRem c 65536) (iRem d 65536)) (Sp.mulX (Sp.mA (iRem p 65536) (iRem q 65536)) (Sp.mB (iRem p 65536) (iRem q 65536)) (Sp.mA (iRem c 65536) (iRem d 65536)) (Sp.mB (iRem c 65536) (iRem d 65536)))) (Sp.mulV (Sp.mA (iRem p 65536) (iRem q 65536)) (Sp.mB (iRem p 65536) (iRem q 65536)) (Sp.mA (iRem c 65536) (iRem d 65536)) (Sp.mB (iRem c 65536) (iRem d 65536)) (Sp.mulY (Sp.mA (iRem p 65536) (iRem q 65536)) (Sp.mB (iRem p 65536) (iRem q 65536)) (Sp.mA (iRem c 65536) (iRem d 65536)) (Sp.mB (iRem c 65536) (iRem d 65536))))) ∧ True → (bNe (Sp.floE (Sp.floV m (Sp.mA (iRem p 65536) (iRem q 65536)) (Sp.mB (iRem p 65536) (iRem q 65536))) (Sp.mA (iRem c 65536) (iRem d 65536)) (Sp.mB (iRem c 65536) (iRem d 65536))) 0 = false → (bNe (Sp.floE m (Sp.mulV (Sp.mA (iRem p 65536) (iRem q 65536)) (Sp.mB (iRem p 65536) (iRem q 65536)) (Sp.mA (iRem c 65536) (iRem d 65536)) (Sp.mB (iRem c 65536) (iRem d 65536)) (Sp.mulX (Sp.mA (iRem p 65536) (iRem q 65536)) (Sp.mB (iRem p 65536) (iRem q 65536)) (Sp.mA (iRem c 65536) (iRem d 65536)) (Sp.mB (iRem c 65536) (iRem d 65536)))) (Sp.mulV (Sp.mA (iRem p 65536) (iRem q 65536)) (Sp.mB (iRem p 65536) (iRem q 65536)) (Sp.mA (iRem c 65536) (iRem d 65536)) (Sp.mB (iRem c 65536) (iRem d 65536)) (Sp.mulY (Sp.mA (iRem p 65536) (iRem q 65536)) (Sp.mB (iRem p 65536) (iRem q 65536)) (Sp.mA (iRem c 65536) (iRem d 65536)) (Sp.mB (iRem c 65536) (iRem d 65536))))) 0 = false → bLe (Sp.floV (Sp.floV m (Sp.mA (iRem p 65536) (iRem q 65536)) (Sp.mB (iRem p 65536) (iRem q 65536))) (Sp.mA (iRem c 65536) (iRem d 65536)) (Sp.mB (iRem c 65536) (iRem d 65536))) (Sp.floV m (Sp.mulV (Sp.mA (iRem p 65536) (iRem q 65536)) (Sp.mB (iRem p 65536) (iRem q 65536)) (Sp.mA (iRem c 65536) (iRem d 65536)) (Sp.mB (iRem c 65536) (iRem d 65536)) (Sp.mulX (Sp.mA (iRem p 65536) (iRem q 65536)) (Sp.mB (iRem p 65536) (iRem q 65536)) (Sp.mA (iRem c 65536) (iRem d 65536)) (Sp.mB (iRem c 65536) (iRem d 65536)))) (Sp.mulV (Sp.mA (iRem p 65536) (iRem q 65536)) (Sp.mB (iRem p 65536) (iRem q 65536)) (Sp.mA (iRem c 65536) (iRem d 65536)) (Sp.mB (iRem c 65536) (iRem d 65536)) (Sp.mulY (Sp.mA (iRem p 65536) (iRem q 65536)) (Sp.mB (iRem p 65536) (iRem q 65536)) (Sp.mA (iRem c 65536) (iRem d 65536)) (Sp.mB (iRem c 65536) (iRem d 65536))))) = true) ∧ (bNe (Sp.floE m (Sp.mulV (Sp.mA (iRem p 65536) (iRem q 65536)) (Sp.mB (iRem p 65536) (iRem q 65536)) (Sp.mA (iRem c 65536) (iRem d 65536)) (Sp.mB (iRem c 65536) (iRem d 65536)) (Sp.mulX (Sp.mA (iRem p 65536) (iRem q 65536)) (Sp.mB (iRem p 65536) (iRem q 65536)) (Sp.mA (iRem c 65536) (iRem d 65536)) (Sp.mB (iRem c 65536) (iRem d 65536)))) (Sp.mulV (Sp.mA (iRem p 65536) (iRem q 65536)) (Sp.mB (iRem p 65536) (iRem q 65536)) (Sp.mA (iRem c 65536) (iRem d 65536)) (Sp.mB (iRem c 65536) (iRem d 65536)) (Sp.mulY (Sp.mA (iRem p 65536) (iRem q 65536)) (Sp.mB (iRem p 65536) (iRem q 65536)) (Sp.mA (iRem c 65536) (iRem d 65536)) (Sp.mB (iRem c 65536) (iRem d 65536))))) 0 = true → true = true)) ∧ (bNe (Sp.floE (Sp.floV m (Sp.mA (iRem p 65536) (iRem q 65536)) (Sp.mB (iRem p 65536) (iRem q 65536))) (Sp.mA (iRem c 65536) (iRem d 65536)) (Sp.mB (iRem c 65536) (iRem d 65536))) 0 = true → true = true))))) ∧ (bNe (Sp.floE (iAdd m n) (Sp.mA (iRem p 65536) (iRem q 65536)) (Sp.mB (iRem p 65536) (iRem q 65536))) 0 = true → false = true)) ∧ (bNe (Sp.floE n (Sp.mA (iRem p 65536) (iRem q 65536)) (Sp.mB (iRem p 65536) (iRem q 65536))) 0 = true → false = true)) ∧ (bNe (Sp.floE m (Sp.mA (iRem p 65536) (iRem q 65536)) (Sp.mB (iRem p 65536) (iRem q 65536))) 0 = true → false = true)) ∧ (bNe (Sp.mulE (Sp.mA (iRem p 65536) (iRem q 65536)) (Sp.mB (iRem p 65536) (iRem q 65536)) (Sp.mA (iRem c 65536) (iRem d 65536)) (Sp.mB (iRem c 65536) (iRem d 65536))) 0 = true → false = true)))))))))) := by kernel_rfl
theorem v7 (m : Int) (n : Int) (p : Int) (q : Int) (c : Int) (d : Int) : Holds (Wfs [.int .u32 m, .int .u32 n, .int .i64 p, .int .i64 q, .int .i64 c, .int .i64 d] → True → vcF Go.Proofs.Try.prog (look tb7) (fun _ => false) (fun _ _ => LoopAnn.unroll 200) 8 7 [.int .u32 m, .int .u32 n, .int .i64 p, .int .i64 q, .int .i64 c, .int .i64 d] [] (fun sv _ => isTrue sv)) := by
  refine ⟨fun hw hp => ?_⟩
  rw [e7]
  simp only [Wfs, Wf, InR, and_true] at hw
  have M := Sp.madeM p q (M := 65536) (by omega) (by omega)
  have N := Sp.madeM c d (M := 65536) (by omega) (by omega)
  simp only [iRem]
  generalize Sp.mA (p.tmod 65536) (q.tmod 65536) = A at *
  generalize Sp.mB (p.tmod 65536) (q.tmod 65536) = B at *
  generalize Sp.mA (c.tmod 65536) (d.tmod 65536) = C at *
  generalize Sp.mB (c.tmod 65536) (d.tmod 65536) = D at *
  have v := M.2.2.2.2
  have w := N.2.2.2.2
  have P1 := Sp.prod_bd (k := m) (a := A) (K := 4294967296) (M := 65536) (by omega) (by omega) (by omega) (by omega)
  have P2 := Sp.prod_bd (k := n) (a := A) (K := 4294967296) (M := 65536) (by omega) (by omega) (by omega) (by omega)
  have P3 := Sp.prod_bd (k := m + n) (a := A) (K := 8589934592) (M := 65536) (by omega) (by omega) (by omega) (by omega)
  have E1 := Sp.mulr (4294967296 * 65536) v (k := m) (by omega) (by omega) P1.1 P1.2 (by omega)
  have E2 := Sp.mulr (4294967296 * 65536) v (k := n) (by omega) (by omega) P2.1 P2.2 (by omega)
  have E3 := Sp.mulr (8589934592 * 65536) v (k := m + n) (by omega) (by omega) P3.1 P3.2 (by omega)
  have g1 := Sp.gcd_quo (a := A) (b := D) (by omega) (by omega)
  have g2 := Sp.gcd_quo (a := C) (b := B) (by omega) (by omega)
  have X := Sp.prod_bd (k := A / Sp.gcd A D) (a := C / Sp.gcd C B) (K := 65536) (M := 65536) (by omega) (by omega) (by omega) (by omega)
  have Y := Sp.prod_bd (k := B / Sp.gcd C B) (a := D / Sp.gcd A D) (K := 65536) (M := 65536) (by omega) (by omega) (by omega) (by omega)
  have x1 : Sp.mulE A B C D = 0 := by
    unfold Sp.mulE
    rw [if_neg (by simp [v, w]), if_neg]
    unfold Sp.mulX Sp.mulY
    omega
  have x2 : ∀ z, Sp.mulV A B C D z = z := fun z => by unfold Sp.mulV; rw [if_pos x1]
  have ad := Sp.add_flo (m := m) (n := n) (a := A) (b := B) (by omega)
  have ch := Sp.chain (m := m) (a := A) (b := B) (c := C) (d := D) (by omega) (by omega) (by omega) (by omega)
  have u1 := Sp.flo_of (n := Sp.flo m A B) (a := C) (b := D)
  have u2 := Sp.flo_of (n := m) (a := Sp.mulX A B C D) (b := Sp.mulY A B C D)
  simp only [iAdd, x1, x2, E1.1, E1.2.1, E2.1, E2.2.1, E3.1, E3.2.1]
  have u3 : Sp.floE (Sp.flo m A B) C D = 0 → Sp.floE m (Sp.mulX A B C D) (Sp.mulY A B C D) = 0 → Sp.floV (Sp.flo m A B) C D ≤ Sp.floV m (Sp.mulX A B C D) (Sp.mulY A B C D) := fun h1 h2 => by rw [u1 h1, u2 h2]; exact ch
  have E1 := E1.2.2.2.2.2.2.2.2.2.2
  have E2 := E2.2.2.2.2.2.2.2.2.2.2
  have E3 := E3.2.2.2.2.2.2.2.2.2.2
  clear u1 u2 ch x1 x2
  generalize Sp.floV (Sp.flo m A B) C D = z1 at *
  generalize Sp.floE (Sp.flo m A B) C D = z2 at *
  generalize Sp.floV m (Sp.mulX A B C D) (Sp.mulY A B C D) = z3 at *
  generalize Sp.floE m (Sp.mulX A B C D) (Sp.mulY A B C D) = z4 at *
  generalize Sp.flo (m + n) A B = f3 at *
  generalize Sp.flo m A B = f1 at *
  generalize Sp.flo n A B = f2 at *
  clear g1 g2 X Y P1 P2 P3
  simp only [bNot, bNe, Bool.not_eq_true', Bool.not_eq_false', bEq, bLe, iSub, pNe, InR, decide_eq_true_eq, decide_eq_false_iff_not, Bool.not_true, Bool.not_false, Bool.false_eq_true, Bool.true_eq_false, reduceCtorEq, false_implies, true_implies, implies_true, and_true, true_and, not_true_eq_false, Decidable.not_not]
  repeat' (first | apply And.intro | intro _)
  all_goals (first | trivial | assumption | omega | skip)
end Go.Sx

namespace Go.Sx
/-! ### function 9: law03.RatioOrder -/
def tb9 : List (Nat × Ct) := [(10, ct10), (15, ct15), (22, ct22), (23, ct23), (16, ct16), (26, ct26)]
theorem e9 (p : Int) (q : Int) (c : Int) (d : Int) (n : Int) : vcF Go.Proofs.Try.prog (look tb9) (fun _ => false) (fun _ _ => LoopAnn.unroll 200) 8 9 [.int .i64 p, .int .i64 q, .int .i64 c, .int .i64 d, .int .u16 n] [] (fun sv _ => isTrue sv) = (True ∧ (True → True ∧ (bNot true = true → false = true) ∧ (bNot true = false → True ∧ (InR IntKind.i64 (Sp.mA p q) ∧ InR IntKind.i64 (Sp.mB p q) ∧ True → True ∧ (InR IntKind.i64 (Sp.mA c d) ∧ InR IntKind.i64 (Sp.mB c d) ∧ True → True ∧ ((InR IntKind.i64 (Sp.invV (Sp.mA p q) (Sp.mB p q) (Sp.mB p q)) ∧ InR IntKind.i64 (Sp.invV (Sp.mA p q) (Sp.mB p q) (Sp.mA p q)) ∧ True) ∧ InR IntKind.i64 (Sp.invE (Sp.mA p q) (Sp.mB p q)) ∧ True → True ∧ ((InR IntKind.i64 (Sp.mulV (Sp.mA p q) (Sp.mB p q) (Sp.invV (Sp.mA p q) (Sp.mB p q) (Sp.mB p q)) (Sp.invV (Sp.mA p q) (Sp.mB p q) (Sp.mA p q)) (Sp.mulX (Sp.mA p q) (Sp.mB p q) (Sp.invV (Sp.mA p q) (Sp.mB p q) (Sp.mB p q)) (Sp.invV (Sp.mA p q) (Sp.mB p q) (Sp.mA p q)))) ∧ InR IntKind.i64 (Sp.mulV (Sp.mA p q) (Sp.mB p q) (Sp.invV (Sp.mA p q) (Sp.mB p q) (Sp.mB p q)) (Sp.invV (Sp.mA p q) (Sp.mB p q) (Sp.mA p q)) (Sp.mulY (Sp.mA p q) (Sp.mB p q) (Sp.invV (Sp.mA p q) (Sp.mB p q) (Sp.mB p q)) (Sp.invV (Sp.mA p q) (Sp.mB p q) (Sp.mA p q)))) ∧ True) ∧ InR IntKind.i64 (Sp.mulE (Sp.mA p q) (Sp.mB p q) (Sp.invV (Sp.mA p q) (Sp.mB p q) (Sp.mB p q)) (Sp.invV (Sp.mA p q) (Sp.mB p q) (Sp.mA p q))) ∧ True → True ∧ ((InR IntKind.i64 (Sp.mulV (Sp.mA p q) (Sp.mB p q) (Sp.mA c d) (Sp.mB c d) (Sp.mulX (Sp.mA p q) (Sp.mB p q) (Sp.mA c d) (Sp.mB c d))) ∧ InR IntKind.i64 (Sp.mulV (Sp.mA p q) (Sp.mB p q) (Sp.mA c d) (Sp.mB c d) (Sp.mulY (Sp.mA p q) (Sp.mB p q) (Sp.mA c d) (Sp.mB c d))) ∧ True) ∧ InR IntKind.i64 (Sp.mulE (Sp.mA p q) (Sp.mB p q) (Sp.mA c d) (Sp.mB c d)) ∧ True → True ∧ ((InR IntKind.i64 (Sp.mulV (Sp.mA c d) (Sp.mB c d) (Sp.mA p q) (Sp.mB p q) (Sp.mulX (Sp.mA c d) (Sp.mB c d) (Sp.mA p q) (Sp.mB p q))) ∧ InR IntKind.i64 (Sp.mulV (Sp.mA c d) (Sp.mB c d) (Sp.mA p q) (Sp.mB p q) (Sp.mulY (Sp.mA c d) (Sp.mB c d) (Sp.mA p q) (Sp.mB p q))) ∧ True) ∧ InR IntKind.i64 (Sp.mulE (Sp.mA c d) (Sp.mB c d) (Sp.mA p q) (Sp.mB p q)) ∧ True → True ∧ (InR IntKind.i64 (Sp.floV n (Sp.mA p q) (Sp.mB p q)) ∧ InR IntKind.i64 (Sp.floE n (Sp.mA p q) (Sp.mB p q)) ∧ True → True ∧ (InR IntKind.i64 (Sp.floV n (Sp.mA c d) (Sp.mB c d)) ∧ InR IntKind.i64 (Sp.floE n (Sp.mA c d) (Sp.mB c d)) ∧ True → True ∧ (InR IntKind.i64 (Sp.cmp (Sp.mA p q) (Sp.mB p q) (Sp.mA c d) (Sp.mB c d)) → (bEq (Sp.invE (Sp.mA p q) (Sp.mB p q)) 0 = true → (bEq (Sp.mulE (Sp.mA p q) (Sp.mB p q) (Sp.invV (Sp.mA p q) (Sp.mB p q) (Sp.mB p q)) (Sp.invV (Sp.mA p q) (Sp.mB p q) (Sp.mA p q))) 0 = true → (bAnd (bEq (Sp.mulV (Sp.mA p q) (Sp.mB p q) (Sp.invV (Sp.mA p q) (Sp.mB p q) (Sp.mB p q)) (Sp.invV (Sp.mA p q) (Sp.mB p q) (Sp.mA p q)) (Sp.mulX (Sp.mA p q) (Sp.mB p q) (Sp.invV (Sp.mA p q) (Sp.mB p q) (Sp.mB p q)) (Sp.invV (Sp.mA p q) (Sp.mB p q) (Sp.mA p q)))) 1) (bEq (Sp.mulV (Sp.mA p q) (Sp.mB p q) (Sp.invV (Sp.mA p q) (Sp.mB p q) (Sp.mB p q)) (Sp.invV (Sp.mA p q) (Sp.mB p q) (Sp.mA p q)) (Sp.mulY (Sp.mA p q) (Sp.mB p q) (Sp.invV (Sp.mA p q) (Sp.mB p q) (Sp.mB p q)) (Sp.invV (Sp.mA p q) (Sp.mB p q) (Sp.mA p q)))) 1) = true → (bAnd (bEq (Sp.mulV (Sp.mA p q) (Sp.mB p q) (Sp.mA c d) (Sp.mB c d) (Sp.mulX (Sp.mA p q) (Sp.mB p q) (Sp.mA c d) (Sp.mB c d))) (Sp.mulV (Sp.mA c d) (Sp.mB c d) (Sp.mA p q) (Sp.mB p q) (Sp.mulX (Sp.mA c d) (Sp.mB c d) (Sp.mA p q) (Sp.mB p q)))) (bEq (Sp.mulV (Sp.mA p q) (Sp.mB p q) (Sp.mA c d) (Sp.mB c d) (Sp.mulY (Sp.mA p q) (Sp.mB p q) (Sp.mA c d) (Sp.mB c d))) (Sp.mulV (Sp.mA c d) (Sp.mB c d) (Sp.mA p q) (Sp.mB p q) (Sp.mulY (Sp.mA c d) (Sp.mB c d) (Sp.mA p q) (Sp.mB p q)))) = true → (bEq (Sp.mulE (Sp.mA p q) (Sp.mB p q) (Sp.mA c d) (Sp.mB c d)) (Sp.mulE (Sp.mA c d) (Sp.mB c d) (Sp.mA p q) (Sp.mB p q)) = true → True ∧ (InR IntKind.i64 (Sp.cmp (Sp.mA c d) (Sp.mB c d) (Sp.mA p q) (Sp.mB p q)) → InR IntKind.i64 (iSub 0 (Sp.cmp (Sp.mA p q) (Sp.mB p q) (Sp.mA c d) (Sp.mB c d))) ∧ (bEq (Sp.cmp (Sp.mA c d) (Sp.mB c d) (Sp.mA p q) (Sp.mB p q)) (iSub 0 (Sp.cmp (Sp.mA p q) (Sp.mB p q) (Sp.mA c d) (Sp.mB c d))) = true → (bSame (bEq (Sp.cmp (Sp.mA p q) (Sp.mB p q) (Sp.mA c d) (Sp.mB c d)) 0) (bAnd (bEq (Sp.mA p q) (Sp.mA c d)) (bEq (Sp.mB p q) (Sp.mB c d))) = true → (bLt 0 (Sp.cmp (Sp.mA p q) (Sp.mB p q) (Sp.mA c d) (Sp.mB c d)) = false → bLe (Sp.floV n (Sp.mA p q) (Sp.mB p q)) (Sp.floV n (Sp.mA c d) (Sp.mB c d)) = true) ∧ (bLt 0 (Sp.cmp (Sp.mA p q) (Sp.mB p q) (Sp.mA c d) (Sp.mB c d)) = true → true = true)) ∧ (bSame (bEq (Sp.cmp (Sp.mA p q) (Sp.mB p q) (Sp.mA c d) (Sp.mB c d)) 0) (bAnd (bEq (Sp.mA p q) (Sp.mA c d)) (bEq (Sp.mB p q) (Sp.mB c d))) = false → false = true)) ∧ (bEq (Sp.cmp (Sp.mA c d) (Sp.mB c d) (Sp.mA p q) (Sp.mB p q)) (iSub 0 (Sp.cmp (Sp.mA p q) (Sp.mB p q) (Sp.mA c d) (Sp.mB c d))) = false → false = true))) ∧ (bEq (Sp.mulE (Sp.mA p q) (Sp.mB p q) (Sp.mA c d) (Sp.mB c d)) (Sp.mulE (Sp.mA c d) (Sp.mB c d) (Sp.mA p q) (Sp.mB p q)) = false → false = true)) ∧ (bAnd (bEq (Sp.mulV (Sp.mA p q) (Sp.mB p q) (Sp.mA c d) (Sp.mB c d) (Sp.mulX (Sp.mA p q) (Sp.mB p q) (Sp.mA c d) (Sp.mB c d))) (Sp.mulV (Sp.mA c d) (Sp.mB c d) (Sp.mA p q) (Sp.mB p q) (Sp.mulX (Sp.mA c d) (Sp.mB c d) (Sp.mA p q) (Sp.mB p q)))) (bEq (Sp.mulV (Sp.mA p q) (Sp.mB p q) (Sp.mA c d) (Sp.mB c d) (Sp.mulY (Sp.mA p q) (Sp.mB p q) (Sp.mA c d) (Sp.mB c d))) (Sp.mulV (Sp.mA c d) (Sp.mB c d) (Sp.mA p q) (Sp.mB p q) (Sp.mulY (Sp.mA c d) (Sp.mB c d) (Sp.mA p q) (Sp.mB p q)))) = false → false = true)) ∧ (bAnd (bEq (Sp.mulV (Sp.mA p q) (Sp.mB p q) (Sp.invV (Sp.mA p q) (Sp.mB p q) (Sp.mB p q)) (Sp.invV (Sp.mA p q) (Sp.mB p q) (Sp.mA p q)) (Sp.mulX (Sp.mA p q) (Sp.mB p q) (Sp.invV (Sp.mA p q) (Sp.mB p q) (Sp.mB p q)) (Sp.invV (Sp.mA p q) (Sp.mB p q) (Sp.mA p q)))) 1) (bEq (Sp.mulV (Sp.mA p q) (Sp.mB p q) (Sp.invV (Sp.mA p q) (Sp.mB p q) (Sp.mB p q)) (Sp.invV (Sp.mA p q) (Sp.mB p q) (Sp.mA p q)) (Sp.mulY (Sp.mA p q) (Sp.mB p q) (Sp.invV (Sp.mA p q) (Sp.mB p q) (Sp.mB p q)) (Sp.invV (Sp.mA p q) (Sp.mB p q) (Sp.mA p q)))) 1) = false → false = true)) ∧ (bEq (Sp.mulE (Sp.mA p q) (Sp.mB p q) (Sp.invV (Sp.mA p q) (Sp.mB p q) (Sp.mB p q)) (Sp.invV (Sp.mA p q) (Sp.mB p q) (Sp.mA p q))) 0 = false → false = true)) ∧ (bEq (Sp.invE (Sp.mA p q) (Sp.mB p q)) 0 = false → false = true))))))))))))) := by kernel_rfl
theorem v9 (p : Int) (q : Int) (c : Int) (d : Int) (n : Int) : Holds (Wfs [.int .i64 p, .int .i64 q, .int .i64 c, .int .i64 d, .int .u16 n] → True → vcF Go.Proofs.Try.prog (look tb9) (fun _ => false) (fun _ _ => LoopAnn.unroll 200) 8 9 [.int .i64 p, .int .i64 q, .int .i64 c, .int .i64 d, .int .u16 n] [] (fun sv _ => isTrue sv)) := by
  refine ⟨fun hw hp => ?_⟩
  rw [e9]
  simp only [Wfs, Wf, InR, and_true] at hw
  have M := Sp.made_bd p q
  have N := Sp.made_bd c d
  generalize Sp.mA p q = A at *
  generalize Sp.mB p q = B at *
  generalize Sp.mA c d = C at *
  generalize Sp.mB c d = D at *
  have v := M.2.2.2.2
  have w := N.2.2.2.2
  have v' := Sp.rvalid_swap v
  have i1 : Sp.invE A B = 0 := by unfold Sp.invE; rw [v]; rfl
  have i2 : Sp.invV A B B = B := by unfold Sp.invV; rw [v]; rfl
  have i3 : Sp.invV A B A = A := by unfold Sp.invV; rw [v]; rfl
  have j := Sp.mul_inv (a := A) (b := B) (by omega) (by omega)
  have x1 : Sp.mulE A B B A = 0 := by
    unfold Sp.mulE
    rw [j.1, j.2, if_neg (by simp [v, v']), if_neg (by omega)]
  have x2 : ∀ z, Sp.mulV A B B A z = z := fun z => by unfold Sp.mulV; rw [if_pos x1]
  have y1 : Sp.mulE C D A B = Sp.mulE A B C D := by
    simp [Sp.mulE, v, w, (Sp.mul_comm' A B C D).1, (Sp.mul_comm' A B C D).2]
  have y2 : ∀ z, Sp.mulV C D A B z = Sp.mulV A B C D z := fun z => by unfold Sp.mulV; rw [y1]
  have P1 := Sp.prod_bd (k := n) (a := A) (K := 65536) (M := 68719476736) (by omega) (by omega) (by omega) (by omega)
  have P2 := Sp.prod_bd (k := n) (a := C) (K := 65536) (M := 68719476736) (by omega) (by omega) (by omega) (by omega)
  have E1 := Sp.mulr (65536 * 68719476736) v (k := n) (by omega) (by omega) P1.1 P1.2 (by omega)
  have E2 := Sp.mulr (65536 * 68719476736) w (k := n) (by omega) (by omega) P2.1 P2.2 (by omega)
  have mo := Sp.flo_mono (n := n) (a := A) (b := B) (c := C) (d := D) (by omega) (by omega) (by omega)
  have cr := Sp.cross v w
  have k1 : Sp.cmp A B C D = if A * D < C * B then -1 else if A * D = C * B then 0 else 1 := by unfold Sp.cmp; rw [if_neg (by simp [v, w])]
  have k2 : Sp.cmp C D A B = if C * B < A * D then -1 else if C * B = A * D then 0 else 1 := by unfold Sp.cmp; rw [if_neg (by simp [v, w])]
  have c1 : Sp.cmp C D A B = -(Sp.cmp A B C D) := by
    rw [k1, k2]
    rcases Int.lt_trichotomy (A * D) (C * B) with h | h | h
    · rw [if_neg (by omega), if_neg (by omega), if_pos h]; rfl
    · rw [if_neg (by omega), if_pos h.symm, if_neg (by omega), if_pos h]; rfl
    · rw [if_pos h, if_neg (by omega), if_neg (by omega)]
  have c2 : Sp.cmp A B C D = 0 ↔ A = C ∧ B = D := by
    constructor
    · intro h; rw [k1] at h; exact cr (by split at h <;> first | omega | (split at h <;> omega))
    · intro h; obtain ⟨rfl, rfl⟩ := h; rw [k1]; simp
  have c3 : Sp.cmp A B C D ≤ 0 → Sp.flo n A B ≤ Sp.flo n C D := by
    intro h; rw [k1] at h; exact mo (by split at h <;> first | omega | (split at h <;> omega))
  simp only [i1, i2, i3, x1, x2, y1, y2, j.1, j.2, (Sp.mul_comm' A B C D).1, (Sp.mul_comm' A B C D).2, E1.2.1, E2.2.1, c1]
  have E1 := E1.2.2.2.2.2.2.2.2.2.2
  have E2 := E2.2.2.2.2.2.2.2.2.2.2
  clear k1 k2 c1 mo cr i1 i2 i3 j x1 x2 y1 y2 P1 P2
  generalize Sp.cmp A B C D = k at *
  generalize Sp.flo n A B = f1 at *
  generalize Sp.flo n C D = f2 at *
  generalize Sp.mulV A B C D (Sp.mulX A B C D) = m1 at *
  generalize Sp.mulV A B C D (Sp.mulY A B C D) = m2 at *
  generalize Sp.mulE A B C D = m3 at *
  have s : bSame (bEq k 0) (bAnd (bEq A C) (bEq B D)) = true := by
    simp [bSame, bEq, bAnd, c2]
  simp only [s]
  clear s c2
  simp [bNot, bEq, bAnd, bLt, bLe, InR, pNe, iSub]
  repeat' (first | apply And.intro | intro _)
  all_goals (first | trivial | assumption | omega | skip)
end Go.Sx

