/- Contracts and conditions, continued. -/
import Derived.Test.YtodpeopfbcblaaaSxUse
import Derived.Test.YtodpeopfbcblaaaC18c
import Derived.KernelRfl
set_option linter.unusedVariables false
set_option linter.unusedSimpArgs false
set_option maxRecDepth 100000
set_option maxHeartbeats 4000000

namespace Go
open Go.Sx
def Sp.planM (k : Int) : Int := Sp.up (65536 * k) (65536 - k)
def Sp.planS (n e k j : Int) : Int := Sp.wob n e k + j + 1
def Sp.planB (n e k j d g : Int) : Int := Sp.boundV 0 d g (Sp.planM k) n e k j (Sp.planS n e k j)
def Sp.planQ (n e k j d g : Int) : Int := Sp.demV 0 d g (Sp.planM k) n e k j + Sp.planB n e k j d g
def Sp.planE (n e k j d g : Int) : Int := if Sp.decl n e k j = false ∨ d < 0 ∨ 65536 < d ∨ g < 1 ∨ 4096 < g then 1 else if 4096 < Sp.planM k then 2 else if 65536 < Sp.planS n e k j ∨ 65536 < Sp.planQ n e k j d g + Sp.planB n e k j d g then 3 else 0
def Sp.planV (n e k j d g v : Int) : Int := if Sp.planE n e k j d g = 0 then v else 0
end Go

namespace Go
open Go.Sx
theorem Sp.up_ge {a b : Int} (h1 : 1 ≤ b) : a ≤ Sp.up a b * b ∧ Sp.up a b * b ≤ a + b - 1 := by
  unfold Sp.up
  have e := Int.emod_add_mul_ediv (a + b - 1) b
  have l := Int.emod_lt_of_pos (a + b - 1) (show 0 < b by omega)
  have z := Int.emod_nonneg (a + b - 1) (show b ≠ 0 by omega)
  rw [Int.mul_comm b] at e
  omega
theorem Sp.planM_bd {k : Int} (h0 : 0 ≤ k) (h1 : k ≤ 4096) : 0 ≤ Sp.planM k ∧ Sp.planM k ≤ 300000000 ∧ 65536 * k ≤ Sp.planM k * (65536 - k) := by
  have a := Sp.up_bd (a := 65536 * k) (b := 65536 - k) (by omega) (by omega)
  have b := Sp.up_ge (a := 65536 * k) (b := 65536 - k) (by omega)
  unfold Sp.planM
  exact ⟨a.1, by omega, b.1⟩
theorem Sp.planV_or (n e k j d g v : Int) : (Sp.planE n e k j d g = 0 → Sp.planV n e k j d g v = v) ∧ (Sp.planE n e k j d g ≠ 0 → Sp.planV n e k j d g v = 0) := by
  unfold Sp.planV
  constructor <;> intro h <;> simp [h]
theorem Sp.plan_in {n e k j d g : Int} (hd : Sp.decl n e k j = true) (h0 : 0 ≤ d) (h1 : d ≤ 65536) (h2 : 1 ≤ g) (h3 : g ≤ 4096) : (4096 < Sp.planM k → Sp.planE n e k j d g = 2) ∧
    (Sp.planM k ≤ 4096 → (65536 < Sp.planS n e k j ∨ 65536 < Sp.planQ n e k j d g + Sp.planB n e k j d g → Sp.planE n e k j d g = 3) ∧ (Sp.planS n e k j ≤ 65536 → Sp.planQ n e k j d g + Sp.planB n e k j d g ≤ 65536 → Sp.planE n e k j d g = 0) ∧
      (65536 < Sp.planS n e k j → Sp.boundE 0 d g (Sp.planM k) n e k j (Sp.planS n e k j) = 1 ∧ Sp.planB n e k j d g = 0) ∧
      (Sp.planS n e k j ≤ 65536 → Sp.boundE 0 d g (Sp.planM k) n e k j (Sp.planS n e k j) = 0) ∧
      Sp.boundE 0 d g (Sp.planM k) n e k j 0 = 0 ∧ 0 ≤ Sp.planB n e k j d g ∧ Sp.planB n e k j d g ≤ 30000000000000000 ∧ 0 ≤ Sp.planQ n e k j d g - Sp.planB n e k j d g ∧ Sp.planQ n e k j d g - Sp.planB n e k j d g ≤ 30000000000000000) ∧
    0 ≤ Sp.planS n e k j ∧ Sp.planS n e k j ≤ 20000000000000000 ∧ 0 ≤ Sp.wob n e k ∧ Sp.wob n e k ≤ 10000000000000000 := by
  have hd' := Sp.decl_of hd
  have m := Sp.planM_bd (k := k) (by omega) (by omega)
  have w := Sp.wob_bd (n := n) (d := e) (k := k) (by omega) (by omega) (by omega) (by omega) (by omega) (by omega)
  have hS : Sp.planS n e k j = Sp.wob n e k + j + 1 := rfl
  refine ⟨fun hM => ?_, fun hM => ?_, by omega, by omega, w.1, w.2⟩
  · unfold Sp.planE
    rw [if_neg (by simp only [hd]; simp; omega), if_pos hM]
  · have hv : Sp.valid 0 d g (Sp.planM k) = true := by rw [Sp.valid_iff]; omega
    have w2 := Sp.wob_bd (n := n) (d := e) (k := k + Sp.planM k) (by omega) (by omega) (by omega) (by omega) (by omega) (by omega)
    have u1 := Sp.up_bd (a := Sp.planM k) (b := g) (by omega) (by omega)
    have u2 := Sp.up_bd (a := n) (b := e) (by omega) (by omega)
    have b0 : ∀ s, 0 ≤ s → s ≤ 65536 → Sp.boundE 0 d g (Sp.planM k) n e k j s = 0 := fun s hs hs' => by
      unfold Sp.boundE
      rw [if_neg (by simp only [hv, hd]; simp; omega), if_neg (by omega)]
    have b1 : 65536 < Sp.planS n e k j → Sp.boundE 0 d g (Sp.planM k) n e k j (Sp.planS n e k j) = 1 := fun hs => by
      unfold Sp.boundE
      rw [if_pos (.inr (.inr (.inr hs)))]
    have hB1 : 65536 < Sp.planS n e k j → Sp.planB n e k j d g = 0 := fun hs => by
      unfold Sp.planB Sp.boundV
      rw [if_pos (by rw [b1 hs]; omega)]
    have hB2 : Sp.planS n e k j ≤ 65536 → Sp.planB n e k j d g = max (Sp.planS n e k j) (d + Sp.up (Sp.planM k) g) + Sp.wob n e (k + Sp.planM k) + 2 * j + 2 := fun hs => by
      unfold Sp.planB Sp.boundV
      rw [if_neg (by rw [b0 _ (by omega) hs]; omega)]
    have hQ : Sp.planQ n e k j d g - Sp.planB n e k j d g = Sp.up n e + Sp.wob n e (k + Sp.planM k) + 2 * j + 3 := by
      unfold Sp.planQ Sp.demV
      rw [if_neg (by rw [b0 _ (by omega) (by omega)]; omega)]
      omega
    have hE : Sp.planE n e k j d g = if 65536 < Sp.planS n e k j ∨ 65536 < Sp.planQ n e k j d g + Sp.planB n e k j d g then 3 else 0 := by
      unfold Sp.planE
      rw [if_neg (by simp only [hd]; simp; omega), if_neg (by omega)]
    refine ⟨fun h => by rw [hE, if_pos h], fun h h' => by rw [hE, if_neg (by omega)], fun h => ⟨b1 h, hB1 h⟩, fun h => b0 _ (by omega) h, b0 0 (by omega) (by omega), ?_, ?_, by omega, by omega⟩
    · omega
    · omega
theorem Sp.plan_out {n e k j d g : Int} (h : Sp.decl n e k j = false ∨ d < 0 ∨ 65536 < d ∨ g < 1 ∨ 4096 < g) : Sp.planE n e k j d g = 1 := by
  unfold Sp.planE
  rw [if_pos h]
end Go

namespace Go.Sx
/-! ### function 21: control.Plan -/
def ct21 : Ct := { ps := [(true, [.int .i64, .int .i64]), (false, [.int .i64]), (false, [.int .i64]), (false, [.int .i64]), (false, [.int .i64])], rs := [(true, [.int .i64, .int .i64, .int .i64, .int .i64]), (false, [.int .i64]), (false, [.int .i64])], pre := fun _ => True, out := fun a => [[.i (Sp.planV (cel 0 (arg 0 a)).int (cel 1 (arg 0 a)).int (cel 0 (arg 1 a)).int (cel 0 (arg 2 a)).int (cel 0 (arg 3 a)).int (cel 0 (arg 4 a)).int (Sp.planQ (cel 0 (arg 0 a)).int (cel 1 (arg 0 a)).int (cel 0 (arg 1 a)).int (cel 0 (arg 2 a)).int (cel 0 (arg 3 a)).int (cel 0 (arg 4 a)).int)), .i (Sp.planV (cel 0 (arg 0 a)).int (cel 1 (arg 0 a)).int (cel 0 (arg 1 a)).int (cel 0 (arg 2 a)).int (cel 0 (arg 3 a)).int (cel 0 (arg 4 a)).int (cel 0 (arg 3 a)).int), .i (Sp.planV (cel 0 (arg 0 a)).int (cel 1 (arg 0 a)).int (cel 0 (arg 1 a)).int (cel 0 (arg 2 a)).int (cel 0 (arg 3 a)).int (cel 0 (arg 4 a)).int (cel 0 (arg 4 a)).int), .i (Sp.planV (cel 0 (arg 0 a)).int (cel 1 (arg 0 a)).int (cel 0 (arg 1 a)).int (cel 0 (arg 2 a)).int (cel 0 (arg 3 a)).int (cel 0 (arg 4 a)).int (Sp.planM (cel 0 (arg 1 a)).int))], [.i (Sp.planV (cel 0 (arg 0 a)).int (cel 1 (arg 0 a)).int (cel 0 (arg 1 a)).int (cel 0 (arg 2 a)).int (cel 0 (arg 3 a)).int (cel 0 (arg 4 a)).int (Sp.planQ (cel 0 (arg 0 a)).int (cel 1 (arg 0 a)).int (cel 0 (arg 1 a)).int (cel 0 (arg 2 a)).int (cel 0 (arg 3 a)).int (cel 0 (arg 4 a)).int + Sp.planB (cel 0 (arg 0 a)).int (cel 1 (arg 0 a)).int (cel 0 (arg 1 a)).int (cel 0 (arg 2 a)).int (cel 0 (arg 3 a)).int (cel 0 (arg 4 a)).int))], [.i (Sp.planE (cel 0 (arg 0 a)).int (cel 1 (arg 0 a)).int (cel 0 (arg 1 a)).int (cel 0 (arg 2 a)).int (cel 0 (arg 3 a)).int (cel 0 (arg 4 a)).int)]] }
def tb21 : List (Nat × Ct) := [(17, ct17), (19, ct19), (27, ct27), (28, ct28), (29, ct29)]
theorem e21 (n : Int) (e : Int) (k : Int) (j : Int) (d : Int) (g : Int) : vcF Go.Proofs.Try.prog (look tb21) (fun _ => false) (fun _ _ => LoopAnn.unroll 200) 6 21 [.agg [.int .i64 n, .int .i64 e], .int .i64 k, .int .i64 j, .int .i64 d, .int .i64 g] [] (fun sv heap => Gives [(true, [.int .i64, .int .i64, .int .i64, .int .i64]), (false, [.int .i64]), (false, [.int .i64])] [[.i (Sp.planV n e k j d g (Sp.planQ n e k j d g)), .i (Sp.planV n e k j d g d), .i (Sp.planV n e k j d g g), .i (Sp.planV n e k j d g (Sp.planM k))], [.i (Sp.planV n e k j d g (Sp.planQ n e k j d g + Sp.planB n e k j d g))], [.i (Sp.planE n e k j d g)]] sv heap) = (True ∧ (True → True ∧ (bNot (Sp.decl n e k j) = false → (bLt d 0 = false → (bLt 65536 d = false → (bLt g 1 = false → (bLt 4096 g = true → (0 = Sp.planV n e k j d g (Sp.planQ n e k j d g) ∧ 0 = Sp.planV n e k j d g d ∧ 0 = Sp.planV n e k j d g g ∧ 0 = Sp.planV n e k j d g (Sp.planM k) ∧ True) ∧ (0 = Sp.planV n e k j d g (Sp.planQ n e k j d g + Sp.planB n e k j d g) ∧ True) ∧ (1 = Sp.planE n e k j d g ∧ True) ∧ True) ∧ (bLt 4096 g = false → InR IntKind.i64 (iMul 65536 k) ∧ InR IntKind.i64 (iSub 65536 k) ∧ (0 ≤ iMul 65536 k ∧ 1 ≤ iSub 65536 k ∧ iMul 65536 k + iSub 65536 k ≤ 9223372036854775807) ∧ (InR IntKind.i64 (Sp.up (iMul 65536 k) (iSub 65536 k)) → (bLt 4096 (Sp.up (iMul 65536 k) (iSub 65536 k)) = true → (0 = Sp.planV n e k j d g (Sp.planQ n e k j d g) ∧ 0 = Sp.planV n e k j d g d ∧ 0 = Sp.planV n e k j d g g ∧ 0 = Sp.planV n e k j d g (Sp.planM k) ∧ True) ∧ (0 = Sp.planV n e k j d g (Sp.planQ n e k j d g + Sp.planB n e k j d g) ∧ True) ∧ (2 = Sp.planE n e k j d g ∧ True) ∧ True) ∧ (bLt 4096 (Sp.up (iMul 65536 k) (iSub 65536 k)) = false → (1 ≤ n ∧ 1 ≤ e ∧ e ≤ 768000 ∧ n ≤ e * 64 * 8192 ∧ 0 ≤ k ∧ k ≤ 8192) ∧ (InR IntKind.i64 (Sp.wob n e k) → InR IntKind.i64 (iAdd (Sp.wob n e k) j) ∧ InR IntKind.i64 (iAdd (iAdd (Sp.wob n e k) j) 1) ∧ True ∧ (InR IntKind.i64 (Sp.boundV 0 d g (Sp.up (iMul 65536 k) (iSub 65536 k)) n e k j (iAdd (iAdd (Sp.wob n e k) j) 1)) ∧ InR IntKind.i64 (Sp.boundE 0 d g (Sp.up (iMul 65536 k) (iSub 65536 k)) n e k j (iAdd (iAdd (Sp.wob n e k) j) 1)) ∧ True → True ∧ (InR IntKind.i64 (Sp.demV 0 d g (Sp.up (iMul 65536 k) (iSub 65536 k)) n e k j) ∧ InR IntKind.i64 (Sp.boundE 0 d g (Sp.up (iMul 65536 k) (iSub 65536 k)) n e k j 0) ∧ True → InR IntKind.i64 (iAdd (Sp.demV 0 d g (Sp.up (iMul 65536 k) (iSub 65536 k)) n e k j) (Sp.boundV 0 d g (Sp.up (iMul 65536 k) (iSub 65536 k)) n e k j (iAdd (iAdd (Sp.wob n e k) j) 1))) ∧ (bNe (Sp.boundE 0 d g (Sp.up (iMul 65536 k) (iSub 65536 k)) n e k j (iAdd (iAdd (Sp.wob n e k) j) 1)) 0 = false → (bNe (Sp.boundE 0 d g (Sp.up (iMul 65536 k) (iSub 65536 k)) n e k j 0) 0 = false → InR IntKind.i64 (iAdd (iAdd (Sp.demV 0 d g (Sp.up (iMul 65536 k) (iSub 65536 k)) n e k j) (Sp.boundV 0 d g (Sp.up (iMul 65536 k) (iSub 65536 k)) n e k j (iAdd (iAdd (Sp.wob n e k) j) 1))) (Sp.boundV 0 d g (Sp.up (iMul 65536 k) (iSub 65536 k)) n e k j (iAdd (iAdd (Sp.wob n e k) j) 1))) ∧ (bLt 65536 (iAdd (iAdd (Sp.demV 0 d g (Sp.up (iMul 65536 k) (iSub 65536 k)) n e k j) (Sp.boundV 0 d g (Sp.up (iMul 65536 k) (iSub 65536 k)) n e k j (iAdd (iAdd (Sp.wob n e k) j) 1))) (Sp.boundV 0 d g (Sp.up (iMul 65536 k) (iSub 65536 k)) n e k j (iAdd (iAdd (Sp.wob n e k) j) 1))) = true → (0 = Sp.planV n e k j d g (Sp.planQ n e k j d g) ∧ 0 = Sp.planV n e k j d g d ∧ 0 = Sp.planV n e k j d g g ∧ 0 = Sp.planV n e k j d g (Sp.planM k) ∧ True) ∧ (0 = Sp.planV n e k j d g (Sp.planQ n e k j d g + Sp.planB n e k j d g) ∧ True) ∧ (3 = Sp.planE n e k j d g ∧ True) ∧ True) ∧ (bLt 65536 (iAdd (iAdd (Sp.demV 0 d g (Sp.up (iMul 65536 k) (iSub 65536 k)) n e k j) (Sp.boundV 0 d g (Sp.up (iMul 65536 k) (iSub 65536 k)) n e k j (iAdd (iAdd (Sp.wob n e k) j) 1))) (Sp.boundV 0 d g (Sp.up (iMul 65536 k) (iSub 65536 k)) n e k j (iAdd (iAdd (Sp.wob n e k) j) 1))) = false → InR IntKind.i64 (iAdd (iAdd (Sp.demV 0 d g (Sp.up (iMul 65536 k) (iSub 65536 k)) n e k j) (Sp.boundV 0 d g (Sp.up (iMul 65536 k) (iSub 65536 k)) n e k j (iAdd (iAdd (Sp.wob n e k) j) 1))) (Sp.boundV 0 d g (Sp.up (iMul 65536 k) (iSub 65536 k)) n e k j (iAdd (iAdd (Sp.wob n e k) j) 1))) ∧ (iAdd (Sp.demV 0 d g (Sp.up (iMul 65536 k) (iSub 65536 k)) n e k j) (Sp.boundV 0 d g (Sp.up (iMul 65536 k) (iSub 65536 k)) n e k j (iAdd (iAdd (Sp.wob n e k) j) 1)) = Sp.planV n e k j d g (Sp.planQ n e k j d g) ∧ d = Sp.planV n e k j d g d ∧ g = Sp.planV n e k j d g g ∧ Sp.up (iMul 65536 k) (iSub 65536 k) = Sp.planV n e k j d g (Sp.planM k) ∧ True) ∧ (iAdd (iAdd (Sp.demV 0 d g (Sp.up (iMul 65536 k) (iSub 65536 k)) n e k j) (Sp.boundV 0 d g (Sp.up (iMul 65536 k) (iSub 65536 k)) n e k j (iAdd (iAdd (Sp.wob n e k) j) 1))) (Sp.boundV 0 d g (Sp.up (iMul 65536 k) (iSub 65536 k)) n e k j (iAdd (iAdd (Sp.wob n e k) j) 1)) = Sp.planV n e k j d g (Sp.planQ n e k j d g + Sp.planB n e k j d g) ∧ True) ∧ (0 = Sp.planE n e k j d g ∧ True) ∧ True)) ∧ (bNe (Sp.boundE 0 d g (Sp.up (iMul 65536 k) (iSub 65536 k)) n e k j 0) 0 = true → (0 = Sp.planV n e k j d g (Sp.planQ n e k j d g) ∧ 0 = Sp.planV n e k j d g d ∧ 0 = Sp.planV n e k j d g g ∧ 0 = Sp.planV n e k j d g (Sp.planM k) ∧ True) ∧ (0 = Sp.planV n e k j d g (Sp.planQ n e k j d g + Sp.planB n e k j d g) ∧ True) ∧ (3 = Sp.planE n e k j d g ∧ True) ∧ True)) ∧ (bNe (Sp.boundE 0 d g (Sp.up (iMul 65536 k) (iSub 65536 k)) n e k j (iAdd (iAdd (Sp.wob n e k) j) 1)) 0 = true → (0 = Sp.planV n e k j d g (Sp.planQ n e k j d g) ∧ 0 = Sp.planV n e k j d g d ∧ 0 = Sp.planV n e k j d g g ∧ 0 = Sp.planV n e k j d g (Sp.planM k) ∧ True) ∧ (0 = Sp.planV n e k j d g (Sp.planQ n e k j d g + Sp.planB n e k j d g) ∧ True) ∧ (3 = Sp.planE n e k j d g ∧ True) ∧ True)))))))) ∧ (bLt g 1 = true → (0 = Sp.planV n e k j d g (Sp.planQ n e k j d g) ∧ 0 = Sp.planV n e k j d g d ∧ 0 = Sp.planV n e k j d g g ∧ 0 = Sp.planV n e k j d g (Sp.planM k) ∧ True) ∧ (0 = Sp.planV n e k j d g (Sp.planQ n e k j d g + Sp.planB n e k j d g) ∧ True) ∧ (1 = Sp.planE n e k j d g ∧ True) ∧ True)) ∧ (bLt 65536 d = true → (0 = Sp.planV n e k j d g (Sp.planQ n e k j d g) ∧ 0 = Sp.planV n e k j d g d ∧ 0 = Sp.planV n e k j d g g ∧ 0 = Sp.planV n e k j d g (Sp.planM k) ∧ True) ∧ (0 = Sp.planV n e k j d g (Sp.planQ n e k j d g + Sp.planB n e k j d g) ∧ True) ∧ (1 = Sp.planE n e k j d g ∧ True) ∧ True)) ∧ (bLt d 0 = true → (0 = Sp.planV n e k j d g (Sp.planQ n e k j d g) ∧ 0 = Sp.planV n e k j d g d ∧ 0 = Sp.planV n e k j d g g ∧ 0 = Sp.planV n e k j d g (Sp.planM k) ∧ True) ∧ (0 = Sp.planV n e k j d g (Sp.planQ n e k j d g + Sp.planB n e k j d g) ∧ True) ∧ (1 = Sp.planE n e k j d g ∧ True) ∧ True)) ∧ (bNot (Sp.decl n e k j) = true → (0 = Sp.planV n e k j d g (Sp.planQ n e k j d g) ∧ 0 = Sp.planV n e k j d g d ∧ 0 = Sp.planV n e k j d g g ∧ 0 = Sp.planV n e k j d g (Sp.planM k) ∧ True) ∧ (0 = Sp.planV n e k j d g (Sp.planQ n e k j d g + Sp.planB n e k j d g) ∧ True) ∧ (1 = Sp.planE n e k j d g ∧ True) ∧ True))) := by kernel_rfl
theorem v21 (n : Int) (e : Int) (k : Int) (j : Int) (d : Int) (g : Int) : Holds (Wfs [.agg [.int .i64 n, .int .i64 e], .int .i64 k, .int .i64 j, .int .i64 d, .int .i64 g] → True → vcF Go.Proofs.Try.prog (look tb21) (fun _ => false) (fun _ _ => LoopAnn.unroll 200) 6 21 [.agg [.int .i64 n, .int .i64 e], .int .i64 k, .int .i64 j, .int .i64 d, .int .i64 g] [] (fun sv heap => Gives [(true, [.int .i64, .int .i64, .int .i64, .int .i64]), (false, [.int .i64]), (false, [.int .i64])] [[.i (Sp.planV n e k j d g (Sp.planQ n e k j d g)), .i (Sp.planV n e k j d g d), .i (Sp.planV n e k j d g g), .i (Sp.planV n e k j d g (Sp.planM k))], [.i (Sp.planV n e k j d g (Sp.planQ n e k j d g + Sp.planB n e k j d g))], [.i (Sp.planE n e k j d g)]] sv heap)) := by
  refine ⟨fun hw hp => ?_⟩
  rw [e21]
  simp only [iAdd, iSub, iMul, bNot, bLt, bNe, decide_eq_true_eq, Bool.not_eq_true', decide_eq_false_iff_not, Bool.not_eq_false', and_true, true_and, true_implies]
  rw [show Sp.up (65536 * k) (65536 - k) = Sp.planM k from rfl, show Sp.wob n e k + j + 1 = Sp.planS n e k j from rfl, show Sp.boundV 0 d g (Sp.planM k) n e k j (Sp.planS n e k j) = Sp.planB n e k j d g from rfl]
  have q1 : Sp.planQ n e k j d g = Sp.demV 0 d g (Sp.planM k) n e k j + Sp.planB n e k j d g := rfl
  have o1 := Sp.planV_or n e k j d g (Sp.planQ n e k j d g)
  have o2 := Sp.planV_or n e k j d g d
  have o3 := Sp.planV_or n e k j d g g
  have o4 := Sp.planV_or n e k j d g (Sp.planM k)
  have o5 := Sp.planV_or n e k j d g (Sp.planQ n e k j d g + Sp.planB n e k j d g)
  have out := Sp.plan_out (n := n) (e := e) (k := k) (j := j) (d := d) (g := g)
  have inn := fun h => Sp.plan_in (n := n) (e := e) (k := k) (j := j) (d := d) (g := g) h
  have dd := Sp.decl_of (n := n) (e := e) (k := k) (j := j)
  have mm := fun h0 h1 => Sp.planM_bd (k := k) h0 h1
  generalize Sp.planV n e k j d g (Sp.planQ n e k j d g) = z1 at *
  generalize Sp.planV n e k j d g d = z2 at *
  generalize Sp.planV n e k j d g g = z3 at *
  generalize Sp.planV n e k j d g (Sp.planM k) = z4 at *
  generalize Sp.planV n e k j d g (Sp.planQ n e k j d g + Sp.planB n e k j d g) = z5 at *
  generalize Sp.planE n e k j d g = z6 at *
  generalize Sp.demV 0 d g (Sp.planM k) n e k j = z7 at *
  generalize Sp.boundE 0 d g (Sp.planM k) n e k j (Sp.planS n e k j) = z8 at *
  generalize Sp.boundE 0 d g (Sp.planM k) n e k j 0 = z9 at *
  generalize Sp.planQ n e k j d g = y1 at *
  generalize Sp.planB n e k j d g = y2 at *
  have wS : Sp.planS n e k j = Sp.wob n e k + j + 1 := rfl
  generalize Sp.planS n e k j = y3 at *
  generalize Sp.wob n e k = y4 at *
  generalize Sp.planM k = y5 at *
  clear hw hp
  simp only [InR]
  cases hd : Sp.decl n e k j
  · have out := out (.inl hd)
    simp only [Bool.false_eq_true, Bool.true_eq_false, reduceCtorEq, false_implies, true_implies, and_true, true_and]
    omega
  · have dd := dd hd
    have mm := mm (by omega) (by omega)
    have hp : 0 ≤ d → d ≤ 65536 → 1 ≤ g → g ≤ 4096 → _ := inn hd
    simp only [hd, Bool.false_eq_true, Bool.true_eq_false, reduceCtorEq, false_or, false_implies, true_implies, and_true, true_and] at *
    repeat' (first | apply And.intro | intro _)
    all_goals (first | omega | (have := hp (by omega) (by omega) (by omega) (by omega); omega))
theorem s21 : SoundCt Go.Proofs.Try.prog 21 ct21 :=
  contractH followsMixed (look_sound (show Tb Go.Proofs.Try.prog tb21 from ⟨s17, ⟨s19, ⟨s27, ⟨s28, ⟨s29, trivial⟩⟩⟩⟩⟩)) (fun _ => false) (fun _ => fun _ _ => LoopAnn.unroll 200) 6 21 ct21 rfl (by simp [ct21]) fun a => Eq.mp (by kernel_rfl) (v21 ((cel 0 (arg 0 a)).int) ((cel 1 (arg 0 a)).int) ((cel 0 (arg 1 a)).int) ((cel 0 (arg 2 a)).int) ((cel 0 (arg 3 a)).int) ((cel 0 (arg 4 a)).int))
end Go.Sx

namespace Go.Sx
/-! ### function 22: ref18.Plan -/
def ct22 : Ct := { ps := [(true, [.int .i64, .int .i64]), (false, [.int .i64]), (false, [.int .i64]), (false, [.int .i64]), (false, [.int .i64])], rs := [(true, [.int .i64, .int .i64, .int .i64, .int .i64]), (false, [.int .i64]), (false, [.int .i64])], pre := fun _ => True, out := fun a => [[.i (Sp.planV (cel 0 (arg 0 a)).int (cel 1 (arg 0 a)).int (cel 0 (arg 1 a)).int (cel 0 (arg 2 a)).int (cel 0 (arg 3 a)).int (cel 0 (arg 4 a)).int (Sp.planQ (cel 0 (arg 0 a)).int (cel 1 (arg 0 a)).int (cel 0 (arg 1 a)).int (cel 0 (arg 2 a)).int (cel 0 (arg 3 a)).int (cel 0 (arg 4 a)).int)), .i (Sp.planV (cel 0 (arg 0 a)).int (cel 1 (arg 0 a)).int (cel 0 (arg 1 a)).int (cel 0 (arg 2 a)).int (cel 0 (arg 3 a)).int (cel 0 (arg 4 a)).int (cel 0 (arg 3 a)).int), .i (Sp.planV (cel 0 (arg 0 a)).int (cel 1 (arg 0 a)).int (cel 0 (arg 1 a)).int (cel 0 (arg 2 a)).int (cel 0 (arg 3 a)).int (cel 0 (arg 4 a)).int (cel 0 (arg 4 a)).int), .i (Sp.planV (cel 0 (arg 0 a)).int (cel 1 (arg 0 a)).int (cel 0 (arg 1 a)).int (cel 0 (arg 2 a)).int (cel 0 (arg 3 a)).int (cel 0 (arg 4 a)).int (Sp.planM (cel 0 (arg 1 a)).int))], [.i (Sp.planV (cel 0 (arg 0 a)).int (cel 1 (arg 0 a)).int (cel 0 (arg 1 a)).int (cel 0 (arg 2 a)).int (cel 0 (arg 3 a)).int (cel 0 (arg 4 a)).int (Sp.planQ (cel 0 (arg 0 a)).int (cel 1 (arg 0 a)).int (cel 0 (arg 1 a)).int (cel 0 (arg 2 a)).int (cel 0 (arg 3 a)).int (cel 0 (arg 4 a)).int + Sp.planB (cel 0 (arg 0 a)).int (cel 1 (arg 0 a)).int (cel 0 (arg 1 a)).int (cel 0 (arg 2 a)).int (cel 0 (arg 3 a)).int (cel 0 (arg 4 a)).int))], [.i (Sp.planE (cel 0 (arg 0 a)).int (cel 1 (arg 0 a)).int (cel 0 (arg 1 a)).int (cel 0 (arg 2 a)).int (cel 0 (arg 3 a)).int (cel 0 (arg 4 a)).int)]] }
def tb22 : List (Nat × Ct) := [(18, ct18), (20, ct20), (30, ct30), (31, ct31), (32, ct32)]
theorem e22 (n : Int) (e : Int) (k : Int) (j : Int) (d : Int) (g : Int) : vcF Go.Proofs.Try.prog (look tb22) (fun _ => false) (fun _ _ => LoopAnn.unroll 200) 6 22 [.agg [.int .i64 n, .int .i64 e], .int .i64 k, .int .i64 j, .int .i64 d, .int .i64 g] [] (fun sv heap => Gives [(true, [.int .i64, .int .i64, .int .i64, .int .i64]), (false, [.int .i64]), (false, [.int .i64])] [[.i (Sp.planV n e k j d g (Sp.planQ n e k j d g)), .i (Sp.planV n e k j d g d), .i (Sp.planV n e k j d g g), .i (Sp.planV n e k j d g (Sp.planM k))], [.i (Sp.planV n e k j d g (Sp.planQ n e k j d g + Sp.planB n e k j d g))], [.i (Sp.planE n e k j d g)]] sv heap) = (True ∧ (True → True ∧ (bNot (Sp.decl n e k j) = false → (bLt d 0 = false → (bLt 65536 d = false → (bLt g 1 = false → (bLt 4096 g = true → (0 = Sp.planV n e k j d g (Sp.planQ n e k j d g) ∧ 0 = Sp.planV n e k j d g d ∧ 0 = Sp.planV n e k j d g g ∧ 0 = Sp.planV n e k j d g (Sp.planM k) ∧ True) ∧ (0 = Sp.planV n e k j d g (Sp.planQ n e k j d g + Sp.planB n e k j d g) ∧ True) ∧ (1 = Sp.planE n e k j d g ∧ True) ∧ True) ∧ (bLt 4096 g = false → InR IntKind.i64 (iMul 65536 k) ∧ InR IntKind.i64 (iSub 65536 k) ∧ (0 ≤ iMul 65536 k ∧ 1 ≤ iSub 65536 k ∧ iMul 65536 k + iSub 65536 k ≤ 9223372036854775807) ∧ (InR IntKind.i64 (Sp.up (iMul 65536 k) (iSub 65536 k)) → (bLt 4096 (Sp.up (iMul 65536 k) (iSub 65536 k)) = true → (0 = Sp.planV n e k j d g (Sp.planQ n e k j d g) ∧ 0 = Sp.planV n e k j d g d ∧ 0 = Sp.planV n e k j d g g ∧ 0 = Sp.planV n e k j d g (Sp.planM k) ∧ True) ∧ (0 = Sp.planV n e k j d g (Sp.planQ n e k j d g + Sp.planB n e k j d g) ∧ True) ∧ (2 = Sp.planE n e k j d g ∧ True) ∧ True) ∧ (bLt 4096 (Sp.up (iMul 65536 k) (iSub 65536 k)) = false → (1 ≤ n ∧ 1 ≤ e ∧ e ≤ 768000 ∧ n ≤ e * 64 * 8192 ∧ 0 ≤ k ∧ k ≤ 8192) ∧ (InR IntKind.i64 (Sp.wob n e k) → InR IntKind.i64 (iAdd (Sp.wob n e k) j) ∧ InR IntKind.i64 (iAdd (iAdd (Sp.wob n e k) j) 1) ∧ (bLt 65536 (iAdd (iAdd (Sp.wob n e k) j) 1) = true → (0 = Sp.planV n e k j d g (Sp.planQ n e k j d g) ∧ 0 = Sp.planV n e k j d g d ∧ 0 = Sp.planV n e k j d g g ∧ 0 = Sp.planV n e k j d g (Sp.planM k) ∧ True) ∧ (0 = Sp.planV n e k j d g (Sp.planQ n e k j d g + Sp.planB n e k j d g) ∧ True) ∧ (3 = Sp.planE n e k j d g ∧ True) ∧ True) ∧ (bLt 65536 (iAdd (iAdd (Sp.wob n e k) j) 1) = false → True ∧ (InR IntKind.i64 (Sp.boundV 0 d g (Sp.up (iMul 65536 k) (iSub 65536 k)) n e k j (iAdd (iAdd (Sp.wob n e k) j) 1)) ∧ InR IntKind.i64 (Sp.boundE 0 d g (Sp.up (iMul 65536 k) (iSub 65536 k)) n e k j (iAdd (iAdd (Sp.wob n e k) j) 1)) ∧ True → True ∧ (InR IntKind.i64 (Sp.demV 0 d g (Sp.up (iMul 65536 k) (iSub 65536 k)) n e k j) ∧ InR IntKind.i64 (Sp.boundE 0 d g (Sp.up (iMul 65536 k) (iSub 65536 k)) n e k j 0) ∧ True → InR IntKind.i64 (iMul 2 (Sp.boundV 0 d g (Sp.up (iMul 65536 k) (iSub 65536 k)) n e k j (iAdd (iAdd (Sp.wob n e k) j) 1))) ∧ InR IntKind.i64 (iAdd (Sp.demV 0 d g (Sp.up (iMul 65536 k) (iSub 65536 k)) n e k j) (iMul 2 (Sp.boundV 0 d g (Sp.up (iMul 65536 k) (iSub 65536 k)) n e k j (iAdd (iAdd (Sp.wob n e k) j) 1)))) ∧ (bLt 65536 (iAdd (Sp.demV 0 d g (Sp.up (iMul 65536 k) (iSub 65536 k)) n e k j) (iMul 2 (Sp.boundV 0 d g (Sp.up (iMul 65536 k) (iSub 65536 k)) n e k j (iAdd (iAdd (Sp.wob n e k) j) 1)))) = true → (0 = Sp.planV n e k j d g (Sp.planQ n e k j d g) ∧ 0 = Sp.planV n e k j d g d ∧ 0 = Sp.planV n e k j d g g ∧ 0 = Sp.planV n e k j d g (Sp.planM k) ∧ True) ∧ (0 = Sp.planV n e k j d g (Sp.planQ n e k j d g + Sp.planB n e k j d g) ∧ True) ∧ (3 = Sp.planE n e k j d g ∧ True) ∧ True) ∧ (bLt 65536 (iAdd (Sp.demV 0 d g (Sp.up (iMul 65536 k) (iSub 65536 k)) n e k j) (iMul 2 (Sp.boundV 0 d g (Sp.up (iMul 65536 k) (iSub 65536 k)) n e k j (iAdd (iAdd (Sp.wob n e k) j) 1)))) = false → InR IntKind.i64 (iAdd (Sp.demV 0 d g (Sp.up (iMul 65536 k) (iSub 65536 k)) n e k j) (Sp.boundV 0 d g (Sp.up (iMul 65536 k) (iSub 65536 k)) n e k j (iAdd (iAdd (Sp.wob n e k) j) 1))) ∧ InR IntKind.i64 (iAdd (iAdd (Sp.demV 0 d g (Sp.up (iMul 65536 k) (iSub 65536 k)) n e k j) (Sp.boundV 0 d g (Sp.up (iMul 65536 k) (iSub 65536 k)) n e k j (iAdd (iAdd (Sp.wob n e k) j) 1))) (Sp.boundV 0 d g (Sp.up (iMul 65536 k) (iSub 65536 k)) n e k j (iAdd (iAdd (Sp.wob n e k) j) 1))) ∧ (iAdd (Sp.demV 0 d g (Sp.up (iMul 65536 k) (iSub 65536 k)) n e k j) (Sp.boundV 0 d g (Sp.up (iMul 65536 k) (iSub 65536 k)) n e k j (iAdd (iAdd (Sp.wob n e k) j) 1)) = Sp.planV n e k j d g (Sp.planQ n e k j d g) ∧ d = Sp.planV n e k j d g d ∧ g = Sp.planV n e k j d g g ∧ Sp.up (iMul 65536 k) (iSub 65536 k) = Sp.planV n e k j d g (Sp.planM k) ∧ True) ∧ (iAdd (iAdd (Sp.demV 0 d g (Sp.up (iMul 65536 k) (iSub 65536 k)) n e k j) (Sp.boundV 0 d g (Sp.up (iMul 65536 k) (iSub 65536 k)) n e k j (iAdd (iAdd (Sp.wob n e k) j) 1))) (Sp.boundV 0 d g (Sp.up (iMul 65536 k) (iSub 65536 k)) n e k j (iAdd (iAdd (Sp.wob n e k) j) 1)) = Sp.planV n e k j d g (Sp.planQ n e k j d g + Sp.planB n e k j d g) ∧ True) ∧ (0 = Sp.planE n e k j d g ∧ True) ∧ True))))))))) ∧ (bLt g 1 = true → (0 = Sp.planV n e k j d g (Sp.planQ n e k j d g) ∧ 0 = Sp.planV n e k j d g d ∧ 0 = Sp.planV n e k j d g g ∧ 0 = Sp.planV n e k j d g (Sp.planM k) ∧ True) ∧ (0 = Sp.planV n e k j d g (Sp.planQ n e k j d g + Sp.planB n e k j d g) ∧ True) ∧ (1 = Sp.planE n e k j d g ∧ True) ∧ True)) ∧ (bLt 65536 d = true → (0 = Sp.planV n e k j d g (Sp.planQ n e k j d g) ∧ 0 = Sp.planV n e k j d g d ∧ 0 = Sp.planV n e k j d g g ∧ 0 = Sp.planV n e k j d g (Sp.planM k) ∧ True) ∧ (0 = Sp.planV n e k j d g (Sp.planQ n e k j d g + Sp.planB n e k j d g) ∧ True) ∧ (1 = Sp.planE n e k j d g ∧ True) ∧ True)) ∧ (bLt d 0 = true → (0 = Sp.planV n e k j d g (Sp.planQ n e k j d g) ∧ 0 = Sp.planV n e k j d g d ∧ 0 = Sp.planV n e k j d g g ∧ 0 = Sp.planV n e k j d g (Sp.planM k) ∧ True) ∧ (0 = Sp.planV n e k j d g (Sp.planQ n e k j d g + Sp.planB n e k j d g) ∧ True) ∧ (1 = Sp.planE n e k j d g ∧ True) ∧ True)) ∧ (bNot (Sp.decl n e k j) = true → (0 = Sp.planV n e k j d g (Sp.planQ n e k j d g) ∧ 0 = Sp.planV n e k j d g d ∧ 0 = Sp.planV n e k j d g g ∧ 0 = Sp.planV n e k j d g (Sp.planM k) ∧ True) ∧ (0 = Sp.planV n e k j d g (Sp.planQ n e k j d g + Sp.planB n e k j d g) ∧ True) ∧ (1 = Sp.planE n e k j d g ∧ True) ∧ True))) := by kernel_rfl
theorem v22 (n : Int) (e : Int) (k : Int) (j : Int) (d : Int) (g : Int) : Holds (Wfs [.agg [.int .i64 n, .int .i64 e], .int .i64 k, .int .i64 j, .int .i64 d, .int .i64 g] → True → vcF Go.Proofs.Try.prog (look tb22) (fun _ => false) (fun _ _ => LoopAnn.unroll 200) 6 22 [.agg [.int .i64 n, .int .i64 e], .int .i64 k, .int .i64 j, .int .i64 d, .int .i64 g] [] (fun sv heap => Gives [(true, [.int .i64, .int .i64, .int .i64, .int .i64]), (false, [.int .i64]), (false, [.int .i64])] [[.i (Sp.planV n e k j d g (Sp.planQ n e k j d g)), .i (Sp.planV n e k j d g d), .i (Sp.planV n e k j d g g), .i (Sp.planV n e k j d g (Sp.planM k))], [.i (Sp.planV n e k j d g (Sp.planQ n e k j d g + Sp.planB n e k j d g))], [.i (Sp.planE n e k j d g)]] sv heap)) := by
  refine ⟨fun hw hp => ?_⟩
  rw [e22]
  simp only [iAdd, iSub, iMul, bNot, bLt, bNe, decide_eq_true_eq, Bool.not_eq_true', decide_eq_false_iff_not, Bool.not_eq_false', and_true, true_and, true_implies]
  rw [show Sp.up (65536 * k) (65536 - k) = Sp.planM k from rfl, show Sp.wob n e k + j + 1 = Sp.planS n e k j from rfl, show Sp.boundV 0 d g (Sp.planM k) n e k j (Sp.planS n e k j) = Sp.planB n e k j d g from rfl]
  have q1 : Sp.planQ n e k j d g = Sp.demV 0 d g (Sp.planM k) n e k j + Sp.planB n e k j d g := rfl
  have o1 := Sp.planV_or n e k j d g (Sp.planQ n e k j d g)
  have o2 := Sp.planV_or n e k j d g d
  have o3 := Sp.planV_or n e k j d g g
  have o4 := Sp.planV_or n e k j d g (Sp.planM k)
  have o5 := Sp.planV_or n e k j d g (Sp.planQ n e k j d g + Sp.planB n e k j d g)
  have out := Sp.plan_out (n := n) (e := e) (k := k) (j := j) (d := d) (g := g)
  have inn := fun h => Sp.plan_in (n := n) (e := e) (k := k) (j := j) (d := d) (g := g) h
  have dd := Sp.decl_of (n := n) (e := e) (k := k) (j := j)
  have mm := fun h0 h1 => Sp.planM_bd (k := k) h0 h1
  generalize Sp.planV n e k j d g (Sp.planQ n e k j d g) = z1 at *
  generalize Sp.planV n e k j d g d = z2 at *
  generalize Sp.planV n e k j d g g = z3 at *
  generalize Sp.planV n e k j d g (Sp.planM k) = z4 at *
  generalize Sp.planV n e k j d g (Sp.planQ n e k j d g + Sp.planB n e k j d g) = z5 at *
  generalize Sp.planE n e k j d g = z6 at *
  generalize Sp.demV 0 d g (Sp.planM k) n e k j = z7 at *
  generalize Sp.boundE 0 d g (Sp.planM k) n e k j (Sp.planS n e k j) = z8 at *
  generalize Sp.boundE 0 d g (Sp.planM k) n e k j 0 = z9 at *
  generalize Sp.planQ n e k j d g = y1 at *
  generalize Sp.planB n e k j d g = y2 at *
  have wS : Sp.planS n e k j = Sp.wob n e k + j + 1 := rfl
  generalize Sp.planS n e k j = y3 at *
  generalize Sp.wob n e k = y4 at *
  generalize Sp.planM k = y5 at *
  clear hw hp
  simp only [InR]
  cases hd : Sp.decl n e k j
  · have out := out (.inl hd)
    simp only [Bool.false_eq_true, Bool.true_eq_false, reduceCtorEq, false_implies, true_implies, and_true, true_and]
    omega
  · have dd := dd hd
    have mm := mm (by omega) (by omega)
    have hp : 0 ≤ d → d ≤ 65536 → 1 ≤ g → g ≤ 4096 → _ := inn hd
    simp only [hd, Bool.false_eq_true, Bool.true_eq_false, reduceCtorEq, false_or, false_implies, true_implies, and_true, true_and] at *
    repeat' (first | apply And.intro | intro _)
    all_goals (first | omega | (have := hp (by omega) (by omega) (by omega) (by omega); omega))
theorem s22 : SoundCt Go.Proofs.Try.prog 22 ct22 :=
  contractH followsMixed (look_sound (show Tb Go.Proofs.Try.prog tb22 from ⟨s18, ⟨s20, ⟨s30, ⟨s31, ⟨s32, trivial⟩⟩⟩⟩⟩)) (fun _ => false) (fun _ => fun _ _ => LoopAnn.unroll 200) 6 22 ct22 rfl (by simp [ct22]) fun a => Eq.mp (by kernel_rfl) (v22 ((cel 0 (arg 0 a)).int) ((cel 1 (arg 0 a)).int) ((cel 0 (arg 1 a)).int) ((cel 0 (arg 2 a)).int) ((cel 0 (arg 3 a)).int) ((cel 0 (arg 4 a)).int))
end Go.Sx

