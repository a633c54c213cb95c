/- Contracts and conditions, continued. -/
import Derived.Test.YtodpeopfbcblaaaSxUse
import Derived.Test.YtodpeopfbcblaaaC18b
import Derived.KernelRfl
set_option linter.unusedVariables false
set_option linter.unusedSimpArgs false
set_option maxRecDepth 100000
set_option maxHeartbeats 4000000

namespace Go
open Go.Sx
def Sp.boundE (t d g m n e k j s : Int) : Int := if Sp.valid t d g m = false ∨ Sp.decl n e k j = false ∨ s < 0 ∨ 65536 < s then 1 else if m * (65536 - k) < 65536 * k then 11 else 0
def Sp.boundV (t d g m n e k j s : Int) : Int := if Sp.boundE t d g m n e k j s ≠ 0 then 0 else max s (d + Sp.up m g) + Sp.wob n e (k + m) + 2 * j + 2
def Sp.demV (t d g m n e k j : Int) : Int := if Sp.boundE t d g m n e k j 0 ≠ 0 then 0 else Sp.up n e + Sp.wob n e (k + m) + 2 * j + 3
end Go

namespace Go
open Go.Sx
theorem Sp.decl_of {n e k j : Int} (h : Sp.decl n e k j = true) : 1 ≤ n ∧ 1 ≤ e ∧ n ≤ 68719476736 ∧ e ≤ 768000 ∧ n ≤ e * 64 * 8192 ∧ 0 ≤ k ∧ k ≤ 4096 ∧ 0 ≤ j ∧ j ≤ 65536 := by
  simp only [Sp.decl, Sp.poss, Sp.rvalid, Bool.and_eq_true, decide_eq_true_eq] at h
  omega
theorem Sp.up_bd {a b : Int} (h0 : 0 ≤ a) (h1 : 1 ≤ b) : 0 ≤ Sp.up a b ∧ Sp.up a b ≤ a + b - 1 :=
  ⟨Int.ediv_nonneg (by omega) (by omega), Int.ediv_le_self _ (by omega)⟩
theorem Sp.wob_bd {n d k : Int} (h0 : 1 ≤ n) (h1 : 1 ≤ d) (h2 : d ≤ 768000) (h3 : n ≤ d * 64 * 8192) (h4 : 0 ≤ k) (h5 : k ≤ 8192) : 0 ≤ Sp.wob n d k ∧ Sp.wob n d k ≤ 10000000000000000 := by
  have hb := mul_bd (x := 2 * k) (X := 16384) (y := n) (Y := 402653184000) (by omega) (by omega) (by omega) (by omega)
  have := Sp.up_bd (a := 2 * k * n) (b := 65536 * d) (by omega) (by omega)
  unfold Sp.wob; omega
end Go

namespace Go.Sx
/-! ### function 17: control.Bound -/
def ct17 : Ct := { ps := [(true, [.int .i64, .int .i64, .int .i64, .int .i64]), (true, [.int .i64, .int .i64]), (false, [.int .i64]), (false, [.int .i64]), (false, [.int .i64])], rs := [(false, [.int .i64]), (false, [.int .i64])], pre := fun _ => True, out := fun a => [[.i (Sp.boundV (cel 0 (arg 0 a)).int (cel 1 (arg 0 a)).int (cel 2 (arg 0 a)).int (cel 3 (arg 0 a)).int (cel 0 (arg 1 a)).int (cel 1 (arg 1 a)).int (cel 0 (arg 2 a)).int (cel 0 (arg 3 a)).int (cel 0 (arg 4 a)).int)], [.i (Sp.boundE (cel 0 (arg 0 a)).int (cel 1 (arg 0 a)).int (cel 2 (arg 0 a)).int (cel 3 (arg 0 a)).int (cel 0 (arg 1 a)).int (cel 1 (arg 1 a)).int (cel 0 (arg 2 a)).int (cel 0 (arg 3 a)).int (cel 0 (arg 4 a)).int)]] }
def tb17 : List (Nat × Ct) := [(15, ct15), (27, ct27), (28, ct28), (29, ct29)]
theorem e17 (t : Int) (d : Int) (g : Int) (m : Int) (n : Int) (e : Int) (k : Int) (j : Int) (s : Int) : vcF Go.Proofs.Try.prog (look tb17) (fun _ => false) (fun _ _ => LoopAnn.unroll 200) 6 17 [.agg [.int .i64 t, .int .i64 d, .int .i64 g, .int .i64 m], .agg [.int .i64 n, .int .i64 e], .int .i64 k, .int .i64 j, .int .i64 s] [] (fun sv heap => Gives [(false, [.int .i64]), (false, [.int .i64])] [[.i (Sp.boundV t d g m n e k j s)], [.i (Sp.boundE t d g m n e k j s)]] sv heap) = (True ∧ (True → True ∧ (bNot (Sp.valid t d g m) = true → (0 = Sp.boundV t d g m n e k j s ∧ True) ∧ (1 = Sp.boundE t d g m n e k j s ∧ True) ∧ True) ∧ (bNot (Sp.valid t d g m) = false → True ∧ (True → True ∧ (bNot (Sp.decl n e k j) = true → (0 = Sp.boundV t d g m n e k j s ∧ True) ∧ (1 = Sp.boundE t d g m n e k j s ∧ True) ∧ True) ∧ (bNot (Sp.decl n e k j) = false → (bLt s 0 = true → (0 = Sp.boundV t d g m n e k j s ∧ True) ∧ (1 = Sp.boundE t d g m n e k j s ∧ True) ∧ True) ∧ (bLt s 0 = false → (bLt 65536 s = true → (0 = Sp.boundV t d g m n e k j s ∧ True) ∧ (1 = Sp.boundE t d g m n e k j s ∧ True) ∧ True) ∧ (bLt 65536 s = false → InR IntKind.i64 (iSub 65536 k) ∧ InR IntKind.i64 (iMul m (iSub 65536 k)) ∧ InR IntKind.i64 (iMul 65536 k) ∧ (bLt (iMul m (iSub 65536 k)) (iMul 65536 k) = true → (0 = Sp.boundV t d g m n e k j s ∧ True) ∧ (11 = Sp.boundE t d g m n e k j s ∧ True) ∧ True) ∧ (bLt (iMul m (iSub 65536 k)) (iMul 65536 k) = false → (0 ≤ m ∧ 1 ≤ g ∧ m + g ≤ 9223372036854775807) ∧ (InR IntKind.i64 (Sp.up m g) → InR IntKind.i64 (iAdd d (Sp.up m g)) ∧ InR IntKind.i64 (iAdd k m) ∧ (1 ≤ n ∧ 1 ≤ e ∧ e ≤ 768000 ∧ n ≤ e * 64 * 8192 ∧ 0 ≤ iAdd k m ∧ iAdd k m ≤ 8192) ∧ (InR IntKind.i64 (Sp.wob n e (iAdd k m)) → InR IntKind.i64 (iAdd (iMax s (iAdd d (Sp.up m g))) (Sp.wob n e (iAdd k m))) ∧ InR IntKind.i64 (iMul 2 j) ∧ InR IntKind.i64 (iAdd (iAdd (iMax s (iAdd d (Sp.up m g))) (Sp.wob n e (iAdd k m))) (iMul 2 j)) ∧ InR IntKind.i64 (iAdd (iAdd (iAdd (iMax s (iAdd d (Sp.up m g))) (Sp.wob n e (iAdd k m))) (iMul 2 j)) 2) ∧ (iAdd (iAdd (iAdd (iMax s (iAdd d (Sp.up m g))) (Sp.wob n e (iAdd k m))) (iMul 2 j)) 2 = Sp.boundV t d g m n e k j s ∧ True) ∧ (0 = Sp.boundE t d g m n e k j s ∧ True) ∧ True)))))))))) := by kernel_rfl
theorem v17 (t : Int) (d : Int) (g : Int) (m : Int) (n : Int) (e : Int) (k : Int) (j : Int) (s : Int) : Holds (Wfs [.agg [.int .i64 t, .int .i64 d, .int .i64 g, .int .i64 m], .agg [.int .i64 n, .int .i64 e], .int .i64 k, .int .i64 j, .int .i64 s] → True → vcF Go.Proofs.Try.prog (look tb17) (fun _ => false) (fun _ _ => LoopAnn.unroll 200) 6 17 [.agg [.int .i64 t, .int .i64 d, .int .i64 g, .int .i64 m], .agg [.int .i64 n, .int .i64 e], .int .i64 k, .int .i64 j, .int .i64 s] [] (fun sv heap => Gives [(false, [.int .i64]), (false, [.int .i64])] [[.i (Sp.boundV t d g m n e k j s)], [.i (Sp.boundE t d g m n e k j s)]] sv heap)) := by
  refine ⟨fun hw hp => ?_⟩
  rw [e17]
  simp only [iAdd, iSub, iMul, iMax, bNot, bLt, InR, decide_eq_true_eq, decide_eq_false_iff_not, Bool.not_eq_true', Bool.not_eq_false', and_true, true_and, true_implies]
  by_cases hv : Sp.valid t d g m = true
  · by_cases hd : Sp.decl n e k j = true
    · have hv' := (Sp.valid_iff t d g m).1 hv
      have hd' := Sp.decl_of hd
      have u1 := Sp.up_bd (a := m) (b := g) (by omega) (by omega)
      have u2 := Sp.wob_bd (n := n) (d := e) (k := k + m) (by omega) (by omega) (by omega) (by omega) (by omega) (by omega)
      have u3 := mul_bd (x := m) (X := 4096) (y := 65536 - k) (Y := 65536) (by omega) (by omega) (by omega) (by omega)
      have e1 : Sp.boundE t d g m n e k j s = if s < 0 ∨ 65536 < s then 1 else if m * (65536 - k) < 65536 * k then 11 else 0 := by unfold Sp.boundE; simp [hv, hd]
      have e2 : Sp.boundV t d g m n e k j s = if Sp.boundE t d g m n e k j s ≠ 0 then 0 else max s (d + Sp.up m g) + Sp.wob n e (k + m) + 2 * j + 2 := rfl
      simp only [hv, hd, e2, e1, Bool.true_eq_false, false_implies, true_implies, and_true, true_and]
      clear hv hd hw e1 e2
      generalize Sp.up m g = uu at *
      generalize Sp.wob n e (k + m) = ww at *
      generalize m * (65536 - k) = pp at *
      repeat' (first | apply And.intro | intro _)
      all_goals (first | omega | (split <;> omega))
    · have hd : Sp.decl n e k j = false := by simpa using hd
      have e1 : Sp.boundE t d g m n e k j s = 1 := by unfold Sp.boundE; simp [hd]
      have e2 : Sp.boundV t d g m n e k j s = 0 := by unfold Sp.boundV; simp [e1]
      simp [hv, hd, e1, e2]
  · have hv : Sp.valid t d g m = false := by simpa using hv
    have e1 : Sp.boundE t d g m n e k j s = 1 := by unfold Sp.boundE; simp [hv]
    have e2 : Sp.boundV t d g m n e k j s = 0 := by unfold Sp.boundV; simp [e1]
    simp [hv, e1, e2]
theorem s17 : SoundCt Go.Proofs.Try.prog 17 ct17 :=
  contractH followsMixed (look_sound (show Tb Go.Proofs.Try.prog tb17 from ⟨s15, ⟨s27, ⟨s28, ⟨s29, trivial⟩⟩⟩⟩)) (fun _ => false) (fun _ => fun _ _ => LoopAnn.unroll 200) 6 17 ct17 rfl (by simp [ct17]) fun a => Eq.mp (by kernel_rfl) (v17 ((cel 0 (arg 0 a)).int) ((cel 1 (arg 0 a)).int) ((cel 2 (arg 0 a)).int) ((cel 3 (arg 0 a)).int) ((cel 0 (arg 1 a)).int) ((cel 1 (arg 1 a)).int) ((cel 0 (arg 2 a)).int) ((cel 0 (arg 3 a)).int) ((cel 0 (arg 4 a)).int))
end Go.Sx

namespace Go.Sx
/-! ### function 18: ref18.Bound -/
def ct18 : Ct := { ps := [(true, [.int .i64, .int .i64, .int .i64, .int .i64]), (true, [.int .i64, .int .i64]), (false, [.int .i64]), (false, [.int .i64]), (false, [.int .i64])], rs := [(false, [.int .i64]), (false, [.int .i64])], pre := fun _ => True, out := fun a => [[.i (Sp.boundV (cel 0 (arg 0 a)).int (cel 1 (arg 0 a)).int (cel 2 (arg 0 a)).int (cel 3 (arg 0 a)).int (cel 0 (arg 1 a)).int (cel 1 (arg 1 a)).int (cel 0 (arg 2 a)).int (cel 0 (arg 3 a)).int (cel 0 (arg 4 a)).int)], [.i (Sp.boundE (cel 0 (arg 0 a)).int (cel 1 (arg 0 a)).int (cel 2 (arg 0 a)).int (cel 3 (arg 0 a)).int (cel 0 (arg 1 a)).int (cel 1 (arg 1 a)).int (cel 0 (arg 2 a)).int (cel 0 (arg 3 a)).int (cel 0 (arg 4 a)).int)]] }
def tb18 : List (Nat × Ct) := [(16, ct16), (30, ct30), (31, ct31), (32, ct32)]
theorem e18 (t : Int) (d : Int) (g : Int) (m : Int) (n : Int) (e : Int) (k : Int) (j : Int) (s : Int) : vcF Go.Proofs.Try.prog (look tb18) (fun _ => false) (fun _ _ => LoopAnn.unroll 200) 6 18 [.agg [.int .i64 t, .int .i64 d, .int .i64 g, .int .i64 m], .agg [.int .i64 n, .int .i64 e], .int .i64 k, .int .i64 j, .int .i64 s] [] (fun sv heap => Gives [(false, [.int .i64]), (false, [.int .i64])] [[.i (Sp.boundV t d g m n e k j s)], [.i (Sp.boundE t d g m n e k j s)]] sv heap) = (True ∧ (True → True ∧ (bNot (Sp.valid t d g m) = false → True ∧ (True → True ∧ (bNot (Sp.decl n e k j) = false → (bLt s 0 = false → (bLt 65536 s = true → (0 = Sp.boundV t d g m n e k j s ∧ True) ∧ (1 = Sp.boundE t d g m n e k j s ∧ True) ∧ True) ∧ (bLt 65536 s = false → InR IntKind.i64 (iSub 65536 k) ∧ InR IntKind.i64 (iMul m (iSub 65536 k)) ∧ InR IntKind.i64 (iMul 65536 k) ∧ (bLt (iMul m (iSub 65536 k)) (iMul 65536 k) = true → (0 = Sp.boundV t d g m n e k j s ∧ True) ∧ (11 = Sp.boundE t d g m n e k j s ∧ True) ∧ True) ∧ (bLt (iMul m (iSub 65536 k)) (iMul 65536 k) = false → (0 ≤ m ∧ 1 ≤ g ∧ m + g ≤ 9223372036854775807) ∧ (InR IntKind.i64 (Sp.up m g) → InR IntKind.i64 (iAdd d (Sp.up m g)) ∧ InR IntKind.i64 (iAdd k m) ∧ (1 ≤ n ∧ 1 ≤ e ∧ e ≤ 768000 ∧ n ≤ e * 64 * 8192 ∧ 0 ≤ iAdd k m ∧ iAdd k m ≤ 8192) ∧ (InR IntKind.i64 (Sp.wob n e (iAdd k m)) → InR IntKind.i64 (iAdd (iMax s (iAdd d (Sp.up m g))) (Sp.wob n e (iAdd k m))) ∧ InR IntKind.i64 (iMul 2 j) ∧ InR IntKind.i64 (iAdd (iAdd (iMax s (iAdd d (Sp.up m g))) (Sp.wob n e (iAdd k m))) (iMul 2 j)) ∧ InR IntKind.i64 (iAdd (iAdd (iAdd (iMax s (iAdd d (Sp.up m g))) (Sp.wob n e (iAdd k m))) (iMul 2 j)) 2) ∧ (iAdd (iAdd (iAdd (iMax s (iAdd d (Sp.up m g))) (Sp.wob n e (iAdd k m))) (iMul 2 j)) 2 = Sp.boundV t d g m n e k j s ∧ True) ∧ (0 = Sp.boundE t d g m n e k j s ∧ True) ∧ True))))) ∧ (bLt s 0 = true → (0 = Sp.boundV t d g m n e k j s ∧ True) ∧ (1 = Sp.boundE t d g m n e k j s ∧ True) ∧ True)) ∧ (bNot (Sp.decl n e k j) = true → (0 = Sp.boundV t d g m n e k j s ∧ True) ∧ (1 = Sp.boundE t d g m n e k j s ∧ True) ∧ True))) ∧ (bNot (Sp.valid t d g m) = true → (0 = Sp.boundV t d g m n e k j s ∧ True) ∧ (1 = Sp.boundE t d g m n e k j s ∧ True) ∧ True))) := by kernel_rfl
theorem v18 (t : Int) (d : Int) (g : Int) (m : Int) (n : Int) (e : Int) (k : Int) (j : Int) (s : Int) : Holds (Wfs [.agg [.int .i64 t, .int .i64 d, .int .i64 g, .int .i64 m], .agg [.int .i64 n, .int .i64 e], .int .i64 k, .int .i64 j, .int .i64 s] → True → vcF Go.Proofs.Try.prog (look tb18) (fun _ => false) (fun _ _ => LoopAnn.unroll 200) 6 18 [.agg [.int .i64 t, .int .i64 d, .int .i64 g, .int .i64 m], .agg [.int .i64 n, .int .i64 e], .int .i64 k, .int .i64 j, .int .i64 s] [] (fun sv heap => Gives [(false, [.int .i64]), (false, [.int .i64])] [[.i (Sp.boundV t d g m n e k j s)], [.i (Sp.boundE t d g m n e k j s)]] sv heap)) := by
  refine ⟨fun hw hp => ?_⟩
  rw [e18]
  simp only [iAdd, iSub, iMul, iMax, bNot, bLt, InR, decide_eq_true_eq, decide_eq_false_iff_not, Bool.not_eq_true', Bool.not_eq_false', and_true, true_and, true_implies]
  by_cases hv : Sp.valid t d g m = true
  · by_cases hd : Sp.decl n e k j = true
    · have hv' := (Sp.valid_iff t d g m).1 hv
      have hd' := Sp.decl_of hd
      have u1 := Sp.up_bd (a := m) (b := g) (by omega) (by omega)
      have u2 := Sp.wob_bd (n := n) (d := e) (k := k + m) (by omega) (by omega) (by omega) (by omega) (by omega) (by omega)
      have u3 := mul_bd (x := m) (X := 4096) (y := 65536 - k) (Y := 65536) (by omega) (by omega) (by omega) (by omega)
      have e1 : Sp.boundE t d g m n e k j s = if s < 0 ∨ 65536 < s then 1 else if m * (65536 - k) < 65536 * k then 11 else 0 := by unfold Sp.boundE; simp [hv, hd]
      have e2 : Sp.boundV t d g m n e k j s = if Sp.boundE t d g m n e k j s ≠ 0 then 0 else max s (d + Sp.up m g) + Sp.wob n e (k + m) + 2 * j + 2 := rfl
      simp only [hv, hd, e2, e1, Bool.true_eq_false, false_implies, true_implies, and_true, true_and]
      clear hv hd hw e1 e2
      generalize Sp.up m g = uu at *
      generalize Sp.wob n e (k + m) = ww at *
      generalize m * (65536 - k) = pp at *
      repeat' (first | apply And.intro | intro _)
      all_goals (first | omega | (split <;> omega))
    · have hd : Sp.decl n e k j = false := by simpa using hd
      have e1 : Sp.boundE t d g m n e k j s = 1 := by unfold Sp.boundE; simp [hd]
      have e2 : Sp.boundV t d g m n e k j s = 0 := by unfold Sp.boundV; simp [e1]
      simp [hv, hd, e1, e2]
  · have hv : Sp.valid t d g m = false := by simpa using hv
    have e1 : Sp.boundE t d g m n e k j s = 1 := by unfold Sp.boundE; simp [hv]
    have e2 : Sp.boundV t d g m n e k j s = 0 := by unfold Sp.boundV; simp [e1]
    simp [hv, e1, e2]
theorem s18 : SoundCt Go.Proofs.Try.prog 18 ct18 :=
  contractH followsMixed (look_sound (show Tb Go.Proofs.Try.prog tb18 from ⟨s16, ⟨s30, ⟨s31, ⟨s32, trivial⟩⟩⟩⟩)) (fun _ => false) (fun _ => fun _ _ => LoopAnn.unroll 200) 6 18 ct18 rfl (by simp [ct18]) fun a => Eq.mp (by kernel_rfl) (v18 ((cel 0 (arg 0 a)).int) ((cel 1 (arg 0 a)).int) ((cel 2 (arg 0 a)).int) ((cel 3 (arg 0 a)).int) ((cel 0 (arg 1 a)).int) ((cel 1 (arg 1 a)).int) ((cel 0 (arg 2 a)).int) ((cel 0 (arg 3 a)).int) ((cel 0 (arg 4 a)).int))
end Go.Sx

namespace Go.Sx
/-! ### function 19: control.Demand -/
def ct19 : Ct := { ps := [(true, [.int .i64, .int .i64, .int .i64, .int .i64]), (true, [.int .i64, .int .i64]), (false, [.int .i64]), (false, [.int .i64])], rs := [(false, [.int .i64]), (false, [.int .i64])], pre := fun _ => True, out := fun a => [[.i (Sp.demV (cel 0 (arg 0 a)).int (cel 1 (arg 0 a)).int (cel 2 (arg 0 a)).int (cel 3 (arg 0 a)).int (cel 0 (arg 1 a)).int (cel 1 (arg 1 a)).int (cel 0 (arg 2 a)).int (cel 0 (arg 3 a)).int)], [.i (Sp.boundE (cel 0 (arg 0 a)).int (cel 1 (arg 0 a)).int (cel 2 (arg 0 a)).int (cel 3 (arg 0 a)).int (cel 0 (arg 1 a)).int (cel 1 (arg 1 a)).int (cel 0 (arg 2 a)).int (cel 0 (arg 3 a)).int 0)]] }
def tb19 : List (Nat × Ct) := [(17, ct17), (28, ct28), (29, ct29)]
theorem e19 (t : Int) (d : Int) (g : Int) (m : Int) (n : Int) (e : Int) (k : Int) (j : Int) : vcF Go.Proofs.Try.prog (look tb19) (fun _ => false) (fun _ _ => LoopAnn.unroll 200) 6 19 [.agg [.int .i64 t, .int .i64 d, .int .i64 g, .int .i64 m], .agg [.int .i64 n, .int .i64 e], .int .i64 k, .int .i64 j] [] (fun sv heap => Gives [(false, [.int .i64]), (false, [.int .i64])] [[.i (Sp.demV t d g m n e k j)], [.i (Sp.boundE t d g m n e k j 0)]] sv heap) = (True ∧ (InR IntKind.i64 (Sp.boundV t d g m n e k j 0) ∧ InR IntKind.i64 (Sp.boundE t d g m n e k j 0) ∧ True → (bNe (Sp.boundE t d g m n e k j 0) 0 = true → (0 = Sp.demV t d g m n e k j ∧ True) ∧ (Sp.boundE t d g m n e k j 0 = Sp.boundE t d g m n e k j 0 ∧ True) ∧ True) ∧ (bNe (Sp.boundE t d g m n e k j 0) 0 = false → (0 ≤ n ∧ 1 ≤ e ∧ n + e ≤ 9223372036854775807) ∧ (InR IntKind.i64 (Sp.up n e) → InR IntKind.i64 (iAdd k m) ∧ (1 ≤ n ∧ 1 ≤ e ∧ e ≤ 768000 ∧ n ≤ e * 64 * 8192 ∧ 0 ≤ iAdd k m ∧ iAdd k m ≤ 8192) ∧ (InR IntKind.i64 (Sp.wob n e (iAdd k m)) → InR IntKind.i64 (iAdd (Sp.up n e) (Sp.wob n e (iAdd k m))) ∧ InR IntKind.i64 (iMul 2 j) ∧ InR IntKind.i64 (iAdd (iAdd (Sp.up n e) (Sp.wob n e (iAdd k m))) (iMul 2 j)) ∧ InR IntKind.i64 (iAdd (iAdd (iAdd (Sp.up n e) (Sp.wob n e (iAdd k m))) (iMul 2 j)) 3) ∧ (iAdd (iAdd (iAdd (Sp.up n e) (Sp.wob n e (iAdd k m))) (iMul 2 j)) 3 = Sp.demV t d g m n e k j ∧ True) ∧ (0 = Sp.boundE t d g m n e k j 0 ∧ True) ∧ True))))) := by kernel_rfl
theorem v19 (t : Int) (d : Int) (g : Int) (m : Int) (n : Int) (e : Int) (k : Int) (j : Int) : Holds (Wfs [.agg [.int .i64 t, .int .i64 d, .int .i64 g, .int .i64 m], .agg [.int .i64 n, .int .i64 e], .int .i64 k, .int .i64 j] → True → vcF Go.Proofs.Try.prog (look tb19) (fun _ => false) (fun _ _ => LoopAnn.unroll 200) 6 19 [.agg [.int .i64 t, .int .i64 d, .int .i64 g, .int .i64 m], .agg [.int .i64 n, .int .i64 e], .int .i64 k, .int .i64 j] [] (fun sv heap => Gives [(false, [.int .i64]), (false, [.int .i64])] [[.i (Sp.demV t d g m n e k j)], [.i (Sp.boundE t d g m n e k j 0)]] sv heap)) := by
  refine ⟨fun hw hp => ?_⟩
  rw [e19]
  simp only [iAdd, iSub, iMul, iMax, bNe, InR, decide_eq_true_eq, Bool.not_eq_true', decide_eq_false_iff_not, Bool.not_eq_false', Sp.demV, and_true, true_and, true_implies]
  have hE : Sp.boundE t d g m n e k j 0 = 0 → Sp.valid t d g m = true ∧ Sp.decl n e k j = true := fun h => by
    unfold Sp.boundE at h
    split at h
    · cases h
    · rename_i hc
      constructor
      · cases hx : Sp.valid t d g m
        · exact (hc (.inl hx)).elim
        · rfl
      · cases hx : Sp.decl n e k j
        · exact (hc (.inr (.inl hx))).elim
        · rfl
  refine fun hr => ⟨fun h => ?_, fun h => ?_⟩
  · rw [if_pos h]
  · have h' := hE h
    have hv' := (Sp.valid_iff t d g m).1 h'.1
    have hd' := Sp.decl_of h'.2
    have u1 := Sp.up_bd (a := n) (b := e) (by omega) (by omega)
    have u2 := Sp.wob_bd (n := n) (d := e) (k := k + m) (by omega) (by omega) (by omega) (by omega) (by omega) (by omega)
    rw [if_neg (show ¬ (Sp.boundE t d g m n e k j 0 ≠ 0) by omega)]
    repeat' (first | apply And.intro | intro _)
    all_goals omega
theorem s19 : SoundCt Go.Proofs.Try.prog 19 ct19 :=
  contractH followsMixed (look_sound (show Tb Go.Proofs.Try.prog tb19 from ⟨s17, ⟨s28, ⟨s29, trivial⟩⟩⟩)) (fun _ => false) (fun _ => fun _ _ => LoopAnn.unroll 200) 6 19 ct19 rfl (by simp [ct19]) fun a => Eq.mp (by kernel_rfl) (v19 ((cel 0 (arg 0 a)).int) ((cel 1 (arg 0 a)).int) ((cel 2 (arg 0 a)).int) ((cel 3 (arg 0 a)).int) ((cel 0 (arg 1 a)).int) ((cel 1 (arg 1 a)).int) ((cel 0 (arg 2 a)).int) ((cel 0 (arg 3 a)).int))
end Go.Sx

namespace Go.Sx
/-! ### function 20: ref18.Demand -/
def ct20 : Ct := { ps := [(true, [.int .i64, .int .i64, .int .i64, .int .i64]), (true, [.int .i64, .int .i64]), (false, [.int .i64]), (false, [.int .i64])], rs := [(false, [.int .i64]), (false, [.int .i64])], pre := fun _ => True, out := fun a => [[.i (Sp.demV (cel 0 (arg 0 a)).int (cel 1 (arg 0 a)).int (cel 2 (arg 0 a)).int (cel 3 (arg 0 a)).int (cel 0 (arg 1 a)).int (cel 1 (arg 1 a)).int (cel 0 (arg 2 a)).int (cel 0 (arg 3 a)).int)], [.i (Sp.boundE (cel 0 (arg 0 a)).int (cel 1 (arg 0 a)).int (cel 2 (arg 0 a)).int (cel 3 (arg 0 a)).int (cel 0 (arg 1 a)).int (cel 1 (arg 1 a)).int (cel 0 (arg 2 a)).int (cel 0 (arg 3 a)).int 0)]] }
def tb20 : List (Nat × Ct) := [(18, ct18), (31, ct31), (32, ct32)]
theorem e20 (t : Int) (d : Int) (g : Int) (m : Int) (n : Int) (e : Int) (k : Int) (j : Int) : vcF Go.Proofs.Try.prog (look tb20) (fun _ => false) (fun _ _ => LoopAnn.unroll 200) 6 20 [.agg [.int .i64 t, .int .i64 d, .int .i64 g, .int .i64 m], .agg [.int .i64 n, .int .i64 e], .int .i64 k, .int .i64 j] [] (fun sv heap => Gives [(false, [.int .i64]), (false, [.int .i64])] [[.i (Sp.demV t d g m n e k j)], [.i (Sp.boundE t d g m n e k j 0)]] sv heap) = (True ∧ (InR IntKind.i64 (Sp.boundV t d g m n e k j 0) ∧ InR IntKind.i64 (Sp.boundE t d g m n e k j 0) ∧ True → (bNe (Sp.boundE t d g m n e k j 0) 0 = true → (0 = Sp.demV t d g m n e k j ∧ True) ∧ (Sp.boundE t d g m n e k j 0 = Sp.boundE t d g m n e k j 0 ∧ True) ∧ True) ∧ (bNe (Sp.boundE t d g m n e k j 0) 0 = false → (0 ≤ n ∧ 1 ≤ e ∧ n + e ≤ 9223372036854775807) ∧ (InR IntKind.i64 (Sp.up n e) → InR IntKind.i64 (iAdd k m) ∧ (1 ≤ n ∧ 1 ≤ e ∧ e ≤ 768000 ∧ n ≤ e * 64 * 8192 ∧ 0 ≤ iAdd k m ∧ iAdd k m ≤ 8192) ∧ (InR IntKind.i64 (Sp.wob n e (iAdd k m)) → InR IntKind.i64 (iAdd (Sp.up n e) (Sp.wob n e (iAdd k m))) ∧ InR IntKind.i64 (iMul 2 j) ∧ InR IntKind.i64 (iAdd (iAdd (Sp.up n e) (Sp.wob n e (iAdd k m))) (iMul 2 j)) ∧ InR IntKind.i64 (iAdd (iAdd (iAdd (Sp.up n e) (Sp.wob n e (iAdd k m))) (iMul 2 j)) 3) ∧ (iAdd (iAdd (iAdd (Sp.up n e) (Sp.wob n e (iAdd k m))) (iMul 2 j)) 3 = Sp.demV t d g m n e k j ∧ True) ∧ (0 = Sp.boundE t d g m n e k j 0 ∧ True) ∧ True))))) := by kernel_rfl
theorem v20 (t : Int) (d : Int) (g : Int) (m : Int) (n : Int) (e : Int) (k : Int) (j : Int) : Holds (Wfs [.agg [.int .i64 t, .int .i64 d, .int .i64 g, .int .i64 m], .agg [.int .i64 n, .int .i64 e], .int .i64 k, .int .i64 j] → True → vcF Go.Proofs.Try.prog (look tb20) (fun _ => false) (fun _ _ => LoopAnn.unroll 200) 6 20 [.agg [.int .i64 t, .int .i64 d, .int .i64 g, .int .i64 m], .agg [.int .i64 n, .int .i64 e], .int .i64 k, .int .i64 j] [] (fun sv heap => Gives [(false, [.int .i64]), (false, [.int .i64])] [[.i (Sp.demV t d g m n e k j)], [.i (Sp.boundE t d g m n e k j 0)]] sv heap)) := by
  refine ⟨fun hw hp => ?_⟩
  rw [e20]
  simp only [iAdd, iSub, iMul, iMax, bNe, InR, decide_eq_true_eq, Bool.not_eq_true', decide_eq_false_iff_not, Bool.not_eq_false', Sp.demV, and_true, true_and, true_implies]
  have hE : Sp.boundE t d g m n e k j 0 = 0 → Sp.valid t d g m = true ∧ Sp.decl n e k j = true := fun h => by
    unfold Sp.boundE at h
    split at h
    · cases h
    · rename_i hc
      constructor
      · cases hx : Sp.valid t d g m
        · exact (hc (.inl hx)).elim
        · rfl
      · cases hx : Sp.decl n e k j
        · exact (hc (.inr (.inl hx))).elim
        · rfl
  refine fun hr => ⟨fun h => ?_, fun h => ?_⟩
  · rw [if_pos h]
  · have h' := hE h
    have hv' := (Sp.valid_iff t d g m).1 h'.1
    have hd' := Sp.decl_of h'.2
    have u1 := Sp.up_bd (a := n) (b := e) (by omega) (by omega)
    have u2 := Sp.wob_bd (n := n) (d := e) (k := k + m) (by omega) (by omega) (by omega) (by omega) (by omega) (by omega)
    rw [if_neg (show ¬ (Sp.boundE t d g m n e k j 0 ≠ 0) by omega)]
    repeat' (first | apply And.intro | intro _)
    all_goals omega
theorem s20 : SoundCt Go.Proofs.Try.prog 20 ct20 :=
  contractH followsMixed (look_sound (show Tb Go.Proofs.Try.prog tb20 from ⟨s18, ⟨s31, ⟨s32, trivial⟩⟩⟩)) (fun _ => false) (fun _ => fun _ _ => LoopAnn.unroll 200) 6 20 ct20 rfl (by simp [ct20]) fun a => Eq.mp (by kernel_rfl) (v20 ((cel 0 (arg 0 a)).int) ((cel 1 (arg 0 a)).int) ((cel 2 (arg 0 a)).int) ((cel 3 (arg 0 a)).int) ((cel 0 (arg 1 a)).int) ((cel 1 (arg 1 a)).int) ((cel 0 (arg 2 a)).int) ((cel 0 (arg 3 a)).int))
end Go.Sx

