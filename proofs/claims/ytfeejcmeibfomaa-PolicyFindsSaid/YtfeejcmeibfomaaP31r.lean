/- Contracts and conditions, continued. -/
import Derived.Test.YtfeejcmeibfomaaSxUse
import Derived.Test.YtfeejcmeibfomaaP31v
import Derived.KernelRfl
set_option linter.unusedVariables false
set_option linter.unusedSimpArgs false
set_option maxRecDepth 100000
set_option maxHeartbeats 4000000

namespace Go
open Go.Sx
def Sp.okP (wx : List C) (x : List C) : Bool := Sp.okS (Sp.i2 wx) Sp.any3 x
def Sp.okV (wx : List C) (v : Int) (x : List C) : Bool := Sp.okP wx x && decide (Sp.i0 x = v)
def Sp.anT (p : List C → Bool) (ks : List (List C)) (z : Int) : Bool := (ks.take z.toNat).any p
def Sp.pfI (ks : List (List C)) (wx : List C) (dv z : Int) (s h p : Bool) : Prop := 0 ≤ z ∧ z ≤ (ks.length : Int) ∧ s = Sp.anT (Sp.okP wx) ks z ∧ h = Sp.anT (Sp.okV wx dv) ks z ∧ p = Sp.anT (Sp.okV wx (Sp.i4 wx)) ks z
end Go

namespace Go
open Go.Sx
section
variable {rs mm ws ks act cls : List (List C)} {wx : List C} {dv z : Int} {s h p : Bool}
theorem Sp.anT_next {q : List C → Bool} (h0 : 0 ≤ z) (hz : z < (ks.length : Int)) : Sp.anT q ks (z + 1) = (Sp.anT q ks z || q (rGet ks z)) := by
  unfold Sp.anT
  rw [Sp.takeAt h0 hz, List.any_append]; simp
theorem Sp.anT_end {q : List C → Bool} (hz : ¬ z < (ks.length : Int)) : Sp.anT q ks z = ks.any q := by
  unfold Sp.anT
  rw [List.take_of_length_le (by omega)]
theorem Sp.pf_init : Sp.pfI ks wx dv 0 false false false := ⟨by omega, by omega, rfl, rfl, rfl⟩
theorem Sp.okP_iff {y : List C} : Sp.okP wx y = true ↔ 1 ≤ Sp.i0 y ∧ Sp.i2 y = Sp.i2 wx := by
  unfold Sp.okP Sp.okS
  rw [Sp.mts_any, Bool.and_true, Bool.and_eq_true, decide_eq_true_eq, decide_eq_true_eq]
theorem Sp.pf_yes (i : Sp.pfI ks wx dv z s h p) (hz : z < (ks.length : Int)) (h1 : 1 ≤ Sp.i0 (rGet ks z)) (h2 : Sp.i2 (rGet ks z) = Sp.i2 wx) :
    Sp.pfI ks wx dv (z + 1) true (h || decide (Sp.i0 (rGet ks z) = dv)) (p || decide (Sp.i0 (rGet ks z) = Sp.i4 wx)) := by
  obtain ⟨a, b, c, d, e⟩ := i
  have hk := Sp.okP_iff.2 ⟨h1, h2⟩
  refine ⟨by omega, by omega, ?_, ?_, ?_⟩
  · rw [Sp.anT_next a hz, hk, Bool.or_true]
  · rw [Sp.anT_next a hz, ← d]; unfold Sp.okV; rw [hk, Bool.true_and]
  · rw [Sp.anT_next a hz, ← e]; unfold Sp.okV; rw [hk, Bool.true_and]
theorem Sp.pf_no (i : Sp.pfI ks wx dv z s h p) (hz : z < (ks.length : Int)) (hn : ¬ (1 ≤ Sp.i0 (rGet ks z) ∧ Sp.i2 (rGet ks z) = Sp.i2 wx)) : Sp.pfI ks wx dv (z + 1) s h p := by
  obtain ⟨a, b, c, d, e⟩ := i
  have hk : Sp.okP wx (rGet ks z) = false := by
    cases hc : Sp.okP wx (rGet ks z) with
    | false => rfl
    | true => exact absurd (Sp.okP_iff.1 hc) hn
  refine ⟨by omega, by omega, ?_, ?_, ?_⟩
  · rw [Sp.anT_next a hz, hk, Bool.or_false]; exact c
  · rw [Sp.anT_next a hz, ← d]; unfold Sp.okV; rw [hk]; simp
  · rw [Sp.anT_next a hz, ← e]; unfold Sp.okV; rw [hk]; simp
theorem Sp.pf_fin (i : Sp.pfI ks wx dv z s h p) (hz : ¬ z < (ks.length : Int)) (hd : dv = Sp.wDv rs mm ks act cls (Sp.s1 wx) (Sp.i2 wx) (Sp.i4 wx)) :
    (s = true → h = true ∧ ¬ dv = 0 ∧ ¬ Sp.wBy rs mm ks act cls (Sp.s1 wx) (Sp.i2 wx) (Sp.i4 wx) = 0) ∧
    (s = false → h = false ∧ dv = 0 ∧ Sp.wBy rs mm ks act cls (Sp.s1 wx) (Sp.i2 wx) (Sp.i4 wx) = 0 ∧ p = false) ∧
    (p = true → dv = Sp.i4 wx ∧ Sp.wBy rs mm ks act cls (Sp.s1 wx) (Sp.i2 wx) (Sp.i4 wx) = 1) ∧
    (0 ≤ Sp.wRu rs mm ks act cls (Sp.s1 wx) (Sp.i2 wx) (Sp.i4 wx) ↔ Sp.wBy rs mm ks act cls (Sp.s1 wx) (Sp.i2 wx) (Sp.i4 wx) = 3) := by
  obtain ⟨_, _, c, d, e⟩ := i
  rw [Sp.anT_end hz] at c d e
  have hp : p = true ↔ Sp.has (Sp.wSt ks (Sp.i2 wx)) (Sp.i4 wx) = true := by
    rw [e, List.any_eq_true]
    unfold Sp.wSt
    rw [Sp.stR_has]
    simp only [Sp.okV, Sp.okP, Bool.and_eq_true, decide_eq_true_eq]
  have hh : h = true ↔ ∃ z ∈ ks, Sp.okS (Sp.i2 wx) Sp.any3 z = true ∧ Sp.i0 z = dv := by
    rw [d, List.any_eq_true]
    simp only [Sp.okV, Sp.okP, Bool.and_eq_true, decide_eq_true_eq]
  have hs : s = true ↔ ∃ z ∈ ks, Sp.okS (Sp.i2 wx) Sp.any3 z = true := by
    rw [c, List.any_eq_true]; rfl
  have ru : 0 ≤ Sp.wRu rs mm ks act cls (Sp.s1 wx) (Sp.i2 wx) (Sp.i4 wx) ↔ Sp.wBy rs mm ks act cls (Sp.s1 wx) (Sp.i2 wx) (Sp.i4 wx) = 3 := by
    unfold Sp.wRu
    by_cases h3 : Sp.wBy rs mm ks act cls (Sp.s1 wx) (Sp.i2 wx) (Sp.i4 wx) = 3
    · rw [decide_eq_true h3, cond_true]
      refine ⟨fun _ => h3, fun _ => ?_⟩
      unfold Sp.wBy at h3
      by_cases h5 : 0 ≤ Sp.fru act cls ks (Sp.s1 wx) (Sp.i2 wx) rs
      · exact h5
      · rw [decide_eq_false h5] at h3
        revert h3
        cases Sp.has (Sp.wSt ks (Sp.i2 wx)) (Sp.i4 wx) <;> cases Sp.has (Sp.wSt ks (Sp.i2 wx)) (Sp.lkp mm (Sp.s1 wx) (Sp.wSt ks (Sp.i2 wx))) <;> cases decide (0 < (Sp.wSt ks (Sp.i2 wx)).length) <;> simp
    · rw [decide_eq_false h3, cond_false]
      exact ⟨fun h => by omega, fun h => absurd h h3⟩
  have h1 : p = true → dv = Sp.i4 wx ∧ Sp.wBy rs mm ks act cls (Sp.s1 wx) (Sp.i2 wx) (Sp.i4 wx) = 1 := fun h => by
    obtain ⟨q1, q2, _⟩ := Sp.w_1 (rs := rs) (mm := mm) (act := act) (cls := cls) (wr := Sp.s1 wx) (hp.1 h)
    exact ⟨by rw [hd, ← q1], q2.symm⟩
  refine ⟨fun ht => ?_, fun hf => ?_, h1, ru⟩
  · have hn : 0 < (Sp.wSt ks (Sp.i2 wx)).length := Sp.stR_pos.2 (hs.1 ht)
    have key : (∃ z ∈ ks, Sp.okS (Sp.i2 wx) Sp.any3 z = true ∧ Sp.i0 z = dv) ∧ ¬ Sp.wBy rs mm ks act cls (Sp.s1 wx) (Sp.i2 wx) (Sp.i4 wx) = 0 := by
      cases b1 : Sp.has (Sp.wSt ks (Sp.i2 wx)) (Sp.i4 wx) with
      | true =>
        obtain ⟨q1, q2, _⟩ := Sp.w_1 (rs := rs) (mm := mm) (act := act) (cls := cls) (wr := Sp.s1 wx) b1
        rw [← q2, hd, ← q1]
        exact ⟨Sp.stR_has.1 b1, by omega⟩
      | false =>
        cases b2 : Sp.has (Sp.wSt ks (Sp.i2 wx)) (Sp.lkp mm (Sp.s1 wx) (Sp.wSt ks (Sp.i2 wx))) with
        | true =>
          obtain ⟨q1, q2, _⟩ := Sp.w_2 (rs := rs) (act := act) (cls := cls) b1 b2
          rw [← q2, hd, ← q1]
          exact ⟨Sp.stR_has.1 b2, by omega⟩
        | false =>
          rcases Sp.fi_two (p := Sp.rok act cls ks (Sp.s1 wx) (Sp.i2 wx)) (xs := rs) with hf | ⟨f0, f1, f2⟩
          · obtain ⟨q1, q2, _⟩ := Sp.w_4 (rs := rs) (act := act) (cls := cls) b1 b2 hf hn
            rw [← q2, hd, ← q1]
            exact ⟨Sp.stR_first hn, by omega⟩
          · obtain ⟨q1, q2, _⟩ := Sp.w_3 (rs := rs) (act := act) (cls := cls) b1 b2 rfl f0
            rw [← q2, hd, ← q1]
            unfold Sp.rok at f2
            simp only [Bool.and_eq_true, decide_eq_true_eq] at f2
            obtain ⟨z, z1, z2, z3⟩ := Sp.stR_first f2.2.2
            exact ⟨⟨z, z1, Sp.okS_any z2, z3⟩, by omega⟩
    refine ⟨hh.2 key.1, ?_, key.2⟩
    obtain ⟨z, _, z2, z3⟩ := key.1
    unfold Sp.okS at z2
    simp only [Bool.and_eq_true, decide_eq_true_eq] at z2
    omega
  · have hn : ¬ ∃ z ∈ ks, Sp.okS (Sp.i2 wx) Sp.any3 z = true := fun h => by rw [hs.2 h] at hf; cases hf
    have h0 : (Sp.wSt ks (Sp.i2 wx)).length = 0 := by
      have := mt Sp.stR_pos.1 hn
      unfold Sp.wSt; omega
    obtain ⟨q1, q2, _⟩ := Sp.w_00 (rs := rs) (mm := mm) (act := act) (cls := cls) (wr := Sp.s1 wx) (wp := Sp.i4 wx) h0
    refine ⟨?_, by rw [hd, ← q1], q2.symm, ?_⟩
    · cases hb : h with
      | false => rfl
      | true => obtain ⟨z, z1, z2, _⟩ := hh.1 hb; exact absurd ⟨z, z1, z2⟩ hn
    · cases hb : p with
      | false => rfl
      | true => obtain ⟨z, z1, z2, _⟩ := Sp.stR_has.1 (hp.1 hb); exact absurd ⟨z, z1, z2⟩ hn
end
end Go

namespace Go.Sx
/-! ### function 4: law31.PolicyFinds -/
def tb4 : List (Nat × Ct) := [(7, ct7), (9, ct9), (10, ct10), (11, ct11), (12, ct12), (14, ct14), (13, ct13)]
def A4  : FuncId → Nat → LoopAnn := fun _ ii => bif Nat.beq ii 9 then .on (fun sv0 => match sv0.tmps.getD 38 .undef with | .sl _ ys => .inv Int (fun z => 0 ≤ z ∧ z ≤ (ys.length : Int)) (fun z => [(40, .int .i64 z)]) (fun _ => []) [] [0, 2, 3, 4, 5, 6, 7, 8, 9, 10, 11, 12, 13, 15, 17, 37, 38, 39, 40, 41, 45, 46, 47, 48, 63, 138] (fun z => ys.length - z.toNat) | _ => .unroll 0) else bif Nat.beq ii 13 then .on (fun sv0 => match sv0.tmps.getD 45 .undef, sv0.tmps.getD 10 .undef, sv0.tmps.getD 6 .undef, sv0.tmps.getD 9 .undef with | .sl _ zs, .ref kk _, .sl _ us, .int _ i0 => (match sv0.heap[kk]? with | some (.box [_, .int _ dv, _, _, _, _] _) => .inv (Int × Bool × Bool × Bool) (fun z => Sp.pfI zs (rGet us i0) dv z.1 z.2.1 z.2.2.1 z.2.2.2) (fun z => [(47, .int .i64 z.1), (11, .bool z.2.1), (12, .bool z.2.2.1), (13, .bool z.2.2.2)]) (fun _ => []) [] [0, 2, 3, 4, 5, 6, 7, 8, 9, 10, 11, 12, 13, 15, 17, 37, 38, 39, 40, 41, 45, 46, 47, 48, 63, 138] (fun z => zs.length - z.1.toNat) | _ => .unroll 0) | _, _, _, _ => .unroll 0) else .unroll 0
abbrev B4 (l : List (List C)) : Prop := vcF Go.Proofs.Try.prog (look tb4) (fun _ => false) (A4) 8 4 [.sl [.int .i64] l] [] (fun sv _ => isTrue sv)
def h4_0 : List (List C) → Int → List SV := fun (l : List (List C)) (x : Int) => [SV.sl [.int .i64] l, SV.any, SV.ref 0 0, SV.sl [Sh.int .i64, Sh.str, Sh.str, Sh.int .i64, Sh.sl [Sh.int .i64, Sh.str]] (Sp.rsO l 0), SV.ref 1 0, SV.sl [.int .i64, .str, .int .i64, .bool, .int .u64] (Sp.wtO l (Sp.meA l (Sp.rsA l 0))), SV.sl [.int .u64, .str, .int .i64] (Sp.skO l (Sp.wtA l (Sp.meA l (Sp.rsA l 0)))), SV.sl [.int .i64, .int .u64, .int .i64, .int .i64, .int .i64, .int .i64] (Sp.dcs (Sp.rsO l 0) (Sp.meO l (Sp.rsA l 0)) (Sp.wtO l (Sp.meA l (Sp.rsA l 0))) (Sp.skO l (Sp.wtA l (Sp.meA l (Sp.rsA l 0))))), SV.int .i64 x, SV.ref 2 0, SV.blit false, SV.blit false, SV.sl [.int .i64, .int .u64, .int .i64, .int .i64, .int .i64, .int .i64] (Sp.dcs (Sp.rsO l 0) (Sp.meO l (Sp.rsA l 0)) (Sp.wtO l (Sp.meA l (Sp.rsA l 0))) (Sp.skO l (Sp.wtA l (Sp.meA l (Sp.rsA l 0))))), SV.int .i64 (iLen (Sp.dcs (Sp.rsO l 0) (Sp.meO l (Sp.rsA l 0)) (Sp.wtO l (Sp.meA l (Sp.rsA l 0))) (Sp.skO l (Sp.wtA l (Sp.meA l (Sp.rsA l 0)))))), SV.int .i64 x, SV.blit true, SV.sl [.int .u64, .str, .int .i64] (Sp.skO l (Sp.wtA l (Sp.meA l (Sp.rsA l 0)))), SV.int .i64 (iLen (Sp.skO l (Sp.wtA l (Sp.meA l (Sp.rsA l 0))))), SV.any]
def h4_1 : List (List C) → Int → List HB := fun (l : List (List C)) (x : Int) => [HB.box [SV.sl [.int .i64] l, SV.int .i64 (Sp.skA l (Sp.wtA l (Sp.meA l (Sp.rsA l 0))))] 59, HB.box [SV.sl [Sh.str, Sh.sl [Sh.int .u64], Sh.int .u64] (Sp.meO l (Sp.rsA l 0))] 26, HB.box [SV.int .i64 ((rGet (Sp.dcs (Sp.rsO l 0) (Sp.meO l (Sp.rsA l 0)) (Sp.wtO l (Sp.meA l (Sp.rsA l 0))) (Sp.skO l (Sp.wtA l (Sp.meA l (Sp.rsA l 0))))) x).headD default).int, SV.int .u64 ((rGet (Sp.dcs (Sp.rsO l 0) (Sp.meO l (Sp.rsA l 0)) (Sp.wtO l (Sp.meA l (Sp.rsA l 0))) (Sp.skO l (Sp.wtA l (Sp.meA l (Sp.rsA l 0))))) x).tail.headD default).int, SV.int .i64 ((rGet (Sp.dcs (Sp.rsO l 0) (Sp.meO l (Sp.rsA l 0)) (Sp.wtO l (Sp.meA l (Sp.rsA l 0))) (Sp.skO l (Sp.wtA l (Sp.meA l (Sp.rsA l 0))))) x).tail.tail.headD default).int, SV.int .i64 ((rGet (Sp.dcs (Sp.rsO l 0) (Sp.meO l (Sp.rsA l 0)) (Sp.wtO l (Sp.meA l (Sp.rsA l 0))) (Sp.skO l (Sp.wtA l (Sp.meA l (Sp.rsA l 0))))) x).tail.tail.tail.headD default).int, SV.int .i64 ((rGet (Sp.dcs (Sp.rsO l 0) (Sp.meO l (Sp.rsA l 0)) (Sp.wtO l (Sp.meA l (Sp.rsA l 0))) (Sp.skO l (Sp.wtA l (Sp.meA l (Sp.rsA l 0))))) x).tail.tail.tail.tail.headD default).int, SV.int .i64 ((rGet (Sp.dcs (Sp.rsO l 0) (Sp.meO l (Sp.rsA l 0)) (Sp.wtO l (Sp.meA l (Sp.rsA l 0))) (Sp.skO l (Sp.wtA l (Sp.meA l (Sp.rsA l 0))))) x).tail.tail.tail.tail.tail.headD default).int] 49]
def h4_2 : List (List C) → List SV := fun (l : List (List C)) => [SV.sl [.int .i64] l, SV.ref 0 0, SV.sl [Sh.int .i64, Sh.str, Sh.str, Sh.int .i64, Sh.sl [Sh.int .i64, Sh.str]] (Sp.rsO l 0), SV.ref 1 0, SV.sl [.int .i64, .str, .int .i64, .bool, .int .u64] (Sp.wtO l (Sp.meA l (Sp.rsA l 0))), SV.sl [.int .u64, .str, .int .i64] (Sp.skO l (Sp.wtA l (Sp.meA l (Sp.rsA l 0)))), SV.sl [.int .i64, .int .u64, .int .i64, .int .i64, .int .i64, .int .i64] (Sp.dcs (Sp.rsO l 0) (Sp.meO l (Sp.rsA l 0)) (Sp.wtO l (Sp.meA l (Sp.rsA l 0))) (Sp.skO l (Sp.wtA l (Sp.meA l (Sp.rsA l 0))))), SV.blit false, SV.blit false, SV.sl [.int .i64, .int .u64, .int .i64, .int .i64, .int .i64, .int .i64] (Sp.dcs (Sp.rsO l 0) (Sp.meO l (Sp.rsA l 0)) (Sp.wtO l (Sp.meA l (Sp.rsA l 0))) (Sp.skO l (Sp.wtA l (Sp.meA l (Sp.rsA l 0))))), SV.int .i64 (iLen (Sp.dcs (Sp.rsO l 0) (Sp.meO l (Sp.rsA l 0)) (Sp.wtO l (Sp.meA l (Sp.rsA l 0))) (Sp.skO l (Sp.wtA l (Sp.meA l (Sp.rsA l 0))))))]
def h4_3 : List (List C) → List HB := fun (l : List (List C)) => [HB.box [SV.sl [.int .i64] l, SV.int .i64 (Sp.skA l (Sp.wtA l (Sp.meA l (Sp.rsA l 0))))] 59, HB.box [SV.sl [Sh.str, Sh.sl [Sh.int .u64], Sh.int .u64] (Sp.meO l (Sp.rsA l 0))] 26]
theorem e4 (l : List (List C)) (Z2 : List (List C)) (hZ2 : Z2 = Sp.skO l (Sp.wtA l (Sp.meA l (Sp.rsA l 0)))) (Z3 : List (List C)) (hZ3 : Z3 = Sp.wtO l (Sp.meA l (Sp.rsA l 0))) (Z1 : List (List C)) (hZ1 : Z1 = Sp.dcs (Sp.rsO l 0) (Sp.meO l (Sp.rsA l 0)) Z3 Z2) : B4 l = (True ∧ (True → True ∧ (bNot true = true → false = true) ∧ (bNot true = false → (pLe 0 0 ∧ True) ∧ (((WL [Sh.int .i64, Sh.str, Sh.str, Sh.int .i64, Sh.sl [Sh.int .i64, Sh.str]] (Sp.rsO l 0))) → (pLe 0 (Sp.rsA l 0) ∧ True) ∧ (((WL [Sh.str, Sh.sl [Sh.int .u64], Sh.int .u64] (Sp.meO l (Sp.rsA l 0)))) ∧ True → (pLe 0 (Sp.meA l (Sp.rsA l 0)) ∧ True) ∧ (((WL [.int .i64, .str, .int .i64, .bool, .int .u64] Z3)) → (pLe 0 (Sp.wtA l (Sp.meA l (Sp.rsA l 0))) ∧ True) ∧ (((WL [.int .u64, .str, .int .i64] Z2)) → (pLe (↑Z2.length) 12 ∧ pLe (↑Z3.length) 1000000) ∧ (((WL [.int .i64, .int .u64, .int .i64, .int .i64, .int .i64, .int .i64] Z1)) → pLe (iLen Z1) 9223372036854775807 → pLe (iLen Z3) 9223372036854775807 → (bNe (iLen Z1) (iLen Z3) = true → false = true) ∧ (bNe (iLen Z1) (iLen Z3) = false → pLe (iLen Z1) 9223372036854775807 → (∃ (x : Int), (0 ≤ x ∧ x ≤ ↑Z1.length) ∧ true = true ∧ ((IntKind.i64 = IntKind.i64 ∧ 0 = x) ∧ True) ∧ True) ∧ (∀ (x : Int), true = true ∧ true = true) ∧ ∀ (x : Int), 0 ≤ x ∧ x ≤ ↑Z1.length → InR .i64 x ∧ True → True → (bLt x (iLen Z1) = true → pIn 0 (iLen Z1) x ∧ (InR .i64 (q0 (rGet Z1 x)) ∧ InR .u64 (q1 (rGet Z1 x)) ∧ InR .i64 (q2 (rGet Z1 x)) ∧ InR .i64 (q3 (rGet Z1 x)) ∧ InR .i64 (q4 (rGet Z1 x)) ∧ InR .i64 (q5 (rGet Z1 x)) ∧ True → pLe (iLen Z2) 9223372036854775807 → (∃ (x_1 : Int × Bool × Bool × Bool), Sp.pfI Z2 (rGet Z3 x) (q1 (rGet Z1 x)) x_1.1 x_1.snd.1 x_1.snd.snd.1 x_1.snd.snd.2 ∧ true = true ∧ ((IntKind.i64 = IntKind.i64 ∧ 0 = x_1.1) ∧ false = x_1.snd.1 ∧ false = x_1.snd.snd.1 ∧ false = x_1.snd.snd.2 ∧ True) ∧ True) ∧ (∀ (x : Int × Bool × Bool × Bool), true = true ∧ true = true) ∧ ∀ (x_1 : Int × Bool × Bool × Bool), Sp.pfI Z2 (rGet Z3 x) (q1 (rGet Z1 x)) x_1.1 x_1.snd.1 x_1.snd.snd.1 x_1.snd.snd.2 → InR .i64 x_1.1 ∧ True ∧ True ∧ True ∧ True → True → (bLt x_1.1 (iLen Z2) = true → pIn 0 (iLen Z2) x_1.1 ∧ (InR .u64 (q0 (rGet Z2 x_1.1)) ∧ (List.brecOn.go ((rGet ((((12, ct12).snd.outs [[C.l ((((11, ct11).snd.out [[C.l ((((10, ct10).snd.out [[C.l ((((9, ct9).snd.out [[C.l l, C.i 0]]).headD []).headD default).list, C.i (q1 (((9, ct9).snd.out [[C.l l, C.i 0]]).headD []))]]).headD []).headD default).list, C.i (q1 (((10, ct10).snd.out [[C.l ((((9, ct9).snd.out [[C.l l, C.i 0]]).headD []).headD default).list, C.i (q1 (((9, ct9).snd.out [[C.l l, C.i 0]]).headD []))]]).headD []))]]).headD []).headD default).list, C.i (q1 (((11, ct11).snd.out [[C.l ((((10, ct10).snd.out [[C.l ((((9, ct9).snd.out [[C.l l, C.i 0]]).headD []).headD default).list, C.i (q1 (((9, ct9).snd.out [[C.l l, C.i 0]]).headD []))]]).headD []).headD default).list, C.i (q1 (((10, ct10).snd.out [[C.l ((((9, ct9).snd.out [[C.l l, C.i 0]]).headD []).headD default).list, C.i (q1 (((9, ct9).snd.out [[C.l l, C.i 0]]).headD []))]]).headD []))]]).headD []))]]).headD []).headD default).list x_1.fst).tail.headD default).str.1.toList List.length._f).1.le 9223372036854775807 ∧ InR .i64 (q2 (rGet Z2 x_1.1)) ∧ True → (bLe 1 (q0 (rGet Z2 x_1.1)) = true → pIn 0 (iLen Z3) x ∧ (InR .i64 (q2 (rGet Z3 x)) → (bEq (q2 (rGet Z2 x_1.1)) (q2 (rGet Z3 x)) = true → (x_1.snd.snd.1 = false → (x_1.snd.snd.2 = false → pIn 0 (iLen Z3) x ∧ (InR .u64 (q4 (rGet Z3 x)) → InR .i64 (iAdd x_1.1 1) ∧ (true = true ∧ h4_0 l x = h4_0 l x) ∧ h4_1 l x = h4_1 l x ∧ ∃ (y : Int × Bool × Bool × Bool), Sp.pfI Z2 (rGet Z3 x) (q1 (rGet Z1 x)) y.1 y.snd.1 y.snd.snd.1 y.snd.snd.2 ∧ true = true ∧ ((IntKind.i64 = IntKind.i64 ∧ iAdd x_1.1 1 = y.1) ∧ true = y.snd.1 ∧ bEq (q0 (rGet Z2 x_1.1)) (q1 (rGet Z1 x)) = y.snd.snd.1 ∧ bEq (q0 (rGet Z2 x_1.1)) (q4 (rGet Z3 x)) = y.snd.snd.2 ∧ True) ∧ True ∧ Z2.length - y.1.toNat < Z2.length - x_1.1.toNat)) ∧ (x_1.snd.snd.2 = true → InR .i64 (iAdd x_1.1 1) ∧ (true = true ∧ h4_0 l x = h4_0 l x) ∧ h4_1 l x = h4_1 l x ∧ ∃ (y : Int × Bool × Bool × Bool), Sp.pfI Z2 (rGet Z3 x) (q1 (rGet Z1 x)) y.1 y.snd.1 y.snd.snd.1 y.snd.snd.2 ∧ true = true ∧ ((IntKind.i64 = IntKind.i64 ∧ iAdd x_1.1 1 = y.1) ∧ true = y.snd.1 ∧ bEq (q0 (rGet Z2 x_1.1)) (q1 (rGet Z1 x)) = y.snd.snd.1 ∧ true = y.snd.snd.2 ∧ True) ∧ True ∧ Z2.length - y.1.toNat < Z2.length - x_1.1.toNat)) ∧ (x_1.snd.snd.1 = true → (x_1.snd.snd.2 = false → pIn 0 (iLen Z3) x ∧ (InR .u64 (q4 (rGet Z3 x)) → InR .i64 (iAdd x_1.1 1) ∧ (true = true ∧ h4_0 l x = h4_0 l x) ∧ h4_1 l x = h4_1 l x ∧ ∃ (y : Int × Bool × Bool × Bool), Sp.pfI Z2 (rGet Z3 x) (q1 (rGet Z1 x)) y.1 y.snd.1 y.snd.snd.1 y.snd.snd.2 ∧ true = true ∧ ((IntKind.i64 = IntKind.i64 ∧ iAdd x_1.1 1 = y.1) ∧ true = y.snd.1 ∧ true = y.snd.snd.1 ∧ bEq (q0 (rGet Z2 x_1.1)) (q4 (rGet Z3 x)) = y.snd.snd.2 ∧ True) ∧ True ∧ Z2.length - y.1.toNat < Z2.length - x_1.1.toNat)) ∧ (x_1.snd.snd.2 = true → InR .i64 (iAdd x_1.1 1) ∧ (true = true ∧ h4_0 l x = h4_0 l x) ∧ h4_1 l x = h4_1 l x ∧ ∃ (y : Int × Bool × Bool × Bool), Sp.pfI Z2 (rGet Z3 x) (q1 (rGet Z1 x)) y.1 y.snd.1 y.snd.snd.1 y.snd.snd.2 ∧ true = true ∧ ((IntKind.i64 = IntKind.i64 ∧ iAdd x_1.1 1 = y.1) ∧ true = y.snd.1 ∧ true = y.snd.snd.1 ∧ true = y.snd.snd.2 ∧ True) ∧ True ∧ Z2.length - y.1.toNat < Z2.length - x_1.1.toNat))) ∧ (bEq (q2 (rGet Z2 x_1.1)) (q2 (rGet Z3 x)) = false → InR .i64 (iAdd x_1.1 1) ∧ (true = true ∧ h4_0 l x = h4_0 l x) ∧ h4_1 l x = h4_1 l x ∧ ∃ (y : Int × Bool × Bool × Bool), Sp.pfI Z2 (rGet Z3 x) (q1 (rGet Z1 x)) y.1 y.snd.1 y.snd.snd.1 y.snd.snd.2 ∧ true = true ∧ ((IntKind.i64 = IntKind.i64 ∧ iAdd x_1.1 1 = y.1) ∧ x_1.snd.1 = y.snd.1 ∧ x_1.snd.snd.1 = y.snd.snd.1 ∧ x_1.snd.snd.2 = y.snd.snd.2 ∧ True) ∧ True ∧ Z2.length - y.1.toNat < Z2.length - x_1.1.toNat))) ∧ (bLe 1 (q0 (rGet Z2 x_1.1)) = false → InR .i64 (iAdd x_1.1 1) ∧ (true = true ∧ h4_0 l x = h4_0 l x) ∧ h4_1 l x = h4_1 l x ∧ ∃ (y : Int × Bool × Bool × Bool), Sp.pfI Z2 (rGet Z3 x) (q1 (rGet Z1 x)) y.1 y.snd.1 y.snd.snd.1 y.snd.snd.2 ∧ true = true ∧ ((IntKind.i64 = IntKind.i64 ∧ iAdd x_1.1 1 = y.1) ∧ x_1.snd.1 = y.snd.1 ∧ x_1.snd.snd.1 = y.snd.snd.1 ∧ x_1.snd.snd.2 = y.snd.snd.2 ∧ True) ∧ True ∧ Z2.length - y.1.toNat < Z2.length - x_1.1.toNat))) ∧ (bLt x_1.1 (iLen Z2) = false → pIn 0 (iLen Z3) x ∧ (InR .i64 (q0 (rGet Z3 x)) → (bNe (q0 (rGet Z1 x)) (q0 (rGet Z3 x)) = false → (bDiff (bNe (q1 (rGet Z1 x)) 0) x_1.snd.1 = false → (bDiff x_1.snd.1 x_1.snd.snd.1 = false → (x_1.snd.snd.2 = true → pIn 0 (iLen Z3) x ∧ (InR .u64 (q4 (rGet Z3 x)) → (bNe (q1 (rGet Z1 x)) (q4 (rGet Z3 x)) = false → (bNe (q2 (rGet Z1 x)) 1 = false → True ∧ (bDiff (bEq (q2 (rGet Z1 x)) 0) (bNot x_1.snd.1) = false → (bDiff (bLe 0 (q3 (rGet Z1 x))) (bEq (q2 (rGet Z1 x)) 3) = true → false = true) ∧ (bDiff (bLe 0 (q3 (rGet Z1 x))) (bEq (q2 (rGet Z1 x)) 3) = false → InR .i64 (iAdd x 1) ∧ (true = true ∧ h4_2 l = h4_2 l) ∧ h4_3 l = h4_3 l ∧ ∃ (y : Int), (0 ≤ y ∧ y ≤ ↑Z1.length) ∧ true = true ∧ ((IntKind.i64 = IntKind.i64 ∧ iAdd x 1 = y) ∧ True) ∧ True ∧ Z1.length - y.toNat < Z1.length - x.toNat)) ∧ (bDiff (bEq (q2 (rGet Z1 x)) 0) (bNot x_1.snd.1) = true → false = true)) ∧ (bNe (q2 (rGet Z1 x)) 1 = true → false = true)) ∧ (bNe (q1 (rGet Z1 x)) (q4 (rGet Z3 x)) = true → false = true))) ∧ (x_1.snd.snd.2 = false → True ∧ (bDiff (bEq (q2 (rGet Z1 x)) 0) (bNot x_1.snd.1) = false → (bDiff (bLe 0 (q3 (rGet Z1 x))) (bEq (q2 (rGet Z1 x)) 3) = true → false = true) ∧ (bDiff (bLe 0 (q3 (rGet Z1 x))) (bEq (q2 (rGet Z1 x)) 3) = false → InR .i64 (iAdd x 1) ∧ (true = true ∧ h4_2 l = h4_2 l) ∧ h4_3 l = h4_3 l ∧ ∃ (y : Int), (0 ≤ y ∧ y ≤ ↑Z1.length) ∧ true = true ∧ ((IntKind.i64 = IntKind.i64 ∧ iAdd x 1 = y) ∧ True) ∧ True ∧ Z1.length - y.toNat < Z1.length - x.toNat)) ∧ (bDiff (bEq (q2 (rGet Z1 x)) 0) (bNot x_1.snd.1) = true → false = true))) ∧ (bDiff x_1.snd.1 x_1.snd.snd.1 = true → false = true)) ∧ (bDiff (bNe (q1 (rGet Z1 x)) 0) x_1.snd.1 = true → false = true)) ∧ (bNe (q0 (rGet Z1 x)) (q0 (rGet Z3 x)) = true → false = true))))) ∧ (bLt x (iLen Z1) = false → true = true)))))))))) := by subst hZ1; subst hZ3; subst hZ2; kernel_rfl
theorem v4 (l : List (List C)) : Holds (Wfs [.sl [.int .i64] l] → True → B4 l) := by
  refine ⟨fun hw hp => ?_⟩
  rw [e4 _ _ rfl _ rfl _ rfl]
  unfold WL q0 q1 q2 q3 q4 q5
  simp only [Wfs, Wf, InR, and_true] at hw
  have hm : maxLen = 9223372036854775807 := rfl
  simp only [hm] at hw
  simp only [iAdd, iSub, iMul, iLen, iSize, bLt, bLe, bEq, bNe, bNot, bSame, bDiff, sSame, sDiff, bIf, bAnd, InR, pLe, pIn, pRoom, eq_self, true_and, and_true, true_implies, implies_true, decide_eq_true_eq, decide_eq_false_iff_not, Bool.not_eq_true', Bool.not_eq_false', Bool.true_eq_false, Bool.false_eq_true, false_implies]
  clear hw hp
  have a1 := Sp.rsA_nn (l := l) (a := 0) (by omega)
  have a2 := Sp.meA_nn (l := l) a1
  have a3 := Sp.wtA_nn (l := l) a2
  have n1 := Sp.wtO_len (l := l) (a := Sp.meA l (Sp.rsA l 0))
  have n2 := Sp.skO_len (l := l) (a := Sp.wtA l (Sp.meA l (Sp.rsA l 0)))
  have hl := Sp.dcs_len (rs := Sp.rsO l 0) (mm := Sp.meO l (Sp.rsA l 0)) (ws := Sp.wtO l (Sp.meA l (Sp.rsA l 0))) (ks := Sp.skO l (Sp.wtA l (Sp.meA l (Sp.rsA l 0))))
  have hg := fun x h0 h1 => Sp.dcs_get (x := x) (rs := Sp.rsO l 0) (mm := Sp.meO l (Sp.rsA l 0)) (ws := Sp.wtO l (Sp.meA l (Sp.rsA l 0))) (ks := Sp.skO l (Sp.wtA l (Sp.meA l (Sp.rsA l 0)))) h0 h1
  generalize Sp.rsO l 0 = R at *
  generalize Sp.meO l (Sp.rsA l 0) = M at *
  generalize Sp.wtO l (Sp.meA l (Sp.rsA l 0)) = W at *
  generalize Sp.skO l (Sp.wtA l (Sp.meA l (Sp.rsA l 0))) = K at *
  generalize hD : Sp.dcs R M W K = D at *
  refine ⟨by omega, fun _ => ⟨a1, fun _ => ⟨a2, fun _ => ⟨a3, fun _ => ⟨⟨by omega, by omega⟩, fun _ _ _ => ⟨fun h => h (by omega), fun _ _ => ⟨⟨0, ⟨by omega, by omega⟩, rfl⟩, fun x hx _ hlt => ⟨⟨hx.1, hlt⟩, fun _ _ => ⟨⟨(0, false, false, false), Sp.pf_init, rfl, rfl, rfl, rfl⟩, ?_⟩⟩⟩⟩⟩⟩⟩⟩⟩
  have hw' : x < (W.length : Int) := by omega
  have e := hg x hx.1 hw'
  have d0 : ((rGet D x).headD default).int = ((rGet W x).headD default).int := by rw [e]; rfl
  have d1 : ((rGet D x).tail.headD default).int = Sp.wDv R M K (Sp.rls W) (Sp.cls K) (Sp.s1 (rGet W x)) (Sp.i2 (rGet W x)) (Sp.i4 (rGet W x)) := by rw [e]; rfl
  have d2 : ((rGet D x).tail.tail.headD default).int = Sp.wBy R M K (Sp.rls W) (Sp.cls K) (Sp.s1 (rGet W x)) (Sp.i2 (rGet W x)) (Sp.i4 (rGet W x)) := by rw [e]; rfl
  have d3 : ((rGet D x).tail.tail.tail.headD default).int = Sp.wRu R M K (Sp.rls W) (Sp.cls K) (Sp.s1 (rGet W x)) (Sp.i2 (rGet W x)) (Sp.i4 (rGet W x)) := by rw [e]; rfl
  clear e hg
  rintro ⟨z, s, h, p⟩ hi _
  simp only at hi ⊢
  have z0 := hi.1
  refine ⟨fun hz => ?_, fun hz => ?_⟩
  · have yes := Sp.pf_yes hi hz
    have no : _ → _ ∧ ∃ y : Int × Bool × Bool × Bool, Sp.pfI K (rGet W x) ((rGet D x).tail.headD default).int y.fst y.snd.fst y.snd.snd.fst y.snd.snd.snd ∧ (z + 1 = y.fst ∧ s = y.snd.fst ∧ h = y.snd.snd.fst ∧ p = y.snd.snd.snd) ∧ K.length - y.fst.toNat < K.length - z.toNat := fun hn => ⟨(show -9223372036854775808 ≤ z + 1 ∧ z + 1 ≤ 9223372036854775807 by omega), (z + 1, s, h, p), Sp.pf_no hi hz hn, ⟨rfl, rfl, rfl, rfl⟩, by simp only; omega⟩
    refine ⟨⟨z0, hz⟩, fun _ => ⟨fun k1 => ⟨⟨hx.1, hw'⟩, fun _ => ⟨fun k2 => ?_, fun k2 => no fun h => k2 h.2⟩⟩, fun k1 => no fun h => k1 h.1⟩⟩
    have y := yes k1 k2
    clear yes no
    refine ⟨fun e1 => ⟨fun e2 => ⟨⟨hx.1, hw'⟩, fun _ => ?_⟩, fun e2 => ?_⟩, fun e1 => ⟨fun e2 => ⟨⟨hx.1, hw'⟩, fun _ => ?_⟩, fun e2 => ?_⟩⟩ <;> subst e1 e2 <;> exact ⟨by omega, (z + 1, true, _, _), y, ⟨rfl, rfl, rfl, rfl⟩, by simp only; omega⟩
  · obtain ⟨f1, f2, f3, f4⟩ := Sp.pf_fin hi hz d1
    rw [← d2] at f1 f2 f3 f4
    rw [← d3] at f4
    clear hi d1 d2 d3
    have e1 : (!decide (((rGet D x).tail.headD default).int = 0)) = s := by
      cases s with
      | true => rw [decide_eq_false (f1 rfl).2.1]; rfl
      | false => rw [decide_eq_true (f2 rfl).2.1]; rfl
    have e2 : h = s := by
      cases s with
      | true => exact (f1 rfl).1
      | false => exact (f2 rfl).1
    have e3 : decide (((rGet D x).tail.tail.headD default).int = 0) = !s := by
      cases s with
      | true => exact decide_eq_false (f1 rfl).2.2
      | false => exact decide_eq_true (f2 rfl).2.2.1
    have e4 : decide (0 ≤ ((rGet D x).tail.tail.tail.headD default).int) = decide (((rGet D x).tail.tail.headD default).int = 3) := decide_eq_decide.2 f4
    have w4 : ((rGet W x).tail.tail.tail.tail.headD default).int = Sp.i4 (rGet W x) := rfl
    simp only [e1, e2, e3, e4, d0, w4, beq_self_eq_true, Bool.true_eq_false, Bool.false_eq_true, false_implies, true_implies, implies_true, and_true, true_and, not_true_eq_false]
    have fin : (-9223372036854775808 ≤ x + 1 ∧ x + 1 ≤ 9223372036854775807) ∧ ∃ y, (0 ≤ y ∧ y ≤ (D.length : Int)) ∧ x + 1 = y ∧ D.length - y.toNat < D.length - x.toNat := ⟨by omega, x + 1, ⟨by omega, by omega⟩, rfl, by omega⟩
    refine ⟨⟨hx.1, hw'⟩, fun _ => ⟨fun hp => ⟨⟨hx.1, hw'⟩, fun _ => ⟨fun _ => ⟨fun _ => fin, fun h => h (f3 hp).2⟩, fun h => h (f3 hp).1⟩⟩, fun _ => fin⟩⟩
end Go.Sx

