/- Contracts and conditions, continued. -/
import Derived.Test.YtodpeopfbcblaaaSxUse
import Derived.Test.YtodpeopfbcblaaaC18i
import Derived.KernelRfl
set_option linter.unusedVariables false
set_option linter.unusedSimpArgs false
set_option maxRecDepth 100000
set_option maxHeartbeats 4000000

namespace Go
open Go.Sx
def Sp.g1 (kk : Int) (zs : List (List C)) : Prop := kk ≤ 19 ∧ (zs.length : Int) + max kk 0 ≤ 19
end Go

namespace Go.Sx
/-! ### function 8: law18.ControlDeclares -/
def tb8 : List (Nat × Ct) := [(10, ct10), (23, ct23), (24, ct24), (25, ct25)]
theorem e8 (bn : Int) (bd : Int) (pn : Int) (pd : Int) (ts : List (List C)) (xs : List (List C)) (dr : Int) (ji : Int) : vcF Go.Proofs.Try.prog (look tb8) (fun _ => false) (fun ff ii => bif Nat.beq ff 8 then (bif Nat.beq ii 8 then .ghost 14 [.int .i64, .int .i64] 54 (.on (fun sv0 => match sv0.tmps.getD 13 .undef, sv0.tmps.getD 14 .undef with | .ref kk _, .own rr _ => .inv (Int × List (List C) × List (List C)) (fun z => Sp.g1 z.1 z.2.2) (fun z => [(15, .int .i64 z.1), (14, .own rr 0)]) (fun z => [(kk, .box [.sl [.int .u8] z.2.1] 59), (rr, .row [.int .i64, .int .i64] 54 0 z.2.2)]) [kk, rr] [0, 1, 2, 3, 4, 5, 6, 7, 12, 13, 14, 15, 16, 17, 19, 22, 28] (fun z => z.1.toNat) | _, _ => .unroll 0)) else .unroll 0) else .unroll 9) 8 8 [.agg [.int .i64 bn, .int .i64 bd], .agg [.int .i64 pn, .int .i64 pd], .sl [.int .i64, .int .i64] ts, .sl [.int .u8] xs, .int .i64 dr, .int .i64 ji] [] (fun sv _ => isTrue sv) = (True ∧ (True → True ∧ (bNot true = true → false = true) ∧ (bNot true = false → pLe (iLen ts) 9223372036854775807 → (bLt 30 (iLen ts) = true → true = true) ∧ (bLt 30 (iLen ts) = false → pLe (iLen xs) 9223372036854775807 → geB none (some (iMin (iLen xs) 300)) (iLen xs) ∧ True ∧ (InR IntKind.i64 (Sp.nextV (cutRows xs none (some (iMin (iLen xs) 300))) 20) → (∃ (x : Int × List (List C) × List (List C)), Sp.g1 x.1 x.snd.2 ∧ true = true ∧ ((IntKind.i64 = IntKind.i64 ∧ Sp.nextV (cutRows xs none (some (iMin (iLen xs) 300))) 20 = x.1) ∧ (3 = 3 ∧ 0 + 1 = 0 + 1) ∧ True) ∧ ((([Sh.int IntKind.u8] = [Sh.int IntKind.u8] ∧ Sp.nextL (cutRows xs none (some (iMin (iLen xs) 300))) 20 = x.snd.1) ∧ True) ∧ 59 = 59) ∧ ([Sh.int IntKind.i64, Sh.int IntKind.i64] = [Sh.int IntKind.i64, Sh.int IntKind.i64] ∧ 54 = 54 ∧ 0 + 1 = 0 + 1 ∧ [] = x.snd.2) ∧ True) ∧ (∀ (x : Int × List (List C) × List (List C)), true = true ∧ true = true) ∧ ∀ (x : Int × List (List C) × List (List C)), Sp.g1 x.1 x.snd.2 → InR IntKind.i64 x.1 ∧ True ∧ True → ((x.snd.1.length ≤ 9223372036854775807 ∧ ∀ (x_1 : List C), x_1 ∈ x.snd.1 → WfCs [Sh.int IntKind.u8] x_1) ∧ True) ∧ (x.snd.2.length ≤ 9223372036854775807 ∧ ∀ (x_1 : List C), x_1 ∈ x.snd.2 → WfCs [Sh.int IntKind.i64, Sh.int IntKind.i64] x_1) ∧ True → (bLt 0 x.1 = true → True ∧ (InR IntKind.i64 (Sp.nextV x.snd.1 5) → InR IntKind.i64 (iAdd 62 (Sp.nextV x.snd.1 5)) ∧ True ∧ (InR IntKind.i64 (Sp.nextV (Sp.nextL x.snd.1 5) 5) → InR IntKind.i64 (iAdd 62 (Sp.nextV (Sp.nextL x.snd.1 5) 5)) ∧ pRoom 16 (iLen (x.snd.2 ++ [[C.i (iAdd 62 (Sp.nextV x.snd.1 5)), C.i (iAdd 62 (Sp.nextV (Sp.nextL x.snd.1 5) 5))]])) ∧ InR IntKind.i64 (iSub x.1 1) ∧ (true = true ∧ [SV.agg [SV.int IntKind.i64 bn, SV.int IntKind.i64 bd], SV.agg [SV.int IntKind.i64 pn, SV.int IntKind.i64 pd], SV.sl [Sh.int IntKind.i64, Sh.int IntKind.i64] ts, SV.sl [Sh.int IntKind.u8] xs, SV.int IntKind.i64 dr, SV.int IntKind.i64 ji, SV.ref 0 0, SV.ref 1 0, SV.blit false, SV.ref 2 0, SV.undef, SV.undef, SV.blit false, SV.blit false] = [SV.agg [SV.int IntKind.i64 bn, SV.int IntKind.i64 bd], SV.agg [SV.int IntKind.i64 pn, SV.int IntKind.i64 pd], SV.sl [Sh.int IntKind.i64, Sh.int IntKind.i64] ts, SV.sl [Sh.int IntKind.u8] xs, SV.int IntKind.i64 dr, SV.int IntKind.i64 ji, SV.ref 0 0, SV.ref 1 0, SV.blit false, SV.ref 2 0, SV.undef, SV.undef, SV.blit false, SV.blit false]) ∧ [HB.box [SV.int IntKind.i64 bn, SV.int IntKind.i64 bd] 27, HB.box [SV.int IntKind.i64 pn, SV.int IntKind.i64 pd] 27, HB.gone, HB.gone] = [HB.box [SV.int IntKind.i64 bn, SV.int IntKind.i64 bd] 27, HB.box [SV.int IntKind.i64 pn, SV.int IntKind.i64 pd] 27, HB.gone, HB.gone] ∧ ∃ (y : Int × List (List C) × List (List C)), Sp.g1 y.1 y.snd.2 ∧ true = true ∧ ((IntKind.i64 = IntKind.i64 ∧ iSub x.1 1 = y.1) ∧ (3 = 3 ∧ 0 + 1 = 0 + 1) ∧ True) ∧ (((([Sh.int IntKind.u8] = [Sh.int IntKind.u8] ∧ Sp.nextL (Sp.nextL x.snd.1 5) 5 = y.snd.1) ∧ True) ∧ 59 = 59) ∧ ([Sh.int IntKind.i64] ++ ([Sh.int IntKind.i64] ++ []) = [Sh.int IntKind.i64, Sh.int IntKind.i64] ∧ 54 = 54 ∧ 0 + 1 = 0 + 1 ∧ x.snd.2 ++ [[C.i (iAdd 62 (Sp.nextV x.snd.1 5)), C.i (iAdd 62 (Sp.nextV (Sp.nextL x.snd.1 5) 5))]] = y.snd.2) ∧ True) ∧ y.1.toNat < x.1.toNat))) ∧ (bLt 0 x.1 = false → True ∧ (True → True ∧ (True → (bSame (Sp.decld bn bd pn pd dr ji ts) (Sp.rdecl bn bd pn pd dr ji ts) = true → True ∧ (True → True ∧ (True → (bSame (Sp.decld 1 1 64 1 dr ji x.snd.2) (Sp.rdecl 1 1 64 1 dr ji x.snd.2) = true → pNe 3000 0 ∧ InR IntKind.i64 (iAdd (iRem dr 3000) 3000) ∧ pNe 3000 0 ∧ pNe 20 0 ∧ InR IntKind.i64 (iAdd (iRem ji 20) 20) ∧ pNe 20 0 ∧ True ∧ (True → pNe 3000 0 ∧ InR IntKind.i64 (iAdd (iRem dr 3000) 3000) ∧ pNe 3000 0 ∧ pNe 20 0 ∧ InR IntKind.i64 (iAdd (iRem ji 20) 20) ∧ pNe 20 0 ∧ True ∧ (True → bSame (Sp.decld 1 1 64 1 (iRem (iAdd (iRem dr 3000) 3000) 3000) (iRem (iAdd (iRem ji 20) 20) 20) x.snd.2) (Sp.rdecl 1 1 64 1 (iRem (iAdd (iRem dr 3000) 3000) 3000) (iRem (iAdd (iRem ji 20) 20) 20) x.snd.2) = true))) ∧ (bSame (Sp.decld 1 1 64 1 dr ji x.snd.2) (Sp.rdecl 1 1 64 1 dr ji x.snd.2) = false → false = true)))) ∧ (bSame (Sp.decld bn bd pn pd dr ji ts) (Sp.rdecl bn bd pn pd dr ji ts) = false → false = true))))))))) := by kernel_rfl
theorem v8 (bn : Int) (bd : Int) (pn : Int) (pd : Int) (ts : List (List C)) (xs : List (List C)) (dr : Int) (ji : Int) : Holds (Wfs [.agg [.int .i64 bn, .int .i64 bd], .agg [.int .i64 pn, .int .i64 pd], .sl [.int .i64, .int .i64] ts, .sl [.int .u8] xs, .int .i64 dr, .int .i64 ji] → True → vcF Go.Proofs.Try.prog (look tb8) (fun _ => false) (fun ff ii => bif Nat.beq ff 8 then (bif Nat.beq ii 8 then .ghost 14 [.int .i64, .int .i64] 54 (.on (fun sv0 => match sv0.tmps.getD 13 .undef, sv0.tmps.getD 14 .undef with | .ref kk _, .own rr _ => .inv (Int × List (List C) × List (List C)) (fun z => Sp.g1 z.1 z.2.2) (fun z => [(15, .int .i64 z.1), (14, .own rr 0)]) (fun z => [(kk, .box [.sl [.int .u8] z.2.1] 59), (rr, .row [.int .i64, .int .i64] 54 0 z.2.2)]) [kk, rr] [0, 1, 2, 3, 4, 5, 6, 7, 12, 13, 14, 15, 16, 17, 19, 22, 28] (fun z => z.1.toNat) | _, _ => .unroll 0)) else .unroll 0) else .unroll 9) 8 8 [.agg [.int .i64 bn, .int .i64 bd], .agg [.int .i64 pn, .int .i64 pd], .sl [.int .i64, .int .i64] ts, .sl [.int .u8] xs, .int .i64 dr, .int .i64 ji] [] (fun sv _ => isTrue sv)) := by
  refine ⟨fun hw hp => ?_⟩
  rw [e8]
  have r1 := rem_bd dr (b := 3000) (by omega)
  have r2 := rem_bd ji (b := 20) (by omega)
  simp only [Wfs, Wf, InR, and_true] at hw
  simp only [iAdd, iSub, iRem, Sp.decld_eq, bSame, bNot, beq_self_eq_true, Bool.not_true, Bool.not_false, eq_self, true_and, and_true, implies_true, true_implies, Bool.true_eq_false, Bool.false_eq_true, false_implies]
  intro _ _ _
  refine ⟨by simp only [geB, iMin, iLen]; omega, fun _ => ⟨⟨(_, _, _), ?_, rfl, rfl, rfl⟩, ?_⟩⟩
  · have b := Sp.nextV_bd (cutRows xs none (some (iMin (iLen xs) 300))) (n := 20) (by omega)
    have key : ∀ w : Int, 0 ≤ w → w < 20 → Sp.g1 w [] := fun w h0 h1 => by simp only [Sp.g1, List.length_nil]; omega
    exact key _ b.1 b.2
  rintro ⟨n, ys, zs⟩ ⟨g1, g2⟩ _ _
  simp only at g1 g2 ⊢
  have b1 := Sp.nextV_bd ys (n := 5) (by omega)
  have b2 := Sp.nextV_bd (Sp.nextL ys 5) (n := 5) (by omega)
  refine ⟨fun hn _ => ⟨by simp only [InR]; omega, fun _ => ⟨by simp only [InR]; omega, ?_, ?_, (n - 1, _, _), ?_, rfl, ⟨rfl, rfl, rfl⟩, ?_⟩⟩, fun _ => by simp only [pNe, InR]; omega⟩
  all_goals simp only [bLt, decide_eq_true_eq] at hn
  · simp only [pRoom, iLen, List.length_append, List.length_cons, List.length_nil]; omega
  · simp only [InR]; omega
  · simp only [Sp.g1, List.length_append, List.length_cons, List.length_nil]; omega
  · simp only; omega
end Go.Sx

