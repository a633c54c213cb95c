/- Contracts and conditions, continued. -/
import Derived.Test.YtojecjbhdligcaaDoorSxUse
import Derived.Test.YtojecjbhdligcaaDoorD06g
import Derived.KernelRfl
set_option linter.unusedVariables false
set_option linter.unusedSimpArgs false
set_option maxRecDepth 100000
set_option maxHeartbeats 4000000

namespace Go.Sx
/-! ### function 3: law06.ChannelsTexts -/
def tb3 : List (Nat × Ct) := [(7, ct7), (8, ct8), (9, ct9), (10, ct10), (11, ct11), (12, ct12)]
def A3  : FuncId → Nat → LoopAnn := fun _ _ => LoopAnn.unroll 200
abbrev B3 (s : ByteArray) (m : List (List C)) : Prop := vcF Go.Proofs.Tryd.prog (look tb3) (fun _ => false) (A3) 6 3 [.str s, .sl [.int .i64] m] [] (fun sv _ => isTrue sv)
theorem e3 (s : ByteArray) (m : List (List C)) : B3 s m = (True ∧ (True → True ∧ (bNot true = true → false = true) ∧ (bNot true = false → pLe (iSize s) 9223372036854775807 → (bLt 300 (iSize s) = false → pLe (iLen m) 9223372036854775807 → (bLt 50 (iLen m) = true → true = true) ∧ (bLt 50 (iLen m) = false → (pLe (iSize s) 1000 ∧ True) ∧ (((Sp.prL s).length ≤ 9223372036854775807 ∧ ∀ (x : List C), x ∈ Sp.prL s → WfCs [.int .i64] x) ∧ InR .i64 (Sp.prE s) ∧ True → (pLe (iSize s) 1000 ∧ True) ∧ (((Sp.prL s).length ≤ 9223372036854775807 ∧ ∀ (x : List C), x ∈ Sp.prL s → WfCs [.int .i64] x) ∧ InR .i64 (Sp.prE s) ∧ True → (bEq (Sp.prE s) (Sp.prE s) = true → True ∧ (True → (Sp.sm (Sp.prL s) (Sp.prL s) = true → (pLe (↑m.length) 1000 ∧ True) ∧ ((List.brecOn.go ((((11, ct11).snd.outs [[C.l m]]).headD []).headD default).str.1.toList List.length._f).1.le 9223372036854775807 → (pLe (↑m.length) 1000 ∧ True) ∧ ((List.brecOn.go ((((12, ct12).snd.outs [[C.l m]]).headD []).headD default).str.1.toList List.length._f).1.le 9223372036854775807 → sSame (Sp.fmt m) (Sp.fmt m) = true))) ∧ (Sp.sm (Sp.prL s) (Sp.prL s) = false → false = true))) ∧ (bEq (Sp.prE s) (Sp.prE s) = false → false = true))))) ∧ (bLt 300 (iSize s) = true → true = true)))) := by kernel_rfl
theorem v3 (s : ByteArray) (m : List (List C)) : Holds (Wfs [.str s, .sl [.int .i64] m] → True → B3 s m) := by
  refine ⟨fun hw hp => ?_⟩
  rw [e3]
  simp only [Wfs, Wf, InR, and_true] at hw
  have hm : maxLen = 9223372036854775807 := rfl
  simp only [hm] at hw
  simp only [iAdd, iSub, iMul, iLen, iSize, bLt, bLe, bEq, bNe, bNot, bSame, bDiff, sSame, sDiff, InR, pLe, pIn, pRoom, eq_self, true_and, and_true, true_implies, implies_true, decide_eq_true_eq, decide_eq_false_iff_not, Bool.not_eq_true', Bool.not_eq_false']
  simp only [Sp.sm_refl, true_implies, and_true, true_and, Bool.true_eq_false, Bool.false_eq_true, false_implies, not_true_eq_false, not_false_eq_true, implies_true, reduceCtorEq, beq_self_eq_true]
  all_goals (repeat' (first | apply And.intro | intro _))
  all_goals first | omega | trivial
end Go.Sx

namespace Go.Sx
/-! ### function 5: law06.ChannelsLists -/
def tb5 : List (Nat × Ct) := [(7, ct7), (10, ct10), (13, ct13), (15, ct15), (14, ct14), (16, ct16), (17, ct17), (18, ct18), (19, ct19), (20, ct20), (21, ct21)]
def A5  : FuncId → Nat → LoopAnn := fun _ _ => LoopAnn.unroll 200
abbrev B5 (a : List (List C)) (b : List (List C)) (p : Int) : Prop := vcF Go.Proofs.Tryd.prog (look tb5) (fun _ => false) (A5) 6 5 [.sl [.int .i64] a, .sl [.int .i64] b, .int .i64 p] [] (fun sv _ => isTrue sv)
theorem e5 (a : List (List C)) (b : List (List C)) (p : Int) : B5 a b p = (True ∧ (True → True ∧ (bNot true = true → false = true) ∧ (bNot true = false → pLe (iLen a) 9223372036854775807 → (bLt 40 (iLen a) = false → pLe (iLen b) 9223372036854775807 → (bLt 40 (iLen b) = true → true = true) ∧ (bLt 40 (iLen b) = false → True ∧ (True → True ∧ (True → (bSame (Sp.vld a) (Sp.vld a) = true → True ∧ (InR .i64 (Sp.ix a p) → True ∧ (InR .i64 (Sp.ix a p) → (bEq (Sp.ix a p) (Sp.ix a p) = true → (pLe (↑a.length) 1000 ∧ True) ∧ (((Sp.srt a).length ≤ 9223372036854775807 ∧ ∀ (x : List C), x ∈ Sp.srt a → WfCs [.int .i64] x) → (pLe (↑a.length) 1000 ∧ True) ∧ (((Sp.srt a).length ≤ 9223372036854775807 ∧ ∀ (x : List C), x ∈ Sp.srt a → WfCs [.int .i64] x) → True ∧ (True → (Sp.sm (Sp.srt a) (Sp.srt a) = true → True ∧ (True → True ∧ (True → (bSame (Sp.sm a b) (Sp.sm a b) = true → (pLe (↑a.length) 1000 ∧ True) ∧ (((Sp.cmr a b).length ≤ 9223372036854775807 ∧ ∀ (x : List C), x ∈ Sp.cmr a b → WfCs [.int .i64] x) → (pLe (↑a.length) 1000 ∧ True) ∧ (((Sp.cmr a b).length ≤ 9223372036854775807 ∧ ∀ (x : List C), x ∈ Sp.cmr a b → WfCs [.int .i64] x) → True ∧ (True → Sp.sm (Sp.cmr a b) (Sp.cmr a b) = true)))) ∧ (bSame (Sp.sm a b) (Sp.sm a b) = false → false = true)))) ∧ (Sp.sm (Sp.srt a) (Sp.srt a) = false → false = true))))) ∧ (bEq (Sp.ix a p) (Sp.ix a p) = false → false = true)))) ∧ (bSame (Sp.vld a) (Sp.vld a) = false → false = true))))) ∧ (bLt 40 (iLen a) = true → true = true)))) := by kernel_rfl
theorem v5 (a : List (List C)) (b : List (List C)) (p : Int) : Holds (Wfs [.sl [.int .i64] a, .sl [.int .i64] b, .int .i64 p] → True → B5 a b p) := by
  refine ⟨fun hw hp => ?_⟩
  rw [e5]
  simp only [Wfs, Wf, InR, and_true] at hw
  have hm : maxLen = 9223372036854775807 := rfl
  simp only [hm] at hw
  simp only [iAdd, iSub, iMul, iLen, iSize, bLt, bLe, bEq, bNe, bNot, bSame, bDiff, sSame, sDiff, InR, pLe, pIn, pRoom, eq_self, true_and, and_true, true_implies, implies_true, decide_eq_true_eq, decide_eq_false_iff_not, Bool.not_eq_true', Bool.not_eq_false']
  simp only [Sp.sm_refl, true_implies, and_true, true_and, Bool.true_eq_false, Bool.false_eq_true, false_implies, not_true_eq_false, not_false_eq_true, implies_true, reduceCtorEq, beq_self_eq_true]
  all_goals (repeat' (first | apply And.intro | intro _))
  all_goals first | omega | trivial
end Go.Sx

namespace Go.Sx
/-! ### function 6: law06.ChannelsBack -/
def tb6 : List (Nat × Ct) := [(7, ct7), (8, ct8), (11, ct11), (13, ct13), (14, ct14), (18, ct18), (20, ct20)]
def A6 (a : List (List C)) : FuncId → Nat → LoopAnn := fun _ ii => bif Nat.beq ii 8 then .inv Int (fun z => 1 ≤ z ∧ z ≤ ((Sp.srt a).length : Int)) (fun z => [(8, .int .i64 z)]) (fun _ => []) [] [0, 1, 4, 5, 6, 7, 8, 10, 28, 40, 52] (fun z => (Sp.srt a).length - z.toNat) else .unroll 0
abbrev B6 (a : List (List C)) (b : List (List C)) : Prop := vcF Go.Proofs.Tryd.prog (look tb6) (fun _ => false) (A6 a) 6 6 [.sl [.int .i64] a, .sl [.int .i64] b] [] (fun sv _ => isTrue sv)
theorem e6 (a : List (List C)) (b : List (List C)) : B6 a b = (True ∧ (True → True ∧ (bNot true = true → false = true) ∧ (bNot true = false → pLe (iLen a) 9223372036854775807 → (bLt 40 (iLen a) = false → pLe (iLen b) 9223372036854775807 → (bLt 40 (iLen b) = false → True ∧ (True → True ∧ (bNot (Sp.vld a) = false → True ∧ (True → True ∧ (bNot (Sp.vld b) = true → true = true) ∧ (bNot (Sp.vld b) = false → (pLe (↑a.length) 1000 ∧ True) ∧ ((List.brecOn.go ((((11, ct11).snd.outs [[C.l a]]).headD []).headD default).str.1.toList List.length._f).1.le 9223372036854775807 → (pLe (iSize (Sp.fmt a)) 1000 ∧ True) ∧ (((Sp.prL (Sp.fmt a)).length ≤ 9223372036854775807 ∧ ∀ (x : List C), x ∈ Sp.prL (Sp.fmt a) → WfCs [.int .i64] x) ∧ InR .i64 (Sp.prE (Sp.fmt a)) ∧ True → (pLe (↑a.length) 1000 ∧ True) ∧ (((Sp.srt a).length ≤ 9223372036854775807 ∧ ∀ (x : List C), x ∈ Sp.srt a → WfCs [.int .i64] x) → (∃ (x : Int), (1 ≤ x ∧ x ≤ ↑(Sp.srt a).length) ∧ true = true ∧ ((IntKind.i64 = IntKind.i64 ∧ 1 = x) ∧ True) ∧ True) ∧ (∀ (x : Int), true = true ∧ true = true) ∧ ∀ (x : Int), 1 ≤ x ∧ x ≤ ↑(Sp.srt a).length → InR .i64 x ∧ True → True → pLe (iLen (Sp.srt a)) 9223372036854775807 → (bLt x (iLen (Sp.srt a)) = true → InR .i64 (iSub x 1) ∧ pIn 0 (iLen (Sp.srt a)) (iSub x 1) ∧ (InR .i64 ((rGet (Sp.srt a) (iSub x 1)).headD default).int → pIn 0 (iLen (Sp.srt a)) x ∧ (InR .i64 ((rGet (Sp.srt a) x).headD default).int → (bLe ((rGet (Sp.srt a) x).headD default).int ((rGet (Sp.srt a) (iSub x 1)).headD default).int = true → false = true) ∧ (bLe ((rGet (Sp.srt a) x).headD default).int ((rGet (Sp.srt a) (iSub x 1)).headD default).int = false → InR .i64 (iAdd x 1) ∧ (true = true ∧ (fun z => z = z) [SV.sl [.int .i64] a, SV.sl [.int .i64] b, SV.sl [.int .i64] (Sp.prL (Sp.fmt a)), SV.int .i64 (Sp.prE (Sp.fmt a)), SV.sl [.int .i64] (Sp.srt a), SV.blit false, SV.blit false]) ∧ ([] : List HB) = [] ∧ ∃ (y : Int), (1 ≤ y ∧ y ≤ ↑(Sp.srt a).length) ∧ true = true ∧ ((IntKind.i64 = IntKind.i64 ∧ iAdd x 1 = y) ∧ True) ∧ True ∧ (Sp.srt a).length - y.toNat < (Sp.srt a).length - x.toNat)))) ∧ (bLt x (iLen (Sp.srt a)) = false → (bEq (Sp.prE (Sp.fmt a)) 0 = true → True ∧ (True → (Sp.sm (Sp.prL (Sp.fmt a)) a = true → True ∧ (True → (Sp.vld (Sp.srt a) = true → (pLe (↑a.length) 1000 ∧ True) ∧ (((Sp.cmr a (Sp.srt a)).length ≤ 9223372036854775807 ∧ ∀ (x : List C), x ∈ Sp.cmr a (Sp.srt a) → WfCs [.int .i64] x) → pLe (iLen (Sp.cmr a (Sp.srt a))) 9223372036854775807 → pLe (iLen a) 9223372036854775807 → (bEq (iLen (Sp.cmr a (Sp.srt a))) (iLen a) = true → (pLe (↑a.length) 1000 ∧ True) ∧ (((Sp.cmr a b).length ≤ 9223372036854775807 ∧ ∀ (x : List C), x ∈ Sp.cmr a b → WfCs [.int .i64] x) → (pLe (↑(Sp.cmr a b).length) 1000 ∧ True) ∧ (((Sp.srt (Sp.cmr a b)).length ≤ 9223372036854775807 ∧ ∀ (x : List C), x ∈ Sp.srt (Sp.cmr a b) → WfCs [.int .i64] x) → (pLe (↑b.length) 1000 ∧ True) ∧ (((Sp.cmr b a).length ≤ 9223372036854775807 ∧ ∀ (x : List C), x ∈ Sp.cmr b a → WfCs [.int .i64] x) → (pLe (↑(Sp.cmr b a).length) 1000 ∧ True) ∧ (((Sp.srt (Sp.cmr b a)).length ≤ 9223372036854775807 ∧ ∀ (x : List C), x ∈ Sp.srt (Sp.cmr b a) → WfCs [.int .i64] x) → True ∧ (True → Sp.sm (Sp.srt (Sp.cmr a b)) (Sp.srt (Sp.cmr b a)) = true)))))) ∧ (bEq (iLen (Sp.cmr a (Sp.srt a))) (iLen a) = false → false = true))) ∧ (Sp.vld (Sp.srt a) = false → false = true))) ∧ (Sp.sm (Sp.prL (Sp.fmt a)) a = false → false = true))) ∧ (bEq (Sp.prE (Sp.fmt a)) 0 = false → false = true)))))))) ∧ (bNot (Sp.vld a) = true → true = true))) ∧ (bLt 40 (iLen b) = true → true = true)) ∧ (bLt 40 (iLen a) = true → true = true)))) := by kernel_rfl
theorem v6 (a : List (List C)) (b : List (List C)) : Holds (Wfs [.sl [.int .i64] a, .sl [.int .i64] b] → True → B6 a b) := by
  refine ⟨fun hw hp => ?_⟩
  rw [e6]
  simp only [Wfs, Wf, InR, and_true] at hw
  have hm : maxLen = 9223372036854775807 := rfl
  simp only [hm] at hw
  simp only [iAdd, iSub, iMul, iLen, iSize, bLt, bLe, bEq, bNe, bNot, bSame, bDiff, sSame, sDiff, InR, pLe, pIn, pRoom, eq_self, true_and, and_true, true_implies, implies_true, decide_eq_true_eq, decide_eq_false_iff_not, Bool.not_eq_true', Bool.not_eq_false']
  refine ⟨fun h => (by cases h), fun _ _ _ _ va vb => ?_⟩
  have bk := Sp.back va
  have bs := Sp.back_sm va
  have sv := Sp.srt_vld va
  have c1 := Sp.cmr_srt (m := a)
  have cb := Sp.cmr_both va vb
  have l8 := Sp.vld_len8 va
  have l9 := Sp.vld_len8 vb
  have sl := Sp.srt_len a
  have fs := Sp.fmt_size a
  have n1 := Sp.cmr_len a b
  have n2 := Sp.cmr_len b a
  simp only [bk.2, bs, sv, c1, cb, Sp.sm_refl, true_implies, and_true, true_and, Bool.true_eq_false, Bool.false_eq_true, false_implies, not_true_eq_false, not_false_eq_true, implies_true, reduceCtorEq, beq_self_eq_true]
  refine ⟨by omega, fun _ => ⟨by omega, fun _ => ⟨by omega, fun _ => ⟨⟨1, by omega, rfl⟩, fun x hx _ _ => ⟨fun hlt => ⟨by omega, by omega, fun _ => ⟨by omega, fun _ => ⟨fun hle => ?_, fun _ => ⟨by omega, x + 1, by omega, rfl, by omega⟩⟩⟩⟩, fun hge => ?_⟩⟩⟩⟩⟩
  · have := Sp.srt_lt va hx.1 hlt
    simp only [Sp.i0] at this; omega
  all_goals (repeat' (first | apply And.intro | intro _))
  all_goals first | omega | trivial
end Go.Sx

namespace Go.Sx
/-! ### function 4: law06.ChannelsApart -/
def tb4 : List (Nat × Ct) := [(7, ct7), (8, ct8), (11, ct11), (13, ct13), (14, ct14)]
def A4  : FuncId → Nat → LoopAnn := fun _ _ => LoopAnn.unroll 200
abbrev B4 (a : List (List C)) (b : List (List C)) (s : ByteArray) : Prop := vcF Go.Proofs.Tryd.prog (look tb4) (fun _ => false) (A4) 6 4 [.sl [.int .i64] a, .sl [.int .i64] b, .str s] [] (fun sv _ => isTrue sv)
theorem e4 (a : List (List C)) (b : List (List C)) (s : ByteArray) : B4 a b s = (True ∧ (True → True ∧ (bNot true = true → false = true) ∧ (bNot true = false → pLe (iLen a) 9223372036854775807 → (bLt 12 (iLen a) = false → pLe (iLen b) 9223372036854775807 → (bLt 12 (iLen b) = false → pLe (iSize s) 9223372036854775807 → (bLt 60 (iSize s) = true → true = true) ∧ (bLt 60 (iSize s) = false → True ∧ (True → (Sp.vld a = true → True ∧ (True → (Sp.vld b = true → (pLe (↑a.length) 1000 ∧ True) ∧ ((List.brecOn.go ((((11, ct11).snd.outs [[C.l a]]).headD []).headD default).str.1.toList List.length._f).1.le 9223372036854775807 → (pLe (↑b.length) 1000 ∧ True) ∧ ((List.brecOn.go ((((11, ct11).snd.outs [[C.l b]]).headD []).headD default).str.1.toList List.length._f).1.le 9223372036854775807 → True ∧ (True → (bDiff (sSame (Sp.fmt a) (Sp.fmt b)) (Sp.sm a b) = true → false = true) ∧ (bDiff (sSame (Sp.fmt a) (Sp.fmt b)) (Sp.sm a b) = false → (pLe (iSize s) 1000 ∧ True) ∧ (((Sp.prL s).length ≤ 9223372036854775807 ∧ ∀ (x : List C), x ∈ Sp.prL s → WfCs [.int .i64] x) ∧ InR .i64 (Sp.prE s) ∧ True → (bNe (Sp.prE s) 0 = true → pLe (iLen (Sp.prL s)) 9223372036854775807 → bEq (iLen (Sp.prL s)) 0 = true) ∧ (bNe (Sp.prE s) 0 = false → (pLe (↑(Sp.prL s).length) 1000 ∧ True) ∧ ((List.brecOn.go ((((11, ct11).snd.outs [[C.l ((((8, ct8).snd.outs [[C.s s]]).headD []).headD default).list]]).headD []).headD default).str.1.toList List.length._f).1.le 9223372036854775807 → (sSame (Sp.fmt (Sp.prL s)) s = true → True ∧ (True → Sp.vld (Sp.prL s) = true)) ∧ (sSame (Sp.fmt (Sp.prL s)) s = false → false = true))))))))) ∧ (Sp.vld b = false → (pLe (iSize s) 1000 ∧ True) ∧ (((Sp.prL s).length ≤ 9223372036854775807 ∧ ∀ (x : List C), x ∈ Sp.prL s → WfCs [.int .i64] x) ∧ InR .i64 (Sp.prE s) ∧ True → (bNe (Sp.prE s) 0 = true → pLe (iLen (Sp.prL s)) 9223372036854775807 → bEq (iLen (Sp.prL s)) 0 = true) ∧ (bNe (Sp.prE s) 0 = false → (pLe (↑(Sp.prL s).length) 1000 ∧ True) ∧ ((List.brecOn.go ((((11, ct11).snd.outs [[C.l ((((8, ct8).snd.outs [[C.s s]]).headD []).headD default).list]]).headD []).headD default).str.1.toList List.length._f).1.le 9223372036854775807 → (sSame (Sp.fmt (Sp.prL s)) s = true → True ∧ (True → Sp.vld (Sp.prL s) = true)) ∧ (sSame (Sp.fmt (Sp.prL s)) s = false → false = true))))))) ∧ (Sp.vld a = false → (pLe (iSize s) 1000 ∧ True) ∧ (((Sp.prL s).length ≤ 9223372036854775807 ∧ ∀ (x : List C), x ∈ Sp.prL s → WfCs [.int .i64] x) ∧ InR .i64 (Sp.prE s) ∧ True → (bNe (Sp.prE s) 0 = true → pLe (iLen (Sp.prL s)) 9223372036854775807 → bEq (iLen (Sp.prL s)) 0 = true) ∧ (bNe (Sp.prE s) 0 = false → (pLe (↑(Sp.prL s).length) 1000 ∧ True) ∧ ((List.brecOn.go ((((11, ct11).snd.outs [[C.l ((((8, ct8).snd.outs [[C.s s]]).headD []).headD default).list]]).headD []).headD default).str.1.toList List.length._f).1.le 9223372036854775807 → (sSame (Sp.fmt (Sp.prL s)) s = true → True ∧ (True → Sp.vld (Sp.prL s) = true)) ∧ (sSame (Sp.fmt (Sp.prL s)) s = false → false = true)))))))) ∧ (bLt 12 (iLen b) = true → true = true)) ∧ (bLt 12 (iLen a) = true → true = true)))) := by kernel_rfl
theorem v4 (a : List (List C)) (b : List (List C)) (s : ByteArray) : Holds (Wfs [.sl [.int .i64] a, .sl [.int .i64] b, .str s] → True → B4 a b s) := by
  refine ⟨fun hw hp => ?_⟩
  rw [e4]
  simp only [Wfs, Wf, InR, and_true] at hw
  have hm : maxLen = 9223372036854775807 := rfl
  simp only [hm] at hw
  simp only [iAdd, iSub, iMul, iLen, iSize, bLt, bLe, bEq, bNe, bNot, bSame, bDiff, sSame, sDiff, InR, pLe, pIn, pRoom, eq_self, true_and, and_true, true_implies, implies_true, decide_eq_true_eq, decide_eq_false_iff_not, Bool.not_eq_true', Bool.not_eq_false']
  have pl := Sp.prL_len s
  have hf : Sp.vld a = true → Sp.vld b = true → (((Sp.fmt a).toList == (Sp.fmt b).toList) == Sp.sm a b) = true := fun va vb => by rw [Sp.fmt_eq va vb, beq_self_eq_true]
  by_cases va : Sp.vld a = true <;> by_cases vb : Sp.vld b = true <;> by_cases hE : Sp.prE s = 0
  all_goals first | (have va' : Sp.vld a = false := by simpa using va) | skip
  all_goals first | (have vb' : Sp.vld b = false := by simpa using vb) | skip
  all_goals first | (have q := Sp.pr_ok hE; have q2 : ((Sp.fmt (Sp.prL s)).toList == s.toList) = true := by rw [q.1, beq_self_eq_true]) | (have q := Sp.pr_bad hE)
  all_goals first | (have hf' := hf va vb; simp only [va, vb, hf', hE, q, q2, List.length_nil, true_implies, and_true, true_and, Bool.true_eq_false, Bool.false_eq_true, false_implies, not_true_eq_false, not_false_eq_true, implies_true, reduceCtorEq, beq_self_eq_true]) | simp only [va, vb, va', hE, q, q2, List.length_nil, true_implies, and_true, true_and, Bool.true_eq_false, Bool.false_eq_true, false_implies, not_true_eq_false, not_false_eq_true, implies_true, reduceCtorEq, beq_self_eq_true] | simp only [va, vb, vb', hE, q, q2, List.length_nil, true_implies, and_true, true_and, Bool.true_eq_false, Bool.false_eq_true, false_implies, not_true_eq_false, not_false_eq_true, implies_true, reduceCtorEq, beq_self_eq_true] | (have hf' := hf va vb; simp only [va, vb, hf', hE, q, List.length_nil, true_implies, and_true, true_and, Bool.true_eq_false, Bool.false_eq_true, false_implies, not_true_eq_false, not_false_eq_true, implies_true, reduceCtorEq, beq_self_eq_true]) | simp only [va, vb, va', hE, q, List.length_nil, true_implies, and_true, true_and, Bool.true_eq_false, Bool.false_eq_true, false_implies, not_true_eq_false, not_false_eq_true, implies_true, reduceCtorEq, beq_self_eq_true] | simp only [va, vb, vb', hE, q, List.length_nil, true_implies, and_true, true_and, Bool.true_eq_false, Bool.false_eq_true, false_implies, not_true_eq_false, not_false_eq_true, implies_true, reduceCtorEq, beq_self_eq_true]
  all_goals (repeat' (first | apply And.intro | intro _))
  all_goals first | omega | trivial
end Go.Sx

