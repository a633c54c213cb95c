/- Contracts and conditions, continued. -/
import Derived.Test.YtojecjbhdligcaaDoorSxUse
import Derived.Test.YtojecjbhdligcaaDoorD06a
import Derived.KernelRfl
set_option linter.unusedVariables false
set_option linter.unusedSimpArgs false
set_option maxRecDepth 100000
set_option maxHeartbeats 4000000

namespace Go.Sx
/-! ### function 13: channels.Valid -/
def ct13 : Ct := { ps := [(false, [.sl [.int .i64]])], rs := [(false, [.bool])], pre := fun _ => True, out := fun a => [[.b (Sp.vld (cel 0 (arg 0 a)).list)]] }
def tb13 : List (Nat × Ct) := [(25, ct25)]
def A13 (m : List (List C)) : FuncId → Nat → LoopAnn := fun _ ii => bif Nat.beq ii 4 then .inv Int (fun z => Sp.vI m z) (fun z => [(15, .int .i64 z)]) (fun _ => []) [] [0, 2, 3, 4, 12, 13, 14, 15, 16, 32] (fun z => m.length - z.toNat) else .unroll 0
abbrev B13 (m : List (List C)) : Prop := vcF Go.Proofs.Tryd.prog (look tb13) (fun _ => false) (A13 m) 6 13 [.sl [.int .i64] m] [] (fun sv heap => Gives [(false, [.bool])] [[.b (Sp.vld m)]] sv heap)
theorem e13 (m : List (List C)) : B13 m = (pLe (iLen m) 9223372036854775807 → (bLt (iLen m) 1 = false → pLe (iLen m) 9223372036854775807 → (bLt 8 (iLen m) = true → (false = Sp.vld m ∧ True) ∧ True) ∧ (bLt 8 (iLen m) = false → pLe (iLen m) 9223372036854775807 → (∃ (x : Int), Sp.vI m x ∧ true = true ∧ ((IntKind.i64 = IntKind.i64 ∧ 0 = x) ∧ True) ∧ True) ∧ (∀ (x : Int), true = true ∧ true = true) ∧ ∀ (x : Int), Sp.vI m x → InR .i64 x ∧ True → True → (bLt x (iLen m) = true → pIn 0 (iLen m) x ∧ (InR .i64 ((rGet m x).headD default).int → (bLt ((rGet m x).headD default).int 1 = false → (bLt 8 ((rGet m x).headD default).int = false → geB none (some x) (iLen m) ∧ True ∧ (True → (decide (0 ≤ Sp.ix (cutRows m none (some x)) ((rGet m x).headD default).int) = true → (false = Sp.vld m ∧ True) ∧ True) ∧ (decide (0 ≤ Sp.ix (cutRows m none (some x)) ((rGet m x).headD default).int) = false → InR .i64 (iAdd x 1) ∧ (true = true ∧ (fun z => z = z) [SV.sl [.int .i64] m, SV.blit false, SV.sl [.int .i64] m, SV.int .i64 (iLen m)]) ∧ ([] : List HB) = [] ∧ ∃ (y : Int), Sp.vI m y ∧ true = true ∧ ((IntKind.i64 = IntKind.i64 ∧ iAdd x 1 = y) ∧ True) ∧ True ∧ m.length - y.toNat < m.length - x.toNat))) ∧ (bLt 8 ((rGet m x).headD default).int = true → (false = Sp.vld m ∧ True) ∧ True)) ∧ (bLt ((rGet m x).headD default).int 1 = true → (false = Sp.vld m ∧ True) ∧ True))) ∧ (bLt x (iLen m) = false → (true = Sp.vld m ∧ True) ∧ True))) ∧ (bLt (iLen m) 1 = true → (false = Sp.vld m ∧ True) ∧ True)) := by kernel_rfl
theorem v13 (m : List (List C)) : Holds (Wfs [.sl [.int .i64] m] → True → B13 m) := by
  refine ⟨fun hw hp => ?_⟩
  rw [e13]
  simp only [Wfs, Wf, InR, and_true] at hw
  have hm : maxLen = 9223372036854775807 := rfl
  simp only [hm] at hw
  simp only [iAdd, iSub, iMul, iLen, iSize, bLt, bLe, bEq, bNe, bNot, bSame, bDiff, sSame, sDiff, InR, pLe, pIn, pRoom, eq_self, true_and, and_true, true_implies, implies_true, decide_eq_true_eq, decide_eq_false_iff_not, Bool.not_eq_true', Bool.not_eq_false']
  intro _
  refine ⟨fun h1 _ => ⟨fun h8 => (Sp.vld_len (by omega)).symm, fun h8 _ => ⟨⟨0, Sp.vI_init m, rfl⟩, fun x hx _ => ⟨fun hlt => ⟨⟨hx.1, hlt⟩, fun _ => ⟨fun p1 => ⟨fun p8 => ⟨⟨hx.1, by omega⟩, fun hc => ?_, fun hc => ⟨by have := hx.1; omega, x + 1, ?_, rfl, by have := hx.1; omega⟩⟩, fun p8 => ?_⟩, fun p1 => ?_⟩⟩, fun hge => ?_⟩⟩⟩, fun h1 => (Sp.vld_len (by omega)).symm⟩
  · exact (Sp.vld_bad hx.1 hlt fun h => (Sp.ix_here' hx.1 hlt).1 h.2.2 hc).symm
  · exact Sp.vI_next hx hlt (by simp only [Sp.i0]; omega) (by simp only [Sp.i0]; omega) ((Sp.ix_here' hx.1 hlt).2 hc)
  · exact (Sp.vld_bad hx.1 hlt fun h => by simp only [Sp.i0] at h; omega).symm
  · exact (Sp.vld_bad hx.1 hlt fun h => by simp only [Sp.i0] at h; omega).symm
  · rw [Sp.vld_end hx hge]; exact (decide_eq_true (by omega)).symm
theorem s13 : SoundCt Go.Proofs.Tryd.prog 13 ct13 :=
  contractH followsMixed (look_sound (show Tb Go.Proofs.Tryd.prog tb13 from ⟨s25, trivial⟩)) (fun _ => false) (fun a => A13 ((cel 0 (arg 0 a)).list)) 6 13 ct13 rfl (by simp [ct13]) fun a => Eq.mp (by kernel_rfl) (v13 ((cel 0 (arg 0 a)).list))
end Go.Sx

namespace Go.Sx
/-! ### function 15: ref06.Valid -/
def ct15 : Ct := { ps := [(false, [.sl [.int .i64]])], rs := [(false, [.bool])], pre := fun _ => True, out := fun a => [[.b (Sp.vld (cel 0 (arg 0 a)).list)]] }
def tb15 : List (Nat × Ct) := [(17, ct17)]
def A15 (m : List (List C)) : FuncId → Nat → LoopAnn := fun _ ii => bif Nat.beq ii 2 then .inv Int (fun z => Sp.vI m z) (fun z => [(7, .int .i64 z)]) (fun _ => []) [] [0, 2, 3, 4, 5, 6, 7, 8, 24] (fun z => m.length - z.toNat) else .unroll 0
abbrev B15 (m : List (List C)) : Prop := vcF Go.Proofs.Tryd.prog (look tb15) (fun _ => false) (A15 m) 6 15 [.sl [.int .i64] m] [] (fun sv heap => Gives [(false, [.bool])] [[.b (Sp.vld m)]] sv heap)
theorem e15 (m : List (List C)) : B15 m = (pLe (iLen m) 9223372036854775807 → (∃ (x : Int), Sp.vI m x ∧ true = true ∧ ((IntKind.i64 = IntKind.i64 ∧ 0 = x) ∧ True) ∧ True) ∧ (∀ (x : Int), true = true ∧ true = true) ∧ ∀ (x : Int), Sp.vI m x → InR .i64 x ∧ True → True → (bLt x (iLen m) = true → pIn 0 (iLen m) x ∧ (InR .i64 ((rGet m x).headD default).int → (bLt ((rGet m x).headD default).int 1 = false → (bLt 8 ((rGet m x).headD default).int = false → True ∧ (InR .i64 (Sp.ix m ((rGet m x).headD default).int) → (bNe (Sp.ix m ((rGet m x).headD default).int) x = true → (false = Sp.vld m ∧ True) ∧ True) ∧ (bNe (Sp.ix m ((rGet m x).headD default).int) x = false → InR .i64 (iAdd x 1) ∧ (true = true ∧ (fun z => z = z) [SV.sl [.int .i64] m, SV.sl [.int .i64] m, SV.int .i64 (iLen m)]) ∧ ([] : List HB) = [] ∧ ∃ (y : Int), Sp.vI m y ∧ true = true ∧ ((IntKind.i64 = IntKind.i64 ∧ iAdd x 1 = y) ∧ True) ∧ True ∧ m.length - y.toNat < m.length - x.toNat))) ∧ (bLt 8 ((rGet m x).headD default).int = true → (false = Sp.vld m ∧ True) ∧ True)) ∧ (bLt ((rGet m x).headD default).int 1 = true → (false = Sp.vld m ∧ True) ∧ True))) ∧ (bLt x (iLen m) = false → pLe (iLen m) 9223372036854775807 → (bLe 1 (iLen m) = true → pLe (iLen m) 9223372036854775807 → (bLe (iLen m) 8 = Sp.vld m ∧ True) ∧ True) ∧ (bLe 1 (iLen m) = false → (false = Sp.vld m ∧ True) ∧ True))) := by kernel_rfl
theorem v15 (m : List (List C)) : Holds (Wfs [.sl [.int .i64] m] → True → B15 m) := by
  refine ⟨fun hw hp => ?_⟩
  rw [e15]
  simp only [Wfs, Wf, InR, and_true] at hw
  have hm : maxLen = 9223372036854775807 := rfl
  simp only [hm] at hw
  simp only [iAdd, iSub, iMul, iLen, iSize, bLt, bLe, bEq, bNe, bNot, bSame, bDiff, sSame, sDiff, InR, pLe, pIn, pRoom, eq_self, true_and, and_true, true_implies, implies_true, decide_eq_true_eq, decide_eq_false_iff_not, Bool.not_eq_true', Bool.not_eq_false']
  intro _
  refine ⟨⟨0, Sp.vI_init m, rfl⟩, fun x hx _ => ⟨fun hlt => ⟨⟨hx.1, hlt⟩, fun _ => ⟨fun p1 => ⟨fun p8 _ => ⟨fun hc => ?_, fun hc => ⟨by have := hx.1; omega, x + 1, ?_, rfl, by have := hx.1; omega⟩⟩, fun p8 => ?_⟩, fun p1 => ?_⟩⟩, fun hge _ => ⟨fun g1 _ => ?_, fun g1 => ?_⟩⟩⟩
  · exact (Sp.vld_bad hx.1 hlt fun h => hc h.2.2).symm
  · exact Sp.vI_next hx hlt (by simp only [Sp.i0]; omega) (by simp only [Sp.i0]; omega) hc
  · exact (Sp.vld_bad hx.1 hlt fun h => by simp only [Sp.i0] at h; omega).symm
  · exact (Sp.vld_bad hx.1 hlt fun h => by simp only [Sp.i0] at h; omega).symm
  · rw [Sp.vld_end hx hge]; simp only [decide_eq_decide]; omega
  · exact (Sp.vld_len (by omega)).symm
theorem s15 : SoundCt Go.Proofs.Tryd.prog 15 ct15 :=
  contractH followsMixed (look_sound (show Tb Go.Proofs.Tryd.prog tb15 from ⟨s17, trivial⟩)) (fun _ => false) (fun a => A15 ((cel 0 (arg 0 a)).list)) 6 15 ct15 rfl (by simp [ct15]) fun a => Eq.mp (by kernel_rfl) (v15 ((cel 0 (arg 0 a)).list))
end Go.Sx

