import Derived.Test.YtphaelepnjekoaaGreatSxUse
import Derived.Test.YtphaelepnjekoaaGreatH27d
import Derived.KernelRfl
set_option linter.unusedVariables false
set_option linter.unusedSimpArgs false
set_option maxRecDepth 100000
set_option maxHeartbeats 4000000
namespace Go
open Go.Sx
def Sp.ordE (ns ls : List (List C)) : List (List C) := bif Sp.vld ns ls then Sp.ord ns ls else []
def Sp.vE (ns ls : List (List C)) : Int := bif Sp.vld ns ls then 0 else 1
end Go
namespace Go
open Go.Sx
theorem Sp.vld_small {ns ls : List (List C)} (h : Sp.vld ns ls = true) : ns.length ≤ 64 ∧ ls.length ≤ 256 := by
 unfold Sp.vld at h
 simp only [Bool.and_eq_true, decide_eq_true_eq] at h
 exact h.1.1.1
theorem Sp.vld_nok {ns ls : List (List C)} (h : Sp.vld ns ls = true) : Sp.allI (Sp.nokI ns) ns.length = true := by
 unfold Sp.vld at h
 simp only [Bool.and_eq_true, decide_eq_true_eq] at h
 exact h.1.1.2
theorem Sp.ordF_len {ns ls : List (List C)} : ∀ (n : Nat) (out : List (List C)), (Sp.ordF ns ls n out).length ≤ out.length + n
 | 0, out => by simp [Sp.ordF]
 | n + 1, out => by
  simp only [Sp.ordF]
  cases decide (Sp.idx (Sp.rdy ls out) ns 0 < 0)
  · simp only [cond_false]
    have := Sp.ordF_len (ns := ns) (ls := ls) n (out ++ [[.i (Sp.c0 (rGet ns (Sp.idx (Sp.rdy ls out) ns 0)))]])
    simp only [List.length_append, List.length_singleton] at this
    omega
  · simp only [cond_true]; omega
end Go
namespace Go.Sx
def ct85 : Ct := { ps := [(true, [.sl [.int .i64, .int .i64, .int .i64, .int .i64], .sl [.int .i64, .int .i64, .int .i64, .int .i64]])], rs := [(false, [.sl [.int .i64]]), (false, [.int .i64])], pre := fun _ => True, out := fun a => [[.l (Sp.ordE (cel 0 (arg 0 a)).list (cel 1 (arg 0 a)).list)], [.i (Sp.vE (cel 0 (arg 0 a)).list (cel 1 (arg 0 a)).list)]] }
def tb85 : List (Nat × Ct) := [(83, ct83), (99, ct99)]
def A85  : FuncId → Nat → LoopAnn := fun _ _ => LoopAnn.unroll 200
abbrev B85 (ns : List (List C)) (ls : List (List C)) : Prop := vcF Go.Proofs.Tryz.prog (look tb85) (fun _ => false) (A85) 6 85 [.agg [.sl [.int .i64, .int .i64, .int .i64, .int .i64] ns, .sl [.int .i64, .int .i64, .int .i64, .int .i64] ls]] [] (fun sv heap => Gives [(false, [.sl [.int .i64]]), (false, [.int .i64])] [[.l (Sp.ordE ns ls)], [.i (Sp.vE ns ls)]] sv heap)
theorem e85 (ns : List (List C)) (ls : List (List C)) : B85 ns ls = (True ∧ (True → True ∧ (bNot (Sp.vld ns ls) = true → ([] = Sp.ordE ns ls ∧ True) ∧ (1 = Sp.vE ns ls ∧ True) ∧ True) ∧ (bNot (Sp.vld ns ls) = false → (pLe (↑ns.length) 1000000 ∧ True) ∧ (((WL [.int .i64] (Sp.ord ns ls))) → (Sp.ord ns ls = Sp.ordE ns ls ∧ True) ∧ (0 = Sp.vE ns ls ∧ True) ∧ True)))) := by kernel_rfl
theorem v85 (ns : List (List C)) (ls : List (List C)) : Holds (Wfs [.agg [.sl [.int .i64, .int .i64, .int .i64, .int .i64] ns, .sl [.int .i64, .int .i64, .int .i64, .int .i64] ls]] → True → B85 ns ls) := by
 refine ⟨fun hw hp => ?_⟩
 rw [e85]
 delta WL
 simp only [Wfs, Wf, InR, and_true] at hw
 simp only [eq_self, true_and, and_true, true_implies, implies_true, iAdd, iSub, iMul, iLen, bEq, bNe, bLt, bLe, bNot, pIn, pLe, pNe, InR, decide_eq_true_eq, decide_eq_false_iff_not, Bool.not_eq_true', Bool.not_eq_false', decide_eq_decide]
 unfold Sp.ordE Sp.vE
 refine ⟨fun h => ?_, fun h => ?_⟩
 · rw [h]; exact ⟨rfl, rfl⟩
 · have h1 := Sp.vld_small h
   rw [h]
   first
    | exact ⟨by omega, fun _ => ⟨rfl, rfl⟩⟩
    | exact ⟨⟨Sp.nok_fine (Sp.vld_nok h), by omega⟩, fun _ => ⟨rfl, rfl⟩⟩
theorem s85 : SoundCt Go.Proofs.Tryz.prog 85 ct85 :=
 contractH followsMixed (look_sound (show Tb Go.Proofs.Tryz.prog tb85 from ⟨s83, ⟨s99, trivial⟩⟩)) (fun _ => false) (fun _ => A85) 6 85 ct85 rfl (by simp [ct85]) fun a => Eq.mp (by kernel_rfl) (v85 ((cel 0 (arg 0 a)).list) ((cel 1 (arg 0 a)).list))
end Go.Sx
namespace Go.Sx
def ct35 : Ct := { ps := [(true, [.sl [.int .i64, .int .i64, .int .i64, .int .i64], .sl [.int .i64, .int .i64, .int .i64, .int .i64]])], rs := [(false, [.sl [.int .i64]]), (false, [.int .i64])], pre := fun _ => True, out := fun a => [[.l (Sp.ordE (cel 0 (arg 0 a)).list (cel 1 (arg 0 a)).list)], [.i (Sp.vE (cel 0 (arg 0 a)).list (cel 1 (arg 0 a)).list)]] }
def tb35 : List (Nat × Ct) := [(58, ct58), (59, ct59)]
def A35  : FuncId → Nat → LoopAnn := fun _ _ => LoopAnn.unroll 200
abbrev B35 (ns : List (List C)) (ls : List (List C)) : Prop := vcF Go.Proofs.Tryz.prog (look tb35) (fun _ => false) (A35) 6 35 [.agg [.sl [.int .i64, .int .i64, .int .i64, .int .i64] ns, .sl [.int .i64, .int .i64, .int .i64, .int .i64] ls]] [] (fun sv heap => Gives [(false, [.sl [.int .i64]]), (false, [.int .i64])] [[.l (Sp.ordE ns ls)], [.i (Sp.vE ns ls)]] sv heap)
theorem e35 (ns : List (List C)) (ls : List (List C)) : B35 ns ls = (True ∧ (True → True ∧ (bNot (Sp.vld ns ls) = true → ([] = Sp.ordE ns ls ∧ True) ∧ (1 = Sp.vE ns ls ∧ True) ∧ True) ∧ (bNot (Sp.vld ns ls) = false → ((∀ (x : List C), x ∈ ns → 1 ≤ Sp.c0 x) ∧ pLe (↑ns.length) 1000000) ∧ (((WL [.int .i64] (Sp.ord ns ls))) → (Sp.ord ns ls = Sp.ordE ns ls ∧ True) ∧ (0 = Sp.vE ns ls ∧ True) ∧ True)))) := by kernel_rfl
theorem v35 (ns : List (List C)) (ls : List (List C)) : Holds (Wfs [.agg [.sl [.int .i64, .int .i64, .int .i64, .int .i64] ns, .sl [.int .i64, .int .i64, .int .i64, .int .i64] ls]] → True → B35 ns ls) := by
 refine ⟨fun hw hp => ?_⟩
 rw [e35]
 delta WL
 simp only [Wfs, Wf, InR, and_true] at hw
 simp only [eq_self, true_and, and_true, true_implies, implies_true, iAdd, iSub, iMul, iLen, bEq, bNe, bLt, bLe, bNot, pIn, pLe, pNe, InR, decide_eq_true_eq, decide_eq_false_iff_not, Bool.not_eq_true', Bool.not_eq_false', decide_eq_decide]
 unfold Sp.ordE Sp.vE
 refine ⟨fun h => ?_, fun h => ?_⟩
 · rw [h]; exact ⟨rfl, rfl⟩
 · have h1 := Sp.vld_small h
   rw [h]
   first
    | exact ⟨by omega, fun _ => ⟨rfl, rfl⟩⟩
    | exact ⟨⟨Sp.nok_fine (Sp.vld_nok h), by omega⟩, fun _ => ⟨rfl, rfl⟩⟩
theorem s35 : SoundCt Go.Proofs.Tryz.prog 35 ct35 :=
 contractH followsMixed (look_sound (show Tb Go.Proofs.Tryz.prog tb35 from ⟨s58, ⟨s59, trivial⟩⟩)) (fun _ => false) (fun _ => A35) 6 35 ct35 rfl (by simp [ct35]) fun a => Eq.mp (by kernel_rfl) (v35 ((cel 0 (arg 0 a)).list) ((cel 1 (arg 0 a)).list))
end Go.Sx
