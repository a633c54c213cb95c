/- Contracts and conditions, continued. -/
import Derived.Test.YtfeejcmeibfomaaSxUse
import Derived.Test.YtfeejcmeibfomaaP31i
import Derived.KernelRfl
set_option linter.unusedVariables false
set_option linter.unusedSimpArgs false
set_option maxRecDepth 100000
set_option maxHeartbeats 4000000

namespace Go
open Go.Sx
def Sp.mts (a b : ByteArray) : Bool := (a.toList == b.toList) || (a.toList == Sp.any3.toList)
def Sp.app (act cls : List (List C)) (k : Int) (ro cl : ByteArray) (pc : Int) (cn : List (List C)) (wr : ByteArray) : Bool := Sp.rvl k ro cl pc cn && (Sp.mts ro wr && Sp.hld act cls cn)
end Go

namespace Go.Sx
/-! ### function 57: policy.meets -/
def ct57 : Ct := { ps := [(false, [.str]), (false, [.str])], rs := [(false, [.bool])], pre := fun _ => True, out := fun a => [[.b (Sp.mts (cel 0 (arg 0 a)).str (cel 0 (arg 1 a)).str)]] }
def tb57 : List (Nat × Ct) := []
def A57  : FuncId → Nat → LoopAnn := fun _ _ => LoopAnn.unroll 200
abbrev B57 (a : ByteArray) (b : ByteArray) : Prop := vcF Go.Proofs.Try.prog (look tb57) (fun _ => false) (A57) 6 57 [.str a, .str b] [] (fun sv heap => Gives [(false, [.bool])] [[.b (Sp.mts a b)]] sv heap)
theorem e57 (a : ByteArray) (b : ByteArray) : B57 a b = ((sSame a b = false → (sSame a (ByteArray.mk (Array.mk [97, 110, 121])) = Sp.mts a b ∧ True) ∧ True) ∧ (sSame a b = true → (true = Sp.mts a b ∧ True) ∧ True)) := by kernel_rfl
theorem v57 (a : ByteArray) (b : ByteArray) : Holds (Wfs [.str a, .str b] → True → B57 a b) := by
  refine ⟨fun hw hp => ?_⟩
  rw [e57]
  simp only [Wfs, Wf, InR, and_true] at hw
  have hm : maxLen = 9223372036854775807 := rfl
  simp only [hm] at hw
  simp only [iAdd, iSub, iMul, iLen, iSize, bLt, bLe, bEq, bNe, bNot, bSame, bDiff, sSame, sDiff, bIf, bAnd, InR, pLe, pIn, pRoom, eq_self, true_and, and_true, true_implies, implies_true, decide_eq_true_eq, decide_eq_false_iff_not, Bool.not_eq_true', Bool.not_eq_false', Bool.true_eq_false, Bool.false_eq_true, false_implies]
  have e3 : (a.toList == (ByteArray.mk (Array.mk [97, 110, 121])).toList) = (a.toList == Sp.any3.toList) := rfl
  rw [e3]
  unfold Sp.mts
  cases (a.toList == b.toList) <;> simp
theorem s57 : SoundCt Go.Proofs.Try.prog 57 ct57 :=
  contractH followsMixed (look_sound (show Tb Go.Proofs.Try.prog tb57 from trivial)) (fun _ => false) (fun _ => A57) 6 57 ct57 rfl (by simp [ct57]) fun a => Eq.mp (by kernel_rfl) (v57 ((cel 0 (arg 0 a)).str) ((cel 0 (arg 1 a)).str))
end Go.Sx

namespace Go.Sx
/-! ### function 47: (*policy.judge).applies -/
def ct47 : Ct := { ps := [(false, [.bool, .sl [.int .i64, .str, .str, .int .i64, .sl [.int .i64, .str]], .sl [.str, .sl [.int .u64], .int .u64], .sl [.int .u64, .str, .int .i64], .sl [.str], .sl [.str]]), (true, [.int .i64, .str, .str, .int .i64, .sl [.int .i64, .str]]), (true, [.int .i64, .str, .int .i64, .bool, .int .u64])], rs := [(false, [.bool])], pre := fun _ => True, out := fun a => [[.b (Sp.app (cel 3 (arg 0 a)).list (cel 4 (arg 0 a)).list (cel 0 (arg 1 a)).int (cel 1 (arg 1 a)).str (cel 2 (arg 1 a)).str (cel 3 (arg 1 a)).int (cel 4 (arg 1 a)).list (cel 1 (arg 2 a)).str)]] }
def tb47 : List (Nat × Ct) := [(65, ct65), (57, ct57), (66, ct66)]
def A47  : FuncId → Nat → LoopAnn := fun _ _ => LoopAnn.unroll 200
abbrev B47 (rs : List (List C)) (mm : List (List C)) (ks : List (List C)) (act : List (List C)) (cls : List (List C)) (k : Int) (ro : ByteArray) (cl : ByteArray) (pc : Int) (cn : List (List C)) (wi : Int) (wr : ByteArray) (wd : Int) (wa : Bool) (wp : Int) : Prop := vcF Go.Proofs.Try.prog (look tb47) (fun _ => false) (A47) 6 47 [.cref [.sl [.int .i64, .str, .str, .int .i64, .sl [.int .i64, .str]] rs, .sl [.str, .sl [.int .u64], .int .u64] mm, .sl [.int .u64, .str, .int .i64] ks, .sl [.str] act, .sl [.str] cls], .agg [.int .i64 k, .str ro, .str cl, .int .i64 pc, .sl [.int .i64, .str] cn], .agg [.int .i64 wi, .str wr, .int .i64 wd, .bool wa, .int .u64 wp]] [] (fun sv heap => Gives [(false, [.bool])] [[.b (Sp.app act cls k ro cl pc cn wr)]] sv heap)
theorem e47 (rs : List (List C)) (mm : List (List C)) (ks : List (List C)) (act : List (List C)) (cls : List (List C)) (k : Int) (ro : ByteArray) (cl : ByteArray) (pc : Int) (cn : List (List C)) (wi : Int) (wr : ByteArray) (wd : Int) (wa : Bool) (wp : Int) : B47 rs mm ks act cls k ro cl pc cn wi wr wd wa wp = (True ∧ (True → (Sp.rvl k ro cl pc cn = true → True ∧ (True → (Sp.mts ro wr = true → ((WL [.str] act)) → ((WL [.str] cls)) → True ∧ (True → (Sp.hld act cls cn = Sp.app act cls k ro cl pc cn wr ∧ True) ∧ True)) ∧ (Sp.mts ro wr = false → (false = Sp.app act cls k ro cl pc cn wr ∧ True) ∧ True))) ∧ (Sp.rvl k ro cl pc cn = false → (false = Sp.app act cls k ro cl pc cn wr ∧ True) ∧ True))) := by kernel_rfl
theorem v47 (rs : List (List C)) (mm : List (List C)) (ks : List (List C)) (act : List (List C)) (cls : List (List C)) (k : Int) (ro : ByteArray) (cl : ByteArray) (pc : Int) (cn : List (List C)) (wi : Int) (wr : ByteArray) (wd : Int) (wa : Bool) (wp : Int) : Holds (Wfs [.cref [.sl [.int .i64, .str, .str, .int .i64, .sl [.int .i64, .str]] rs, .sl [.str, .sl [.int .u64], .int .u64] mm, .sl [.int .u64, .str, .int .i64] ks, .sl [.str] act, .sl [.str] cls], .agg [.int .i64 k, .str ro, .str cl, .int .i64 pc, .sl [.int .i64, .str] cn], .agg [.int .i64 wi, .str wr, .int .i64 wd, .bool wa, .int .u64 wp]] → True → B47 rs mm ks act cls k ro cl pc cn wi wr wd wa wp) := by
  refine ⟨fun hw hp => ?_⟩
  rw [e47]
  unfold WL
  simp only [Wfs, Wf, InR, and_true] at hw
  have hm : maxLen = 9223372036854775807 := rfl
  simp only [hm] at hw
  simp only [iAdd, iSub, iMul, iLen, iSize, bLt, bLe, bEq, bNe, bNot, bSame, bDiff, sSame, sDiff, bIf, bAnd, InR, pLe, pIn, pRoom, eq_self, true_and, and_true, true_implies, implies_true, decide_eq_true_eq, decide_eq_false_iff_not, Bool.not_eq_true', Bool.not_eq_false', Bool.true_eq_false, Bool.false_eq_true, false_implies]
  unfold Sp.app
  cases Sp.rvl k ro cl pc cn <;> cases Sp.mts ro wr <;> simp
theorem s47 : SoundCt Go.Proofs.Try.prog 47 ct47 :=
  contractH followsMixed (look_sound (show Tb Go.Proofs.Try.prog tb47 from ⟨s65, ⟨s57, ⟨s66, trivial⟩⟩⟩)) (fun _ => false) (fun _ => A47) 6 47 ct47 rfl (by simp [ct47]) fun a => Eq.mp (by kernel_rfl) (v47 ((cel 0 (arg 0 a)).list) ((cel 1 (arg 0 a)).list) ((cel 2 (arg 0 a)).list) ((cel 3 (arg 0 a)).list) ((cel 4 (arg 0 a)).list) ((cel 0 (arg 1 a)).int) ((cel 1 (arg 1 a)).str) ((cel 2 (arg 1 a)).str) ((cel 3 (arg 1 a)).int) ((cel 4 (arg 1 a)).list) ((cel 0 (arg 2 a)).int) ((cel 1 (arg 2 a)).str) ((cel 2 (arg 2 a)).int) ((cel 3 (arg 2 a)).bool) ((cel 4 (arg 2 a)).int))
end Go.Sx

namespace Go.Sx
/-! ### function 30: ref31.concerns -/
def ct30 : Ct := { ps := [(true, [.int .i64, .str, .str, .int .i64, .sl [.int .i64, .str]]), (true, [.int .i64, .str, .int .i64, .bool, .int .u64]), (false, [.sl [.str]]), (false, [.sl [.str]])], rs := [(false, [.bool])], pre := fun _ => True, out := fun a => [[.b (Sp.app (cel 0 (arg 2 a)).list (cel 0 (arg 3 a)).list (cel 0 (arg 0 a)).int (cel 1 (arg 0 a)).str (cel 2 (arg 0 a)).str (cel 3 (arg 0 a)).int (cel 4 (arg 0 a)).list (cel 1 (arg 1 a)).str)]] }
def tb30 : List (Nat × Ct) := [(51, ct51), (52, ct52)]
def A30  : FuncId → Nat → LoopAnn := fun _ _ => LoopAnn.unroll 200
abbrev B30 (k : Int) (ro : ByteArray) (cl : ByteArray) (pc : Int) (cn : List (List C)) (wi : Int) (wr : ByteArray) (wd : Int) (wa : Bool) (wp : Int) (act : List (List C)) (cls : List (List C)) : Prop := vcF Go.Proofs.Try.prog (look tb30) (fun _ => false) (A30) 6 30 [.agg [.int .i64 k, .str ro, .str cl, .int .i64 pc, .sl [.int .i64, .str] cn], .agg [.int .i64 wi, .str wr, .int .i64 wd, .bool wa, .int .u64 wp], .sl [.str] act, .sl [.str] cls] [] (fun sv heap => Gives [(false, [.bool])] [[.b (Sp.app act cls k ro cl pc cn wr)]] sv heap)
theorem e30 (k : Int) (ro : ByteArray) (cl : ByteArray) (pc : Int) (cn : List (List C)) (wi : Int) (wr : ByteArray) (wd : Int) (wa : Bool) (wp : Int) (act : List (List C)) (cls : List (List C)) : B30 k ro cl pc cn wi wr wd wa wp act cls = (True ∧ (True → (Sp.rvl k ro cl pc cn = true → (sSame ro wr = false → (sSame ro (ByteArray.mk (Array.mk [97, 110, 121])) = true → True ∧ (True → (Sp.hld act cls cn = Sp.app act cls k ro cl pc cn wr ∧ True) ∧ True)) ∧ (sSame ro (ByteArray.mk (Array.mk [97, 110, 121])) = false → (false = Sp.app act cls k ro cl pc cn wr ∧ True) ∧ True)) ∧ (sSame ro wr = true → True ∧ (True → (Sp.hld act cls cn = Sp.app act cls k ro cl pc cn wr ∧ True) ∧ True))) ∧ (Sp.rvl k ro cl pc cn = false → (false = Sp.app act cls k ro cl pc cn wr ∧ True) ∧ True))) := by kernel_rfl
theorem v30 (k : Int) (ro : ByteArray) (cl : ByteArray) (pc : Int) (cn : List (List C)) (wi : Int) (wr : ByteArray) (wd : Int) (wa : Bool) (wp : Int) (act : List (List C)) (cls : List (List C)) : Holds (Wfs [.agg [.int .i64 k, .str ro, .str cl, .int .i64 pc, .sl [.int .i64, .str] cn], .agg [.int .i64 wi, .str wr, .int .i64 wd, .bool wa, .int .u64 wp], .sl [.str] act, .sl [.str] cls] → True → B30 k ro cl pc cn wi wr wd wa wp act cls) := by
  refine ⟨fun hw hp => ?_⟩
  rw [e30]
  simp only [Wfs, Wf, InR, and_true] at hw
  have hm : maxLen = 9223372036854775807 := rfl
  simp only [hm] at hw
  simp only [iAdd, iSub, iMul, iLen, iSize, bLt, bLe, bEq, bNe, bNot, bSame, bDiff, sSame, sDiff, bIf, bAnd, InR, pLe, pIn, pRoom, eq_self, true_and, and_true, true_implies, implies_true, decide_eq_true_eq, decide_eq_false_iff_not, Bool.not_eq_true', Bool.not_eq_false', Bool.true_eq_false, Bool.false_eq_true, false_implies]
  have e3 : (ro.toList == (ByteArray.mk (Array.mk [97, 110, 121])).toList) = (ro.toList == Sp.any3.toList) := rfl
  rw [e3]
  unfold Sp.app Sp.mts
  cases Sp.rvl k ro cl pc cn <;> cases (ro.toList == wr.toList) <;> cases (ro.toList == Sp.any3.toList) <;> simp
theorem s30 : SoundCt Go.Proofs.Try.prog 30 ct30 :=
  contractH followsMixed (look_sound (show Tb Go.Proofs.Try.prog tb30 from ⟨s51, ⟨s52, trivial⟩⟩)) (fun _ => false) (fun _ => A30) 6 30 ct30 rfl (by simp [ct30]) fun a => Eq.mp (by kernel_rfl) (v30 ((cel 0 (arg 0 a)).int) ((cel 1 (arg 0 a)).str) ((cel 2 (arg 0 a)).str) ((cel 3 (arg 0 a)).int) ((cel 4 (arg 0 a)).list) ((cel 0 (arg 1 a)).int) ((cel 1 (arg 1 a)).str) ((cel 2 (arg 1 a)).int) ((cel 3 (arg 1 a)).bool) ((cel 4 (arg 1 a)).int) ((cel 0 (arg 2 a)).list) ((cel 0 (arg 3 a)).list))
end Go.Sx

