/- Contracts and conditions, continued. -/
import Derived.Test.YtbobgakeaoigeaaSxUse
import Derived.Test.YtbobgakeaoigeaaC22p
import Derived.Test.YtbobgakeaoigeaaC22m
import Derived.KernelRfl
set_option linter.unusedVariables false
set_option linter.unusedSimpArgs false
set_option maxRecDepth 100000
set_option maxHeartbeats 4000000

noncomputable section

namespace Go
open Go.Sx
def Sp.keepL (ls : List (List C)) (b0 b1 b2 b3 : Int) : List (List C) := (ls.filter (fun x => !Sp.is4 b0 b1 b2 b3 x)).map Sp.r4
def Sp.klI (ls : List (List C)) (b0 b1 b2 b3 j : Int) (out : List (List C)) : Prop := 0 ≤ j ∧ j ≤ (ls.length : Int) ∧ out = Sp.keepL (ls.take j.toNat) b0 b1 b2 b3
def Sp.rdL (ns ls : List (List C)) (b0 b1 b2 b3 : Int) : List (List C) := bif decide (Sp.disE ns ls b0 b1 b2 b3 = 0) then Sp.keepL ls b0 b1 b2 b3 else []
end Go

namespace Go
open Go.Sx
variable {ns ls out : List (List C)} {j b0 b1 b2 b3 : Int}
theorem Sp.kl_init : Sp.klI ls b0 b1 b2 b3 0 [] := ⟨by omega, by omega, rfl⟩
theorem Sp.kl_yes (h : Sp.klI ls b0 b1 b2 b3 j out) (hj : j < (ls.length : Int)) (hn : Sp.is4 b0 b1 b2 b3 (rGet ls j) = false) : Sp.klI ls b0 b1 b2 b3 (j + 1) (out ++ [Sp.r4 (rGet ls j)]) := by
  obtain ⟨h0, h1, h2⟩ := h
  refine ⟨by omega, by omega, ?_⟩
  rw [h2, Sp.take_succ h0 hj]
  unfold Sp.keepL
  rw [List.filter_append, List.map_append]
  congr 1
  rw [List.filter_cons, hn]; rfl
theorem Sp.kl_no (h : Sp.klI ls b0 b1 b2 b3 j out) (hj : j < (ls.length : Int)) (hn : Sp.is4 b0 b1 b2 b3 (rGet ls j) = true) : Sp.klI ls b0 b1 b2 b3 (j + 1) out := by
  obtain ⟨h0, h1, h2⟩ := h
  refine ⟨by omega, by omega, ?_⟩
  rw [h2, Sp.take_succ h0 hj]
  unfold Sp.keepL
  rw [List.filter_append, List.filter_cons, hn]
  simp
theorem Sp.kl_end (h : Sp.klI ls b0 b1 b2 b3 j out) (hj : ¬ j < (ls.length : Int)) : out = Sp.keepL ls b0 b1 b2 b3 := by
  obtain ⟨h0, h1, h2⟩ := h
  rw [h2, List.take_of_length_le (by omega)]
theorem Sp.kl_len (h : Sp.klI ls b0 b1 b2 b3 j out) : out.length ≤ ls.length := by
  obtain ⟨h0, h1, h2⟩ := h
  rw [h2]
  unfold Sp.keepL
  rw [List.length_map]
  have := List.length_filter_le (fun x => !Sp.is4 b0 b1 b2 b3 x) (ls.take j.toNat)
  rw [List.length_take] at this
  omega
theorem Sp.ends_h4 (hv : Sp.vld ns ls = true) (h : Sp.ends ns b0 b1 b2 b3 = false) : Sp.h4 ls b0 b1 b2 b3 = false := by
  cases hh : Sp.h4 ls b0 b1 b2 b3
  · rfl
  · obtain ⟨k, k0, k1, k2⟩ := Sp.h4_iff.1 hh
    have := (Sp.vl_of hv).ends _ (Sp.row_mem k0 k1)
    unfold Sp.is4 at k2
    rw [decide_eq_true_eq] at k2
    unfold Sp.lends at this
    rw [k2.1, k2.2.1, k2.2.2.1, k2.2.2.2, h] at this
    cases this
theorem Sp.rd_err {e : Int} (h : Sp.disE ns ls b0 b1 b2 b3 = e) (he : e ≠ 0) : ([] = Sp.disN ns ls b0 b1 b2 b3 ∧ [] = Sp.rdL ns ls b0 b1 b2 b3) ∧ e = Sp.disE ns ls b0 b1 b2 b3 := by
  unfold Sp.disN Sp.rdL
  rw [h, decide_eq_false he]
  exact ⟨⟨rfl, rfl⟩, rfl⟩
theorem Sp.rd_ok (h : Sp.disE ns ls b0 b1 b2 b3 = 0) : (ns = Sp.disN ns ls b0 b1 b2 b3 ∧ Sp.keepL ls b0 b1 b2 b3 = Sp.rdL ns ls b0 b1 b2 b3) ∧ 0 = Sp.disE ns ls b0 b1 b2 b3 := by
  unfold Sp.disN Sp.rdL
  rw [h]
  exact ⟨⟨rfl, rfl⟩, rfl⟩
end Go

namespace Go.Sx
/-! ### function 35: ref22.Disconnect -/
def ct35 : Ct := { ps := [(true, [.sl [.int .i64, .int .i64, .int .i64, .int .i64], .sl [.int .i64, .int .i64, .int .i64, .int .i64]]), (true, [.int .i64, .int .i64, .int .i64, .int .i64])], rs := [(true, [.sl [.int .i64, .int .i64, .int .i64, .int .i64], .sl [.int .i64, .int .i64, .int .i64, .int .i64]]), (false, [.int .i64])], pre := fun _ => True, out := fun a => [[.l (Sp.disN (cel 0 (arg 0 a)).list (cel 1 (arg 0 a)).list (cel 0 (arg 1 a)).int (cel 1 (arg 1 a)).int (cel 2 (arg 1 a)).int (cel 3 (arg 1 a)).int), .l (Sp.rdL (cel 0 (arg 0 a)).list (cel 1 (arg 0 a)).list (cel 0 (arg 1 a)).int (cel 1 (arg 1 a)).int (cel 2 (arg 1 a)).int (cel 3 (arg 1 a)).int)], [.i (Sp.disE (cel 0 (arg 0 a)).list (cel 1 (arg 0 a)).list (cel 0 (arg 1 a)).int (cel 1 (arg 1 a)).int (cel 2 (arg 1 a)).int (cel 3 (arg 1 a)).int)]] }
def tb35 : List (Nat × Ct) := [(15, ct15), (45, ct45), (64, ct64)]
def A35 (ls : List (List C)) (b0 : Int) (b1 : Int) (b2 : Int) (b3 : Int) : FuncId → Nat → LoopAnn := fun _ ii => bif Nat.beq ii 7 then .ghostB 6 1 [.int .i64, .int .i64, .int .i64, .int .i64] 45 (.on (fun sv0 => match sv0.tmps.getD 6 .undef with | .ref bb _ => (match sv0.heap[bb]? with | some (.box [n0, .own rr _] gt) => .inv (Int × List (List C)) (fun z => Sp.klI ls b0 b1 b2 b3 z.1 z.2) (fun z => [(33, .int .i64 z.1)]) (fun z => [(rr, .row [.int .i64, .int .i64, .int .i64, .int .i64] 45 0 z.2), (bb, .box [n0, .own rr 0] gt)]) [rr, bb] [0, 1, 2, 3, 4, 5, 6, 8, 9, 14, 31, 32, 33, 34, 39] (fun z => ls.length - z.1.toNat) | _ => .unroll 0) | _ => .unroll 0)) else .unroll 0
abbrev B35 (ns : List (List C)) (ls : List (List C)) (b0 : Int) (b1 : Int) (b2 : Int) (b3 : Int) : Prop := vcF Go.Proofs.Try.prog (look tb35) (fun _ => false) (A35 ls b0 b1 b2 b3) 8 35 [.agg [.sl [.int .i64, .int .i64, .int .i64, .int .i64] ns, .sl [.int .i64, .int .i64, .int .i64, .int .i64] ls], .agg [.int .i64 b0, .int .i64 b1, .int .i64 b2, .int .i64 b3]] [] (fun sv heap => Gives [(true, [.sl [.int .i64, .int .i64, .int .i64, .int .i64], .sl [.int .i64, .int .i64, .int .i64, .int .i64]]), (false, [.int .i64])] [[.l (Sp.disN ns ls b0 b1 b2 b3), .l (Sp.rdL ns ls b0 b1 b2 b3)], [.i (Sp.disE ns ls b0 b1 b2 b3)]] sv heap)
def h35_0 : List (List C) → List (List C) → Int → Int → Int → Int → List SV := fun (ns ls : List (List C)) (b0 b1 b2 b3 : Int) => [SV.agg [SV.sl [.int .i64, .int .i64, .int .i64, .int .i64] ns, SV.sl [.int .i64, .int .i64, .int .i64, .int .i64] ls], SV.agg [SV.int .i64 b0, SV.int .i64 b1, SV.int .i64 b2, SV.int .i64 b3], SV.ref 0 0, SV.ref 1 0, SV.ref 2 0, SV.lit .i64 0, SV.ref 4 0, SV.blit false, SV.blit false, SV.sl [.int .i64, .int .i64, .int .i64, .int .i64] ls, SV.int .i64 (iLen ls)]
def h35_1 : List (List C) → List (List C) → Int → Int → Int → Int → List HB := fun (ns ls : List (List C)) (b0 b1 b2 b3 : Int) => [HB.box [SV.sl [.int .i64, .int .i64, .int .i64, .int .i64] ns, SV.sl [.int .i64, .int .i64, .int .i64, .int .i64] ls] 25, HB.box [SV.int .i64 b0, SV.int .i64 b1, SV.int .i64 b2, SV.int .i64 b3] 45, HB.box [SV.nils, SV.nils] 25, HB.row ([Sh.int .i64] ++ ([Sh.int .i64] ++ ([Sh.int .i64] ++ ([Sh.int .i64] ++ [])))) 43 0 ns, HB.gone, HB.gone]
theorem e35 (ns : List (List C)) (ls : List (List C)) (b0 : Int) (b1 : Int) (b2 : Int) (b3 : Int) : B35 ns ls b0 b1 b2 b3 = (True ∧ (True → True ∧ (bNot (Sp.vld ns ls) = true → ([] = Sp.disN ns ls b0 b1 b2 b3 ∧ [] = Sp.rdL ns ls b0 b1 b2 b3 ∧ True) ∧ (1 = Sp.disE ns ls b0 b1 b2 b3 ∧ True) ∧ True) ∧ (bNot (Sp.vld ns ls) = false → True ∧ (True → True ∧ (bNot (Sp.ends ns b0 b1 b2 b3) = false → True ∧ (True → True ∧ (bNot (Sp.h4 ls b0 b1 b2 b3) = true → ([] = Sp.disN ns ls b0 b1 b2 b3 ∧ [] = Sp.rdL ns ls b0 b1 b2 b3 ∧ True) ∧ (7 = Sp.disE ns ls b0 b1 b2 b3 ∧ True) ∧ True) ∧ (bNot (Sp.h4 ls b0 b1 b2 b3) = false → pRoom 32 (iLen ns) ∧ (pLe (iLen ls) 9223372036854775807 → (∃ (x : Int × List (List C)), Sp.klI ls b0 b1 b2 b3 x.1 x.2 ∧ true = true ∧ ((IntKind.i64 = IntKind.i64 ∧ 0 = x.1) ∧ True) ∧ ([Sh.int .i64, Sh.int .i64, Sh.int .i64, Sh.int .i64] = [Sh.int .i64, Sh.int .i64, Sh.int .i64, Sh.int .i64] ∧ 45 = 45 ∧ 0 + 1 = 0 + 1 ∧ [] = x.2) ∧ (((3 = 3 ∧ 0 = 0) ∧ (5 = 5 ∧ 0 + 1 = 0 + 1) ∧ True) ∧ 25 = 25) ∧ True) ∧ (∀ (x : Int × List (List C)), true = true ∧ true = true) ∧ ∀ (x : Int × List (List C)), Sp.klI ls b0 b1 b2 b3 x.1 x.2 → InR .i64 x.1 ∧ True → (x.2.length ≤ 9223372036854775807 ∧ ∀ (x_1 : List C), x_1 ∈ x.2 → WfCs [.int .i64, .int .i64, .int .i64, .int .i64] x_1) ∧ (True ∧ True ∧ True) ∧ True → (bLt x.1 (iLen ls) = true → pIn 0 (iLen ls) x.1 ∧ (InR .i64 ((rGet ls x.1).headD default).int ∧ InR .i64 ((rGet ls x.1).tail.headD default).int ∧ InR .i64 ((rGet ls x.1).tail.tail.headD default).int ∧ InR .i64 ((rGet ls x.1).tail.tail.tail.headD default).int ∧ True → (bNot (bAnd (bEq ((rGet ls x.1).headD default).int b0) (bAnd (bEq ((rGet ls x.1).tail.headD default).int b1) (bAnd (bEq ((rGet ls x.1).tail.tail.headD default).int b2) (bEq ((rGet ls x.1).tail.tail.tail.headD default).int b3)))) = true → pRoom 32 (iLen (x.2 ++ [[C.i ((rGet ls x.1).headD default).int, C.i ((rGet ls x.1).tail.headD default).int, C.i ((rGet ls x.1).tail.tail.headD default).int, C.i ((rGet ls x.1).tail.tail.tail.headD default).int]])) ∧ InR .i64 (iAdd x.1 1) ∧ (true = true ∧ h35_0 ns ls b0 b1 b2 b3 = h35_0 ns ls b0 b1 b2 b3) ∧ h35_1 ns ls b0 b1 b2 b3 = h35_1 ns ls b0 b1 b2 b3 ∧ ∃ (y : Int × List (List C)), Sp.klI ls b0 b1 b2 b3 y.1 y.2 ∧ true = true ∧ ((IntKind.i64 = IntKind.i64 ∧ iAdd x.1 1 = y.1) ∧ True) ∧ (([Sh.int .i64] ++ ([Sh.int .i64] ++ ([Sh.int .i64] ++ ([Sh.int .i64] ++ []))) = [Sh.int .i64, Sh.int .i64, Sh.int .i64, Sh.int .i64] ∧ 45 = 45 ∧ 0 + 1 = 0 + 1 ∧ x.2 ++ [[C.i ((rGet ls x.1).headD default).int, C.i ((rGet ls x.1).tail.headD default).int, C.i ((rGet ls x.1).tail.tail.headD default).int, C.i ((rGet ls x.1).tail.tail.tail.headD default).int]] = y.2) ∧ (((3 = 3 ∧ 0 = 0) ∧ (5 = 5 ∧ 0 + 1 = 0 + 1) ∧ True) ∧ 25 = 25) ∧ True) ∧ ls.length - y.1.toNat < ls.length - x.1.toNat) ∧ (bNot (bAnd (bEq ((rGet ls x.1).headD default).int b0) (bAnd (bEq ((rGet ls x.1).tail.headD default).int b1) (bAnd (bEq ((rGet ls x.1).tail.tail.headD default).int b2) (bEq ((rGet ls x.1).tail.tail.tail.headD default).int b3)))) = false → InR .i64 (iAdd x.1 1) ∧ (true = true ∧ h35_0 ns ls b0 b1 b2 b3 = h35_0 ns ls b0 b1 b2 b3) ∧ h35_1 ns ls b0 b1 b2 b3 = h35_1 ns ls b0 b1 b2 b3 ∧ ∃ (y : Int × List (List C)), Sp.klI ls b0 b1 b2 b3 y.1 y.2 ∧ true = true ∧ ((IntKind.i64 = IntKind.i64 ∧ iAdd x.1 1 = y.1) ∧ True) ∧ (([Sh.int .i64, Sh.int .i64, Sh.int .i64, Sh.int .i64] = [Sh.int .i64, Sh.int .i64, Sh.int .i64, Sh.int .i64] ∧ 45 = 45 ∧ 0 + 1 = 0 + 1 ∧ x.2 = y.2) ∧ (((3 = 3 ∧ 0 = 0) ∧ (5 = 5 ∧ 0 + 1 = 0 + 1) ∧ True) ∧ 25 = 25) ∧ True) ∧ ls.length - y.1.toNat < ls.length - x.1.toNat))) ∧ (bLt x.1 (iLen ls) = false → (ns = Sp.disN ns ls b0 b1 b2 b3 ∧ x.2 = Sp.rdL ns ls b0 b1 b2 b3 ∧ True) ∧ (0 = Sp.disE ns ls b0 b1 b2 b3 ∧ True) ∧ True))))) ∧ (bNot (Sp.ends ns b0 b1 b2 b3) = true → ([] = Sp.disN ns ls b0 b1 b2 b3 ∧ [] = Sp.rdL ns ls b0 b1 b2 b3 ∧ True) ∧ (7 = Sp.disE ns ls b0 b1 b2 b3 ∧ True) ∧ True))))) := by kernel_rfl
theorem v35 (ns : List (List C)) (ls : List (List C)) (b0 : Int) (b1 : Int) (b2 : Int) (b3 : Int) : Holds (Wfs [.agg [.sl [.int .i64, .int .i64, .int .i64, .int .i64] ns, .sl [.int .i64, .int .i64, .int .i64, .int .i64] ls], .agg [.int .i64 b0, .int .i64 b1, .int .i64 b2, .int .i64 b3]] → True → B35 ns ls b0 b1 b2 b3) := by
  refine ⟨fun hw hp => ?_⟩
  rw [e35]
  simp only [Wfs, Wf, InR, and_true] at hw
  simp only [eq_self, true_and, and_true, true_implies, implies_true, iAdd, iSub, iMul, iLen, bEq, bNe, bLt, bLe, bNot, pIn, pLe, pNe, InR, decide_eq_true_eq, decide_eq_false_iff_not, Bool.not_eq_true', Bool.not_eq_false', decide_eq_decide]
  refine ⟨fun h => Sp.rd_err (Sp.dis1 h) (by omega), fun hv => ⟨fun he => ⟨fun h => Sp.rd_err (Sp.dis7 hv h) (by omega), fun h4 => ?_⟩, fun he => Sp.rd_err (Sp.dis7 hv (Sp.ends_h4 hv he)) (by omega)⟩⟩
  have V := Sp.vld_small hv
  refine ⟨by simp only [pRoom]; omega, fun _ => ⟨⟨(0, []), Sp.kl_init, rfl, rfl⟩, ?_⟩⟩
  rintro ⟨j, out⟩ hj _ _
  simp only at hj ⊢
  have j0 := hj.1
  have j1 := hj.2.1
  have ol := Sp.kl_len hj
  have e : Sp.is4 b0 b1 b2 b3 (rGet ls j) = decide (((rGet ls j).headD default).int = b0 ∧ ((rGet ls j).tail.headD default).int = b1 ∧ ((rGet ls j).tail.tail.headD default).int = b2 ∧ ((rGet ls j).tail.tail.tail.headD default).int = b3) := rfl
  refine ⟨fun hlt => ⟨⟨j0, hlt⟩, fun _ => ⟨fun hn => ⟨by simp only [pRoom, List.length_append, List.length_singleton]; omega, by omega, (j + 1, _), Sp.kl_yes hj hlt ?_, rfl, ⟨rfl, rfl⟩, by simp only; omega⟩, fun hn => ⟨by omega, (j + 1, out), Sp.kl_no hj hlt ?_, rfl, rfl, by simp only; omega⟩⟩⟩, fun hge => ?_⟩
  · rw [e, decide_eq_false_iff_not]
    simp only [bAnd, Bool.and_eq_false_iff, decide_eq_false_iff_not] at hn; omega
  · rw [e, decide_eq_true_eq]
    simp only [bAnd, Bool.and_eq_true, decide_eq_true_eq] at hn; omega
  · rw [Sp.kl_end hj hge]
    exact Sp.rd_ok (Sp.dis0 hv h4)
theorem s35 : SoundCt Go.Proofs.Try.prog 35 ct35 :=
  contractH followsMixed (look_sound (show Tb Go.Proofs.Try.prog tb35 from ⟨s15, ⟨s45, ⟨s64, trivial⟩⟩⟩)) (fun _ => false) (fun a => A35 ((cel 1 (arg 0 a)).list) ((cel 0 (arg 1 a)).int) ((cel 1 (arg 1 a)).int) ((cel 2 (arg 1 a)).int) ((cel 3 (arg 1 a)).int)) 8 35 ct35 rfl (by simp [ct35]) fun a => Eq.mp (by kernel_rfl) (v35 ((cel 0 (arg 0 a)).list) ((cel 1 (arg 0 a)).list) ((cel 0 (arg 1 a)).int) ((cel 1 (arg 1 a)).int) ((cel 2 (arg 1 a)).int) ((cel 3 (arg 1 a)).int))
end Go.Sx

