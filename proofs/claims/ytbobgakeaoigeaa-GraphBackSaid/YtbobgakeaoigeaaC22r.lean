/- Contracts and conditions, continued. -/
import Derived.Test.YtbobgakeaoigeaaSxUse
import Derived.Test.YtbobgakeaoigeaaC22q
import Derived.KernelRfl
set_option linter.unusedVariables false
set_option linter.unusedSimpArgs false
set_option maxRecDepth 100000
set_option maxHeartbeats 4000000

noncomputable section

namespace Go
open Go.Sx
def Sp.neI (id : Int) (x : List C) : Bool := !decide (Sp.c0 x = id)
def Sp.neL (id : Int) (x : List C) : Bool := !decide (Sp.c0 x = id) && !decide (Sp.c2 x = id)
def Sp.flt (p : List C → Bool) (xs : List (List C)) : List (List C) := (xs.filter p).map Sp.r4
def Sp.flI (p : List C → Bool) (xs : List (List C)) (j : Int) (out : List (List C)) : Prop := 0 ≤ j ∧ j ≤ (xs.length : Int) ∧ out = Sp.flt p (xs.take j.toNat)
def Sp.remE (ns ls : List (List C)) (id : Int) : Int := bif !Sp.vld ns ls then 1 else bif !Sp.has ns id then 7 else 0
def Sp.rrN (ns ls : List (List C)) (id : Int) : List (List C) := bif decide (Sp.remE ns ls id = 0) then Sp.flt (Sp.neI id) ns else []
def Sp.rrL (ns ls : List (List C)) (id : Int) : List (List C) := bif decide (Sp.remE ns ls id = 0) then Sp.flt (Sp.neL id) ls else []
end Go

namespace Go
open Go.Sx
variable {ns ls xs out : List (List C)} {j id : Int} {p : List C → Bool}
theorem Sp.fl_init : Sp.flI p xs 0 [] := ⟨by omega, by omega, rfl⟩
theorem Sp.fl_yes (h : Sp.flI p xs j out) (hj : j < (xs.length : Int)) (hn : p (rGet xs j) = true) : Sp.flI p xs (j + 1) (out ++ [Sp.r4 (rGet xs j)]) := by
  obtain ⟨h0, h1, h2⟩ := h
  refine ⟨by omega, by omega, ?_⟩
  rw [h2, Sp.take_succ h0 hj]
  unfold Sp.flt
  rw [List.filter_append, List.map_append]
  congr 1
  rw [List.filter_cons, hn]; rfl
theorem Sp.fl_no (h : Sp.flI p xs j out) (hj : j < (xs.length : Int)) (hn : p (rGet xs j) = false) : Sp.flI p xs (j + 1) out := by
  obtain ⟨h0, h1, h2⟩ := h
  refine ⟨by omega, by omega, ?_⟩
  rw [h2, Sp.take_succ h0 hj]
  unfold Sp.flt
  rw [List.filter_append, List.filter_cons, hn]
  simp
theorem Sp.fl_end (h : Sp.flI p xs j out) (hj : ¬ j < (xs.length : Int)) : out = Sp.flt p xs := by
  obtain ⟨h0, h1, h2⟩ := h
  rw [h2, List.take_of_length_le (by omega)]
theorem Sp.fl_len (h : Sp.flI p xs j out) : out.length ≤ xs.length := by
  obtain ⟨h0, h1, h2⟩ := h
  rw [h2]
  unfold Sp.flt
  rw [List.length_map]
  have := List.length_filter_le p (xs.take j.toNat)
  rw [List.length_take] at this
  omega
theorem Sp.rem1 (h : Sp.vld ns ls = false) : Sp.remE ns ls id = 1 := by unfold Sp.remE; rw [h]; rfl
theorem Sp.rem7 (h : Sp.vld ns ls = true) (h1 : Sp.has ns id = false) : Sp.remE ns ls id = 7 := by unfold Sp.remE; rw [h, h1]; rfl
theorem Sp.rem0 (h : Sp.vld ns ls = true) (h1 : Sp.has ns id = true) : Sp.remE ns ls id = 0 := by unfold Sp.remE; rw [h, h1]; rfl
theorem Sp.rem_err {e : Int} (h : Sp.remE ns ls id = e) (he : e ≠ 0) : ([] = Sp.rrN ns ls id ∧ [] = Sp.rrL ns ls id) ∧ e = Sp.remE ns ls id := by
  unfold Sp.rrN Sp.rrL
  rw [h, decide_eq_false he]
  exact ⟨⟨rfl, rfl⟩, rfl⟩
theorem Sp.rem_ok (h : Sp.remE ns ls id = 0) : (Sp.flt (Sp.neI id) ns = Sp.rrN ns ls id ∧ Sp.flt (Sp.neL id) ls = Sp.rrL ns ls id) ∧ 0 = Sp.remE ns ls id := by
  unfold Sp.rrN Sp.rrL
  rw [h]
  exact ⟨⟨rfl, rfl⟩, rfl⟩
end Go

namespace Go.Sx
/-! ### function 32: ref22.Remove -/
def ct32 : Ct := { ps := [(true, [.sl [.int .i64, .int .i64, .int .i64, .int .i64], .sl [.int .i64, .int .i64, .int .i64, .int .i64]]), (false, [.int .i64])], rs := [(true, [.sl [.int .i64, .int .i64, .int .i64, .int .i64], .sl [.int .i64, .int .i64, .int .i64, .int .i64]]), (false, [.int .i64])], pre := fun _ => True, out := fun a => [[.l (Sp.rrN (cel 0 (arg 0 a)).list (cel 1 (arg 0 a)).list (cel 0 (arg 1 a)).int), .l (Sp.rrL (cel 0 (arg 0 a)).list (cel 1 (arg 0 a)).list (cel 0 (arg 1 a)).int)], [.i (Sp.remE (cel 0 (arg 0 a)).list (cel 1 (arg 0 a)).list (cel 0 (arg 1 a)).int)]] }
def tb32 : List (Nat × Ct) := [(15, ct15), (59, ct59)]
def A32 (ns : List (List C)) (ls : List (List C)) (id : Int) : FuncId → Nat → LoopAnn := fun _ ii => bif Nat.beq ii 8 then .ghostB 8 0 [.int .i64, .int .i64, .int .i64, .int .i64] 43 (.on (fun sv0 => match sv0.tmps.getD 8 .undef with | .ref bb _ => (match sv0.heap[bb]? with | some (.box [.own rr _, l0] gt) => .inv (Int × List (List C)) (fun z => Sp.flI (Sp.neI id) ns z.1 z.2) (fun z => [(29, .int .i64 z.1)]) (fun z => [(rr, .row [.int .i64, .int .i64, .int .i64, .int .i64] 43 0 z.2), (bb, .box [.own rr 0, l0] gt)]) [rr, bb] [0, 1, 2, 4, 5, 7, 8, 10, 12, 15, 24, 27, 28, 29, 30, 36, 45, 46, 47, 48, 60] (fun z => ns.length - z.1.toNat) | _ => .unroll 0) | _ => .unroll 0)) else bif Nat.beq ii 14 then .ghostB 8 1 [.int .i64, .int .i64, .int .i64, .int .i64] 45 (.on (fun sv0 => match sv0.tmps.getD 8 .undef with | .ref bb _ => (match sv0.heap[bb]? with | some (.box [n0, .own rr _] gt) => .inv (Int × List (List C)) (fun z => Sp.flI (Sp.neL id) ls z.1 z.2) (fun z => [(47, .int .i64 z.1)]) (fun z => [(rr, .row [.int .i64, .int .i64, .int .i64, .int .i64] 45 0 z.2), (bb, .box [n0, .own rr 0] gt)]) [rr, bb] [0, 1, 2, 4, 5, 7, 8, 10, 12, 15, 24, 27, 28, 29, 30, 36, 45, 46, 47, 48, 60] (fun z => ls.length - z.1.toNat) | _ => .unroll 0) | _ => .unroll 0)) else .unroll 0
abbrev B32 (ns : List (List C)) (ls : List (List C)) (id : Int) : Prop := vcF Go.Proofs.Try.prog (look tb32) (fun _ => false) (A32 ns ls id) 8 32 [.agg [.sl [.int .i64, .int .i64, .int .i64, .int .i64] ns, .sl [.int .i64, .int .i64, .int .i64, .int .i64] ls], .int .i64 id] [] (fun sv heap => Gives [(true, [.sl [.int .i64, .int .i64, .int .i64, .int .i64], .sl [.int .i64, .int .i64, .int .i64, .int .i64]]), (false, [.int .i64])] [[.l (Sp.rrN ns ls id), .l (Sp.rrL ns ls id)], [.i (Sp.remE ns ls id)]] sv heap)
def h32_0 : List (List C) → List (List C) → Int → List SV := fun (ns ls : List (List C)) (id : Int) => [SV.agg [SV.sl [.int .i64, .int .i64, .int .i64, .int .i64] ns, SV.sl [.int .i64, .int .i64, .int .i64, .int .i64] ls], SV.int .i64 id, SV.ref 0 0, SV.ref 1 0, SV.lit .i64 0, SV.bool (Sp.has ns id), SV.ref 3 0, SV.undef, SV.blit false, SV.blit false, SV.sl [.int .i64, .int .i64, .int .i64, .int .i64] ns, SV.int .i64 (iLen ns), SV.undef, SV.undef, SV.undef, SV.undef, SV.undef]
def h32_1 : List (List C) → List (List C) → Int → List HB := fun (ns ls : List (List C)) (id : Int) => [HB.box [SV.sl [.int .i64, .int .i64, .int .i64, .int .i64] ns, SV.sl [.int .i64, .int .i64, .int .i64, .int .i64] ls] 25, HB.box [SV.nils, SV.nils] 25, HB.box [SV.int .i64 (Sp.c0 (Sp.nd ns id)), SV.int .i64 (Sp.c1 (Sp.nd ns id)), SV.int .i64 (Sp.c2 (Sp.nd ns id)), SV.int .i64 (Sp.c3 (Sp.nd ns id))] 43, HB.gone, HB.gone]
def h32_2 : List (List C) → List (List C) → Int → Int × List (List C) → List SV := fun (ns ls : List (List C)) (id : Int) (x : Int × List (List C)) => [SV.agg [SV.sl [.int .i64, .int .i64, .int .i64, .int .i64] ns, SV.sl [.int .i64, .int .i64, .int .i64, .int .i64] ls], SV.int .i64 id, SV.ref 0 0, SV.ref 1 0, SV.lit .i64 0, SV.bool (Sp.has ns id), SV.ref 3 0, SV.any, SV.blit false, SV.blit false, SV.sl [.int .i64, .int .i64, .int .i64, .int .i64] ns, SV.int .i64 (iLen ns), SV.int .i64 x.1, SV.blit false, SV.any, SV.sl [.int .i64, .int .i64, .int .i64, .int .i64] ls, SV.int .i64 (iLen ls)]
def h32_3 : List (List C) → List (List C) → Int → Int × List (List C) → List HB := fun (ns ls : List (List C)) (id : Int) (x : Int × List (List C)) => [HB.box [SV.sl [.int .i64, .int .i64, .int .i64, .int .i64] ns, SV.sl [.int .i64, .int .i64, .int .i64, .int .i64] ls] 25, HB.box [SV.nils, SV.nils] 25, HB.box [SV.int .i64 (Sp.c0 (Sp.nd ns id)), SV.int .i64 (Sp.c1 (Sp.nd ns id)), SV.int .i64 (Sp.c2 (Sp.nd ns id)), SV.int .i64 (Sp.c3 (Sp.nd ns id))] 43, HB.gone, HB.row [.int .i64, .int .i64, .int .i64, .int .i64] 43 (0 + 1) x.2, HB.gone]
theorem e32 (ns : List (List C)) (ls : List (List C)) (id : Int) : B32 ns ls id = (True ∧ (True → True ∧ (bNot (Sp.vld ns ls) = true → ([] = Sp.rrN ns ls id ∧ [] = Sp.rrL ns ls id ∧ True) ∧ (1 = Sp.remE ns ls id ∧ True) ∧ True) ∧ (bNot (Sp.vld ns ls) = false → True ∧ ((InR .i64 (Sp.c0 (Sp.nd ns id)) ∧ InR .i64 (Sp.c1 (Sp.nd ns id)) ∧ InR .i64 (Sp.c2 (Sp.nd ns id)) ∧ InR .i64 (Sp.c3 (Sp.nd ns id)) ∧ True) ∧ True ∧ True → True ∧ (bNot (Sp.has ns id) = true → ([] = Sp.rrN ns ls id ∧ [] = Sp.rrL ns ls id ∧ True) ∧ (7 = Sp.remE ns ls id ∧ True) ∧ True) ∧ (bNot (Sp.has ns id) = false → pLe (iLen ns) 9223372036854775807 → (∃ (x : Int × List (List C)), Sp.flI (Sp.neI id) ns x.1 x.2 ∧ true = true ∧ ((IntKind.i64 = IntKind.i64 ∧ 0 = x.1) ∧ True) ∧ ([Sh.int .i64, Sh.int .i64, Sh.int .i64, Sh.int .i64] = [Sh.int .i64, Sh.int .i64, Sh.int .i64, Sh.int .i64] ∧ 43 = 43 ∧ 0 + 1 = 0 + 1 ∧ [] = x.2) ∧ (((4 = 4 ∧ 0 + 1 = 0 + 1) ∧ True ∧ True) ∧ 25 = 25) ∧ True) ∧ (∀ (x : Int × List (List C)), true = true ∧ true = true) ∧ ∀ (x : Int × List (List C)), Sp.flI (Sp.neI id) ns x.1 x.2 → InR .i64 x.1 ∧ True → (x.2.length ≤ 9223372036854775807 ∧ ∀ (x_1 : List C), x_1 ∈ x.2 → WfCs [.int .i64, .int .i64, .int .i64, .int .i64] x_1) ∧ (True ∧ True ∧ True) ∧ True → (bLt x.1 (iLen ns) = true → pIn 0 (iLen ns) x.1 ∧ (InR .i64 ((rGet ns x.1).headD default).int ∧ InR .i64 ((rGet ns x.1).tail.headD default).int ∧ InR .i64 ((rGet ns x.1).tail.tail.headD default).int ∧ InR .i64 ((rGet ns x.1).tail.tail.tail.headD default).int ∧ True → (bNe ((rGet ns x.1).headD default).int id = true → pRoom 32 (iLen (x.2 ++ [[C.i ((rGet ns x.1).headD default).int, C.i ((rGet ns x.1).tail.headD default).int, C.i ((rGet ns x.1).tail.tail.headD default).int, C.i ((rGet ns x.1).tail.tail.tail.headD default).int]])) ∧ InR .i64 (iAdd x.1 1) ∧ (true = true ∧ h32_0 ns ls id = h32_0 ns ls id) ∧ h32_1 ns ls id = h32_1 ns ls id ∧ ∃ (y : Int × List (List C)), Sp.flI (Sp.neI id) ns y.1 y.2 ∧ true = true ∧ ((IntKind.i64 = IntKind.i64 ∧ iAdd x.1 1 = y.1) ∧ True) ∧ (([Sh.int .i64] ++ ([Sh.int .i64] ++ ([Sh.int .i64] ++ ([Sh.int .i64] ++ []))) = [Sh.int .i64, Sh.int .i64, Sh.int .i64, Sh.int .i64] ∧ 43 = 43 ∧ 0 + 1 = 0 + 1 ∧ x.2 ++ [[C.i ((rGet ns x.1).headD default).int, C.i ((rGet ns x.1).tail.headD default).int, C.i ((rGet ns x.1).tail.tail.headD default).int, C.i ((rGet ns x.1).tail.tail.tail.headD default).int]] = y.2) ∧ (((4 = 4 ∧ 0 + 1 = 0 + 1) ∧ True ∧ True) ∧ 25 = 25) ∧ True) ∧ ns.length - y.1.toNat < ns.length - x.1.toNat) ∧ (bNe ((rGet ns x.1).headD default).int id = false → InR .i64 (iAdd x.1 1) ∧ (true = true ∧ h32_0 ns ls id = h32_0 ns ls id) ∧ h32_1 ns ls id = h32_1 ns ls id ∧ ∃ (y : Int × List (List C)), Sp.flI (Sp.neI id) ns y.1 y.2 ∧ true = true ∧ ((IntKind.i64 = IntKind.i64 ∧ iAdd x.1 1 = y.1) ∧ True) ∧ (([Sh.int .i64, Sh.int .i64, Sh.int .i64, Sh.int .i64] = [Sh.int .i64, Sh.int .i64, Sh.int .i64, Sh.int .i64] ∧ 43 = 43 ∧ 0 + 1 = 0 + 1 ∧ x.2 = y.2) ∧ (((4 = 4 ∧ 0 + 1 = 0 + 1) ∧ True ∧ True) ∧ 25 = 25) ∧ True) ∧ ns.length - y.1.toNat < ns.length - x.1.toNat))) ∧ (bLt x.1 (iLen ns) = false → pLe (iLen ls) 9223372036854775807 → (∃ (x : Int × List (List C)), Sp.flI (Sp.neL id) ls x.1 x.2 ∧ true = true ∧ ((IntKind.i64 = IntKind.i64 ∧ 0 = x.1) ∧ True) ∧ ([Sh.int .i64, Sh.int .i64, Sh.int .i64, Sh.int .i64] = [Sh.int .i64, Sh.int .i64, Sh.int .i64, Sh.int .i64] ∧ 45 = 45 ∧ 0 + 1 = 0 + 1 ∧ [] = x.2) ∧ (((4 = 4 ∧ 0 + 1 = 0 + 1) ∧ (5 = 5 ∧ 0 + 1 = 0 + 1) ∧ True) ∧ 25 = 25) ∧ True) ∧ (∀ (x : Int × List (List C)), true = true ∧ true = true) ∧ ∀ (x_1 : Int × List (List C)), Sp.flI (Sp.neL id) ls x_1.1 x_1.2 → InR .i64 x_1.1 ∧ True → (x_1.2.length ≤ 9223372036854775807 ∧ ∀ (x : List C), x ∈ x_1.2 → WfCs [.int .i64, .int .i64, .int .i64, .int .i64] x) ∧ (True ∧ True ∧ True) ∧ True → (bLt x_1.1 (iLen ls) = true → pIn 0 (iLen ls) x_1.1 ∧ (InR .i64 ((rGet ls x_1.1).headD default).int ∧ InR .i64 ((rGet ls x_1.1).tail.headD default).int ∧ InR .i64 ((rGet ls x_1.1).tail.tail.headD default).int ∧ InR .i64 ((rGet ls x_1.1).tail.tail.tail.headD default).int ∧ True → (bNe ((rGet ls x_1.1).headD default).int id = true → (bNe ((rGet ls x_1.1).tail.tail.headD default).int id = true → pRoom 32 (iLen (x_1.2 ++ [[C.i ((rGet ls x_1.1).headD default).int, C.i ((rGet ls x_1.1).tail.headD default).int, C.i ((rGet ls x_1.1).tail.tail.headD default).int, C.i ((rGet ls x_1.1).tail.tail.tail.headD default).int]])) ∧ InR .i64 (iAdd x_1.1 1) ∧ (true = true ∧ h32_2 ns ls id x = h32_2 ns ls id x) ∧ h32_3 ns ls id x = h32_3 ns ls id x ∧ ∃ (y : Int × List (List C)), Sp.flI (Sp.neL id) ls y.1 y.2 ∧ true = true ∧ ((IntKind.i64 = IntKind.i64 ∧ iAdd x_1.1 1 = y.1) ∧ True) ∧ (([Sh.int .i64] ++ ([Sh.int .i64] ++ ([Sh.int .i64] ++ ([Sh.int .i64] ++ []))) = [Sh.int .i64, Sh.int .i64, Sh.int .i64, Sh.int .i64] ∧ 45 = 45 ∧ 0 + 1 = 0 + 1 ∧ x_1.2 ++ [[C.i ((rGet ls x_1.1).headD default).int, C.i ((rGet ls x_1.1).tail.headD default).int, C.i ((rGet ls x_1.1).tail.tail.headD default).int, C.i ((rGet ls x_1.1).tail.tail.tail.headD default).int]] = y.2) ∧ (((4 = 4 ∧ 0 + 1 = 0 + 1) ∧ (5 = 5 ∧ 0 + 1 = 0 + 1) ∧ True) ∧ 25 = 25) ∧ True) ∧ ls.length - y.1.toNat < ls.length - x_1.1.toNat) ∧ (bNe ((rGet ls x_1.1).tail.tail.headD default).int id = false → InR .i64 (iAdd x_1.1 1) ∧ (true = true ∧ h32_2 ns ls id x = h32_2 ns ls id x) ∧ h32_3 ns ls id x = h32_3 ns ls id x ∧ ∃ (y : Int × List (List C)), Sp.flI (Sp.neL id) ls y.1 y.2 ∧ true = true ∧ ((IntKind.i64 = IntKind.i64 ∧ iAdd x_1.1 1 = y.1) ∧ True) ∧ (([Sh.int .i64, Sh.int .i64, Sh.int .i64, Sh.int .i64] = [Sh.int .i64, Sh.int .i64, Sh.int .i64, Sh.int .i64] ∧ 45 = 45 ∧ 0 + 1 = 0 + 1 ∧ x_1.2 = y.2) ∧ (((4 = 4 ∧ 0 + 1 = 0 + 1) ∧ (5 = 5 ∧ 0 + 1 = 0 + 1) ∧ True) ∧ 25 = 25) ∧ True) ∧ ls.length - y.1.toNat < ls.length - x_1.1.toNat)) ∧ (bNe ((rGet ls x_1.1).headD default).int id = false → InR .i64 (iAdd x_1.1 1) ∧ (true = true ∧ h32_2 ns ls id x = h32_2 ns ls id x) ∧ h32_3 ns ls id x = h32_3 ns ls id x ∧ ∃ (y : Int × List (List C)), Sp.flI (Sp.neL id) ls y.1 y.2 ∧ true = true ∧ ((IntKind.i64 = IntKind.i64 ∧ iAdd x_1.1 1 = y.1) ∧ True) ∧ (([Sh.int .i64, Sh.int .i64, Sh.int .i64, Sh.int .i64] = [Sh.int .i64, Sh.int .i64, Sh.int .i64, Sh.int .i64] ∧ 45 = 45 ∧ 0 + 1 = 0 + 1 ∧ x_1.2 = y.2) ∧ (((4 = 4 ∧ 0 + 1 = 0 + 1) ∧ (5 = 5 ∧ 0 + 1 = 0 + 1) ∧ True) ∧ 25 = 25) ∧ True) ∧ ls.length - y.1.toNat < ls.length - x_1.1.toNat))) ∧ (bLt x_1.1 (iLen ls) = false → (x.2 = Sp.rrN ns ls id ∧ x_1.2 = Sp.rrL ns ls id ∧ True) ∧ (0 = Sp.remE ns ls id ∧ True) ∧ True))))))) := by kernel_rfl
theorem v32 (ns : List (List C)) (ls : List (List C)) (id : Int) : Holds (Wfs [.agg [.sl [.int .i64, .int .i64, .int .i64, .int .i64] ns, .sl [.int .i64, .int .i64, .int .i64, .int .i64] ls], .int .i64 id] → True → B32 ns ls id) := by
  refine ⟨fun hw hp => ?_⟩
  rw [e32]
  simp only [Wfs, Wf, InR, and_true] at hw
  simp only [eq_self, true_and, and_true, true_implies, implies_true, iAdd, iSub, iMul, iLen, bEq, bNe, bLt, bLe, bNot, pIn, pLe, pNe, InR, decide_eq_true_eq, decide_eq_false_iff_not, Bool.not_eq_true', Bool.not_eq_false', decide_eq_decide]
  refine ⟨fun h => Sp.rem_err (Sp.rem1 h) (by omega), fun hv _ => ⟨fun h => Sp.rem_err (Sp.rem7 hv h) (by omega), fun hh _ => ⟨⟨(0, []), Sp.fl_init, rfl, rfl⟩, ?_⟩⟩⟩
  have V := Sp.vld_small hv
  rintro ⟨j, out⟩ hj _ _
  simp only at hj ⊢
  have j0 := hj.1
  have j1 := hj.2.1
  have ol := Sp.fl_len hj
  refine ⟨fun hlt => ⟨⟨j0, hlt⟩, fun _ => ⟨fun hn => ⟨by simp only [pRoom, List.length_append, List.length_singleton]; omega, by omega, (j + 1, _), Sp.fl_yes hj hlt ?_, rfl, ⟨rfl, rfl⟩, by simp only; omega⟩, fun hn => ⟨by omega, (j + 1, out), Sp.fl_no hj hlt ?_, rfl, rfl, by simp only; omega⟩⟩⟩, fun hge _ => ⟨⟨(0, []), Sp.fl_init, rfl, rfl⟩, ?_⟩⟩
  · unfold Sp.neI; rw [decide_eq_false (show ¬ Sp.c0 (rGet ns j) = id from hn)]; rfl
  · unfold Sp.neI; rw [decide_eq_true (show Sp.c0 (rGet ns j) = id from hn)]; rfl
  rintro ⟨q, o2⟩ hq _ _
  simp only at hq ⊢
  have q0 := hq.1
  have q1 := hq.2.1
  have ol2 := Sp.fl_len hq
  refine ⟨fun hlt => ⟨⟨q0, hlt⟩, fun _ => ⟨fun hn => ⟨fun hn2 => ⟨by simp only [pRoom, List.length_append, List.length_singleton]; omega, by omega, (q + 1, _), Sp.fl_yes hq hlt ?_, rfl, ⟨rfl, rfl⟩, by simp only; omega⟩, fun hn2 => ⟨by omega, (q + 1, o2), Sp.fl_no hq hlt ?_, rfl, rfl, by simp only; omega⟩⟩, fun hn => ⟨by omega, (q + 1, o2), Sp.fl_no hq hlt ?_, rfl, rfl, by simp only; omega⟩⟩⟩, fun hge2 => ?_⟩
  · unfold Sp.neL; rw [decide_eq_false (show ¬ Sp.c0 (rGet ls q) = id from hn), decide_eq_false (show ¬ Sp.c2 (rGet ls q) = id from hn2)]; rfl
  · unfold Sp.neL; rw [decide_eq_true (show Sp.c2 (rGet ls q) = id from hn2)]; simp
  · unfold Sp.neL; rw [decide_eq_true (show Sp.c0 (rGet ls q) = id from hn)]; rfl
  · rw [Sp.fl_end hj hge, Sp.fl_end hq hge2]
    exact Sp.rem_ok (Sp.rem0 hv hh)
theorem s32 : SoundCt Go.Proofs.Try.prog 32 ct32 :=
  contractH followsMixed (look_sound (show Tb Go.Proofs.Try.prog tb32 from ⟨s15, ⟨s59, trivial⟩⟩)) (fun _ => false) (fun a => A32 ((cel 0 (arg 0 a)).list) ((cel 1 (arg 0 a)).list) ((cel 0 (arg 1 a)).int)) 8 32 ct32 rfl (by simp [ct32]) fun a => Eq.mp (by kernel_rfl) (v32 ((cel 0 (arg 0 a)).list) ((cel 1 (arg 0 a)).list) ((cel 0 (arg 1 a)).int))
end Go.Sx

