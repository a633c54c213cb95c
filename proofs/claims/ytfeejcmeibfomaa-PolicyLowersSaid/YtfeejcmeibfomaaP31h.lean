/- Contracts and conditions, continued. -/
import Derived.Test.YtfeejcmeibfomaaSxUse
import Derived.Test.YtfeejcmeibfomaaP31g
import Derived.KernelRfl
set_option linter.unusedVariables false
set_option linter.unusedSimpArgs false
set_option maxRecDepth 100000
set_option maxHeartbeats 4000000

namespace Go
open Go.Sx
def Sp.ad (out : List (List C)) (v : ByteArray) : List (List C) := bif Sp.hasS out v then out else out ++ [[.s v]]
def Sp.b3 (x : List C) : Bool := (x.tail.tail.tail.headD default).bool
def Sp.clF (f : List C → Bool) (l : List (List C)) : List (List C) := l.foldl (fun o x => bif f x then Sp.ad o (Sp.s1 x) else o) []
def Sp.tt (x : List C) : Bool := true
def Sp.cls (l : List (List C)) : List (List C) := Sp.clF Sp.tt l
def Sp.rls (l : List (List C)) : List (List C) := Sp.clF Sp.b3 l
def Sp.clI (f : List C → Bool) (l : List (List C)) (z : Int) (out : List (List C)) : Prop := 0 ≤ z ∧ z ≤ (l.length : Int) ∧ (out.length : Int) ≤ z ∧ out = Sp.clF f (l.take z.toNat)
end Go

namespace Go
open Go.Sx
theorem Sp.clI_init {f : List C → Bool} {l : List (List C)} : Sp.clI f l 0 [] := ⟨by omega, by omega, by simp, by simp [Sp.clF]⟩
theorem Sp.cl_step {f : List C → Bool} {l out : List (List C)} {z : Int} (h : Sp.clI f l z out) (hz : z < (l.length : Int)) : Sp.clF f (l.take (z + 1).toNat) = bif f (rGet l z) then Sp.ad out (Sp.s1 (rGet l z)) else out := by
  obtain ⟨a, b, c, d⟩ := h
  unfold Sp.clF at d ⊢
  rw [Sp.takeAt a hz, List.foldl_append, ← d]; rfl
theorem Sp.cl_add {f : List C → Bool} {l out : List (List C)} {z : Int} (h : Sp.clI f l z out) (hz : z < (l.length : Int)) (hf : f (rGet l z) = true) (hh : Sp.hasS out (Sp.s1 (rGet l z)) = false) : Sp.clI f l (z + 1) (out ++ [[.s (Sp.s1 (rGet l z))]]) := by
  have e := Sp.cl_step h hz
  obtain ⟨a, b, c, d⟩ := h
  refine ⟨by omega, by omega, by simp only [List.length_append, List.length_singleton]; omega, ?_⟩
  rw [e, hf]; unfold Sp.ad; rw [hh]; rfl
theorem Sp.cl_has {f : List C → Bool} {l out : List (List C)} {z : Int} (h : Sp.clI f l z out) (hz : z < (l.length : Int)) (hf : f (rGet l z) = true) (hh : Sp.hasS out (Sp.s1 (rGet l z)) = true) : Sp.clI f l (z + 1) out := by
  have e := Sp.cl_step h hz
  obtain ⟨a, b, c, d⟩ := h
  refine ⟨by omega, by omega, by omega, ?_⟩
  rw [e, hf]; unfold Sp.ad; rw [hh]; rfl
theorem Sp.cl_skip {f : List C → Bool} {l out : List (List C)} {z : Int} (h : Sp.clI f l z out) (hz : z < (l.length : Int)) (hf : f (rGet l z) = false) : Sp.clI f l (z + 1) out := by
  have e := Sp.cl_step h hz
  obtain ⟨a, b, c, d⟩ := h
  refine ⟨by omega, by omega, by omega, ?_⟩
  rw [e, hf]; rfl
theorem Sp.cl_end {f : List C → Bool} {l out : List (List C)} {z : Int} (h : Sp.clI f l z out) (hz : ¬ z < (l.length : Int)) : out = Sp.clF f l := by
  obtain ⟨a, b, c, d⟩ := h
  rw [d, List.take_of_length_le (by omega)]
theorem Sp.eqS_sym {v : ByteArray} {x : List C} : Sp.eqS v x = ((Sp.s0 x).toList == v.toList) := by
  unfold Sp.eqS; rw [Bool.eq_iff_iff, beq_iff_eq, beq_iff_eq]; exact eq_comm
theorem Sp.hs_hit {out : List (List C)} {v : ByteArray} {w : Int} (h : Sp.fiI (Sp.eqS v) out w) (hw : w < (out.length : Int)) (he : ((Sp.s0 (rGet out w)).toList == v.toList) = true) : Sp.hasS out v = true := by
  unfold Sp.hasS; rw [Sp.fi_hit h hw (by rw [Sp.eqS_sym]; exact he)]; exact decide_eq_true h.1
theorem Sp.hs_miss {out : List (List C)} {v : ByteArray} {w : Int} (h : Sp.fiI (Sp.eqS v) out w) (hw : ¬ w < (out.length : Int)) : Sp.hasS out v = false := by
  unfold Sp.hasS; rw [Sp.fi_miss h hw]; rfl
end Go

namespace Go.Sx
/-! ### function 17: policy.Classes -/
def ct17 : Ct := { ps := [(false, [.sl [.int .u64, .str, .int .i64]])], rs := [(false, [.sl [.str]])], pre := fun a => pLe ((cel 0 (arg 0 a)).list.length : Int) 1000000 ∧ True, out := fun a => [[.l (Sp.cls (cel 0 (arg 0 a)).list)]] }
def tb17 : List (Nat × Ct) := [(53, ct53)]
def A17 (l : List (List C)) : FuncId → Nat → LoopAnn := fun ff ii => bif Nat.beq ff 31 then (bif Nat.beq ii 3 then .ghost 5 [.str] 9 (.on (fun sv0 => match sv0.tmps.getD 5 .undef with | .own rr _ => .inv (Int × List (List C)) (fun z => Sp.clI Sp.tt l z.1 z.2) (fun z => [(5, .own rr 0), (12, .int .i64 z.1)]) (fun z => [(rr, .row [.str] 9 0 (z.2))]) [rr] [0, 1, 4, 5, 7, 8, 9, 10, 11, 12, 13, 28] (fun z => l.length - z.1.toNat) | _ => .unroll 0)) else .unroll 0) else .unroll 0
abbrev B17 (l : List (List C)) : Prop := vcF Go.Proofs.Try.prog (look tb17) (fun _ => false) (A17 l) 6 17 [.sl [.int .u64, .str, .int .i64] l] [] (fun sv heap => Gives [(false, [.sl [.str]])] [[.l (Sp.cls l)]] sv heap)
theorem e17 (l : List (List C)) : B17 l = (pLe (iLen l) 9223372036854775807 → (∃ (x : Int × List (List C)), Sp.clI Sp.tt l x.1 x.2 ∧ true = true ∧ ((0 = 0 ∧ 0 + 1 = 0 + 1) ∧ (IntKind.i64 = IntKind.i64 ∧ 0 = x.1) ∧ True) ∧ ([Sh.str] = [Sh.str] ∧ 9 = 9 ∧ 0 + 1 = 0 + 1 ∧ [] = x.2) ∧ True) ∧ (∀ (x : Int × List (List C)), true = true ∧ true = true) ∧ ∀ (x : Int × List (List C)), Sp.clI Sp.tt l x.1 x.2 → True ∧ InR .i64 x.1 ∧ True → ((WL [.str] x.2)) ∧ True → (bLt x.1 (iLen l) = true → pIn 0 (iLen l) x.1 ∧ (InR .u64 (q0 (rGet l x.1)) ∧ (List.brecOn.go ((rGet l x.fst).tail.headD default).str.1.toList List.length._f).1.le 9223372036854775807 ∧ InR .i64 (q2 (rGet l x.1)) ∧ True → True ∧ (True → True ∧ (bNot (Sp.hasS x.2 ((rGet l x.1).tail.headD default).str) = true → pRoom 16 (iLen (x.2 ++ [[C.s ((rGet l x.1).tail.headD default).str]])) ∧ InR .i64 (iAdd x.1 1) ∧ (true = true ∧ (fun z => z = z) [SV.sl [.int .u64, .str, .int .i64] l, SV.fn 32 [], SV.nils, SV.sl [.int .u64, .str, .int .i64] l, SV.int .i64 (iLen l)]) ∧ [HB.gone] = [HB.gone] ∧ ∃ (y : Int × List (List C)), Sp.clI Sp.tt l y.1 y.2 ∧ true = true ∧ ((0 = 0 ∧ 0 + 1 = 0 + 1) ∧ (IntKind.i64 = IntKind.i64 ∧ iAdd x.1 1 = y.1) ∧ True) ∧ (([Sh.str] = [Sh.str] ∧ 9 = 9 ∧ 0 + 1 = 0 + 1 ∧ x.2 ++ [[C.s ((rGet l x.1).tail.headD default).str]] = y.2) ∧ True) ∧ l.length - y.1.toNat < l.length - x.1.toNat) ∧ (bNot (Sp.hasS x.2 ((rGet l x.1).tail.headD default).str) = false → InR .i64 (iAdd x.1 1) ∧ (true = true ∧ (fun z => z = z) [SV.sl [.int .u64, .str, .int .i64] l, SV.fn 32 [], SV.nils, SV.sl [.int .u64, .str, .int .i64] l, SV.int .i64 (iLen l)]) ∧ [HB.gone] = [HB.gone] ∧ ∃ (y : Int × List (List C)), Sp.clI Sp.tt l y.1 y.2 ∧ true = true ∧ ((0 = 0 ∧ 0 + 1 = 0 + 1) ∧ (IntKind.i64 = IntKind.i64 ∧ iAdd x.1 1 = y.1) ∧ True) ∧ (([Sh.str] = [Sh.str] ∧ 9 = 9 ∧ 0 + 1 = 0 + 1 ∧ x.2 = y.2) ∧ True) ∧ l.length - y.1.toNat < l.length - x.1.toNat)))) ∧ (bLt x.1 (iLen l) = false → (x.2 = Sp.cls l ∧ True) ∧ True)) := by kernel_rfl
theorem v17 (l : List (List C)) : Holds (Wfs [.sl [.int .u64, .str, .int .i64] l] → pLe (l.length : Int) 1000000 ∧ True → B17 l) := by
  refine ⟨fun hw hp => ?_⟩
  rw [e17]
  unfold WL q0 q2
  simp only [Wfs, Wf, InR, and_true] at hw
  have hm : maxLen = 9223372036854775807 := rfl
  simp only [hm] at hw
  simp only [iAdd, iSub, iMul, iLen, iSize, bLt, bLe, bEq, bNe, bNot, bSame, bDiff, sSame, sDiff, bIf, bAnd, InR, pLe, pIn, pRoom, eq_self, true_and, and_true, true_implies, implies_true, decide_eq_true_eq, decide_eq_false_iff_not, Bool.not_eq_true', Bool.not_eq_false', Bool.true_eq_false, Bool.false_eq_true, false_implies]
  have hp := hp.1
  simp only [pLe] at hp
  refine fun _ => ⟨⟨(0, []), Sp.clI_init, rfl, rfl⟩, ?_⟩
  rintro ⟨z, out⟩ hx _ _
  simp only at hx ⊢
  have h0 := hx.1
  have hol := hx.2.2.1
  refine ⟨fun hlt => ⟨⟨h0, hlt⟩, fun _ => ?_⟩, fun hge => Sp.cl_end hx hge⟩
  have add : Sp.tt (rGet l z) = true → Sp.hasS out (Sp.s1 (rGet l z)) = false → ((out ++ [[C.s ((rGet l z).tail.headD default).str]]).length : Int) * ((16 : Nat) : Int) ≤ 140737488355328 ∧ (-9223372036854775808 ≤ z + 1 ∧ z + 1 ≤ 9223372036854775807) ∧ ∃ y : Int × List (List C), Sp.clI Sp.tt l y.fst y.snd ∧ z + 1 = y.fst ∧ out ++ [[C.s ((rGet l z).tail.headD default).str]] = y.snd ∧ l.length - y.fst.toNat < l.length - z.toNat := fun hf hh => ⟨by simp only [List.length_append, List.length_singleton]; omega, by omega, (z + 1, _), Sp.cl_add hx hlt hf hh, rfl, rfl, by simp only; omega⟩
  have same : Sp.clI Sp.tt l (z + 1) out → (-9223372036854775808 ≤ z + 1 ∧ z + 1 ≤ 9223372036854775807) ∧ ∃ y : Int × List (List C), Sp.clI Sp.tt l y.fst y.snd ∧ z + 1 = y.fst ∧ out = y.snd ∧ l.length - y.fst.toNat < l.length - z.toNat := fun h => ⟨by omega, (z + 1, out), h, rfl, rfl, by simp only; omega⟩
  exact ⟨fun hh => add rfl hh, fun hh => same (Sp.cl_has hx hlt rfl hh)⟩
theorem s17 : SoundCt Go.Proofs.Try.prog 17 ct17 :=
  contractH followsMixed (look_sound (show Tb Go.Proofs.Try.prog tb17 from ⟨s53, trivial⟩)) (fun _ => false) (fun a => A17 ((cel 0 (arg 0 a)).list)) 6 17 ct17 rfl (by simp [ct17]) fun a => Eq.mp (by kernel_rfl) (v17 ((cel 0 (arg 0 a)).list))
end Go.Sx

namespace Go.Sx
/-! ### function 19: policy.Roles -/
def ct19 : Ct := { ps := [(false, [.sl [.int .i64, .str, .int .i64, .bool, .int .u64]])], rs := [(false, [.sl [.str]])], pre := fun a => pLe ((cel 0 (arg 0 a)).list.length : Int) 1000000 ∧ True, out := fun a => [[.l (Sp.rls (cel 0 (arg 0 a)).list)]] }
def tb19 : List (Nat × Ct) := [(53, ct53)]
def A19 (l : List (List C)) : FuncId → Nat → LoopAnn := fun ff ii => bif Nat.beq ff 34 then (bif Nat.beq ii 3 then .ghost 5 [.str] 9 (.on (fun sv0 => match sv0.tmps.getD 5 .undef with | .own rr _ => .inv (Int × List (List C)) (fun z => Sp.clI Sp.b3 l z.1 z.2) (fun z => [(5, .own rr 0), (12, .int .i64 z.1)]) (fun z => [(rr, .row [.str] 9 0 (z.2))]) [rr] [0, 1, 4, 5, 7, 8, 9, 10, 11, 12, 13, 28] (fun z => l.length - z.1.toNat) | _ => .unroll 0)) else .unroll 0) else .unroll 0
abbrev B19 (l : List (List C)) : Prop := vcF Go.Proofs.Try.prog (look tb19) (fun _ => false) (A19 l) 6 19 [.sl [.int .i64, .str, .int .i64, .bool, .int .u64] l] [] (fun sv heap => Gives [(false, [.sl [.str]])] [[.l (Sp.rls l)]] sv heap)
theorem e19 (l : List (List C)) : B19 l = (pLe (iLen l) 9223372036854775807 → (∃ (x : Int × List (List C)), Sp.clI Sp.b3 l x.1 x.2 ∧ true = true ∧ ((0 = 0 ∧ 0 + 1 = 0 + 1) ∧ (IntKind.i64 = IntKind.i64 ∧ 0 = x.1) ∧ True) ∧ ([Sh.str] = [Sh.str] ∧ 9 = 9 ∧ 0 + 1 = 0 + 1 ∧ [] = x.2) ∧ True) ∧ (∀ (x : Int × List (List C)), true = true ∧ true = true) ∧ ∀ (x : Int × List (List C)), Sp.clI Sp.b3 l x.1 x.2 → True ∧ InR .i64 x.1 ∧ True → ((WL [.str] x.2)) ∧ True → (bLt x.1 (iLen l) = true → pIn 0 (iLen l) x.1 ∧ (InR .i64 (q0 (rGet l x.1)) ∧ (List.brecOn.go ((rGet l x.fst).tail.headD default).str.1.toList List.length._f).1.le 9223372036854775807 ∧ InR .i64 (q2 (rGet l x.1)) ∧ True ∧ InR .u64 (q4 (rGet l x.1)) ∧ True → (((rGet l x.1).tail.tail.tail.headD default).bool = true → True ∧ (True → True ∧ (bNot (Sp.hasS x.2 ((rGet l x.1).tail.headD default).str) = true → pRoom 16 (iLen (x.2 ++ [[C.s ((rGet l x.1).tail.headD default).str]])) ∧ InR .i64 (iAdd x.1 1) ∧ (true = true ∧ (fun z => z = z) [SV.sl [.int .i64, .str, .int .i64, .bool, .int .u64] l, SV.fn 35 [], SV.nils, SV.sl [.int .i64, .str, .int .i64, .bool, .int .u64] l, SV.int .i64 (iLen l)]) ∧ [HB.gone] = [HB.gone] ∧ ∃ (y : Int × List (List C)), Sp.clI Sp.b3 l y.1 y.2 ∧ true = true ∧ ((0 = 0 ∧ 0 + 1 = 0 + 1) ∧ (IntKind.i64 = IntKind.i64 ∧ iAdd x.1 1 = y.1) ∧ True) ∧ (([Sh.str] = [Sh.str] ∧ 9 = 9 ∧ 0 + 1 = 0 + 1 ∧ x.2 ++ [[C.s ((rGet l x.1).tail.headD default).str]] = y.2) ∧ True) ∧ l.length - y.1.toNat < l.length - x.1.toNat) ∧ (bNot (Sp.hasS x.2 ((rGet l x.1).tail.headD default).str) = false → InR .i64 (iAdd x.1 1) ∧ (true = true ∧ (fun z => z = z) [SV.sl [.int .i64, .str, .int .i64, .bool, .int .u64] l, SV.fn 35 [], SV.nils, SV.sl [.int .i64, .str, .int .i64, .bool, .int .u64] l, SV.int .i64 (iLen l)]) ∧ [HB.gone] = [HB.gone] ∧ ∃ (y : Int × List (List C)), Sp.clI Sp.b3 l y.1 y.2 ∧ true = true ∧ ((0 = 0 ∧ 0 + 1 = 0 + 1) ∧ (IntKind.i64 = IntKind.i64 ∧ iAdd x.1 1 = y.1) ∧ True) ∧ (([Sh.str] = [Sh.str] ∧ 9 = 9 ∧ 0 + 1 = 0 + 1 ∧ x.2 = y.2) ∧ True) ∧ l.length - y.1.toNat < l.length - x.1.toNat))) ∧ (((rGet l x.1).tail.tail.tail.headD default).bool = false → InR .i64 (iAdd x.1 1) ∧ (true = true ∧ (fun z => z = z) [SV.sl [.int .i64, .str, .int .i64, .bool, .int .u64] l, SV.fn 35 [], SV.nils, SV.sl [.int .i64, .str, .int .i64, .bool, .int .u64] l, SV.int .i64 (iLen l)]) ∧ [HB.gone] = [HB.gone] ∧ ∃ (y : Int × List (List C)), Sp.clI Sp.b3 l y.1 y.2 ∧ true = true ∧ ((0 = 0 ∧ 0 + 1 = 0 + 1) ∧ (IntKind.i64 = IntKind.i64 ∧ iAdd x.1 1 = y.1) ∧ True) ∧ (([Sh.str] = [Sh.str] ∧ 9 = 9 ∧ 0 + 1 = 0 + 1 ∧ x.2 = y.2) ∧ True) ∧ l.length - y.1.toNat < l.length - x.1.toNat))) ∧ (bLt x.1 (iLen l) = false → (x.2 = Sp.rls l ∧ True) ∧ True)) := by kernel_rfl
theorem v19 (l : List (List C)) : Holds (Wfs [.sl [.int .i64, .str, .int .i64, .bool, .int .u64] l] → pLe (l.length : Int) 1000000 ∧ True → B19 l) := by
  refine ⟨fun hw hp => ?_⟩
  rw [e19]
  unfold WL q0 q2 q4
  simp only [Wfs, Wf, InR, and_true] at hw
  have hm : maxLen = 9223372036854775807 := rfl
  simp only [hm] at hw
  simp only [iAdd, iSub, iMul, iLen, iSize, bLt, bLe, bEq, bNe, bNot, bSame, bDiff, sSame, sDiff, bIf, bAnd, InR, pLe, pIn, pRoom, eq_self, true_and, and_true, true_implies, implies_true, decide_eq_true_eq, decide_eq_false_iff_not, Bool.not_eq_true', Bool.not_eq_false', Bool.true_eq_false, Bool.false_eq_true, false_implies]
  have hp := hp.1
  simp only [pLe] at hp
  refine fun _ => ⟨⟨(0, []), Sp.clI_init, rfl, rfl⟩, ?_⟩
  rintro ⟨z, out⟩ hx _ _
  simp only at hx ⊢
  have h0 := hx.1
  have hol := hx.2.2.1
  refine ⟨fun hlt => ⟨⟨h0, hlt⟩, fun _ => ?_⟩, fun hge => Sp.cl_end hx hge⟩
  have add : Sp.b3 (rGet l z) = true → Sp.hasS out (Sp.s1 (rGet l z)) = false → ((out ++ [[C.s ((rGet l z).tail.headD default).str]]).length : Int) * ((16 : Nat) : Int) ≤ 140737488355328 ∧ (-9223372036854775808 ≤ z + 1 ∧ z + 1 ≤ 9223372036854775807) ∧ ∃ y : Int × List (List C), Sp.clI Sp.b3 l y.fst y.snd ∧ z + 1 = y.fst ∧ out ++ [[C.s ((rGet l z).tail.headD default).str]] = y.snd ∧ l.length - y.fst.toNat < l.length - z.toNat := fun hf hh => ⟨by simp only [List.length_append, List.length_singleton]; omega, by omega, (z + 1, _), Sp.cl_add hx hlt hf hh, rfl, rfl, by simp only; omega⟩
  have same : Sp.clI Sp.b3 l (z + 1) out → (-9223372036854775808 ≤ z + 1 ∧ z + 1 ≤ 9223372036854775807) ∧ ∃ y : Int × List (List C), Sp.clI Sp.b3 l y.fst y.snd ∧ z + 1 = y.fst ∧ out = y.snd ∧ l.length - y.fst.toNat < l.length - z.toNat := fun h => ⟨by omega, (z + 1, out), h, rfl, rfl, by simp only; omega⟩
  exact ⟨fun hf => ⟨fun hh => add hf hh, fun hh => same (Sp.cl_has hx hlt hf hh)⟩, fun hf => same (Sp.cl_skip hx hlt hf)⟩
theorem s19 : SoundCt Go.Proofs.Try.prog 19 ct19 :=
  contractH followsMixed (look_sound (show Tb Go.Proofs.Try.prog tb19 from ⟨s53, trivial⟩)) (fun _ => false) (fun a => A19 ((cel 0 (arg 0 a)).list)) 6 19 ct19 rfl (by simp [ct19]) fun a => Eq.mp (by kernel_rfl) (v19 ((cel 0 (arg 0 a)).list))
end Go.Sx

namespace Go.Sx
/-! ### function 18: ref31.Classes -/
def ct18 : Ct := { ps := [(false, [.sl [.int .u64, .str, .int .i64]])], rs := [(false, [.sl [.str]])], pre := fun a => pLe ((cel 0 (arg 0 a)).list.length : Int) 1000000 ∧ True, out := fun a => [[.l (Sp.cls (cel 0 (arg 0 a)).list)]] }
def tb18 : List (Nat × Ct) := []
def A18 (l : List (List C)) : FuncId → Nat → LoopAnn := fun ff ii => bif Nat.beq ff 18 then (bif Nat.beq ii 3 then .ghost 3 [.str] 9 (.on (fun sv0 => match sv0.tmps.getD 3 .undef with | .own rr _ => .inv (Int × List (List C)) (fun z => Sp.clI Sp.tt l z.1 z.2) (fun z => [(3, .own rr 0), (4, .int .i64 z.1)]) (fun z => [(rr, .row [.str] 9 0 (z.2))]) [rr] [0, 2, 3, 4, 8] (fun z => l.length - z.1.toNat) | _ => .unroll 0)) else .unroll 0) else bif Nat.beq ff 33 then .on (fun sv0 => match sv0.tmps.getD 0 .undef, sv0.tmps.getD 1 .undef with | .own rr _, .str vv => (match curOf sv0.heap rr with | some (_, _, out) => .inv Int (fun z => Sp.fiI (Sp.eqS vv) out z) (fun z => [(5, .int .i64 z)]) (fun _ => []) [] [0, 1, 4, 5, 9, 17] (fun z => out.length - z.toNat) | none => .unroll 0) | _, _ => .unroll 0) else .unroll 0
abbrev B18 (l : List (List C)) : Prop := vcF Go.Proofs.Try.prog (look tb18) (fun _ => false) (A18 l) 6 18 [.sl [.int .u64, .str, .int .i64] l] [] (fun sv heap => Gives [(false, [.sl [.str]])] [[.l (Sp.cls l)]] sv heap)
theorem e18 (l : List (List C)) : B18 l = ((∃ (x : Int × List (List C)), Sp.clI Sp.tt l x.1 x.2 ∧ true = true ∧ ((0 = 0 ∧ 0 + 1 = 0 + 1) ∧ (IntKind.i64 = IntKind.i64 ∧ 0 = x.1) ∧ True) ∧ ([Sh.str] = [Sh.str] ∧ 9 = 9 ∧ 0 + 1 = 0 + 1 ∧ [] = x.2) ∧ True) ∧ (∀ (x : Int × List (List C)), true = true ∧ true = true) ∧ ∀ (x : Int × List (List C)), Sp.clI Sp.tt l x.1 x.2 → True ∧ InR .i64 x.1 ∧ True → ((WL [.str] x.2)) ∧ True → pLe (iLen l) 9223372036854775807 → (bLt x.1 (iLen l) = true → pIn 0 (iLen l) x.1 ∧ ((List.brecOn.go ((rGet l x.fst).tail.headD default).str.1.toList List.length._f).1.le 9223372036854775807 → (∃ (x_1 : Int), Sp.fiI (Sp.eqS ((rGet l x.1).tail.headD default).str) x.2 x_1 ∧ true = true ∧ ((IntKind.i64 = IntKind.i64 ∧ 0 = x_1) ∧ True) ∧ True) ∧ (∀ (x : Int), true = true ∧ true = true) ∧ ∀ (x_1 : Int), Sp.fiI (Sp.eqS ((rGet l x.1).tail.headD default).str) x.2 x_1 → InR .i64 x_1 ∧ True → True → pLe (iLen x.2) 9223372036854775807 → (bLt x_1 (iLen x.2) = true → pIn 0 (iLen x.2) x_1 ∧ ((List.brecOn.go ((rGet x.snd x_1).headD default).str.1.toList List.length._f).1.le 9223372036854775807 → (sSame ((rGet x.2 x_1).headD default).str ((rGet l x.1).tail.headD default).str = true → InR .i64 (iAdd x.1 1) ∧ (true = true ∧ [SV.sl [.int .u64, .str, .int .i64] l, SV.nils] = [SV.sl [.int .u64, .str, .int .i64] l, SV.nils]) ∧ [HB.gone] = [HB.gone] ∧ ∃ (y : Int × List (List C)), Sp.clI Sp.tt l y.1 y.2 ∧ true = true ∧ ((0 = 0 ∧ 0 + 1 = 0 + 1) ∧ (IntKind.i64 = IntKind.i64 ∧ iAdd x.1 1 = y.1) ∧ True) ∧ (([Sh.str] = [Sh.str] ∧ 9 = 9 ∧ 0 + 1 = 0 + 1 ∧ x.2 = y.2) ∧ True) ∧ l.length - y.1.toNat < l.length - x.1.toNat) ∧ (sSame ((rGet x.2 x_1).headD default).str ((rGet l x.1).tail.headD default).str = false → InR .i64 (iAdd x_1 1) ∧ (true = true ∧ (fun z => z = z) [SV.own 0 (0 + 1), SV.str ((rGet l x.1).tail.headD default).str]) ∧ [HB.row [.str] 9 (0 + 1) x.2] = [HB.row [.str] 9 (0 + 1) x.2] ∧ ∃ (y : Int), Sp.fiI (Sp.eqS ((rGet l x.1).tail.headD default).str) x.2 y ∧ true = true ∧ ((IntKind.i64 = IntKind.i64 ∧ iAdd x_1 1 = y) ∧ True) ∧ True ∧ x.2.length - y.toNat < x.2.length - x_1.toNat))) ∧ (bLt x_1 (iLen x.2) = false → pRoom 16 (iLen (x.2 ++ [[C.s ((rGet l x.1).tail.headD default).str]])) ∧ InR .i64 (iAdd x.1 1) ∧ (true = true ∧ [SV.sl [.int .u64, .str, .int .i64] l, SV.nils] = [SV.sl [.int .u64, .str, .int .i64] l, SV.nils]) ∧ [HB.gone] = [HB.gone] ∧ ∃ (y : Int × List (List C)), Sp.clI Sp.tt l y.1 y.2 ∧ true = true ∧ ((0 = 0 ∧ 0 + 1 = 0 + 1) ∧ (IntKind.i64 = IntKind.i64 ∧ iAdd x.1 1 = y.1) ∧ True) ∧ (([Sh.str] = [Sh.str] ∧ 9 = 9 ∧ 0 + 1 = 0 + 1 ∧ x.2 ++ [[C.s ((rGet l x.1).tail.headD default).str]] = y.2) ∧ True) ∧ l.length - y.1.toNat < l.length - x.1.toNat))) ∧ (bLt x.1 (iLen l) = false → (x.2 = Sp.cls l ∧ True) ∧ True)) := by kernel_rfl
theorem v18 (l : List (List C)) : Holds (Wfs [.sl [.int .u64, .str, .int .i64] l] → pLe (l.length : Int) 1000000 ∧ True → B18 l) := by
  refine ⟨fun hw hp => ?_⟩
  rw [e18]
  unfold WL
  simp only [Wfs, Wf, InR, and_true] at hw
  have hm : maxLen = 9223372036854775807 := rfl
  simp only [hm] at hw
  simp only [iAdd, iSub, iMul, iLen, iSize, bLt, bLe, bEq, bNe, bNot, bSame, bDiff, sSame, sDiff, bIf, bAnd, InR, pLe, pIn, pRoom, eq_self, true_and, and_true, true_implies, implies_true, decide_eq_true_eq, decide_eq_false_iff_not, Bool.not_eq_true', Bool.not_eq_false', Bool.true_eq_false, Bool.false_eq_true, false_implies]
  have hp := hp.1
  simp only [pLe] at hp
  refine ⟨⟨(0, []), Sp.clI_init, rfl, rfl⟩, ?_⟩
  rintro ⟨z, out⟩ hx _ _ hL
  simp only at hx ⊢
  have h0 := hx.1
  have hol := hx.2.2.1
  refine ⟨fun hlt => ⟨⟨h0, hlt⟩, ?_⟩, fun hge => Sp.cl_end hx hge⟩
  have add : Sp.tt (rGet l z) = true → Sp.hasS out (Sp.s1 (rGet l z)) = false → ((out ++ [[C.s ((rGet l z).tail.headD default).str]]).length : Int) * ((16 : Nat) : Int) ≤ 140737488355328 ∧ (-9223372036854775808 ≤ z + 1 ∧ z + 1 ≤ 9223372036854775807) ∧ ∃ y : Int × List (List C), Sp.clI Sp.tt l y.fst y.snd ∧ z + 1 = y.fst ∧ out ++ [[C.s ((rGet l z).tail.headD default).str]] = y.snd ∧ l.length - y.fst.toNat < l.length - z.toNat := fun hf hh => ⟨by simp only [List.length_append, List.length_singleton]; omega, by omega, (z + 1, _), Sp.cl_add hx hlt hf hh, rfl, rfl, by simp only; omega⟩
  have same : Sp.clI Sp.tt l (z + 1) out → (-9223372036854775808 ≤ z + 1 ∧ z + 1 ≤ 9223372036854775807) ∧ ∃ y : Int × List (List C), Sp.clI Sp.tt l y.fst y.snd ∧ z + 1 = y.fst ∧ out = y.snd ∧ l.length - y.fst.toNat < l.length - z.toNat := fun h => ⟨by omega, (z + 1, out), h, rfl, rfl, by simp only; omega⟩
  exact (fun hf => fun _ => ⟨⟨0, Sp.fiI_init _ _, rfl⟩, fun w hw _ _ => ⟨fun hl => ⟨⟨hw.1, hl⟩, fun _ => ⟨fun he => same (Sp.cl_has hx hlt hf (Sp.hs_hit hw hl he)), fun he => ⟨by have := hw.1; omega, w + 1, Sp.fiI_next hw hl (by rw [Sp.eqS_sym]; exact he), rfl, by have := hw.1; omega⟩⟩⟩, fun hl => add hf (Sp.hs_miss hw hl)⟩⟩) rfl
theorem s18 : SoundCt Go.Proofs.Try.prog 18 ct18 :=
  contractH followsMixed (look_sound (show Tb Go.Proofs.Try.prog tb18 from trivial)) (fun _ => false) (fun a => A18 ((cel 0 (arg 0 a)).list)) 6 18 ct18 rfl (by simp [ct18]) fun a => Eq.mp (by kernel_rfl) (v18 ((cel 0 (arg 0 a)).list))
end Go.Sx

namespace Go.Sx
/-! ### function 20: ref31.Roles -/
def ct20 : Ct := { ps := [(false, [.sl [.int .i64, .str, .int .i64, .bool, .int .u64]])], rs := [(false, [.sl [.str]])], pre := fun a => pLe ((cel 0 (arg 0 a)).list.length : Int) 1000000 ∧ True, out := fun a => [[.l (Sp.rls (cel 0 (arg 0 a)).list)]] }
def tb20 : List (Nat × Ct) := []
def A20 (l : List (List C)) : FuncId → Nat → LoopAnn := fun ff ii => bif Nat.beq ff 20 then (bif Nat.beq ii 3 then .ghost 3 [.str] 9 (.on (fun sv0 => match sv0.tmps.getD 3 .undef with | .own rr _ => .inv (Int × List (List C)) (fun z => Sp.clI Sp.b3 l z.1 z.2) (fun z => [(3, .own rr 0), (4, .int .i64 z.1)]) (fun z => [(rr, .row [.str] 9 0 (z.2))]) [rr] [0, 2, 3, 4, 8, 15] (fun z => l.length - z.1.toNat) | _ => .unroll 0)) else .unroll 0) else bif Nat.beq ff 33 then .on (fun sv0 => match sv0.tmps.getD 0 .undef, sv0.tmps.getD 1 .undef with | .own rr _, .str vv => (match curOf sv0.heap rr with | some (_, _, out) => .inv Int (fun z => Sp.fiI (Sp.eqS vv) out z) (fun z => [(5, .int .i64 z)]) (fun _ => []) [] [0, 1, 4, 5, 9, 17] (fun z => out.length - z.toNat) | none => .unroll 0) | _, _ => .unroll 0) else .unroll 0
abbrev B20 (l : List (List C)) : Prop := vcF Go.Proofs.Try.prog (look tb20) (fun _ => false) (A20 l) 6 20 [.sl [.int .i64, .str, .int .i64, .bool, .int .u64] l] [] (fun sv heap => Gives [(false, [.sl [.str]])] [[.l (Sp.rls l)]] sv heap)
theorem e20 (l : List (List C)) : B20 l = ((∃ (x : Int × List (List C)), Sp.clI Sp.b3 l x.1 x.2 ∧ true = true ∧ ((0 = 0 ∧ 0 + 1 = 0 + 1) ∧ (IntKind.i64 = IntKind.i64 ∧ 0 = x.1) ∧ True) ∧ ([Sh.str] = [Sh.str] ∧ 9 = 9 ∧ 0 + 1 = 0 + 1 ∧ [] = x.2) ∧ True) ∧ (∀ (x : Int × List (List C)), true = true ∧ true = true) ∧ ∀ (x : Int × List (List C)), Sp.clI Sp.b3 l x.1 x.2 → True ∧ InR .i64 x.1 ∧ True → ((WL [.str] x.2)) ∧ True → pLe (iLen l) 9223372036854775807 → (bLt x.1 (iLen l) = true → pIn 0 (iLen l) x.1 ∧ (True → (((rGet l x.1).tail.tail.tail.headD default).bool = true → pIn 0 (iLen l) x.1 ∧ ((List.brecOn.go ((rGet l x.fst).tail.headD default).str.1.toList List.length._f).1.le 9223372036854775807 → (∃ (x_1 : Int), Sp.fiI (Sp.eqS ((rGet l x.1).tail.headD default).str) x.2 x_1 ∧ true = true ∧ ((IntKind.i64 = IntKind.i64 ∧ 0 = x_1) ∧ True) ∧ True) ∧ (∀ (x : Int), true = true ∧ true = true) ∧ ∀ (x_1 : Int), Sp.fiI (Sp.eqS ((rGet l x.1).tail.headD default).str) x.2 x_1 → InR .i64 x_1 ∧ True → True → pLe (iLen x.2) 9223372036854775807 → (bLt x_1 (iLen x.2) = true → pIn 0 (iLen x.2) x_1 ∧ ((List.brecOn.go ((rGet x.snd x_1).headD default).str.1.toList List.length._f).1.le 9223372036854775807 → (sSame ((rGet x.2 x_1).headD default).str ((rGet l x.1).tail.headD default).str = true → InR .i64 (iAdd x.1 1) ∧ (true = true ∧ (fun z => z = z) [SV.sl [.int .i64, .str, .int .i64, .bool, .int .u64] l, SV.nils]) ∧ [HB.gone] = [HB.gone] ∧ ∃ (y : Int × List (List C)), Sp.clI Sp.b3 l y.1 y.2 ∧ true = true ∧ ((0 = 0 ∧ 0 + 1 = 0 + 1) ∧ (IntKind.i64 = IntKind.i64 ∧ iAdd x.1 1 = y.1) ∧ True) ∧ (([Sh.str] = [Sh.str] ∧ 9 = 9 ∧ 0 + 1 = 0 + 1 ∧ x.2 = y.2) ∧ True) ∧ l.length - y.1.toNat < l.length - x.1.toNat) ∧ (sSame ((rGet x.2 x_1).headD default).str ((rGet l x.1).tail.headD default).str = false → InR .i64 (iAdd x_1 1) ∧ (true = true ∧ (fun z => z = z) [SV.own 0 (0 + 1), SV.str ((rGet l x.1).tail.headD default).str]) ∧ [HB.row [.str] 9 (0 + 1) x.2] = [HB.row [.str] 9 (0 + 1) x.2] ∧ ∃ (y : Int), Sp.fiI (Sp.eqS ((rGet l x.1).tail.headD default).str) x.2 y ∧ true = true ∧ ((IntKind.i64 = IntKind.i64 ∧ iAdd x_1 1 = y) ∧ True) ∧ True ∧ x.2.length - y.toNat < x.2.length - x_1.toNat))) ∧ (bLt x_1 (iLen x.2) = false → pRoom 16 (iLen (x.2 ++ [[C.s ((rGet l x.1).tail.headD default).str]])) ∧ InR .i64 (iAdd x.1 1) ∧ (true = true ∧ (fun z => z = z) [SV.sl [.int .i64, .str, .int .i64, .bool, .int .u64] l, SV.nils]) ∧ [HB.gone] = [HB.gone] ∧ ∃ (y : Int × List (List C)), Sp.clI Sp.b3 l y.1 y.2 ∧ true = true ∧ ((0 = 0 ∧ 0 + 1 = 0 + 1) ∧ (IntKind.i64 = IntKind.i64 ∧ iAdd x.1 1 = y.1) ∧ True) ∧ (([Sh.str] = [Sh.str] ∧ 9 = 9 ∧ 0 + 1 = 0 + 1 ∧ x.2 ++ [[C.s ((rGet l x.1).tail.headD default).str]] = y.2) ∧ True) ∧ l.length - y.1.toNat < l.length - x.1.toNat))) ∧ (((rGet l x.1).tail.tail.tail.headD default).bool = false → InR .i64 (iAdd x.1 1) ∧ (true = true ∧ (fun z => z = z) [SV.sl [.int .i64, .str, .int .i64, .bool, .int .u64] l, SV.nils]) ∧ [HB.gone] = [HB.gone] ∧ ∃ (y : Int × List (List C)), Sp.clI Sp.b3 l y.1 y.2 ∧ true = true ∧ ((0 = 0 ∧ 0 + 1 = 0 + 1) ∧ (IntKind.i64 = IntKind.i64 ∧ iAdd x.1 1 = y.1) ∧ True) ∧ (([Sh.str] = [Sh.str] ∧ 9 = 9 ∧ 0 + 1 = 0 + 1 ∧ x.2 = y.2) ∧ True) ∧ l.length - y.1.toNat < l.length - x.1.toNat))) ∧ (bLt x.1 (iLen l) = false → (x.2 = Sp.rls l ∧ True) ∧ True)) := by kernel_rfl
theorem v20 (l : List (List C)) : Holds (Wfs [.sl [.int .i64, .str, .int .i64, .bool, .int .u64] l] → pLe (l.length : Int) 1000000 ∧ True → B20 l) := by
  refine ⟨fun hw hp => ?_⟩
  rw [e20]
  unfold WL
  simp only [Wfs, Wf, InR, and_true] at hw
  have hm : maxLen = 9223372036854775807 := rfl
  simp only [hm] at hw
  simp only [iAdd, iSub, iMul, iLen, iSize, bLt, bLe, bEq, bNe, bNot, bSame, bDiff, sSame, sDiff, bIf, bAnd, InR, pLe, pIn, pRoom, eq_self, true_and, and_true, true_implies, implies_true, decide_eq_true_eq, decide_eq_false_iff_not, Bool.not_eq_true', Bool.not_eq_false', Bool.true_eq_false, Bool.false_eq_true, false_implies]
  have hp := hp.1
  simp only [pLe] at hp
  refine ⟨⟨(0, []), Sp.clI_init, rfl, rfl⟩, ?_⟩
  rintro ⟨z, out⟩ hx _ _ hL
  simp only at hx ⊢
  have h0 := hx.1
  have hol := hx.2.2.1
  refine ⟨fun hlt => ⟨⟨h0, hlt⟩, ?_⟩, fun hge => Sp.cl_end hx hge⟩
  have add : Sp.b3 (rGet l z) = true → Sp.hasS out (Sp.s1 (rGet l z)) = false → ((out ++ [[C.s ((rGet l z).tail.headD default).str]]).length : Int) * ((16 : Nat) : Int) ≤ 140737488355328 ∧ (-9223372036854775808 ≤ z + 1 ∧ z + 1 ≤ 9223372036854775807) ∧ ∃ y : Int × List (List C), Sp.clI Sp.b3 l y.fst y.snd ∧ z + 1 = y.fst ∧ out ++ [[C.s ((rGet l z).tail.headD default).str]] = y.snd ∧ l.length - y.fst.toNat < l.length - z.toNat := fun hf hh => ⟨by simp only [List.length_append, List.length_singleton]; omega, by omega, (z + 1, _), Sp.cl_add hx hlt hf hh, rfl, rfl, by simp only; omega⟩
  have same : Sp.clI Sp.b3 l (z + 1) out → (-9223372036854775808 ≤ z + 1 ∧ z + 1 ≤ 9223372036854775807) ∧ ∃ y : Int × List (List C), Sp.clI Sp.b3 l y.fst y.snd ∧ z + 1 = y.fst ∧ out = y.snd ∧ l.length - y.fst.toNat < l.length - z.toNat := fun h => ⟨by omega, (z + 1, out), h, rfl, rfl, by simp only; omega⟩
  exact ⟨(fun hf => ⟨⟨h0, hlt⟩, fun _ => ⟨⟨0, Sp.fiI_init _ _, rfl⟩, fun w hw _ _ => ⟨fun hl => ⟨⟨hw.1, hl⟩, fun _ => ⟨fun he => same (Sp.cl_has hx hlt hf (Sp.hs_hit hw hl he)), fun he => ⟨by have := hw.1; omega, w + 1, Sp.fiI_next hw hl (by rw [Sp.eqS_sym]; exact he), rfl, by have := hw.1; omega⟩⟩⟩, fun hl => add hf (Sp.hs_miss hw hl)⟩⟩⟩), fun hf => same (Sp.cl_skip hx hlt hf)⟩
theorem s20 : SoundCt Go.Proofs.Try.prog 20 ct20 :=
  contractH followsMixed (look_sound (show Tb Go.Proofs.Try.prog tb20 from trivial)) (fun _ => false) (fun a => A20 ((cel 0 (arg 0 a)).list)) 6 20 ct20 rfl (by simp [ct20]) fun a => Eq.mp (by kernel_rfl) (v20 ((cel 0 (arg 0 a)).list))
end Go.Sx

