/- Contracts and conditions, continued. -/
import Derived.Test.YtbobgakeaoigeaaSxUse
import Derived.Test.YtbobgakeaoigeaaC22d
import Derived.KernelRfl
set_option linter.unusedVariables false
set_option linter.unusedSimpArgs false
set_option maxRecDepth 100000
set_option maxHeartbeats 4000000

namespace Go
open Go.Sx
def Sp.ordE (ns ls : List (List C)) : List (List C) := bif Sp.vld ns ls then Sp.ord ns ls else []
def Sp.vE (ns ls : List (List C)) : Int := bif Sp.vld ns ls then 0 else 1
def Sp.inp (ls : List (List C)) (id : Int) : List (List C) := (ls.filter (fun l => decide (Sp.c2 l = id))).map Sp.r4
def Sp.inpE (ns ls : List (List C)) (id : Int) : List (List C) := bif Sp.vld ns ls then Sp.inp ls id else []
def Sp.inI (ls : List (List C)) (id i : Int) (out : List (List C)) : Prop := 0 ≤ i ∧ i ≤ (ls.length : Int) ∧ out = Sp.inp (ls.take i.toNat) id
def Sp.eqI (xs ys : List (List C)) (k : Int) : Bool := decide (Sp.c0 (rGet xs k) = Sp.c0 (rGet ys k))
def Sp.eq4 (xs ys : List (List C)) (k : Int) : Bool := decide (Sp.c0 (rGet xs k) = Sp.c0 (rGet ys k) ∧ Sp.c1 (rGet xs k) = Sp.c1 (rGet ys k) ∧ Sp.c2 (rGet xs k) = Sp.c2 (rGet ys k) ∧ Sp.c3 (rGet xs k) = Sp.c3 (rGet ys k))
def Sp.ints (xs ys : List (List C)) : Bool := decide (xs.length = ys.length) && Sp.allI (Sp.eqI xs ys) xs.length
def Sp.sameG (na la nb lb : List (List C)) : Bool := decide (na.length = nb.length) && Sp.allI (Sp.eq4 na nb) na.length && (decide (la.length = lb.length) && Sp.allI (Sp.eq4 la lb) la.length)
def Sp.sm4 (xs ys : List (List C)) : Bool := decide (xs.length = ys.length) && Sp.allI (Sp.eq4 xs ys) xs.length
end Go

namespace Go
open Go.Sx
theorem Sp.inI_init {ls : List (List C)} {id : Int} : Sp.inI ls id 0 [] := ⟨by omega, by omega, by simp [Sp.inp]⟩
theorem Sp.inI_yes {ls out : List (List C)} {id i : Int} (h : Sp.inI ls id i out) (hi : i < (ls.length : Int)) (hc : Sp.c2 (rGet ls i) = id) : Sp.inI ls id (i + 1) (out ++ [Sp.r4 (rGet ls i)]) := by
  obtain ⟨h0, h1, h2⟩ := h
  refine ⟨by omega, by omega, ?_⟩
  rw [h2, Sp.take_succ h0 hi]
  generalize rGet ls i = x at *
  simp [Sp.inp, List.filter_append, hc]
theorem Sp.inI_no {ls out : List (List C)} {id i : Int} (h : Sp.inI ls id i out) (hi : i < (ls.length : Int)) (hc : ¬ Sp.c2 (rGet ls i) = id) : Sp.inI ls id (i + 1) out := by
  obtain ⟨h0, h1, h2⟩ := h
  refine ⟨by omega, by omega, ?_⟩
  rw [h2, Sp.take_succ h0 hi]
  generalize rGet ls i = x at *
  simp [Sp.inp, List.filter_append, hc]
theorem Sp.inI_end {ls out : List (List C)} {id i : Int} (h : Sp.inI ls id i out) (hi : ¬ i < (ls.length : Int)) : out = Sp.inp ls id := by
  obtain ⟨h0, h1, h2⟩ := h
  rw [h2, List.take_of_length_le (by omega)]
theorem Sp.inI_len {ls out : List (List C)} {id i : Int} (h : Sp.inI ls id i out) : (out.length : Int) ≤ i := by
  obtain ⟨h0, h1, h2⟩ := h
  rw [h2]
  unfold Sp.inp
  rw [List.length_map]
  have := List.length_filter_le (fun l => decide (Sp.c2 l = id)) (ls.take i.toNat)
  rw [List.length_take] at this
  omega
theorem Sp.vld_small {ns ls : List (List C)} (h : Sp.vld ns ls = true) : ns.length ≤ 64 ∧ ls.length ≤ 256 := by
  unfold Sp.vld at h
  simp only [Bool.and_eq_true, decide_eq_true_eq] at h
  exact h.1.1.1
theorem Sp.vld_nok {ns ls : List (List C)} (h : Sp.vld ns ls = true) : Sp.allI (Sp.nokI ns) ns.length = true := by
  unfold Sp.vld at h
  simp only [Bool.and_eq_true, decide_eq_true_eq] at h
  exact h.1.1.2
theorem Sp.ordF_len {ns ls : List (List C)} : ∀ (n : Nat) (out : List (List C)), (Sp.ordF ns ls n out).length ≤ out.length + n
  | 0, out => by simp [Sp.ordF]
  | n + 1, out => by
    simp only [Sp.ordF]
    cases decide (Sp.idx (Sp.rdy ls out) ns 0 < 0)
    · simp only [cond_false]
      have := Sp.ordF_len (ns := ns) (ls := ls) n (out ++ [[.i (Sp.c0 (rGet ns (Sp.idx (Sp.rdy ls out) ns 0)))]])
      simp only [List.length_append, List.length_singleton] at this
      omega
    · simp only [cond_true]; omega
end Go

namespace Go.Sx
/-! ### function 12: graph.Order -/
def ct12 : Ct := { ps := [(true, [.sl [.int .i64, .int .i64, .int .i64, .int .i64], .sl [.int .i64, .int .i64, .int .i64, .int .i64]])], rs := [(false, [.sl [.int .i64]]), (false, [.int .i64])], pre := fun _ => True, out := fun a => [[.l (Sp.ordE (cel 0 (arg 0 a)).list (cel 1 (arg 0 a)).list)], [.i (Sp.vE (cel 0 (arg 0 a)).list (cel 1 (arg 0 a)).list)]] }
def tb12 : List (Nat × Ct) := [(14, ct14), (37, ct37)]
def A12  : FuncId → Nat → LoopAnn := fun _ _ => LoopAnn.unroll 200
abbrev B12 (ns : List (List C)) (ls : List (List C)) : Prop := vcF Go.Proofs.Try.prog (look tb12) (fun _ => false) (A12) 6 12 [.agg [.sl [.int .i64, .int .i64, .int .i64, .int .i64] ns, .sl [.int .i64, .int .i64, .int .i64, .int .i64] ls]] [] (fun sv heap => Gives [(false, [.sl [.int .i64]]), (false, [.int .i64])] [[.l (Sp.ordE ns ls)], [.i (Sp.vE ns ls)]] sv heap)
theorem e12 (ns : List (List C)) (ls : List (List C)) : B12 ns ls = (True ∧ (True → True ∧ (bNot (Sp.vld ns ls) = true → ([] = Sp.ordE ns ls ∧ True) ∧ (1 = Sp.vE ns ls ∧ True) ∧ True) ∧ (bNot (Sp.vld ns ls) = false → (pLe (↑ns.length) 1000000 ∧ True) ∧ (((Sp.ord ns ls).length ≤ 9223372036854775807 ∧ ∀ (x : List C), x ∈ Sp.ord ns ls → WfCs [.int .i64] x) → (Sp.ord ns ls = Sp.ordE ns ls ∧ True) ∧ (0 = Sp.vE ns ls ∧ True) ∧ True)))) := by kernel_rfl
theorem v12 (ns : List (List C)) (ls : List (List C)) : Holds (Wfs [.agg [.sl [.int .i64, .int .i64, .int .i64, .int .i64] ns, .sl [.int .i64, .int .i64, .int .i64, .int .i64] ls]] → True → B12 ns ls) := by
  refine ⟨fun hw hp => ?_⟩
  rw [e12]
  simp only [Wfs, Wf, InR, and_true] at hw
  simp only [eq_self, true_and, and_true, true_implies, implies_true, iAdd, iSub, iMul, iLen, bEq, bNe, bLt, bLe, bNot, pIn, pLe, pNe, InR, decide_eq_true_eq, decide_eq_false_iff_not, Bool.not_eq_true', Bool.not_eq_false', decide_eq_decide]
  unfold Sp.ordE Sp.vE
  refine ⟨fun h => ?_, fun h => ?_⟩
  · rw [h]; exact ⟨rfl, rfl⟩
  · have h1 := Sp.vld_small h
    rw [h]
    first
      | exact ⟨by omega, fun _ => ⟨rfl, rfl⟩⟩
      | exact ⟨⟨Sp.nok_fine (Sp.vld_nok h), by omega⟩, fun _ => ⟨rfl, rfl⟩⟩
theorem s12 : SoundCt Go.Proofs.Try.prog 12 ct12 :=
  contractH followsMixed (look_sound (show Tb Go.Proofs.Try.prog tb12 from ⟨s14, ⟨s37, trivial⟩⟩)) (fun _ => false) (fun _ => A12) 6 12 ct12 rfl (by simp [ct12]) fun a => Eq.mp (by kernel_rfl) (v12 ((cel 0 (arg 0 a)).list) ((cel 1 (arg 0 a)).list))
end Go.Sx

namespace Go.Sx
/-! ### function 13: ref22.Order -/
def ct13 : Ct := { ps := [(true, [.sl [.int .i64, .int .i64, .int .i64, .int .i64], .sl [.int .i64, .int .i64, .int .i64, .int .i64]])], rs := [(false, [.sl [.int .i64]]), (false, [.int .i64])], pre := fun _ => True, out := fun a => [[.l (Sp.ordE (cel 0 (arg 0 a)).list (cel 1 (arg 0 a)).list)], [.i (Sp.vE (cel 0 (arg 0 a)).list (cel 1 (arg 0 a)).list)]] }
def tb13 : List (Nat × Ct) := [(15, ct15), (38, ct38)]
def A13  : FuncId → Nat → LoopAnn := fun _ _ => LoopAnn.unroll 200
abbrev B13 (ns : List (List C)) (ls : List (List C)) : Prop := vcF Go.Proofs.Try.prog (look tb13) (fun _ => false) (A13) 6 13 [.agg [.sl [.int .i64, .int .i64, .int .i64, .int .i64] ns, .sl [.int .i64, .int .i64, .int .i64, .int .i64] ls]] [] (fun sv heap => Gives [(false, [.sl [.int .i64]]), (false, [.int .i64])] [[.l (Sp.ordE ns ls)], [.i (Sp.vE ns ls)]] sv heap)
theorem e13 (ns : List (List C)) (ls : List (List C)) : B13 ns ls = (True ∧ (True → True ∧ (bNot (Sp.vld ns ls) = true → ([] = Sp.ordE ns ls ∧ True) ∧ (1 = Sp.vE ns ls ∧ True) ∧ True) ∧ (bNot (Sp.vld ns ls) = false → ((∀ (x : List C), x ∈ ns → 1 ≤ Sp.c0 x) ∧ pLe (↑ns.length) 1000000) ∧ (((Sp.ord ns ls).length ≤ 9223372036854775807 ∧ ∀ (x : List C), x ∈ Sp.ord ns ls → WfCs [.int .i64] x) → (Sp.ord ns ls = Sp.ordE ns ls ∧ True) ∧ (0 = Sp.vE ns ls ∧ True) ∧ True)))) := by kernel_rfl
theorem v13 (ns : List (List C)) (ls : List (List C)) : Holds (Wfs [.agg [.sl [.int .i64, .int .i64, .int .i64, .int .i64] ns, .sl [.int .i64, .int .i64, .int .i64, .int .i64] ls]] → True → B13 ns ls) := by
  refine ⟨fun hw hp => ?_⟩
  rw [e13]
  simp only [Wfs, Wf, InR, and_true] at hw
  simp only [eq_self, true_and, and_true, true_implies, implies_true, iAdd, iSub, iMul, iLen, bEq, bNe, bLt, bLe, bNot, pIn, pLe, pNe, InR, decide_eq_true_eq, decide_eq_false_iff_not, Bool.not_eq_true', Bool.not_eq_false', decide_eq_decide]
  unfold Sp.ordE Sp.vE
  refine ⟨fun h => ?_, fun h => ?_⟩
  · rw [h]; exact ⟨rfl, rfl⟩
  · have h1 := Sp.vld_small h
    rw [h]
    first
      | exact ⟨by omega, fun _ => ⟨rfl, rfl⟩⟩
      | exact ⟨⟨Sp.nok_fine (Sp.vld_nok h), by omega⟩, fun _ => ⟨rfl, rfl⟩⟩
theorem s13 : SoundCt Go.Proofs.Try.prog 13 ct13 :=
  contractH followsMixed (look_sound (show Tb Go.Proofs.Try.prog tb13 from ⟨s15, ⟨s38, trivial⟩⟩)) (fun _ => false) (fun _ => A13) 6 13 ct13 rfl (by simp [ct13]) fun a => Eq.mp (by kernel_rfl) (v13 ((cel 0 (arg 0 a)).list) ((cel 1 (arg 0 a)).list))
end Go.Sx

namespace Go.Sx
/-! ### function 20: graph.Inputs -/
def ct20 : Ct := { ps := [(true, [.sl [.int .i64, .int .i64, .int .i64, .int .i64], .sl [.int .i64, .int .i64, .int .i64, .int .i64]]), (false, [.int .i64])], rs := [(false, [.sl [.int .i64, .int .i64, .int .i64, .int .i64]])], pre := fun _ => True, out := fun a => [[.l (Sp.inpE (cel 0 (arg 0 a)).list (cel 1 (arg 0 a)).list (cel 0 (arg 1 a)).int)]] }
def tb20 : List (Nat × Ct) := [(14, ct14)]
def A20 (ls : List (List C)) (id : Int) : FuncId → Nat → LoopAnn := fun _ ii => bif Nat.beq ii 4 then .ghost 5 [.int .i64, .int .i64, .int .i64, .int .i64] 45 (.on (fun sv0 => match sv0.tmps.getD 5 .undef with | .own rr _ => .inv (Int × List (List C)) (fun z => Sp.inI ls id z.1 z.2) (fun z => [(5, .own rr 0), (13, .int .i64 z.1)]) (fun z => [(rr, .row [.int .i64, .int .i64, .int .i64, .int .i64] 45 0 (z.2))]) [rr] [0, 1, 2, 4, 5, 7, 9, 11, 12, 13, 14, 20] (fun z => ls.length - z.1.toNat) | _ => .unroll 0)) else .unroll 0
abbrev B20 (ns : List (List C)) (ls : List (List C)) (id : Int) : Prop := vcF Go.Proofs.Try.prog (look tb20) (fun _ => false) (A20 ls id) 6 20 [.agg [.sl [.int .i64, .int .i64, .int .i64, .int .i64] ns, .sl [.int .i64, .int .i64, .int .i64, .int .i64] ls], .int .i64 id] [] (fun sv heap => Gives [(false, [.sl [.int .i64, .int .i64, .int .i64, .int .i64]])] [[.l (Sp.inpE ns ls id)]] sv heap)
def h20_0 : List (List C) → List (List C) → Int → List SV := fun (ns ls : List (List C)) (id : Int) => [SV.agg [SV.sl [.int .i64, .int .i64, .int .i64, .int .i64] ns, SV.sl [.int .i64, .int .i64, .int .i64, .int .i64] ls], SV.int .i64 id, SV.ref 0 0, SV.nils, SV.blit true, SV.sl [.int .i64, .int .i64, .int .i64, .int .i64] ls, SV.int .i64 (iLen ls)]
theorem e20 (ns : List (List C)) (ls : List (List C)) (id : Int) : B20 ns ls id = (True ∧ (True → (Sp.vld ns ls = true → pLe (iLen ls) 9223372036854775807 → (∃ (x : Int × List (List C)), Sp.inI ls id x.1 x.2 ∧ true = true ∧ ((1 = 1 ∧ 0 + 1 = 0 + 1) ∧ (IntKind.i64 = IntKind.i64 ∧ 0 = x.1) ∧ True) ∧ ([Sh.int .i64, Sh.int .i64, Sh.int .i64, Sh.int .i64] = [Sh.int .i64, Sh.int .i64, Sh.int .i64, Sh.int .i64] ∧ 45 = 45 ∧ 0 + 1 = 0 + 1 ∧ [] = x.2) ∧ True) ∧ (∀ (x : Int × List (List C)), true = true ∧ true = true) ∧ ∀ (x : Int × List (List C)), Sp.inI ls id x.1 x.2 → True ∧ InR .i64 x.1 ∧ True → (x.2.length ≤ 9223372036854775807 ∧ ∀ (x_1 : List C), x_1 ∈ x.2 → WfCs [.int .i64, .int .i64, .int .i64, .int .i64] x_1) ∧ True → (bLt x.1 (iLen ls) = true → pIn 0 (iLen ls) x.1 ∧ (InR .i64 ((rGet ls x.1).headD default).int ∧ InR .i64 ((rGet ls x.1).tail.headD default).int ∧ InR .i64 ((rGet ls x.1).tail.tail.headD default).int ∧ InR .i64 ((rGet ls x.1).tail.tail.tail.headD default).int ∧ True → (bEq ((rGet ls x.1).tail.tail.headD default).int id = true → pRoom 32 (iLen (x.2 ++ [[C.i ((rGet ls x.1).headD default).int, C.i ((rGet ls x.1).tail.headD default).int, C.i ((rGet ls x.1).tail.tail.headD default).int, C.i ((rGet ls x.1).tail.tail.tail.headD default).int]])) ∧ InR .i64 (iAdd x.1 1) ∧ (true = true ∧ h20_0 ns ls id = h20_0 ns ls id) ∧ (fun z => z = z) [HB.box [SV.sl [.int .i64, .int .i64, .int .i64, .int .i64] ns, SV.sl [.int .i64, .int .i64, .int .i64, .int .i64] ls] 25, HB.gone] ∧ ∃ (y : Int × List (List C)), Sp.inI ls id y.1 y.2 ∧ true = true ∧ ((1 = 1 ∧ 0 + 1 = 0 + 1) ∧ (IntKind.i64 = IntKind.i64 ∧ iAdd x.1 1 = y.1) ∧ True) ∧ (([Sh.int .i64] ++ ([Sh.int .i64] ++ ([Sh.int .i64] ++ ([Sh.int .i64] ++ []))) = [Sh.int .i64, Sh.int .i64, Sh.int .i64, Sh.int .i64] ∧ 45 = 45 ∧ 0 + 1 = 0 + 1 ∧ x.2 ++ [[C.i ((rGet ls x.1).headD default).int, C.i ((rGet ls x.1).tail.headD default).int, C.i ((rGet ls x.1).tail.tail.headD default).int, C.i ((rGet ls x.1).tail.tail.tail.headD default).int]] = y.2) ∧ True) ∧ ls.length - y.1.toNat < ls.length - x.1.toNat) ∧ (bEq ((rGet ls x.1).tail.tail.headD default).int id = false → InR .i64 (iAdd x.1 1) ∧ (true = true ∧ h20_0 ns ls id = h20_0 ns ls id) ∧ (fun z => z = z) [HB.box [SV.sl [.int .i64, .int .i64, .int .i64, .int .i64] ns, SV.sl [.int .i64, .int .i64, .int .i64, .int .i64] ls] 25, HB.gone] ∧ ∃ (y : Int × List (List C)), Sp.inI ls id y.1 y.2 ∧ true = true ∧ ((1 = 1 ∧ 0 + 1 = 0 + 1) ∧ (IntKind.i64 = IntKind.i64 ∧ iAdd x.1 1 = y.1) ∧ True) ∧ (([Sh.int .i64, Sh.int .i64, Sh.int .i64, Sh.int .i64] = [Sh.int .i64, Sh.int .i64, Sh.int .i64, Sh.int .i64] ∧ 45 = 45 ∧ 0 + 1 = 0 + 1 ∧ x.2 = y.2) ∧ True) ∧ ls.length - y.1.toNat < ls.length - x.1.toNat))) ∧ (bLt x.1 (iLen ls) = false → (x.2 = Sp.inpE ns ls id ∧ True) ∧ True)) ∧ (Sp.vld ns ls = false → ([] = Sp.inpE ns ls id ∧ True) ∧ True))) := by kernel_rfl
theorem v20 (ns : List (List C)) (ls : List (List C)) (id : Int) : Holds (Wfs [.agg [.sl [.int .i64, .int .i64, .int .i64, .int .i64] ns, .sl [.int .i64, .int .i64, .int .i64, .int .i64] ls], .int .i64 id] → True → B20 ns ls id) := by
  refine ⟨fun hw hp => ?_⟩
  rw [e20]
  simp only [Wfs, Wf, InR, and_true] at hw
  simp only [eq_self, true_and, and_true, true_implies, implies_true, iAdd, iSub, iMul, iLen, bEq, bNe, bLt, bLe, bNot, pIn, pLe, pNe, InR, decide_eq_true_eq, decide_eq_false_iff_not, Bool.not_eq_true', Bool.not_eq_false', decide_eq_decide]
  have E0 : Sp.vld ns ls = false → [] = Sp.inpE ns ls id := fun h => by unfold Sp.inpE; rw [h]; rfl
  have main : Sp.vld ns ls = true → ∀ (i : Int) (out : List (List C)), Sp.inI ls id i out → ¬ i < (ls.length : Int) → out = Sp.inpE ns ls id := fun h i out hx hi => by
    unfold Sp.inpE; rw [h]; exact Sp.inI_end hx hi
  refine ⟨fun h hll => ?_, E0⟩
  · have h256 := (Sp.vld_small h).2
    refine ⟨⟨(0, []), Sp.inI_init, rfl, rfl⟩, ?_⟩
    rintro ⟨i, out⟩ hx hx1 _
    simp only at hx hx1 ⊢
    have i0 := hx.1
    have ol := Sp.inI_len hx
    refine ⟨fun hlt => ⟨⟨i0, hlt⟩, fun _ => ⟨fun hc => ⟨by simp only [pRoom, List.length_append, List.length_singleton]; omega, by omega, (i + 1, _), Sp.inI_yes hx hlt hc, rfl, ⟨rfl, rfl⟩, by simp only; omega⟩, fun hc => ⟨by omega, (i + 1, out), Sp.inI_no hx hlt hc, rfl, rfl, by simp only; omega⟩⟩⟩, fun hge => main h i out hx hge⟩
theorem s20 : SoundCt Go.Proofs.Try.prog 20 ct20 :=
  contractH followsMixed (look_sound (show Tb Go.Proofs.Try.prog tb20 from ⟨s14, trivial⟩)) (fun _ => false) (fun a => A20 ((cel 1 (arg 0 a)).list) ((cel 0 (arg 1 a)).int)) 6 20 ct20 rfl (by simp [ct20]) fun a => Eq.mp (by kernel_rfl) (v20 ((cel 0 (arg 0 a)).list) ((cel 1 (arg 0 a)).list) ((cel 0 (arg 1 a)).int))
end Go.Sx

namespace Go.Sx
/-! ### function 21: ref22.Inputs -/
def ct21 : Ct := { ps := [(true, [.sl [.int .i64, .int .i64, .int .i64, .int .i64], .sl [.int .i64, .int .i64, .int .i64, .int .i64]]), (false, [.int .i64])], rs := [(false, [.sl [.int .i64, .int .i64, .int .i64, .int .i64]])], pre := fun _ => True, out := fun a => [[.l (Sp.inpE (cel 0 (arg 0 a)).list (cel 1 (arg 0 a)).list (cel 0 (arg 1 a)).int)]] }
def tb21 : List (Nat × Ct) := [(15, ct15)]
def A21 (ls : List (List C)) (id : Int) : FuncId → Nat → LoopAnn := fun _ ii => bif Nat.beq ii 5 then .ghost 5 [.int .i64, .int .i64, .int .i64, .int .i64] 45 (.on (fun sv0 => match sv0.tmps.getD 5 .undef with | .own rr _ => .inv (Int × List (List C)) (fun z => Sp.inI ls id z.1 z.2) (fun z => [(5, .own rr 0), (14, .int .i64 z.1)]) (fun z => [(rr, .row [.int .i64, .int .i64, .int .i64, .int .i64] 45 0 (z.2))]) [rr] [0, 1, 2, 4, 5, 7, 10, 12, 13, 14, 15, 21] (fun z => ls.length - z.1.toNat) | _ => .unroll 0)) else .unroll 0
abbrev B21 (ns : List (List C)) (ls : List (List C)) (id : Int) : Prop := vcF Go.Proofs.Try.prog (look tb21) (fun _ => false) (A21 ls id) 6 21 [.agg [.sl [.int .i64, .int .i64, .int .i64, .int .i64] ns, .sl [.int .i64, .int .i64, .int .i64, .int .i64] ls], .int .i64 id] [] (fun sv heap => Gives [(false, [.sl [.int .i64, .int .i64, .int .i64, .int .i64]])] [[.l (Sp.inpE ns ls id)]] sv heap)
def h21_0 : List (List C) → List (List C) → Int → List SV := fun (ns ls : List (List C)) (id : Int) => [SV.agg [SV.sl [.int .i64, .int .i64, .int .i64, .int .i64] ns, SV.sl [.int .i64, .int .i64, .int .i64, .int .i64] ls], SV.int .i64 id, SV.ref 0 0, SV.nils, SV.blit false, SV.sl [.int .i64, .int .i64, .int .i64, .int .i64] ls, SV.int .i64 (iLen ls)]
theorem e21 (ns : List (List C)) (ls : List (List C)) (id : Int) : B21 ns ls id = (True ∧ (True → True ∧ (bNot (Sp.vld ns ls) = true → ([] = Sp.inpE ns ls id ∧ True) ∧ True) ∧ (bNot (Sp.vld ns ls) = false → pLe (iLen ls) 9223372036854775807 → (∃ (x : Int × List (List C)), Sp.inI ls id x.1 x.2 ∧ true = true ∧ ((1 = 1 ∧ 0 + 1 = 0 + 1) ∧ (IntKind.i64 = IntKind.i64 ∧ 0 = x.1) ∧ True) ∧ ([Sh.int .i64, Sh.int .i64, Sh.int .i64, Sh.int .i64] = [Sh.int .i64, Sh.int .i64, Sh.int .i64, Sh.int .i64] ∧ 45 = 45 ∧ 0 + 1 = 0 + 1 ∧ [] = x.2) ∧ True) ∧ (∀ (x : Int × List (List C)), true = true ∧ true = true) ∧ ∀ (x : Int × List (List C)), Sp.inI ls id x.1 x.2 → True ∧ InR .i64 x.1 ∧ True → (x.2.length ≤ 9223372036854775807 ∧ ∀ (x_1 : List C), x_1 ∈ x.2 → WfCs [.int .i64, .int .i64, .int .i64, .int .i64] x_1) ∧ True → (bLt x.1 (iLen ls) = true → pIn 0 (iLen ls) x.1 ∧ (InR .i64 ((rGet ls x.1).headD default).int ∧ InR .i64 ((rGet ls x.1).tail.headD default).int ∧ InR .i64 ((rGet ls x.1).tail.tail.headD default).int ∧ InR .i64 ((rGet ls x.1).tail.tail.tail.headD default).int ∧ True → (bEq ((rGet ls x.1).tail.tail.headD default).int id = true → pRoom 32 (iLen (x.2 ++ [[C.i ((rGet ls x.1).headD default).int, C.i ((rGet ls x.1).tail.headD default).int, C.i ((rGet ls x.1).tail.tail.headD default).int, C.i ((rGet ls x.1).tail.tail.tail.headD default).int]])) ∧ InR .i64 (iAdd x.1 1) ∧ (true = true ∧ h21_0 ns ls id = h21_0 ns ls id) ∧ (fun z => z = z) [HB.box [SV.sl [.int .i64, .int .i64, .int .i64, .int .i64] ns, SV.sl [.int .i64, .int .i64, .int .i64, .int .i64] ls] 25, HB.gone] ∧ ∃ (y : Int × List (List C)), Sp.inI ls id y.1 y.2 ∧ true = true ∧ ((1 = 1 ∧ 0 + 1 = 0 + 1) ∧ (IntKind.i64 = IntKind.i64 ∧ iAdd x.1 1 = y.1) ∧ True) ∧ (([Sh.int .i64] ++ ([Sh.int .i64] ++ ([Sh.int .i64] ++ ([Sh.int .i64] ++ []))) = [Sh.int .i64, Sh.int .i64, Sh.int .i64, Sh.int .i64] ∧ 45 = 45 ∧ 0 + 1 = 0 + 1 ∧ x.2 ++ [[C.i ((rGet ls x.1).headD default).int, C.i ((rGet ls x.1).tail.headD default).int, C.i ((rGet ls x.1).tail.tail.headD default).int, C.i ((rGet ls x.1).tail.tail.tail.headD default).int]] = y.2) ∧ True) ∧ ls.length - y.1.toNat < ls.length - x.1.toNat) ∧ (bEq ((rGet ls x.1).tail.tail.headD default).int id = false → InR .i64 (iAdd x.1 1) ∧ (true = true ∧ h21_0 ns ls id = h21_0 ns ls id) ∧ (fun z => z = z) [HB.box [SV.sl [.int .i64, .int .i64, .int .i64, .int .i64] ns, SV.sl [.int .i64, .int .i64, .int .i64, .int .i64] ls] 25, HB.gone] ∧ ∃ (y : Int × List (List C)), Sp.inI ls id y.1 y.2 ∧ true = true ∧ ((1 = 1 ∧ 0 + 1 = 0 + 1) ∧ (IntKind.i64 = IntKind.i64 ∧ iAdd x.1 1 = y.1) ∧ True) ∧ (([Sh.int .i64, Sh.int .i64, Sh.int .i64, Sh.int .i64] = [Sh.int .i64, Sh.int .i64, Sh.int .i64, Sh.int .i64] ∧ 45 = 45 ∧ 0 + 1 = 0 + 1 ∧ x.2 = y.2) ∧ True) ∧ ls.length - y.1.toNat < ls.length - x.1.toNat))) ∧ (bLt x.1 (iLen ls) = false → (x.2 = Sp.inpE ns ls id ∧ True) ∧ True)))) := by kernel_rfl
theorem v21 (ns : List (List C)) (ls : List (List C)) (id : Int) : Holds (Wfs [.agg [.sl [.int .i64, .int .i64, .int .i64, .int .i64] ns, .sl [.int .i64, .int .i64, .int .i64, .int .i64] ls], .int .i64 id] → True → B21 ns ls id) := by
  refine ⟨fun hw hp => ?_⟩
  rw [e21]
  simp only [Wfs, Wf, InR, and_true] at hw
  simp only [eq_self, true_and, and_true, true_implies, implies_true, iAdd, iSub, iMul, iLen, bEq, bNe, bLt, bLe, bNot, pIn, pLe, pNe, InR, decide_eq_true_eq, decide_eq_false_iff_not, Bool.not_eq_true', Bool.not_eq_false', decide_eq_decide]
  have E0 : Sp.vld ns ls = false → [] = Sp.inpE ns ls id := fun h => by unfold Sp.inpE; rw [h]; rfl
  have main : Sp.vld ns ls = true → ∀ (i : Int) (out : List (List C)), Sp.inI ls id i out → ¬ i < (ls.length : Int) → out = Sp.inpE ns ls id := fun h i out hx hi => by
    unfold Sp.inpE; rw [h]; exact Sp.inI_end hx hi
  refine ⟨E0, fun h hll => ?_⟩
  · have h256 := (Sp.vld_small h).2
    refine ⟨⟨(0, []), Sp.inI_init, rfl, rfl⟩, ?_⟩
    rintro ⟨i, out⟩ hx hx1 _
    simp only at hx hx1 ⊢
    have i0 := hx.1
    have ol := Sp.inI_len hx
    refine ⟨fun hlt => ⟨⟨i0, hlt⟩, fun _ => ⟨fun hc => ⟨by simp only [pRoom, List.length_append, List.length_singleton]; omega, by omega, (i + 1, _), Sp.inI_yes hx hlt hc, rfl, ⟨rfl, rfl⟩, by simp only; omega⟩, fun hc => ⟨by omega, (i + 1, out), Sp.inI_no hx hlt hc, rfl, rfl, by simp only; omega⟩⟩⟩, fun hge => main h i out hx hge⟩
theorem s21 : SoundCt Go.Proofs.Try.prog 21 ct21 :=
  contractH followsMixed (look_sound (show Tb Go.Proofs.Try.prog tb21 from ⟨s15, trivial⟩)) (fun _ => false) (fun a => A21 ((cel 1 (arg 0 a)).list) ((cel 0 (arg 1 a)).int)) 6 21 ct21 rfl (by simp [ct21]) fun a => Eq.mp (by kernel_rfl) (v21 ((cel 0 (arg 0 a)).list) ((cel 1 (arg 0 a)).list) ((cel 0 (arg 1 a)).int))
end Go.Sx

namespace Go.Sx
/-! ### function 16: law22.ints -/
def ct16 : Ct := { ps := [(false, [.sl [.int .i64]]), (false, [.sl [.int .i64]])], rs := [(false, [.bool])], pre := fun _ => True, out := fun a => [[.b (Sp.ints (cel 0 (arg 0 a)).list (cel 0 (arg 1 a)).list)]] }
def tb16 : List (Nat × Ct) := []
def A16 (xs : List (List C)) (ys : List (List C)) : FuncId → Nat → LoopAnn := fun _ ii => bif Nat.beq ii 4 then .inv (Int) (fun z => Sp.aI (Sp.eqI xs ys) xs.length z) (fun z => [(13, .int .i64 z)]) (fun z => []) [] [0, 1, 4, 5, 10, 12, 13, 14, 24] (fun z => xs.length - z.toNat) else .unroll 0
abbrev B16 (xs : List (List C)) (ys : List (List C)) : Prop := vcF Go.Proofs.Try.prog (look tb16) (fun _ => false) (A16 xs ys) 6 16 [.sl [.int .i64] xs, .sl [.int .i64] ys] [] (fun sv heap => Gives [(false, [.bool])] [[.b (Sp.ints xs ys)]] sv heap)
theorem e16 (xs : List (List C)) (ys : List (List C)) : B16 xs ys = (pLe (iLen xs) 9223372036854775807 → pLe (iLen ys) 9223372036854775807 → (bNe (iLen xs) (iLen ys) = true → (false = Sp.ints xs ys ∧ True) ∧ True) ∧ (bNe (iLen xs) (iLen ys) = false → pLe (iLen xs) 9223372036854775807 → (∃ (x : Int), Sp.aI (Sp.eqI xs ys) xs.length x ∧ true = true ∧ ((IntKind.i64 = IntKind.i64 ∧ 0 = x) ∧ True) ∧ True) ∧ (∀ (x : Int), true = true ∧ true = true) ∧ ∀ (x : Int), Sp.aI (Sp.eqI xs ys) xs.length x → InR .i64 x ∧ True → True → (bLt x (iLen xs) = true → pIn 0 (iLen xs) x ∧ (InR .i64 ((rGet xs x).headD default).int → pIn 0 (iLen ys) x ∧ (InR .i64 ((rGet ys x).headD default).int → (bNe ((rGet xs x).headD default).int ((rGet ys x).headD default).int = true → (false = Sp.ints xs ys ∧ True) ∧ True) ∧ (bNe ((rGet xs x).headD default).int ((rGet ys x).headD default).int = false → InR .i64 (iAdd x 1) ∧ (true = true ∧ (fun z => z = z) [SV.sl [.int .i64] xs, SV.sl [.int .i64] ys, SV.blit false, SV.int .i64 (iLen xs)]) ∧ ([] : List HB) = [] ∧ ∃ (y : Int), Sp.aI (Sp.eqI xs ys) xs.length y ∧ true = true ∧ ((IntKind.i64 = IntKind.i64 ∧ iAdd x 1 = y) ∧ True) ∧ True ∧ xs.length - y.toNat < xs.length - x.toNat)))) ∧ (bLt x (iLen xs) = false → (true = Sp.ints xs ys ∧ True) ∧ True))) := by kernel_rfl
theorem v16 (xs : List (List C)) (ys : List (List C)) : Holds (Wfs [.sl [.int .i64] xs, .sl [.int .i64] ys] → True → B16 xs ys) := by
  refine ⟨fun hw hp => ?_⟩
  rw [e16]
  simp only [Wfs, Wf, InR, and_true] at hw
  simp only [eq_self, true_and, and_true, true_implies, implies_true, iAdd, iSub, iMul, iLen, bEq, bNe, bLt, bLe, bNot, pIn, pLe, pNe, InR, decide_eq_true_eq, decide_eq_false_iff_not, Bool.not_eq_true', Bool.not_eq_false', decide_eq_decide]
  intro hl1 hl2
  have L : ¬ xs.length = ys.length → false = Sp.ints xs ys := fun h => by unfold Sp.ints; rw [decide_eq_false h]; rfl
  have F : ∀ x, 0 ≤ x → x < (xs.length : Int) → Sp.eqI xs ys x = false → false = Sp.ints xs ys := fun x x0 hlt h => by unfold Sp.ints; rw [Sp.allI_no x0 hlt h]; simp
  refine ⟨fun h => L (by omega), fun h _ => ⟨⟨0, Sp.aI_init, rfl⟩, fun x hx hx1 => ⟨fun hlt => ⟨⟨hx.1, hlt⟩, ?_⟩, fun hge => ?_⟩⟩⟩
  · have x0 := hx.1
    have S : Sp.eqI xs ys x = true → (-9223372036854775808 ≤ x + 1 ∧ x + 1 ≤ 9223372036854775807) ∧ ∃ y, Sp.aI (Sp.eqI xs ys) xs.length y ∧ x + 1 = y ∧ xs.length - y.toNat < xs.length - x.toNat := fun h => ⟨by omega, x + 1, Sp.aI_step hx hlt h, rfl, by omega⟩
    refine fun _ => ⟨⟨by omega, by omega⟩, fun _ => ⟨fun hn => F x x0 hlt ?_, fun hn => S ?_⟩⟩
    · unfold Sp.eqI; rw [decide_eq_false_iff_not]; simp only [Sp.c0, Sp.c1, Sp.c2, Sp.c3]; first | omega | (simp only [bAnd, Bool.and_eq_true, Bool.and_eq_false_iff, decide_eq_true_eq, decide_eq_false_iff_not] at hn; omega)
    · unfold Sp.eqI; rw [decide_eq_true_eq]; simp only [Sp.c0, Sp.c1, Sp.c2, Sp.c3]; first | omega | (simp only [bAnd, Bool.and_eq_true, Bool.and_eq_false_iff, decide_eq_true_eq, decide_eq_false_iff_not] at hn; omega)
  · unfold Sp.ints; rw [Sp.aI_end hx hge, decide_eq_true (by omega)]; rfl
theorem s16 : SoundCt Go.Proofs.Try.prog 16 ct16 :=
  contractH followsMixed (look_sound (show Tb Go.Proofs.Try.prog tb16 from trivial)) (fun _ => false) (fun a => A16 ((cel 0 (arg 0 a)).list) ((cel 0 (arg 1 a)).list)) 6 16 ct16 rfl (by simp [ct16]) fun a => Eq.mp (by kernel_rfl) (v16 ((cel 0 (arg 0 a)).list) ((cel 0 (arg 1 a)).list))
end Go.Sx

namespace Go.Sx
/-! ### function 19: ref22.SameLinks -/
def ct19 : Ct := { ps := [(false, [.sl [.int .i64, .int .i64, .int .i64, .int .i64]]), (false, [.sl [.int .i64, .int .i64, .int .i64, .int .i64]])], rs := [(false, [.bool])], pre := fun _ => True, out := fun a => [[.b (Sp.sm4 (cel 0 (arg 0 a)).list (cel 0 (arg 1 a)).list)]] }
def tb19 : List (Nat × Ct) := []
def A19 (xs : List (List C)) (ys : List (List C)) : FuncId → Nat → LoopAnn := fun _ ii => bif Nat.beq ii 4 then .inv (Int) (fun z => Sp.aI (Sp.eq4 xs ys) xs.length z) (fun z => [(13, .int .i64 z)]) (fun z => []) [] [0, 1, 4, 5, 10, 12, 13, 14, 24] (fun z => xs.length - z.toNat) else .unroll 0
abbrev B19 (xs : List (List C)) (ys : List (List C)) : Prop := vcF Go.Proofs.Try.prog (look tb19) (fun _ => false) (A19 xs ys) 6 19 [.sl [.int .i64, .int .i64, .int .i64, .int .i64] xs, .sl [.int .i64, .int .i64, .int .i64, .int .i64] ys] [] (fun sv heap => Gives [(false, [.bool])] [[.b (Sp.sm4 xs ys)]] sv heap)
theorem e19 (xs : List (List C)) (ys : List (List C)) : B19 xs ys = (pLe (iLen xs) 9223372036854775807 → pLe (iLen ys) 9223372036854775807 → (bNe (iLen xs) (iLen ys) = true → (false = Sp.sm4 xs ys ∧ True) ∧ True) ∧ (bNe (iLen xs) (iLen ys) = false → pLe (iLen xs) 9223372036854775807 → (∃ (x : Int), Sp.aI (Sp.eq4 xs ys) xs.length x ∧ true = true ∧ ((IntKind.i64 = IntKind.i64 ∧ 0 = x) ∧ True) ∧ True) ∧ (∀ (x : Int), true = true ∧ true = true) ∧ ∀ (x : Int), Sp.aI (Sp.eq4 xs ys) xs.length x → InR .i64 x ∧ True → True → (bLt x (iLen xs) = true → pIn 0 (iLen xs) x ∧ (InR .i64 ((rGet xs x).headD default).int ∧ InR .i64 ((rGet xs x).tail.headD default).int ∧ InR .i64 ((rGet xs x).tail.tail.headD default).int ∧ InR .i64 ((rGet xs x).tail.tail.tail.headD default).int ∧ True → pIn 0 (iLen ys) x ∧ (InR .i64 ((rGet ys x).headD default).int ∧ InR .i64 ((rGet ys x).tail.headD default).int ∧ InR .i64 ((rGet ys x).tail.tail.headD default).int ∧ InR .i64 ((rGet ys x).tail.tail.tail.headD default).int ∧ True → (bNot (bAnd (bEq ((rGet xs x).headD default).int ((rGet ys x).headD default).int) (bAnd (bEq ((rGet xs x).tail.headD default).int ((rGet ys x).tail.headD default).int) (bAnd (bEq ((rGet xs x).tail.tail.headD default).int ((rGet ys x).tail.tail.headD default).int) (bEq ((rGet xs x).tail.tail.tail.headD default).int ((rGet ys x).tail.tail.tail.headD default).int)))) = true → (false = Sp.sm4 xs ys ∧ True) ∧ True) ∧ (bNot (bAnd (bEq ((rGet xs x).headD default).int ((rGet ys x).headD default).int) (bAnd (bEq ((rGet xs x).tail.headD default).int ((rGet ys x).tail.headD default).int) (bAnd (bEq ((rGet xs x).tail.tail.headD default).int ((rGet ys x).tail.tail.headD default).int) (bEq ((rGet xs x).tail.tail.tail.headD default).int ((rGet ys x).tail.tail.tail.headD default).int)))) = false → InR .i64 (iAdd x 1) ∧ (true = true ∧ (fun z => z = z) [SV.sl [.int .i64, .int .i64, .int .i64, .int .i64] xs, SV.sl [.int .i64, .int .i64, .int .i64, .int .i64] ys, SV.blit false, SV.int .i64 (iLen xs)]) ∧ ([] : List HB) = [] ∧ ∃ (y : Int), Sp.aI (Sp.eq4 xs ys) xs.length y ∧ true = true ∧ ((IntKind.i64 = IntKind.i64 ∧ iAdd x 1 = y) ∧ True) ∧ True ∧ xs.length - y.toNat < xs.length - x.toNat)))) ∧ (bLt x (iLen xs) = false → (true = Sp.sm4 xs ys ∧ True) ∧ True))) := by kernel_rfl
theorem v19 (xs : List (List C)) (ys : List (List C)) : Holds (Wfs [.sl [.int .i64, .int .i64, .int .i64, .int .i64] xs, .sl [.int .i64, .int .i64, .int .i64, .int .i64] ys] → True → B19 xs ys) := by
  refine ⟨fun hw hp => ?_⟩
  rw [e19]
  simp only [Wfs, Wf, InR, and_true] at hw
  simp only [eq_self, true_and, and_true, true_implies, implies_true, iAdd, iSub, iMul, iLen, bEq, bNe, bLt, bLe, bNot, pIn, pLe, pNe, InR, decide_eq_true_eq, decide_eq_false_iff_not, Bool.not_eq_true', Bool.not_eq_false', decide_eq_decide]
  intro hl1 hl2
  have L : ¬ xs.length = ys.length → false = Sp.sm4 xs ys := fun h => by unfold Sp.sm4; rw [decide_eq_false h]; rfl
  have F : ∀ x, 0 ≤ x → x < (xs.length : Int) → Sp.eq4 xs ys x = false → false = Sp.sm4 xs ys := fun x x0 hlt h => by unfold Sp.sm4; rw [Sp.allI_no x0 hlt h]; simp
  refine ⟨fun h => L (by omega), fun h _ => ⟨⟨0, Sp.aI_init, rfl⟩, fun x hx hx1 => ⟨fun hlt => ⟨⟨hx.1, hlt⟩, ?_⟩, fun hge => ?_⟩⟩⟩
  · have x0 := hx.1
    have S : Sp.eq4 xs ys x = true → (-9223372036854775808 ≤ x + 1 ∧ x + 1 ≤ 9223372036854775807) ∧ ∃ y, Sp.aI (Sp.eq4 xs ys) xs.length y ∧ x + 1 = y ∧ xs.length - y.toNat < xs.length - x.toNat := fun h => ⟨by omega, x + 1, Sp.aI_step hx hlt h, rfl, by omega⟩
    refine fun _ => ⟨⟨by omega, by omega⟩, fun _ => ⟨fun hn => F x x0 hlt ?_, fun hn => S ?_⟩⟩
    · unfold Sp.eq4; rw [decide_eq_false_iff_not]; simp only [Sp.c0, Sp.c1, Sp.c2, Sp.c3]; first | omega | (simp only [bAnd, Bool.and_eq_true, Bool.and_eq_false_iff, decide_eq_true_eq, decide_eq_false_iff_not] at hn; omega)
    · unfold Sp.eq4; rw [decide_eq_true_eq]; simp only [Sp.c0, Sp.c1, Sp.c2, Sp.c3]; first | omega | (simp only [bAnd, Bool.and_eq_true, Bool.and_eq_false_iff, decide_eq_true_eq, decide_eq_false_iff_not] at hn; omega)
  · unfold Sp.sm4; rw [Sp.aI_end hx hge, decide_eq_true (by omega)]; rfl
theorem s19 : SoundCt Go.Proofs.Try.prog 19 ct19 :=
  contractH followsMixed (look_sound (show Tb Go.Proofs.Try.prog tb19 from trivial)) (fun _ => false) (fun a => A19 ((cel 0 (arg 0 a)).list) ((cel 0 (arg 1 a)).list)) 6 19 ct19 rfl (by simp [ct19]) fun a => Eq.mp (by kernel_rfl) (v19 ((cel 0 (arg 0 a)).list) ((cel 0 (arg 1 a)).list))
end Go.Sx

namespace Go.Sx
/-! ### function 10: keep.Graph -/
def ct10 : Ct := { ps := [(true, [.sl [.int .i64, .int .i64, .int .i64, .int .i64], .sl [.int .i64, .int .i64, .int .i64, .int .i64]])], rs := [(false, [.bool])], pre := fun _ => True, out := fun a => [[.b (decide ((cel 0 (arg 0 a)).list.length ≤ 30 ∧ (cel 1 (arg 0 a)).list.length ≤ 60))]] }
def tb10 : List (Nat × Ct) := []
def A10  : FuncId → Nat → LoopAnn := fun _ _ => LoopAnn.unroll 200
abbrev B10 (ns : List (List C)) (ls : List (List C)) : Prop := vcF Go.Proofs.Try.prog (look tb10) (fun _ => false) (A10) 6 10 [.agg [.sl [.int .i64, .int .i64, .int .i64, .int .i64] ns, .sl [.int .i64, .int .i64, .int .i64, .int .i64] ls]] [] (fun sv heap => Gives [(false, [.bool])] [[.b (decide (ns.length ≤ 30 ∧ ls.length ≤ 60))]] sv heap)
theorem e10 (ns : List (List C)) (ls : List (List C)) : B10 ns ls = (pLe (iLen ns) 9223372036854775807 → (bLe (iLen ns) 30 = true → pLe (iLen ls) 9223372036854775807 → (bLe (iLen ls) 60 = decide (ns.length ≤ 30 ∧ ls.length ≤ 60) ∧ True) ∧ True) ∧ (bLe (iLen ns) 30 = false → (false = decide (ns.length ≤ 30 ∧ ls.length ≤ 60) ∧ True) ∧ True)) := by kernel_rfl
theorem v10 (ns : List (List C)) (ls : List (List C)) : Holds (Wfs [.agg [.sl [.int .i64, .int .i64, .int .i64, .int .i64] ns, .sl [.int .i64, .int .i64, .int .i64, .int .i64] ls]] → True → B10 ns ls) := by
  refine ⟨fun hw hp => ?_⟩
  rw [e10]
  simp only [Wfs, Wf, InR, and_true] at hw
  simp only [eq_self, true_and, and_true, true_implies, implies_true, iAdd, iSub, iMul, iLen, bEq, bNe, bLt, bLe, bNot, pIn, pLe, pNe, InR, decide_eq_true_eq, decide_eq_false_iff_not, Bool.not_eq_true', Bool.not_eq_false', decide_eq_decide]
  intro _
  exact ⟨fun h _ => by omega, fun h => by symm; rw [decide_eq_false_iff_not]; omega⟩
theorem s10 : SoundCt Go.Proofs.Try.prog 10 ct10 :=
  contractH followsMixed (look_sound (show Tb Go.Proofs.Try.prog tb10 from trivial)) (fun _ => false) (fun _ => A10) 6 10 ct10 rfl (by simp [ct10]) fun a => Eq.mp (by kernel_rfl) (v10 ((cel 0 (arg 0 a)).list) ((cel 1 (arg 0 a)).list))
end Go.Sx

namespace Go.Sx
/-! ### function 33: ref22.Same -/
def ct33 : Ct := { ps := [(true, [.sl [.int .i64, .int .i64, .int .i64, .int .i64], .sl [.int .i64, .int .i64, .int .i64, .int .i64]]), (true, [.sl [.int .i64, .int .i64, .int .i64, .int .i64], .sl [.int .i64, .int .i64, .int .i64, .int .i64]])], rs := [(false, [.bool])], pre := fun _ => True, out := fun a => [[.b (Sp.sameG (cel 0 (arg 0 a)).list (cel 1 (arg 0 a)).list (cel 0 (arg 1 a)).list (cel 1 (arg 1 a)).list)]] }
def tb33 : List (Nat × Ct) := [(19, ct19)]
def A33 (na : List (List C)) (nb : List (List C)) : FuncId → Nat → LoopAnn := fun _ ii => bif Nat.beq ii 4 then .inv (Int) (fun z => Sp.aI (Sp.eq4 na nb) na.length z) (fun z => [(16, .int .i64 z)]) (fun z => []) [] [0, 1, 2, 3, 4, 5, 12, 15, 16, 17, 29] (fun z => na.length - z.toNat) else .unroll 0
abbrev B33 (na : List (List C)) (la : List (List C)) (nb : List (List C)) (lb : List (List C)) : Prop := vcF Go.Proofs.Try.prog (look tb33) (fun _ => false) (A33 na nb) 6 33 [.agg [.sl [.int .i64, .int .i64, .int .i64, .int .i64] na, .sl [.int .i64, .int .i64, .int .i64, .int .i64] la], .agg [.sl [.int .i64, .int .i64, .int .i64, .int .i64] nb, .sl [.int .i64, .int .i64, .int .i64, .int .i64] lb]] [] (fun sv heap => Gives [(false, [.bool])] [[.b (Sp.sameG na la nb lb)]] sv heap)
def h33_0 : List (List C) → List (List C) → List (List C) → List (List C) → List SV := fun (na la nb lb : List (List C)) => [SV.agg [SV.sl [.int .i64, .int .i64, .int .i64, .int .i64] na, SV.sl [.int .i64, .int .i64, .int .i64, .int .i64] la], SV.agg [SV.sl [.int .i64, .int .i64, .int .i64, .int .i64] nb, SV.sl [.int .i64, .int .i64, .int .i64, .int .i64] lb], SV.ref 0 0, SV.ref 1 0, SV.blit false, SV.int .i64 (iLen na)]
def h33_1 : List (List C) → List (List C) → List (List C) → List (List C) → List HB := fun (na la nb lb : List (List C)) => [HB.box [SV.sl [.int .i64, .int .i64, .int .i64, .int .i64] na, SV.sl [.int .i64, .int .i64, .int .i64, .int .i64] la] 25, HB.box [SV.sl [.int .i64, .int .i64, .int .i64, .int .i64] nb, SV.sl [.int .i64, .int .i64, .int .i64, .int .i64] lb] 25]
theorem e33 (na : List (List C)) (la : List (List C)) (nb : List (List C)) (lb : List (List C)) : B33 na la nb lb = (pLe (iLen na) 9223372036854775807 → pLe (iLen nb) 9223372036854775807 → (bNe (iLen na) (iLen nb) = true → (false = Sp.sameG na la nb lb ∧ True) ∧ True) ∧ (bNe (iLen na) (iLen nb) = false → pLe (iLen na) 9223372036854775807 → (∃ (x : Int), Sp.aI (Sp.eq4 na nb) na.length x ∧ true = true ∧ ((IntKind.i64 = IntKind.i64 ∧ 0 = x) ∧ True) ∧ True) ∧ (∀ (x : Int), true = true ∧ true = true) ∧ ∀ (x : Int), Sp.aI (Sp.eq4 na nb) na.length x → InR .i64 x ∧ True → True → (bLt x (iLen na) = true → pIn 0 (iLen na) x ∧ (InR .i64 ((rGet na x).headD default).int ∧ InR .i64 ((rGet na x).tail.headD default).int ∧ InR .i64 ((rGet na x).tail.tail.headD default).int ∧ InR .i64 ((rGet na x).tail.tail.tail.headD default).int ∧ True → pIn 0 (iLen nb) x ∧ (InR .i64 ((rGet nb x).headD default).int ∧ InR .i64 ((rGet nb x).tail.headD default).int ∧ InR .i64 ((rGet nb x).tail.tail.headD default).int ∧ InR .i64 ((rGet nb x).tail.tail.tail.headD default).int ∧ True → (bNot (bAnd (bEq ((rGet na x).headD default).int ((rGet nb x).headD default).int) (bAnd (bEq ((rGet na x).tail.headD default).int ((rGet nb x).tail.headD default).int) (bAnd (bEq ((rGet na x).tail.tail.headD default).int ((rGet nb x).tail.tail.headD default).int) (bEq ((rGet na x).tail.tail.tail.headD default).int ((rGet nb x).tail.tail.tail.headD default).int)))) = true → (false = Sp.sameG na la nb lb ∧ True) ∧ True) ∧ (bNot (bAnd (bEq ((rGet na x).headD default).int ((rGet nb x).headD default).int) (bAnd (bEq ((rGet na x).tail.headD default).int ((rGet nb x).tail.headD default).int) (bAnd (bEq ((rGet na x).tail.tail.headD default).int ((rGet nb x).tail.tail.headD default).int) (bEq ((rGet na x).tail.tail.tail.headD default).int ((rGet nb x).tail.tail.tail.headD default).int)))) = false → InR .i64 (iAdd x 1) ∧ (true = true ∧ h33_0 na la nb lb = h33_0 na la nb lb) ∧ h33_1 na la nb lb = h33_1 na la nb lb ∧ ∃ (y : Int), Sp.aI (Sp.eq4 na nb) na.length y ∧ true = true ∧ ((IntKind.i64 = IntKind.i64 ∧ iAdd x 1 = y) ∧ True) ∧ True ∧ na.length - y.toNat < na.length - x.toNat)))) ∧ (bLt x (iLen na) = false → True ∧ (True → (Sp.sm4 la lb = Sp.sameG na la nb lb ∧ True) ∧ True)))) := by kernel_rfl
theorem v33 (na : List (List C)) (la : List (List C)) (nb : List (List C)) (lb : List (List C)) : Holds (Wfs [.agg [.sl [.int .i64, .int .i64, .int .i64, .int .i64] na, .sl [.int .i64, .int .i64, .int .i64, .int .i64] la], .agg [.sl [.int .i64, .int .i64, .int .i64, .int .i64] nb, .sl [.int .i64, .int .i64, .int .i64, .int .i64] lb]] → True → B33 na la nb lb) := by
  refine ⟨fun hw hp => ?_⟩
  rw [e33]
  simp only [Wfs, Wf, InR, and_true] at hw
  simp only [eq_self, true_and, and_true, true_implies, implies_true, iAdd, iSub, iMul, iLen, bEq, bNe, bLt, bLe, bNot, pIn, pLe, pNe, InR, decide_eq_true_eq, decide_eq_false_iff_not, Bool.not_eq_true', Bool.not_eq_false', decide_eq_decide]
  intro hl1 hl2
  have L : ¬ na.length = nb.length → false = Sp.sameG na la nb lb := fun h => by unfold Sp.sameG; rw [decide_eq_false h]; rfl
  have F : ∀ x, 0 ≤ x → x < (na.length : Int) → Sp.eq4 na nb x = false → false = Sp.sameG na la nb lb := fun x x0 hlt h => by unfold Sp.sameG; rw [Sp.allI_no x0 hlt h]; simp
  refine ⟨fun h => L (by omega), fun h _ => ⟨⟨0, Sp.aI_init, rfl⟩, fun x hx hx1 => ⟨fun hlt => ⟨⟨hx.1, hlt⟩, ?_⟩, fun hge => ?_⟩⟩⟩
  · have x0 := hx.1
    have S : Sp.eq4 na nb x = true → (-9223372036854775808 ≤ x + 1 ∧ x + 1 ≤ 9223372036854775807) ∧ ∃ y, Sp.aI (Sp.eq4 na nb) na.length y ∧ x + 1 = y ∧ na.length - y.toNat < na.length - x.toNat := fun h => ⟨by omega, x + 1, Sp.aI_step hx hlt h, rfl, by omega⟩
    refine fun _ => ⟨⟨by omega, by omega⟩, fun _ => ⟨fun hn => F x x0 hlt ?_, fun hn => S ?_⟩⟩
    · unfold Sp.eq4; rw [decide_eq_false_iff_not]; simp only [Sp.c0, Sp.c1, Sp.c2, Sp.c3]; first | omega | (simp only [bAnd, Bool.and_eq_true, Bool.and_eq_false_iff, decide_eq_true_eq, decide_eq_false_iff_not] at hn; omega)
    · unfold Sp.eq4; rw [decide_eq_true_eq]; simp only [Sp.c0, Sp.c1, Sp.c2, Sp.c3]; first | omega | (simp only [bAnd, Bool.and_eq_true, Bool.and_eq_false_iff, decide_eq_true_eq, decide_eq_false_iff_not] at hn; omega)
  · unfold Sp.sameG; rw [Sp.aI_end hx hge, decide_eq_true (show na.length = nb.length by omega)]; rfl
theorem s33 : SoundCt Go.Proofs.Try.prog 33 ct33 :=
  contractH followsMixed (look_sound (show Tb Go.Proofs.Try.prog tb33 from ⟨s19, trivial⟩)) (fun _ => false) (fun a => A33 ((cel 0 (arg 0 a)).list) ((cel 0 (arg 1 a)).list)) 6 33 ct33 rfl (by simp [ct33]) fun a => Eq.mp (by kernel_rfl) (v33 ((cel 0 (arg 0 a)).list) ((cel 1 (arg 0 a)).list) ((cel 0 (arg 1 a)).list) ((cel 1 (arg 1 a)).list))
end Go.Sx

