import Derived.Test.YtphaelepnjekoaaSxUse
import Derived.Test.YtphaelepnjekoaaG27d
import Derived.KernelRfl
set_option linter.unusedVariables false
set_option linter.unusedSimpArgs false
set_option maxRecDepth 100000
set_option maxHeartbeats 4000000
namespace Go
open Go.Sx
def Sp.ordE (ns ls : List (List C)) : List (List C) := bif Sp.vld ns ls then Sp.ord ns ls else []
def Sp.vE (ns ls : List (List C)) : Int := bif Sp.vld ns ls then 0 else 1
def Sp.inp (ls : List (List C)) (id : Int) : List (List C) := (ls.filter (fun l => decide (Sp.c2 l = id))).map Sp.r4
def Sp.inpE (ns ls : List (List C)) (id : Int) : List (List C) := bif Sp.vld ns ls then Sp.inp ls id else []
def Sp.inI (ls : List (List C)) (id i : Int) (out : List (List C)) : Prop := 0 ≤ i ∧ i ≤ (ls.length : Int) ∧ out = Sp.inp (ls.take i.toNat) id
def Sp.eqI (xs ys : List (List C)) (k : Int) : Bool := decide (Sp.c0 (rGet xs k) = Sp.c0 (rGet ys k))
def Sp.eq4 (xs ys : List (List C)) (k : Int) : Bool := decide (Sp.c0 (rGet xs k) = Sp.c0 (rGet ys k) ∧ Sp.c1 (rGet xs k) = Sp.c1 (rGet ys k) ∧ Sp.c2 (rGet xs k) = Sp.c2 (rGet ys k) ∧ Sp.c3 (rGet xs k) = Sp.c3 (rGet ys k))
def Sp.ints (xs ys : List (List C)) : Bool := decide (xs.length = ys.length) && Sp.allI (Sp.eqI xs ys) xs.length
def Sp.sameG (na la nb lb : List (List C)) : Bool := decide (na.length = nb.length) && Sp.allI (Sp.eq4 na nb) na.length && (decide (la.length = lb.length) && Sp.allI (Sp.eq4 la lb) la.length)
def Sp.sm4 (xs ys : List (List C)) : Bool := decide (xs.length = ys.length) && Sp.allI (Sp.eq4 xs ys) xs.length
end Go
namespace Go
open Go.Sx
theorem Sp.inI_init {ls : List (List C)} {id : Int} : Sp.inI ls id 0 [] := ⟨by omega, by omega, by simp [Sp.inp]⟩
theorem Sp.inI_yes {ls out : List (List C)} {id i : Int} (h : Sp.inI ls id i out) (hi : i < (ls.length : Int)) (hc : Sp.c2 (rGet ls i) = id) : Sp.inI ls id (i + 1) (out ++ [Sp.r4 (rGet ls i)]) := by
  obtain ⟨h0, h1, h2⟩ := h
  refine ⟨by omega, by omega, ?_⟩
  rw [h2, Sp.take_succ h0 hi]
  generalize rGet ls i = x at *
  simp [Sp.inp, List.filter_append, hc]
theorem Sp.inI_no {ls out : List (List C)} {id i : Int} (h : Sp.inI ls id i out) (hi : i < (ls.length : Int)) (hc : ¬ Sp.c2 (rGet ls i) = id) : Sp.inI ls id (i + 1) out := by
  obtain ⟨h0, h1, h2⟩ := h
  refine ⟨by omega, by omega, ?_⟩
  rw [h2, Sp.take_succ h0 hi]
  generalize rGet ls i = x at *
  simp [Sp.inp, List.filter_append, hc]
theorem Sp.inI_end {ls out : List (List C)} {id i : Int} (h : Sp.inI ls id i out) (hi : ¬ i < (ls.length : Int)) : out = Sp.inp ls id := by
  obtain ⟨h0, h1, h2⟩ := h
  rw [h2, List.take_of_length_le (by omega)]
theorem Sp.inI_len {ls out : List (List C)} {id i : Int} (h : Sp.inI ls id i out) : (out.length : Int) ≤ i := by
  obtain ⟨h0, h1, h2⟩ := h
  rw [h2]
  unfold Sp.inp
  rw [List.length_map]
  have := List.length_filter_le (fun l => decide (Sp.c2 l = id)) (ls.take i.toNat)
  rw [List.length_take] at this
  omega
theorem Sp.vld_small {ns ls : List (List C)} (h : Sp.vld ns ls = true) : ns.length ≤ 64 ∧ ls.length ≤ 256 := by
  unfold Sp.vld at h
  simp only [Bool.and_eq_true, decide_eq_true_eq] at h
  exact h.1.1.1
theorem Sp.vld_nok {ns ls : List (List C)} (h : Sp.vld ns ls = true) : Sp.allI (Sp.nokI ns) ns.length = true := by
  unfold Sp.vld at h
  simp only [Bool.and_eq_true, decide_eq_true_eq] at h
  exact h.1.1.2
theorem Sp.ordF_len {ns ls : List (List C)} : ∀ (n : Nat) (out : List (List C)), (Sp.ordF ns ls n out).length ≤ out.length + n
  | 0, out => by simp [Sp.ordF]
  | n + 1, out => by
    simp only [Sp.ordF]
    cases decide (Sp.idx (Sp.rdy ls out) ns 0 < 0)
    · simp only [cond_false]
      have := Sp.ordF_len (ns := ns) (ls := ls) n (out ++ [[.i (Sp.c0 (rGet ns (Sp.idx (Sp.rdy ls out) ns 0)))]])
      simp only [List.length_append, List.length_singleton] at this
      omega
    · simp only [cond_true]; omega
end Go
namespace Go.Sx
def ct85 : Ct := { ps := [(true, [.sl [.int .i64, .int .i64, .int .i64, .int .i64], .sl [.int .i64, .int .i64, .int .i64, .int .i64]])], rs := [(false, [.sl [.int .i64]]), (false, [.int .i64])], pre := fun _ => True, out := fun a => [[.l (Sp.ordE (cel 0 (arg 0 a)).list (cel 1 (arg 0 a)).list)], [.i (Sp.vE (cel 0 (arg 0 a)).list (cel 1 (arg 0 a)).list)]] }
def tb85 : List (Nat × Ct) := [(83, ct83), (100, ct100)]
def A85  : FuncId → Nat → LoopAnn := fun _ _ => LoopAnn.unroll 200
abbrev B85 (ns : List (List C)) (ls : List (List C)) : Prop := vcF Go.Proofs.Try.prog (look tb85) (fun _ => false) (A85) 6 85 [.agg [.sl [.int .i64, .int .i64, .int .i64, .int .i64] ns, .sl [.int .i64, .int .i64, .int .i64, .int .i64] ls]] [] (fun sv heap => Gives [(false, [.sl [.int .i64]]), (false, [.int .i64])] [[.l (Sp.ordE ns ls)], [.i (Sp.vE ns ls)]] sv heap)
theorem e85 (ns : List (List C)) (ls : List (List C)) : B85 ns ls = (True ∧ (True → True ∧ (bNot (Sp.vld ns ls) = true → ([] = Sp.ordE ns ls ∧ True) ∧ (1 = Sp.vE ns ls ∧ True) ∧ True) ∧ (bNot (Sp.vld ns ls) = false → (pLe (↑ns.length) 1000000 ∧ True) ∧ (((Sp.ord ns ls).length ≤ 9223372036854775807 ∧ ∀ (x : List C), x ∈ Sp.ord ns ls → WfCs [.int .i64] x) → (Sp.ord ns ls = Sp.ordE ns ls ∧ True) ∧ (0 = Sp.vE ns ls ∧ True) ∧ True)))) := by kernel_rfl
theorem v85 (ns : List (List C)) (ls : List (List C)) : Holds (Wfs [.agg [.sl [.int .i64, .int .i64, .int .i64, .int .i64] ns, .sl [.int .i64, .int .i64, .int .i64, .int .i64] ls]] → True → B85 ns ls) := by
  refine ⟨fun hw hp => ?_⟩
  rw [e85]
  simp only [Wfs, Wf, InR, and_true] at hw
  simp only [eq_self, true_and, and_true, true_implies, implies_true, iAdd, iSub, iMul, iLen, bEq, bNe, bLt, bLe, bNot, pIn, pLe, pNe, InR, decide_eq_true_eq, decide_eq_false_iff_not, Bool.not_eq_true', Bool.not_eq_false', decide_eq_decide]
  unfold Sp.ordE Sp.vE
  refine ⟨fun h => ?_, fun h => ?_⟩
  · rw [h]; exact ⟨rfl, rfl⟩
  · have h1 := Sp.vld_small h
    rw [h]
    first
      | exact ⟨by omega, fun _ => ⟨rfl, rfl⟩⟩
      | exact ⟨⟨Sp.nok_fine (Sp.vld_nok h), by omega⟩, fun _ => ⟨rfl, rfl⟩⟩
theorem s85 : SoundCt Go.Proofs.Try.prog 85 ct85 :=
  contractH followsMixed (look_sound (show Tb Go.Proofs.Try.prog tb85 from ⟨s83, ⟨s100, trivial⟩⟩)) (fun _ => false) (fun _ => A85) 6 85 ct85 rfl (by simp [ct85]) fun a => Eq.mp (by kernel_rfl) (v85 ((cel 0 (arg 0 a)).list) ((cel 1 (arg 0 a)).list))
end Go.Sx
namespace Go.Sx
def ct87 : Ct := { ps := [(true, [.sl [.int .i64, .int .i64, .int .i64, .int .i64], .sl [.int .i64, .int .i64, .int .i64, .int .i64]])], rs := [(false, [.sl [.int .i64]]), (false, [.int .i64])], pre := fun _ => True, out := fun a => [[.l (Sp.ordE (cel 0 (arg 0 a)).list (cel 1 (arg 0 a)).list)], [.i (Sp.vE (cel 0 (arg 0 a)).list (cel 1 (arg 0 a)).list)]] }
def tb87 : List (Nat × Ct) := [(86, ct86), (106, ct106)]
def A87  : FuncId → Nat → LoopAnn := fun _ _ => LoopAnn.unroll 200
abbrev B87 (ns : List (List C)) (ls : List (List C)) : Prop := vcF Go.Proofs.Try.prog (look tb87) (fun _ => false) (A87) 6 87 [.agg [.sl [.int .i64, .int .i64, .int .i64, .int .i64] ns, .sl [.int .i64, .int .i64, .int .i64, .int .i64] ls]] [] (fun sv heap => Gives [(false, [.sl [.int .i64]]), (false, [.int .i64])] [[.l (Sp.ordE ns ls)], [.i (Sp.vE ns ls)]] sv heap)
theorem e87 (ns : List (List C)) (ls : List (List C)) : B87 ns ls = (True ∧ (True → True ∧ (bNot (Sp.vld ns ls) = true → ([] = Sp.ordE ns ls ∧ True) ∧ (1 = Sp.vE ns ls ∧ True) ∧ True) ∧ (bNot (Sp.vld ns ls) = false → ((∀ (x : List C), x ∈ ns → 1 ≤ Sp.c0 x) ∧ pLe (↑ns.length) 1000000) ∧ (((Sp.ord ns ls).length ≤ 9223372036854775807 ∧ ∀ (x : List C), x ∈ Sp.ord ns ls → WfCs [.int .i64] x) → (Sp.ord ns ls = Sp.ordE ns ls ∧ True) ∧ (0 = Sp.vE ns ls ∧ True) ∧ True)))) := by kernel_rfl
theorem v87 (ns : List (List C)) (ls : List (List C)) : Holds (Wfs [.agg [.sl [.int .i64, .int .i64, .int .i64, .int .i64] ns, .sl [.int .i64, .int .i64, .int .i64, .int .i64] ls]] → True → B87 ns ls) := by
  refine ⟨fun hw hp => ?_⟩
  rw [e87]
  simp only [Wfs, Wf, InR, and_true] at hw
  simp only [eq_self, true_and, and_true, true_implies, implies_true, iAdd, iSub, iMul, iLen, bEq, bNe, bLt, bLe, bNot, pIn, pLe, pNe, InR, decide_eq_true_eq, decide_eq_false_iff_not, Bool.not_eq_true', Bool.not_eq_false', decide_eq_decide]
  unfold Sp.ordE Sp.vE
  refine ⟨fun h => ?_, fun h => ?_⟩
  · rw [h]; exact ⟨rfl, rfl⟩
  · have h1 := Sp.vld_small h
    rw [h]
    first
      | exact ⟨by omega, fun _ => ⟨rfl, rfl⟩⟩
      | exact ⟨⟨Sp.nok_fine (Sp.vld_nok h), by omega⟩, fun _ => ⟨rfl, rfl⟩⟩
theorem s87 : SoundCt Go.Proofs.Try.prog 87 ct87 :=
  contractH followsMixed (look_sound (show Tb Go.Proofs.Try.prog tb87 from ⟨s86, ⟨s106, trivial⟩⟩)) (fun _ => false) (fun _ => A87) 6 87 ct87 rfl (by simp [ct87]) fun a => Eq.mp (by kernel_rfl) (v87 ((cel 0 (arg 0 a)).list) ((cel 1 (arg 0 a)).list))
end Go.Sx
namespace Go.Sx
def ct44 : Ct := { ps := [(false, [.sl [.int .i64, .int .i64, .int .i64, .int .i64]]), (false, [.sl [.int .i64, .int .i64, .int .i64, .int .i64]])], rs := [(false, [.bool])], pre := fun _ => True, out := fun a => [[.b (Sp.sm4 (cel 0 (arg 0 a)).list (cel 0 (arg 1 a)).list)]] }
def tb44 : List (Nat × Ct) := []
def A44 (xs : List (List C)) (ys : List (List C)) : FuncId → Nat → LoopAnn := fun _ ii => bif Nat.beq ii 4 then .inv (Int) (fun z => Sp.aI (Sp.eq4 xs ys) xs.length z) (fun z => [(13, .int .i64 z)]) (fun z => []) [] [0, 1, 4, 5, 10, 12, 13, 14, 24] (fun z => xs.length - z.toNat) else .unroll 0
abbrev B44 (xs : List (List C)) (ys : List (List C)) : Prop := vcF Go.Proofs.Try.prog (look tb44) (fun _ => false) (A44 xs ys) 6 44 [.sl [.int .i64, .int .i64, .int .i64, .int .i64] xs, .sl [.int .i64, .int .i64, .int .i64, .int .i64] ys] [] (fun sv heap => Gives [(false, [.bool])] [[.b (Sp.sm4 xs ys)]] sv heap)
theorem e44 (xs : List (List C)) (ys : List (List C)) : B44 xs ys = (pLe (iLen xs) 9223372036854775807 → pLe (iLen ys) 9223372036854775807 → (bNe (iLen xs) (iLen ys) = true → (false = Sp.sm4 xs ys ∧ True) ∧ True) ∧ (bNe (iLen xs) (iLen ys) = false → pLe (iLen xs) 9223372036854775807 → (∃ (x : Int), Sp.aI (Sp.eq4 xs ys) xs.length x ∧ true = true ∧ ((IntKind.i64 = IntKind.i64 ∧ 0 = x) ∧ True) ∧ True) ∧ (∀ (x : Int), true = true ∧ true = true) ∧ ∀ (x : Int), Sp.aI (Sp.eq4 xs ys) xs.length x → InR .i64 x ∧ True → True → (bLt x (iLen xs) = true → pIn 0 (iLen xs) x ∧ (InR .i64 (q0 (rGet xs x)) ∧ InR .i64 (q1 (rGet xs x)) ∧ InR .i64 (q2 (rGet xs x)) ∧ InR .i64 (q3 (rGet xs x)) ∧ True → pIn 0 (iLen ys) x ∧ (InR .i64 (q0 (rGet ys x)) ∧ InR .i64 (q1 (rGet ys x)) ∧ InR .i64 (q2 (rGet ys x)) ∧ InR .i64 (q3 (rGet ys x)) ∧ True → (bNot (bAnd (bEq (q0 (rGet xs x)) (q0 (rGet ys x))) (bAnd (bEq (q1 (rGet xs x)) (q1 (rGet ys x))) (bAnd (bEq (q2 (rGet xs x)) (q2 (rGet ys x))) (bEq (q3 (rGet xs x)) (q3 (rGet ys x)))))) = true → (false = Sp.sm4 xs ys ∧ True) ∧ True) ∧ (bNot (bAnd (bEq (q0 (rGet xs x)) (q0 (rGet ys x))) (bAnd (bEq (q1 (rGet xs x)) (q1 (rGet ys x))) (bAnd (bEq (q2 (rGet xs x)) (q2 (rGet ys x))) (bEq (q3 (rGet xs x)) (q3 (rGet ys x)))))) = false → InR .i64 (iAdd x 1) ∧ (true = true ∧ (fun z => z = z) [SV.sl [.int .i64, .int .i64, .int .i64, .int .i64] xs, SV.sl [.int .i64, .int .i64, .int .i64, .int .i64] ys, SV.blit false, SV.int .i64 (iLen xs)]) ∧ ([] : List HB) = [] ∧ ∃ (y : Int), Sp.aI (Sp.eq4 xs ys) xs.length y ∧ true = true ∧ ((IntKind.i64 = IntKind.i64 ∧ iAdd x 1 = y) ∧ True) ∧ True ∧ xs.length - y.toNat < xs.length - x.toNat)))) ∧ (bLt x (iLen xs) = false → (true = Sp.sm4 xs ys ∧ True) ∧ True))) := by kernel_rfl
theorem v44 (xs : List (List C)) (ys : List (List C)) : Holds (Wfs [.sl [.int .i64, .int .i64, .int .i64, .int .i64] xs, .sl [.int .i64, .int .i64, .int .i64, .int .i64] ys] → True → B44 xs ys) := by
  refine ⟨fun hw hp => ?_⟩
  rw [e44]
  unfold q0 q1 q2 q3
  simp only [Wfs, Wf, InR, and_true] at hw
  simp only [eq_self, true_and, and_true, true_implies, implies_true, iAdd, iSub, iMul, iLen, bEq, bNe, bLt, bLe, bNot, pIn, pLe, pNe, InR, decide_eq_true_eq, decide_eq_false_iff_not, Bool.not_eq_true', Bool.not_eq_false', decide_eq_decide]
  intro hl1 hl2
  have L : ¬ xs.length = ys.length → false = Sp.sm4 xs ys := fun h => by unfold Sp.sm4; rw [decide_eq_false h]; rfl
  have F : ∀ x, 0 ≤ x → x < (xs.length : Int) → Sp.eq4 xs ys x = false → false = Sp.sm4 xs ys := fun x x0 hlt h => by unfold Sp.sm4; rw [Sp.allI_no x0 hlt h]; simp
  refine ⟨fun h => L (by omega), fun h _ => ⟨⟨0, Sp.aI_init, rfl⟩, fun x hx hx1 => ⟨fun hlt => ⟨⟨hx.1, hlt⟩, ?_⟩, fun hge => ?_⟩⟩⟩
  · have x0 := hx.1
    have S : Sp.eq4 xs ys x = true → (-9223372036854775808 ≤ x + 1 ∧ x + 1 ≤ 9223372036854775807) ∧ ∃ y, Sp.aI (Sp.eq4 xs ys) xs.length y ∧ x + 1 = y ∧ xs.length - y.toNat < xs.length - x.toNat := fun h => ⟨by omega, x + 1, Sp.aI_step hx hlt h, rfl, by omega⟩
    refine fun _ => ⟨⟨by omega, by omega⟩, fun _ => ⟨fun hn => F x x0 hlt ?_, fun hn => S ?_⟩⟩
    · unfold Sp.eq4; rw [decide_eq_false_iff_not]; simp only [Sp.c0, Sp.c1, Sp.c2, Sp.c3]; first | omega | (simp only [bAnd, Bool.and_eq_true, Bool.and_eq_false_iff, decide_eq_true_eq, decide_eq_false_iff_not] at hn; omega)
    · unfold Sp.eq4; rw [decide_eq_true_eq]; simp only [Sp.c0, Sp.c1, Sp.c2, Sp.c3]; first | omega | (simp only [bAnd, Bool.and_eq_true, Bool.and_eq_false_iff, decide_eq_true_eq, decide_eq_false_iff_not] at hn; omega)
  · unfold Sp.sm4; rw [Sp.aI_end hx hge, decide_eq_true (by omega)]; rfl
theorem s44 : SoundCt Go.Proofs.Try.prog 44 ct44 :=
  contractH followsMixed (look_sound (show Tb Go.Proofs.Try.prog tb44 from trivial)) (fun _ => false) (fun a => A44 ((cel 0 (arg 0 a)).list) ((cel 0 (arg 1 a)).list)) 6 44 ct44 rfl (by simp [ct44]) fun a => Eq.mp (by kernel_rfl) (v44 ((cel 0 (arg 0 a)).list) ((cel 0 (arg 1 a)).list))
end Go.Sx
namespace Go.Sx
def ct18 : Ct := { ps := [(true, [.sl [.int .i64, .int .i64, .int .i64, .int .i64], .sl [.int .i64, .int .i64, .int .i64, .int .i64]]), (true, [.sl [.int .i64, .int .i64, .int .i64, .int .i64], .sl [.int .i64, .int .i64, .int .i64, .int .i64]])], rs := [(false, [.bool])], pre := fun _ => True, out := fun a => [[.b (Sp.sameG (cel 0 (arg 0 a)).list (cel 1 (arg 0 a)).list (cel 0 (arg 1 a)).list (cel 1 (arg 1 a)).list)]] }
def tb18 : List (Nat × Ct) := [(44, ct44)]
def A18 (na : List (List C)) (nb : List (List C)) : FuncId → Nat → LoopAnn := fun _ ii => bif Nat.beq ii 4 then .inv (Int) (fun z => Sp.aI (Sp.eq4 na nb) na.length z) (fun z => [(16, .int .i64 z)]) (fun z => []) [] [0, 1, 2, 3, 4, 5, 12, 15, 16, 17, 29] (fun z => na.length - z.toNat) else .unroll 0
abbrev B18 (na : List (List C)) (la : List (List C)) (nb : List (List C)) (lb : List (List C)) : Prop := vcF Go.Proofs.Try.prog (look tb18) (fun _ => false) (A18 na nb) 6 18 [.agg [.sl [.int .i64, .int .i64, .int .i64, .int .i64] na, .sl [.int .i64, .int .i64, .int .i64, .int .i64] la], .agg [.sl [.int .i64, .int .i64, .int .i64, .int .i64] nb, .sl [.int .i64, .int .i64, .int .i64, .int .i64] lb]] [] (fun sv heap => Gives [(false, [.bool])] [[.b (Sp.sameG na la nb lb)]] sv heap)
def h18_0 : List (List C) → List (List C) → List (List C) → List (List C) → List SV := fun (na la nb lb : List (List C)) => [SV.agg [SV.sl [.int .i64, .int .i64, .int .i64, .int .i64] na, SV.sl [.int .i64, .int .i64, .int .i64, .int .i64] la], SV.agg [SV.sl [.int .i64, .int .i64, .int .i64, .int .i64] nb, SV.sl [.int .i64, .int .i64, .int .i64, .int .i64] lb], SV.ref 0 0, SV.ref 1 0, SV.blit false, SV.int .i64 (iLen na)]
def h18_1 : List (List C) → List (List C) → List (List C) → List (List C) → List HB := fun (na la nb lb : List (List C)) => [HB.box [SV.sl [.int .i64, .int .i64, .int .i64, .int .i64] na, SV.sl [.int .i64, .int .i64, .int .i64, .int .i64] la] 39, HB.box [SV.sl [.int .i64, .int .i64, .int .i64, .int .i64] nb, SV.sl [.int .i64, .int .i64, .int .i64, .int .i64] lb] 39]
theorem e18 (na : List (List C)) (la : List (List C)) (nb : List (List C)) (lb : List (List C)) : B18 na la nb lb = (pLe (iLen na) 9223372036854775807 → pLe (iLen nb) 9223372036854775807 → (bNe (iLen na) (iLen nb) = true → (false = Sp.sameG na la nb lb ∧ True) ∧ True) ∧ (bNe (iLen na) (iLen nb) = false → pLe (iLen na) 9223372036854775807 → (∃ (x : Int), Sp.aI (Sp.eq4 na nb) na.length x ∧ true = true ∧ ((IntKind.i64 = IntKind.i64 ∧ 0 = x) ∧ True) ∧ True) ∧ (∀ (x : Int), true = true ∧ true = true) ∧ ∀ (x : Int), Sp.aI (Sp.eq4 na nb) na.length x → InR .i64 x ∧ True → True → (bLt x (iLen na) = true → pIn 0 (iLen na) x ∧ (InR .i64 (q0 (rGet na x)) ∧ InR .i64 (q1 (rGet na x)) ∧ InR .i64 (q2 (rGet na x)) ∧ InR .i64 (q3 (rGet na x)) ∧ True → pIn 0 (iLen nb) x ∧ (InR .i64 (q0 (rGet nb x)) ∧ InR .i64 (q1 (rGet nb x)) ∧ InR .i64 (q2 (rGet nb x)) ∧ InR .i64 (q3 (rGet nb x)) ∧ True → (bNot (bAnd (bEq (q0 (rGet na x)) (q0 (rGet nb x))) (bAnd (bEq (q1 (rGet na x)) (q1 (rGet nb x))) (bAnd (bEq (q2 (rGet na x)) (q2 (rGet nb x))) (bEq (q3 (rGet na x)) (q3 (rGet nb x)))))) = true → (false = Sp.sameG na la nb lb ∧ True) ∧ True) ∧ (bNot (bAnd (bEq (q0 (rGet na x)) (q0 (rGet nb x))) (bAnd (bEq (q1 (rGet na x)) (q1 (rGet nb x))) (bAnd (bEq (q2 (rGet na x)) (q2 (rGet nb x))) (bEq (q3 (rGet na x)) (q3 (rGet nb x)))))) = false → InR .i64 (iAdd x 1) ∧ (true = true ∧ h18_0 na la nb lb = h18_0 na la nb lb) ∧ h18_1 na la nb lb = h18_1 na la nb lb ∧ ∃ (y : Int), Sp.aI (Sp.eq4 na nb) na.length y ∧ true = true ∧ ((IntKind.i64 = IntKind.i64 ∧ iAdd x 1 = y) ∧ True) ∧ True ∧ na.length - y.toNat < na.length - x.toNat)))) ∧ (bLt x (iLen na) = false → True ∧ (True → (Sp.sm4 la lb = Sp.sameG na la nb lb ∧ True) ∧ True)))) := by kernel_rfl
theorem v18 (na : List (List C)) (la : List (List C)) (nb : List (List C)) (lb : List (List C)) : Holds (Wfs [.agg [.sl [.int .i64, .int .i64, .int .i64, .int .i64] na, .sl [.int .i64, .int .i64, .int .i64, .int .i64] la], .agg [.sl [.int .i64, .int .i64, .int .i64, .int .i64] nb, .sl [.int .i64, .int .i64, .int .i64, .int .i64] lb]] → True → B18 na la nb lb) := by
  refine ⟨fun hw hp => ?_⟩
  rw [e18]
  unfold q0 q1 q2 q3
  simp only [Wfs, Wf, InR, and_true] at hw
  simp only [eq_self, true_and, and_true, true_implies, implies_true, iAdd, iSub, iMul, iLen, bEq, bNe, bLt, bLe, bNot, pIn, pLe, pNe, InR, decide_eq_true_eq, decide_eq_false_iff_not, Bool.not_eq_true', Bool.not_eq_false', decide_eq_decide]
  intro hl1 hl2
  have L : ¬ na.length = nb.length → false = Sp.sameG na la nb lb := fun h => by unfold Sp.sameG; rw [decide_eq_false h]; rfl
  have F : ∀ x, 0 ≤ x → x < (na.length : Int) → Sp.eq4 na nb x = false → false = Sp.sameG na la nb lb := fun x x0 hlt h => by unfold Sp.sameG; rw [Sp.allI_no x0 hlt h]; simp
  refine ⟨fun h => L (by omega), fun h _ => ⟨⟨0, Sp.aI_init, rfl⟩, fun x hx hx1 => ⟨fun hlt => ⟨⟨hx.1, hlt⟩, ?_⟩, fun hge => ?_⟩⟩⟩
  · have x0 := hx.1
    have S : Sp.eq4 na nb x = true → (-9223372036854775808 ≤ x + 1 ∧ x + 1 ≤ 9223372036854775807) ∧ ∃ y, Sp.aI (Sp.eq4 na nb) na.length y ∧ x + 1 = y ∧ na.length - y.toNat < na.length - x.toNat := fun h => ⟨by omega, x + 1, Sp.aI_step hx hlt h, rfl, by omega⟩
    refine fun _ => ⟨⟨by omega, by omega⟩, fun _ => ⟨fun hn => F x x0 hlt ?_, fun hn => S ?_⟩⟩
    · unfold Sp.eq4; rw [decide_eq_false_iff_not]; simp only [Sp.c0, Sp.c1, Sp.c2, Sp.c3]; first | omega | (simp only [bAnd, Bool.and_eq_true, Bool.and_eq_false_iff, decide_eq_true_eq, decide_eq_false_iff_not] at hn; omega)
    · unfold Sp.eq4; rw [decide_eq_true_eq]; simp only [Sp.c0, Sp.c1, Sp.c2, Sp.c3]; first | omega | (simp only [bAnd, Bool.and_eq_true, Bool.and_eq_false_iff, decide_eq_true_eq, decide_eq_false_iff_not] at hn; omega)
  · unfold Sp.sameG; rw [Sp.aI_end hx hge, decide_eq_true (show na.length = nb.length by omega)]; rfl
theorem s18 : SoundCt Go.Proofs.Try.prog 18 ct18 :=
  contractH followsMixed (look_sound (show Tb Go.Proofs.Try.prog tb18 from ⟨s44, trivial⟩)) (fun _ => false) (fun a => A18 ((cel 0 (arg 0 a)).list) ((cel 0 (arg 1 a)).list)) 6 18 ct18 rfl (by simp [ct18]) fun a => Eq.mp (by kernel_rfl) (v18 ((cel 0 (arg 0 a)).list) ((cel 1 (arg 0 a)).list) ((cel 0 (arg 1 a)).list) ((cel 1 (arg 1 a)).list))
end Go.Sx
