/- Contracts and conditions, continued. -/
import Derived.Test.YtbobgakeaoigeaaSxUse
import Derived.Test.YtbobgakeaoigeaaC22j
import Derived.KernelRfl
set_option linter.unusedVariables false
set_option linter.unusedSimpArgs false
set_option maxRecDepth 100000
set_option maxHeartbeats 4000000

noncomputable section

namespace Go
open Go.Sx
def Sp.bnI (ns : List (List C)) (t i j : Int) : Prop := 0 ≤ i ∧ i ≤ j ∧ j ≤ (ns.length : Int) ∧ (∀ k : Int, 0 ≤ k → k < i → Sp.c0 (rGet ns k) < t) ∧ (∀ k : Int, j ≤ k → k < (ns.length : Int) → ¬ Sp.c0 (rGet ns k) < t)
end Go

namespace Go
open Go.Sx
variable {ns ls : List (List C)} {i j t k n o : Int}
theorem Sp.cmp_lt {a b : Int} : Sp.cmp a b < 0 ↔ a < b := by unfold Sp.cmp; repeat' split
                                                             all_goals omega
theorem Sp.cmp_eq {a b : Int} : Sp.cmp a b = 0 ↔ a = b := by unfold Sp.cmp; repeat' split
                                                             all_goals omega
theorem Sp.bn_init : Sp.bnI ns t 0 (ns.length : Int) := ⟨by omega, by omega, by omega, fun k h0 h1 => by omega, fun k h0 h1 => by omega⟩
theorem Sp.asc_at (h : ns.Pairwise (fun a b => Sp.c0 a < Sp.c0 b)) {a b : Int} (h0 : 0 ≤ a) (hab : a < b) (hb : b < (ns.length : Int)) : Sp.c0 (rGet ns a) < Sp.c0 (rGet ns b) := by
  obtain ⟨p, rfl⟩ : ∃ p : Nat, a = (p : Int) := ⟨a.toNat, by omega⟩
  obtain ⟨q, rfl⟩ : ∃ q : Nat, b = (q : Int) := ⟨b.toNat, by omega⟩
  rw [Sp.row_get (by omega), Sp.row_get (by omega)]
  exact (List.pairwise_iff_getElem.1 h) p q (by omega) (by omega) (by omega)
theorem Sp.bn_up (hp : ns.Pairwise (fun a b => Sp.c0 a < Sp.c0 b)) (h : Sp.bnI ns t i j) {m : Int} (h1 : i ≤ m) (h2 : m < j) (hc : Sp.c0 (rGet ns m) < t) : Sp.bnI ns t (m + 1) j := by
  obtain ⟨p0, p1, p2, p3, p4⟩ := h
  refine ⟨by omega, by omega, p2, fun k k0 k1 => ?_, p4⟩
  by_cases e : k = m
  · rw [e]; exact hc
  · have := Sp.asc_at hp k0 (show k < m by omega) (by omega); omega
theorem Sp.bn_down (hp : ns.Pairwise (fun a b => Sp.c0 a < Sp.c0 b)) (h : Sp.bnI ns t i j) {m : Int} (h1 : i ≤ m) (h2 : m < j) (hc : ¬ Sp.c0 (rGet ns m) < t) : Sp.bnI ns t i m := by
  obtain ⟨p0, p1, p2, p3, p4⟩ := h
  refine ⟨p0, h1, by omega, p3, fun k k0 k1 => ?_⟩
  by_cases e : k = m
  · rw [e]; exact hc
  · have := Sp.asc_at hp (show 0 ≤ m by omega) (show m < k by omega) k1; omega
theorem Sp.bn_pos (h : Sp.bnI ns t i j) (hij : ¬ i < j) : Sp.posN ns t = i := by
  obtain ⟨p0, p1, p2, p3, p4⟩ := h
  have ha : Sp.at (Sp.geI t) ns i := by
    have := Sp.at_of (p := Sp.geI t) (xs := ns) i.toNat (by omega) (fun k k0 k1 => by unfold Sp.geI; rw [Bool.not_eq_false', decide_eq_true_eq]; exact p3 k k0 (by omega))
    rwa [show ((i.toNat : Nat) : Int) = i by omega] at this
  by_cases hl : i < (ns.length : Int)
  · exact Sp.posN_hit ha hl (p4 i (by omega) hl)
  · exact Sp.posN_end ha hl
theorem Sp.bn_yes (h0 : 0 ≤ i) (hl : i < (ns.length : Int)) (hc : Sp.c0 (rGet ns i) = t) : Sp.has ns t = true := Sp.has_iff.2 ⟨_, Sp.row_mem h0 hl, hc⟩
theorem Sp.bn_no (hp : ns.Pairwise (fun a b => Sp.c0 a < Sp.c0 b)) (h : Sp.bnI ns t i j) (hij : ¬ i < j) (hc : i < (ns.length : Int) → ¬ Sp.c0 (rGet ns i) = t) : Sp.has ns t = false := by
  obtain ⟨p0, p1, p2, p3, p4⟩ := h
  cases hh : Sp.has ns t
  · rfl
  · exfalso
    obtain ⟨x, hx, hx2⟩ := Sp.has_iff.1 hh
    obtain ⟨k, k0, k1, rfl⟩ := Sp.mem_row hx
    by_cases hki : k < i
    · have := p3 k k0 hki; omega
    · by_cases e : k = i
      · subst e; exact hc k1 hx2
      · have h1 := Sp.asc_at hp p0 (show i < k by omega) k1
        have h2 := p4 i (by omega) (by omega)
        omega
end Go

namespace Go.Sx
/-! ### function 56: graph.Add$1 -/
def ct56 : Ct := { ps := [(true, [.int .i64, .int .i64, .int .i64, .int .i64]), (false, [.int .i64])], rs := [(false, [.int .i64])], pre := fun _ => True, out := fun a => [[.i (Sp.cmp (cel 0 (arg 0 a)).int (cel 0 (arg 1 a)).int)]] }
def tb56 : List (Nat × Ct) := [(57, ct57)]
def A56  : FuncId → Nat → LoopAnn := fun _ _ => LoopAnn.unroll 200
abbrev B56 (i : Int) (k : Int) (n : Int) (o : Int) (t : Int) : Prop := vcF Go.Proofs.Try.prog (look tb56) (fun _ => false) (A56) 6 56 [.agg [.int .i64 i, .int .i64 k, .int .i64 n, .int .i64 o], .int .i64 t] [] (fun sv heap => Gives [(false, [.int .i64])] [[.i (Sp.cmp i t)]] sv heap)
theorem e56 (i : Int) (k : Int) (n : Int) (o : Int) (t : Int) : B56 i k n o t = (True ∧ (InR .i64 (Sp.cmp i t) → (Sp.cmp i t = Sp.cmp i t ∧ True) ∧ True)) := by kernel_rfl
theorem v56 (i : Int) (k : Int) (n : Int) (o : Int) (t : Int) : Holds (Wfs [.agg [.int .i64 i, .int .i64 k, .int .i64 n, .int .i64 o], .int .i64 t] → True → B56 i k n o t) := by
  refine ⟨fun hw hp => ?_⟩
  rw [e56]
  simp only [Wfs, Wf, InR, and_true] at hw
  simp only [eq_self, true_and, and_true, true_implies, implies_true, iAdd, iSub, iMul, iLen, bEq, bNe, bLt, bLe, bNot, pIn, pLe, pNe, InR, decide_eq_true_eq, decide_eq_false_iff_not, Bool.not_eq_true', Bool.not_eq_false', decide_eq_decide]
theorem s56 : SoundCt Go.Proofs.Try.prog 56 ct56 :=
  contractH followsMixed (look_sound (show Tb Go.Proofs.Try.prog tb56 from ⟨s57, trivial⟩)) (fun _ => false) (fun _ => A56) 6 56 ct56 rfl (by simp [ct56]) fun a => Eq.mp (by kernel_rfl) (v56 ((cel 0 (arg 0 a)).int) ((cel 1 (arg 0 a)).int) ((cel 2 (arg 0 a)).int) ((cel 3 (arg 0 a)).int) ((cel 0 (arg 1 a)).int))
end Go.Sx

namespace Go.Sx
/-! ### function 29: graph.Add -/
def ct29 : Ct := { ps := [(true, [.sl [.int .i64, .int .i64, .int .i64, .int .i64], .sl [.int .i64, .int .i64, .int .i64, .int .i64]]), (true, [.int .i64, .int .i64, .int .i64, .int .i64])], rs := [(true, [.sl [.int .i64, .int .i64, .int .i64, .int .i64], .sl [.int .i64, .int .i64, .int .i64, .int .i64]]), (false, [.int .i64])], pre := fun _ => True, out := fun a => [[.l (Sp.addN (cel 0 (arg 0 a)).list (cel 1 (arg 0 a)).list (cel 0 (arg 1 a)).int (cel 1 (arg 1 a)).int (cel 2 (arg 1 a)).int (cel 3 (arg 1 a)).int), .l (Sp.addL (cel 0 (arg 0 a)).list (cel 1 (arg 0 a)).list (cel 0 (arg 1 a)).int (cel 1 (arg 1 a)).int (cel 2 (arg 1 a)).int (cel 3 (arg 1 a)).int)], [.i (Sp.addE (cel 0 (arg 0 a)).list (cel 1 (arg 0 a)).list (cel 0 (arg 1 a)).int (cel 1 (arg 1 a)).int (cel 2 (arg 1 a)).int (cel 3 (arg 1 a)).int)]] }
def tb29 : List (Nat × Ct) := [(14, ct14), (39, ct39), (56, ct56), (58, ct58), (72, ct72), (73, ct73)]
def A29  : FuncId → Nat → LoopAnn := fun ff ii => bif Nat.beq ff 55 then (.on (fun sv0 => match sv0.tmps.getD 0 .undef, sv0.tmps.getD 1 .undef with | .sl _ nq, .int _ q0 => .inv (Int × Int) (fun z => Sp.bnI nq q0 z.1 z.2) (fun z => [(9, .int .i64 z.1), (10, .int .i64 z.2)]) (fun z => []) [] [0, 1, 2, 6, 7, 8, 9, 10, 11, 17, 31] (fun z => (z.2 - z.1).toNat) | _, _ => .unroll 0)) else .unroll 0
abbrev B29 (ns : List (List C)) (ls : List (List C)) (i : Int) (k : Int) (n : Int) (o : Int) : Prop := vcF Go.Proofs.Try.prog (look tb29) (fun _ => false) (A29) 8 29 [.agg [.sl [.int .i64, .int .i64, .int .i64, .int .i64] ns, .sl [.int .i64, .int .i64, .int .i64, .int .i64] ls], .agg [.int .i64 i, .int .i64 k, .int .i64 n, .int .i64 o]] [] (fun sv heap => Gives [(true, [.sl [.int .i64, .int .i64, .int .i64, .int .i64], .sl [.int .i64, .int .i64, .int .i64, .int .i64]]), (false, [.int .i64])] [[.l (Sp.addN ns ls i k n o), .l (Sp.addL ns ls i k n o)], [.i (Sp.addE ns ls i k n o)]] sv heap)
def h29_0 : List (List C) → List (List C) → Int → Int → Int → Int → List HB := fun (ns ls : List (List C)) (i k n o : Int) => [HB.box [SV.sl [.int .i64, .int .i64, .int .i64, .int .i64] ns, SV.sl [.int .i64, .int .i64, .int .i64, .int .i64] ls] 25, HB.box [SV.int .i64 i, SV.int .i64 k, SV.int .i64 n, SV.int .i64 o] 43, HB.box [SV.nils, SV.nils] 25]
theorem e29 (ns : List (List C)) (ls : List (List C)) (i : Int) (k : Int) (n : Int) (o : Int) : B29 ns ls i k n o = (True ∧ (True → True ∧ (bNot (Sp.vld ns ls) = false → True ∧ (True → True ∧ (bNot (Sp.fine i k n o) = true → ([] = Sp.addN ns ls i k n o ∧ [] = Sp.addL ns ls i k n o ∧ True) ∧ (1 = Sp.addE ns ls i k n o ∧ True) ∧ True) ∧ (bNot (Sp.fine i k n o) = false → pLe (iLen ns) 9223372036854775807 → (∃ (x : Int × Int), Sp.bnI ns i x.1 x.2 ∧ true = true ∧ ((IntKind.i64 = IntKind.i64 ∧ 0 = x.1) ∧ (IntKind.i64 = IntKind.i64 ∧ iLen ns = x.2) ∧ True) ∧ True) ∧ (∀ (x : Int × Int), true = true ∧ true = true) ∧ ∀ (x : Int × Int), Sp.bnI ns i x.1 x.2 → InR .i64 x.1 ∧ InR .i64 x.2 ∧ True → True → (bLt x.1 x.2 = true → InR .i64 (iAdd x.1 x.2) ∧ pSh 64 1 ∧ pIn 0 (iLen ns) (iWrap .i64 (iShr (iWrap .u64 (iAdd x.1 x.2)) 1)) ∧ (InR .i64 ((rGet ns (iWrap .i64 (iShr (iWrap .u64 (iAdd x.1 x.2)) 1))).headD default).int ∧ InR .i64 ((rGet ns (iWrap .i64 (iShr (iWrap .u64 (iAdd x.1 x.2)) 1))).tail.headD default).int ∧ InR .i64 ((rGet ns (iWrap .i64 (iShr (iWrap .u64 (iAdd x.1 x.2)) 1))).tail.tail.headD default).int ∧ InR .i64 ((rGet ns (iWrap .i64 (iShr (iWrap .u64 (iAdd x.1 x.2)) 1))).tail.tail.tail.headD default).int ∧ True → True ∧ (InR .i64 (Sp.cmp ((rGet ns (iWrap .i64 (iShr (iWrap .u64 (iAdd x.1 x.2)) 1))).headD default).int i) → (bLt (Sp.cmp ((rGet ns (iWrap .i64 (iShr (iWrap .u64 (iAdd x.1 x.2)) 1))).headD default).int i) 0 = true → InR .i64 (iAdd (iWrap .i64 (iShr (iWrap .u64 (iAdd x.1 x.2)) 1)) 1) ∧ (true = true ∧ (fun z => z = z) [SV.sl [.int .i64, .int .i64, .int .i64, .int .i64] ns, SV.int .i64 i, SV.fn 56 [], SV.lit .i64 0, SV.blit false, SV.int .i64 (iLen ns)]) ∧ h29_0 ns ls i k n o = h29_0 ns ls i k n o ∧ ∃ (y : Int × Int), Sp.bnI ns i y.1 y.2 ∧ true = true ∧ ((IntKind.i64 = IntKind.i64 ∧ iAdd (iWrap .i64 (iShr (iWrap .u64 (iAdd x.1 x.2)) 1)) 1 = y.1) ∧ (IntKind.i64 = IntKind.i64 ∧ x.2 = y.2) ∧ True) ∧ True ∧ (y.2 - y.1).toNat < (x.2 - x.1).toNat) ∧ (bLt (Sp.cmp ((rGet ns (iWrap .i64 (iShr (iWrap .u64 (iAdd x.1 x.2)) 1))).headD default).int i) 0 = false → (true = true ∧ (fun z => z = z) [SV.sl [.int .i64, .int .i64, .int .i64, .int .i64] ns, SV.int .i64 i, SV.fn 56 [], SV.lit .i64 0, SV.blit false, SV.int .i64 (iLen ns)]) ∧ h29_0 ns ls i k n o = h29_0 ns ls i k n o ∧ ∃ (y : Int × Int), Sp.bnI ns i y.1 y.2 ∧ true = true ∧ ((IntKind.i64 = IntKind.i64 ∧ x.1 = y.1) ∧ (IntKind.i64 = IntKind.i64 ∧ iWrap .i64 (iShr (iWrap .u64 (iAdd x.1 x.2)) 1) = y.2) ∧ True) ∧ True ∧ (y.2 - y.1).toNat < (x.2 - x.1).toNat)))) ∧ (bLt x.1 x.2 = false → (bLt x.1 (iLen ns) = true → pIn 0 (iLen ns) x.1 ∧ (InR .i64 ((rGet ns x.1).headD default).int ∧ InR .i64 ((rGet ns x.1).tail.headD default).int ∧ InR .i64 ((rGet ns x.1).tail.tail.headD default).int ∧ InR .i64 ((rGet ns x.1).tail.tail.tail.headD default).int ∧ True → True ∧ (InR .i64 (Sp.cmp ((rGet ns x.1).headD default).int i) → (bEq (Sp.cmp ((rGet ns x.1).headD default).int i) 0 = true → ([] = Sp.addN ns ls i k n o ∧ [] = Sp.addL ns ls i k n o ∧ True) ∧ (8 = Sp.addE ns ls i k n o ∧ True) ∧ True) ∧ (bEq (Sp.cmp ((rGet ns x.1).headD default).int i) 0 = false → pLe (iLen ns) 9223372036854775807 → (bEq (iLen ns) 64 = true → ([] = Sp.addN ns ls i k n o ∧ [] = Sp.addL ns ls i k n o ∧ True) ∧ (3 = Sp.addE ns ls i k n o ∧ True) ∧ True) ∧ (bEq (iLen ns) 64 = false → pLe (↑ns.length) 1000000 ∧ pLe (↑ls.length) 1000000 ∧ ((pLe 0 x.1 ∧ pLe x.1 ↑ns.length) ∧ 1 = 1 ∧ pLe (↑ns.length) 999999) ∧ (Sp.ins ns x.1 [[C.i i, C.i k, C.i n, C.i o]] = Sp.addN ns ls i k n o ∧ ls = Sp.addL ns ls i k n o ∧ True) ∧ (0 = Sp.addE ns ls i k n o ∧ True) ∧ True))))) ∧ (bLt x.1 (iLen ns) = false → pLe (iLen ns) 9223372036854775807 → (bEq (iLen ns) 64 = true → ([] = Sp.addN ns ls i k n o ∧ [] = Sp.addL ns ls i k n o ∧ True) ∧ (3 = Sp.addE ns ls i k n o ∧ True) ∧ True) ∧ (bEq (iLen ns) 64 = false → pLe (↑ns.length) 1000000 ∧ pLe (↑ls.length) 1000000 ∧ ((pLe 0 x.1 ∧ pLe x.1 ↑ns.length) ∧ 1 = 1 ∧ pLe (↑ns.length) 999999) ∧ (Sp.ins ns x.1 [[C.i i, C.i k, C.i n, C.i o]] = Sp.addN ns ls i k n o ∧ ls = Sp.addL ns ls i k n o ∧ True) ∧ (0 = Sp.addE ns ls i k n o ∧ True) ∧ True)))))) ∧ (bNot (Sp.vld ns ls) = true → ([] = Sp.addN ns ls i k n o ∧ [] = Sp.addL ns ls i k n o ∧ True) ∧ (1 = Sp.addE ns ls i k n o ∧ True) ∧ True))) := by kernel_rfl
theorem v29 (ns : List (List C)) (ls : List (List C)) (i : Int) (k : Int) (n : Int) (o : Int) : Holds (Wfs [.agg [.sl [.int .i64, .int .i64, .int .i64, .int .i64] ns, .sl [.int .i64, .int .i64, .int .i64, .int .i64] ls], .agg [.int .i64 i, .int .i64 k, .int .i64 n, .int .i64 o]] → True → B29 ns ls i k n o) := by
  refine ⟨fun hw hp => ?_⟩
  rw [e29]
  simp only [Wfs, Wf, InR, and_true] at hw
  simp only [eq_self, true_and, and_true, true_implies, implies_true, iAdd, iSub, iMul, iLen, bEq, bNe, bLt, bLe, bNot, pIn, pLe, pNe, InR, decide_eq_true_eq, decide_eq_false_iff_not, Bool.not_eq_true', Bool.not_eq_false', decide_eq_decide]
  refine ⟨fun hv => ⟨fun h => Sp.add_err (Sp.add1 (.inr h)) (by omega), fun hf _ => ⟨⟨(0, _), Sp.bn_init, rfl, rfl⟩, ?_⟩⟩, fun h => Sp.add_err (Sp.add1 (.inl h)) (by omega)⟩
  have V := Sp.vld_small hv
  have hp := Sp.nok_pw (Sp.vld_nok hv)
  rintro ⟨p, q⟩ hb hb1
  simp only at hb hb1 ⊢
  have p0 := hb.1
  have pq := hb.2.1
  have ql := hb.2.2.1
  refine ⟨fun hpq => ?_, fun hpq => ?_⟩
  · have mid : iWrap IntKind.i64 (iShr (iWrap IntKind.u64 (p + q)) 1) = (p + q) / 2 := by
      have e1 : iWrap IntKind.u64 (p + q) = p + q := by show IntKind.wrap _ _ = _; rw [IntKind.wrap_u64]; omega
      have e2 : iShr (p + q) 1 = (p + q) / 2 := by show Int.fdiv (p + q) 2 = _; rw [Int.fdiv_eq_ediv_of_nonneg _ (by omega)]
      rw [e1, e2]
      show IntKind.wrap _ _ = _
      rw [IntKind.wrap_i64]; omega
    rw [mid]
    have m0 : p ≤ (p + q) / 2 := by omega
    have m1 : (p + q) / 2 < q := by omega
    simp only [Sp.cmp_lt]
    refine ⟨⟨by omega, by omega⟩, by simp [pSh], ⟨by omega, by omega⟩, fun _ _ => ⟨fun hl => ⟨by omega, ((p + q) / 2 + 1, q), Sp.bn_up hp hb m0 m1 hl, ⟨rfl, rfl⟩, by simp only; omega⟩, fun hl => ⟨(p, (p + q) / 2), Sp.bn_down hp hb m0 m1 hl, ⟨rfl, rfl⟩, by simp only; omega⟩⟩⟩
  have hI : Sp.insN ns i k n o = Sp.ins ns p [[C.i i, C.i k, C.i n, C.i o]] := by unfold Sp.insN; rw [Sp.bn_pos hb hpq]
  rw [← hI]
  simp only [Sp.cmp_eq]
  have fin : Sp.has ns i = false → (ns.length : Int) ≤ 9223372036854775807 → ((ns.length : Int) = 64 → ([] = Sp.addN ns ls i k n o ∧ [] = Sp.addL ns ls i k n o) ∧ 3 = Sp.addE ns ls i k n o) ∧ (¬ (ns.length : Int) = 64 → (ns.length : Int) ≤ 1000000 ∧ (ls.length : Int) ≤ 1000000 ∧ ((0 ≤ p ∧ p ≤ (ns.length : Int)) ∧ (ns.length : Int) ≤ 999999) ∧ (Sp.insN ns i k n o = Sp.addN ns ls i k n o ∧ ls = Sp.addL ns ls i k n o) ∧ 0 = Sp.addE ns ls i k n o) := fun hh _ =>
    ⟨fun h => Sp.add_err (Sp.add3 hv hf hh (by omega)) (by omega), fun h => ⟨by omega, by omega, ⟨⟨by omega, by omega⟩, by omega⟩, Sp.add_ok (Sp.add0 hv hf hh (by omega))⟩⟩
  exact ⟨fun hl => ⟨⟨p0, hl⟩, fun _ _ => ⟨fun he => Sp.add_err (Sp.add8 hv hf (Sp.bn_yes p0 hl he)) (by omega), fun he => fin (Sp.bn_no hp hb hpq fun _ => he)⟩⟩, fun hl => fin (Sp.bn_no hp hb hpq fun h => (hl h).elim)⟩
theorem s29 : SoundCt Go.Proofs.Try.prog 29 ct29 :=
  contractH followsMixed (look_sound (show Tb Go.Proofs.Try.prog tb29 from ⟨s14, ⟨s39, ⟨s56, ⟨s58, ⟨s72, ⟨s73, trivial⟩⟩⟩⟩⟩⟩)) (fun _ => false) (fun _ => A29) 8 29 ct29 rfl (by simp [ct29]) fun a => Eq.mp (by kernel_rfl) (v29 ((cel 0 (arg 0 a)).list) ((cel 1 (arg 0 a)).list) ((cel 0 (arg 1 a)).int) ((cel 1 (arg 1 a)).int) ((cel 2 (arg 1 a)).int) ((cel 3 (arg 1 a)).int))
end Go.Sx

