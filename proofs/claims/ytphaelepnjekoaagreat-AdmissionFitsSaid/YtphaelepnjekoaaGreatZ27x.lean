import Derived.Test.YtphaelepnjekoaaGreatSxUse
import Derived.Test.YtphaelepnjekoaaGreatZ27w
import Derived.KernelRfl
set_option linter.unusedVariables false
set_option linter.unusedSimpArgs false
set_option maxRecDepth 100000
set_option maxHeartbeats 4000000
namespace Go
open Go.Sx
section
variable {ns ls cs os l bs : List (List C)} {w t z o x : Int}
theorem Sp.upI_init {p : Int → Bool} {n : Nat} : Sp.upI p n 0 := ⟨by omega, by omega, fun j _ _ => by omega⟩
theorem Sp.upI_next {p : Int → Bool} {n : Nat} (h : Sp.upI p n z) (hz : z < (n : Int)) (hp : p z = true) : Sp.upI p n (z + 1) := by
 obtain ⟨a, b, c⟩ := h
 refine ⟨by omega, by omega, fun j j0 j1 => ?_⟩
 by_cases e : j = z
 · rw [e]; exact hp
 · exact c j j0 (by omega)
theorem Sp.upI_end {p : Int → Bool} {n : Nat} (h : Sp.upI p n z) (hz : ¬ z < (n : Int)) : true = Sp.allI p n := (Sp.allI_iff.2 fun k k0 k1 => h.2.2 k k0 (by omega)).symm
theorem Sp.nxt_hit (h : Sp.at (Sp.canB ls l t) os x) (hx : x < (os.length : Int)) (hp : Sp.canB ls l t (rGet os x) = true) : Sp.c0 (rGet os x) = Sp.nxt ls os l t := by
 unfold Sp.nxt Sp.nxI
 rw [Sp.at_hit h hx hp, decide_eq_true h.1]; rfl
theorem Sp.nxt_miss (h : Sp.at (Sp.canB ls l t) os x) (hx : ¬ x < (os.length : Int)) : 0 = Sp.nxt ls os l t := by
 unfold Sp.nxt Sp.nxI
 rw [Sp.at_end h hx]; rfl
theorem Sp.latI_init : Sp.latI l t 0 (-1) := ⟨by omega, by omega, by simp⟩
theorem Sp.latI_next (h : Sp.latI l t z o) (hz : z < (l.length : Int)) : Sp.latI l t (z + 1) (Sp.latF t o (rGet l z)) := by
 obtain ⟨a, b, c⟩ := h
 refine ⟨by omega, by omega, ?_⟩
 rw [Sp.take_succ a hz, List.foldl_append, ← c]; rfl
theorem Sp.latI_end (h : Sp.latI l t z o) (hz : ¬ z < (l.length : Int)) : o = Sp.lat l t := by
 obtain ⟨a, b, c⟩ := h
 rw [c, List.take_of_length_le (by omega)]; rfl
theorem Sp.spI_init : Sp.spI l 0 0 := ⟨by omega, by omega, by simp [Sp.spn]⟩
theorem Sp.spI_next (h : Sp.spI l z o) (hz : z < (l.length : Int)) : Sp.spI l (z + 1) (max o (Sp.c3 (rGet l z))) := by
 obtain ⟨a, b, c⟩ := h
 refine ⟨by omega, by omega, ?_⟩
 unfold Sp.spn at c ⊢
 rw [Sp.take_succ a hz, List.foldl_append, ← c]; rfl
theorem Sp.spI_end (h : Sp.spI l z o) (hz : ¬ z < (l.length : Int)) : o = Sp.spn l := by
 obtain ⟨a, b, c⟩ := h
 rw [c, List.take_of_length_le (by omega)]
theorem Sp.sum_bd (h : Sp.prb ns ls cs w = true) : Sp.sum cs ≤ 64 * 1099511627776 ∧ Sp.critR ns ls cs ≤ 64 * 1099511627776 ∧ 0 ≤ Sp.critR ns ls cs := by
  obtain ⟨hv, hl, hw, hc⟩ := Sp.cs_nn h
  have h64 := (Sp.vld_small hv).1
  obtain ⟨T, hC, _⟩ := Sp.crit_lo (cs := cs) hv
  refine ⟨?_, ?_, hC⟩
  · have : ∀ xs : List (List C), (∀ x ∈ xs, Sp.c0 x ≤ 1099511627776) → Sp.sum xs ≤ xs.length * 1099511627776 := fun xs => by
      induction xs with
      | nil => intro _; simp [Sp.sum]
      | cons x r ih =>
        intro hx
        have h1 := ih fun y hy => hx y (List.mem_cons_of_mem _ hy)
        have h2 := hx x List.mem_cons_self
        rw [Sp.sum_cons, List.length_cons]; omega
    have := this cs fun x hx => by
      obtain ⟨k, k0, k1, rfl⟩ := Sp.mem_rGet hx
      exact (hc k).2
    omega
  · have hidx : Sp.idx Sp.badC cs 0 < 0 := by
      unfold Sp.prb at h
      simp only [Bool.and_eq_true, decide_eq_true_eq] at h
      exact h.1.2.2
    obtain ⟨b, out, hr⟩ := Sp.rr_all (ls := ls) hv hl hidx (Sp.ord ns ls).length (Nat.le_refl _)
    have e := Sp.rr_end hr (by omega)
    have := hr.2.2.2.2.2
    have ho := Sp.vld_ordlen hv
    omega
theorem Sp.gok_time (h : Sp.prb ns ls cs w = true) (g : Sp.gok ns ls cs w (l, bs, t)) : 0 ≤ t ∧ t ≤ 1000 * 1099511627776 ∧ (bs.length : Int) = w ∧ l.length ≤ 64 := by
 obtain ⟨hv, hl, hw, hc⟩ := Sp.cs_nn h
 have h64 := (Sp.vld_small hv).1
 obtain ⟨b1, b2, b3⟩ := Sp.sum_bd h
 obtain ⟨T, p, hT, g⟩ := g
 have h1 := (g.top hT hw.1 fun i => (hc i).1).1
 have t0 := g.t0
 have bl := g.bl
 have ll := g.ll
 simp only at h1 t0 bl ll
 refine ⟨t0, ?_, bl, by omega⟩
 have h2 := Int.mul_le_mul_of_nonneg_left b2 (show 0 ≤ w - 1 by omega)
 have h3 := Int.mul_le_mul_of_nonneg_right hw.1 t0
 omega
theorem Sp.cplE_ok (h : Sp.prb ns ls cs w = true) : Sp.cplE ns ls cs w = Sp.cpl ns ls cs w ∧ Sp.cplK ns ls cs w = 0 := by unfold Sp.cplE Sp.cplK; rw [h]; exact ⟨rfl, rfl⟩
theorem Sp.cplE_no (h : Sp.prb ns ls cs w = false) : Sp.cplE ns ls cs w = [] ∧ Sp.cplK ns ls cs w = 1 := by unfold Sp.cplE Sp.cplK; rw [h]; exact ⟨rfl, rfl⟩
end
end Go
namespace Go.Sx
def ct60 : Ct := { ps := [(false, [.sl [.int .i64, .int .i64, .int .i64, .int .i64]]), (false, [.int .i64])], rs := [(false, [.int .i64])], pre := fun _ => True, out := fun a => [[.i (Sp.nix (cel 0 (arg 0 a)).list (cel 0 (arg 1 a)).int)]] }
def tb60 : List (Nat × Ct) := []
def A60 (l : List (List C)) (id : Int) : FuncId → Nat → LoopAnn := fun _ ii => bif Nat.beq ii 2 then .inv (Int) (fun z => Sp.at (Sp.isI id) l z) (fun z => [(5, .int .i64 z)]) (fun z => []) [] [0, 1, 4, 5, 9, 18] (fun z => l.length - z.toNat) else .unroll 0
abbrev B60 (l : List (List C)) (id : Int) : Prop := vcF Go.Proofs.Tryz.prog (look tb60) (fun _ => false) (A60 l id) 6 60 [.sl [.int .i64, .int .i64, .int .i64, .int .i64] l, .int .i64 id] [] (fun sv heap => Gives [(false, [.int .i64])] [[.i (Sp.nix l id)]] sv heap)
theorem e60 (l : List (List C)) (id : Int) : B60 l id = ((∃ (x : Int), Sp.at (Sp.isI id) l x ∧ true = true ∧ ((IntKind.i64 = IntKind.i64 ∧ 0 = x) ∧ True) ∧ True) ∧ (∀ (x : Int), true = true ∧ true = true) ∧ ∀ (x : Int), Sp.at (Sp.isI id) l x → InR .i64 x ∧ True → True → pLe (iLen l) 9223372036854775807 → (bLt x (iLen l) = true → pIn 0 (iLen l) x ∧ (InR .i64 (q0 (rGet l x)) → (bEq (q0 (rGet l x)) id = true → (x = Sp.nix l id ∧ True) ∧ True) ∧ (bEq (q0 (rGet l x)) id = false → InR .i64 (iAdd x 1) ∧ (true = true ∧ (fun z => z = z) [SV.sl [.int .i64, .int .i64, .int .i64, .int .i64] l, SV.int .i64 id]) ∧ ([] : List HB) = [] ∧ ∃ (y : Int), Sp.at (Sp.isI id) l y ∧ true = true ∧ ((IntKind.i64 = IntKind.i64 ∧ iAdd x 1 = y) ∧ True) ∧ True ∧ l.length - y.toNat < l.length - x.toNat))) ∧ (bLt x (iLen l) = false → (-1 = Sp.nix l id ∧ True) ∧ True)) := by kernel_rfl
theorem v60 (l : List (List C)) (id : Int) : Holds (Wfs [.sl [.int .i64, .int .i64, .int .i64, .int .i64] l, .int .i64 id] → True → B60 l id) := by
 refine ⟨fun hw hp => ?_⟩
 rw [e60]
 delta q0
 simp only [Wfs, Wf, InR, and_true] at hw
 simp only [eq_self, true_and, and_true, true_implies, implies_true, iAdd, iSub, iMul, iLen, bEq, bNe, bLt, bLe, bNot, pIn, pLe, pNe, InR, decide_eq_true_eq, decide_eq_false_iff_not, Bool.not_eq_true', Bool.not_eq_false', decide_eq_decide]
 refine ⟨⟨0, Sp.at_init, rfl⟩, fun x hx hx1 _ => ⟨fun hlt => ⟨⟨hx.1, hlt⟩, fun _ => ⟨fun h => (Sp.at_hit hx hlt (decide_eq_true h)).symm, fun h => ⟨by omega, x + 1, Sp.at_step hx hlt (decide_eq_false h), rfl, by have := hx.1; omega⟩⟩⟩, fun hge => (Sp.at_end hx hge).symm⟩⟩
theorem s60 : SoundCt Go.Proofs.Tryz.prog 60 ct60 :=
 contractH followsMixed (look_sound (show Tb Go.Proofs.Tryz.prog tb60 from trivial)) (fun _ => false) (fun a => A60 ((cel 0 (arg 0 a)).list) ((cel 0 (arg 1 a)).int)) 6 60 ct60 rfl (by simp [ct60]) fun a => Eq.mp (by kernel_rfl) (v60 ((cel 0 (arg 0 a)).list) ((cel 0 (arg 1 a)).int))
end Go.Sx
namespace Go.Sx
def ct61 : Ct := { ps := [(true, [.sl [.int .i64, .int .i64, .int .i64, .int .i64], .sl [.int .i64, .int .i64, .int .i64, .int .i64]]), (false, [.sl [.int .i64, .int .i64, .int .i64, .int .i64]]), (false, [.int .i64]), (false, [.int .i64])], rs := [(false, [.bool])], pre := fun _ => True, out := fun a => [[.b (Sp.rdA (cel 1 (arg 0 a)).list (cel 0 (arg 1 a)).list (cel 0 (arg 2 a)).int (cel 0 (arg 3 a)).int)]] }
def tb61 : List (Nat × Ct) := [(60, ct60)]
def A61 (ls : List (List C)) (l : List (List C)) (id : Int) (t : Int) : FuncId → Nat → LoopAnn := fun _ ii => bif Nat.beq ii 2 then .inv (Int) (fun z => Sp.upI (Sp.rdS ls l id t) ls.length z) (fun z => [(9, .int .i64 z)]) (fun z => []) [] [0, 1, 2, 3, 4, 8, 9, 10, 15, 25, 44] (fun z => ls.length - z.toNat) else .unroll 0
abbrev B61 (ns : List (List C)) (ls : List (List C)) (l : List (List C)) (id : Int) (t : Int) : Prop := vcF Go.Proofs.Tryz.prog (look tb61) (fun _ => false) (A61 ls l id t) 6 61 [.agg [.sl [.int .i64, .int .i64, .int .i64, .int .i64] ns, .sl [.int .i64, .int .i64, .int .i64, .int .i64] ls], .sl [.int .i64, .int .i64, .int .i64, .int .i64] l, .int .i64 id, .int .i64 t] [] (fun sv heap => Gives [(false, [.bool])] [[.b (Sp.rdA ls l id t)]] sv heap)
def h61_0 : List (List C) → List (List C) → List (List C) → Int → Int → List SV := fun (ns ls l : List (List C)) (id t : Int) => [SV.agg [SV.sl [.int .i64, .int .i64, .int .i64, .int .i64] ns, SV.sl [.int .i64, .int .i64, .int .i64, .int .i64] ls], SV.sl [.int .i64, .int .i64, .int .i64, .int .i64] l, SV.int .i64 id, SV.int .i64 t, SV.ref 0 0]
def m61_0 (ns : List (List C)) (ls : List (List C)) (l : List (List C)) (id : Int) (t : Int) (x : Int) : Prop := InR .i64 (iAdd x 1) ∧ (true = true ∧ h61_0 ns ls l id t = h61_0 ns ls l id t) ∧ (fun z => z = z) [HB.box [SV.sl [.int .i64, .int .i64, .int .i64, .int .i64] ns, SV.sl [.int .i64, .int .i64, .int .i64, .int .i64] ls] 50] ∧ ∃ (y : Int), Sp.upI (Sp.rdS ls l id t) ls.length y ∧ true = true ∧ ((IntKind.i64 = IntKind.i64 ∧ iAdd x 1 = y) ∧ True) ∧ True ∧ ls.length - y.toNat < ls.length - x.toNat
theorem e61 (ns : List (List C)) (ls : List (List C)) (l : List (List C)) (id : Int) (t : Int) : B61 ns ls l id t = ((∃ (x : Int), Sp.upI (Sp.rdS ls l id t) ls.length x ∧ true = true ∧ ((IntKind.i64 = IntKind.i64 ∧ 0 = x) ∧ True) ∧ True) ∧ (∀ (x : Int), true = true ∧ true = true) ∧ ∀ (x : Int), Sp.upI (Sp.rdS ls l id t) ls.length x → InR .i64 x ∧ True → True → pLe (iLen ls) 9223372036854775807 → (bLt x (iLen ls) = true → pIn 0 (iLen ls) x ∧ (InR .i64 (q2 (rGet ls x)) → (bNe (q2 (rGet ls x)) id = true → (m61_0 ns ls l id t x)) ∧ (bNe (q2 (rGet ls x)) id = false → pIn 0 (iLen ls) x ∧ (InR .i64 (q0 (rGet ls x)) → True ∧ (InR .i64 (Sp.nix l (q0 (rGet ls x))) → (bLt (Sp.nix l (q0 (rGet ls x))) 0 = false → pIn 0 (iLen l) (Sp.nix l (q0 (rGet ls x))) ∧ (InR .i64 (q3 (rGet l (Sp.nix l (q0 (rGet ls x))))) → (bLt t (q3 (rGet l (Sp.nix l (q0 (rGet ls x))))) = true → (false = Sp.rdA ls l id t ∧ True) ∧ True) ∧ (bLt t (q3 (rGet l (Sp.nix l (q0 (rGet ls x))))) = false → (m61_0 ns ls l id t x)))) ∧ (bLt (Sp.nix l (q0 (rGet ls x))) 0 = true → (false = Sp.rdA ls l id t ∧ True) ∧ True)))))) ∧ (bLt x (iLen ls) = false → (true = Sp.rdA ls l id t ∧ True) ∧ True)) := by kernel_rfl
theorem v61 (ns : List (List C)) (ls : List (List C)) (l : List (List C)) (id : Int) (t : Int) : Holds (Wfs [.agg [.sl [.int .i64, .int .i64, .int .i64, .int .i64] ns, .sl [.int .i64, .int .i64, .int .i64, .int .i64] ls], .sl [.int .i64, .int .i64, .int .i64, .int .i64] l, .int .i64 id, .int .i64 t] → True → B61 ns ls l id t) := by
 refine ⟨fun hw hp => ?_⟩
 rw [e61]
 delta q0 q2 q3 m61_0
 simp only [Wfs, Wf, InR, and_true] at hw
 simp only [eq_self, true_and, and_true, true_implies, implies_true, iAdd, iSub, iMul, iLen, bEq, bNe, bLt, bLe, bNot, pIn, pLe, pNe, InR, decide_eq_true_eq, decide_eq_false_iff_not, Bool.not_eq_true', Bool.not_eq_false', decide_eq_decide]
 refine ⟨⟨0, Sp.upI_init, rfl⟩, fun x hx hx1 _ => ⟨fun hlt => ?_, fun hge => Sp.upI_end hx hge⟩⟩
 have h0 := hx.1
 have c2 : ((rGet ls x).tail.tail.headD default).int = Sp.c2 (rGet ls x) := rfl
 have c0 : ((rGet ls x).headD default).int = Sp.c0 (rGet ls x) := rfl
 have next : Sp.rdS ls l id t x = true → (-9223372036854775808 ≤ x + 1 ∧ x + 1 ≤ 9223372036854775807) ∧ ∃ y, Sp.upI (Sp.rdS ls l id t) ls.length y ∧ x + 1 = y ∧ ls.length - y.toNat < ls.length - x.toNat := fun h => ⟨by omega, x + 1, Sp.upI_next hx hlt h, rfl, by omega⟩
 have stop : Sp.rdS ls l id t x = false → false = Sp.rdA ls l id t := fun h => (Sp.allI_no h0 hlt h).symm
 refine ⟨⟨h0, hlt⟩, fun _ => ⟨fun h => next ?_, fun h => ⟨⟨h0, hlt⟩, fun _ _ => ⟨fun hn => ?_, fun hn => stop ?_⟩⟩⟩⟩
 · unfold Sp.rdS; rw [decide_eq_false (show ¬ Sp.c2 (rGet ls x) = id from h)]; rfl
 · have hn' : 0 ≤ Sp.nix l (Sp.c0 (rGet ls x)) := Int.not_lt.1 hn
   have hb := (Sp.nix_has (ns := l) (Sp.has_t hn')).2.1
   refine ⟨⟨hn', hb⟩, fun _ => ⟨fun h2 => stop ?_, fun h2 => next ?_⟩⟩
   · unfold Sp.rdS; rw [decide_eq_true (show Sp.c2 (rGet ls x) = id from h), decide_eq_true hn', decide_eq_false (show ¬ Sp.c3 (rGet l (Sp.nix l (Sp.c0 (rGet ls x)))) ≤ t from Int.not_le.2 h2)]; rfl
   · unfold Sp.rdS; rw [decide_eq_true (show Sp.c2 (rGet ls x) = id from h), decide_eq_true hn', decide_eq_true (show Sp.c3 (rGet l (Sp.nix l (Sp.c0 (rGet ls x)))) ≤ t from Int.not_lt.1 h2)]; rfl
 · unfold Sp.rdS; rw [decide_eq_true (show Sp.c2 (rGet ls x) = id from h), decide_eq_false (show ¬ 0 ≤ Sp.nix l (Sp.c0 (rGet ls x)) from Int.not_le.2 hn)]; rfl
theorem s61 : SoundCt Go.Proofs.Tryz.prog 61 ct61 :=
 contractH followsMixed (look_sound (show Tb Go.Proofs.Tryz.prog tb61 from ⟨s60, trivial⟩)) (fun _ => false) (fun a => A61 ((cel 1 (arg 0 a)).list) ((cel 0 (arg 1 a)).list) ((cel 0 (arg 2 a)).int) ((cel 0 (arg 3 a)).int)) 6 61 ct61 rfl (by simp [ct61]) fun a => Eq.mp (by kernel_rfl) (v61 ((cel 0 (arg 0 a)).list) ((cel 1 (arg 0 a)).list) ((cel 0 (arg 1 a)).list) ((cel 0 (arg 2 a)).int) ((cel 0 (arg 3 a)).int))
end Go.Sx
namespace Go.Sx
def ct37 : Ct := { ps := [(false, [.sl [.int .i64]]), (false, [.int .i64])], rs := [(false, [.int .i64])], pre := fun _ => True, out := fun a => [[.i (Sp.fre (cel 0 (arg 0 a)).list (cel 0 (arg 1 a)).int)]] }
def tb37 : List (Nat × Ct) := []
def A37 (bs : List (List C)) (t : Int) : FuncId → Nat → LoopAnn := fun _ ii => bif Nat.beq ii 2 then .inv (Int) (fun z => Sp.at (Sp.isF t) bs z) (fun z => [(5, .int .i64 z)]) (fun z => []) [] [0, 1, 4, 5, 9, 17] (fun z => bs.length - z.toNat) else .unroll 0
abbrev B37 (bs : List (List C)) (t : Int) : Prop := vcF Go.Proofs.Tryz.prog (look tb37) (fun _ => false) (A37 bs t) 6 37 [.sl [.int .i64] bs, .int .i64 t] [] (fun sv heap => Gives [(false, [.int .i64])] [[.i (Sp.fre bs t)]] sv heap)
theorem e37 (bs : List (List C)) (t : Int) : B37 bs t = ((∃ (x : Int), Sp.at (Sp.isF t) bs x ∧ true = true ∧ ((IntKind.i64 = IntKind.i64 ∧ 0 = x) ∧ True) ∧ True) ∧ (∀ (x : Int), true = true ∧ true = true) ∧ ∀ (x : Int), Sp.at (Sp.isF t) bs x → InR .i64 x ∧ True → True → pLe (iLen bs) 9223372036854775807 → (bLt x (iLen bs) = true → pIn 0 (iLen bs) x ∧ (InR .i64 (q0 (rGet bs x)) → (bLe (q0 (rGet bs x)) t = true → (x = Sp.fre bs t ∧ True) ∧ True) ∧ (bLe (q0 (rGet bs x)) t = false → InR .i64 (iAdd x 1) ∧ (true = true ∧ [SV.sl [.int .i64] bs, SV.int .i64 t] = [SV.sl [.int .i64] bs, SV.int .i64 t]) ∧ ([] : List HB) = [] ∧ ∃ (y : Int), Sp.at (Sp.isF t) bs y ∧ true = true ∧ ((IntKind.i64 = IntKind.i64 ∧ iAdd x 1 = y) ∧ True) ∧ True ∧ bs.length - y.toNat < bs.length - x.toNat))) ∧ (bLt x (iLen bs) = false → (-1 = Sp.fre bs t ∧ True) ∧ True)) := by kernel_rfl
theorem v37 (bs : List (List C)) (t : Int) : Holds (Wfs [.sl [.int .i64] bs, .int .i64 t] → True → B37 bs t) := by
 refine ⟨fun hw hp => ?_⟩
 rw [e37]
 delta q0
 simp only [Wfs, Wf, InR, and_true] at hw
 simp only [eq_self, true_and, and_true, true_implies, implies_true, iAdd, iSub, iMul, iLen, bEq, bNe, bLt, bLe, bNot, pIn, pLe, pNe, InR, decide_eq_true_eq, decide_eq_false_iff_not, Bool.not_eq_true', Bool.not_eq_false', decide_eq_decide]
 refine ⟨⟨0, Sp.at_init, rfl⟩, fun x hx hx1 _ => ⟨fun hlt => ⟨⟨hx.1, hlt⟩, fun _ => ⟨fun h => (Sp.at_hit hx hlt (decide_eq_true h)).symm, fun h => ⟨by omega, x + 1, Sp.at_step hx hlt (decide_eq_false h), rfl, by have := hx.1; omega⟩⟩⟩, fun hge => (Sp.at_end hx hge).symm⟩⟩
theorem s37 : SoundCt Go.Proofs.Tryz.prog 37 ct37 :=
 contractH followsMixed (look_sound (show Tb Go.Proofs.Tryz.prog tb37 from trivial)) (fun _ => false) (fun a => A37 ((cel 0 (arg 0 a)).list) ((cel 0 (arg 1 a)).int)) 6 37 ct37 rfl (by simp [ct37]) fun a => Eq.mp (by kernel_rfl) (v37 ((cel 0 (arg 0 a)).list) ((cel 0 (arg 1 a)).int))
end Go.Sx
namespace Go.Sx
def ct36 : Ct := { ps := [(true, [.sl [.int .i64, .int .i64, .int .i64, .int .i64], .sl [.int .i64, .int .i64, .int .i64, .int .i64]]), (false, [.sl [.int .i64]]), (false, [.sl [.int .i64, .int .i64, .int .i64, .int .i64]]), (false, [.int .i64])], rs := [(false, [.int .i64])], pre := fun _ => True, out := fun a => [[.i (Sp.nxt (cel 1 (arg 0 a)).list (cel 0 (arg 1 a)).list (cel 0 (arg 2 a)).list (cel 0 (arg 3 a)).int)]] }
def tb36 : List (Nat × Ct) := [(60, ct60), (61, ct61)]
def A36 (ls : List (List C)) (os : List (List C)) (l : List (List C)) (t : Int) : FuncId → Nat → LoopAnn := fun _ ii => bif Nat.beq ii 2 then .inv (Int) (fun z => Sp.at (Sp.canB ls l t) os z) (fun z => [(9, .int .i64 z)]) (fun z => []) [] [0, 1, 2, 3, 4, 8, 9, 13, 32] (fun z => os.length - z.toNat) else .unroll 0
abbrev B36 (ns : List (List C)) (ls : List (List C)) (os : List (List C)) (l : List (List C)) (t : Int) : Prop := vcF Go.Proofs.Tryz.prog (look tb36) (fun _ => false) (A36 ls os l t) 6 36 [.agg [.sl [.int .i64, .int .i64, .int .i64, .int .i64] ns, .sl [.int .i64, .int .i64, .int .i64, .int .i64] ls], .sl [.int .i64] os, .sl [.int .i64, .int .i64, .int .i64, .int .i64] l, .int .i64 t] [] (fun sv heap => Gives [(false, [.int .i64])] [[.i (Sp.nxt ls os l t)]] sv heap)
def h36_0 : List (List C) → List (List C) → List (List C) → List (List C) → Int → List SV := fun (ns ls os l : List (List C)) (t : Int) => [SV.agg [SV.sl [.int .i64, .int .i64, .int .i64, .int .i64] ns, SV.sl [.int .i64, .int .i64, .int .i64, .int .i64] ls], SV.sl [.int .i64] os, SV.sl [.int .i64, .int .i64, .int .i64, .int .i64] l, SV.int .i64 t, SV.ref 0 0]
def m36_0 (ns : List (List C)) (ls : List (List C)) (os : List (List C)) (l : List (List C)) (t : Int) (x : Int) : Prop := InR .i64 (iAdd x 1) ∧ (true = true ∧ h36_0 ns ls os l t = h36_0 ns ls os l t) ∧ (fun z => z = z) [HB.box [SV.sl [.int .i64, .int .i64, .int .i64, .int .i64] ns, SV.sl [.int .i64, .int .i64, .int .i64, .int .i64] ls] 50] ∧ ∃ (y : Int), Sp.at (Sp.canB ls l t) os y ∧ true = true ∧ ((IntKind.i64 = IntKind.i64 ∧ iAdd x 1 = y) ∧ True) ∧ True ∧ os.length - y.toNat < os.length - x.toNat
theorem e36 (ns : List (List C)) (ls : List (List C)) (os : List (List C)) (l : List (List C)) (t : Int) : B36 ns ls os l t = ((∃ (x : Int), Sp.at (Sp.canB ls l t) os x ∧ true = true ∧ ((IntKind.i64 = IntKind.i64 ∧ 0 = x) ∧ True) ∧ True) ∧ (∀ (x : Int), true = true ∧ true = true) ∧ ∀ (x : Int), Sp.at (Sp.canB ls l t) os x → InR .i64 x ∧ True → True → pLe (iLen os) 9223372036854775807 → (bLt x (iLen os) = true → pIn 0 (iLen os) x ∧ (InR .i64 (q0 (rGet os x)) → True ∧ (InR .i64 (Sp.nix l (q0 (rGet os x))) → (bLt (Sp.nix l (q0 (rGet os x))) 0 = true → pIn 0 (iLen os) x ∧ (InR .i64 (q0 (rGet os x)) → True ∧ (True → (Sp.rdA ls l (q0 (rGet os x)) t = true → pIn 0 (iLen os) x ∧ (InR .i64 (q0 (rGet os x)) → ((q0 (rGet os x)) = Sp.nxt ls os l t ∧ True) ∧ True)) ∧ (Sp.rdA ls l (q0 (rGet os x)) t = false → (m36_0 ns ls os l t x))))) ∧ (bLt (Sp.nix l (q0 (rGet os x))) 0 = false → (m36_0 ns ls os l t x))))) ∧ (bLt x (iLen os) = false → (0 = Sp.nxt ls os l t ∧ True) ∧ True)) := by kernel_rfl
theorem v36 (ns : List (List C)) (ls : List (List C)) (os : List (List C)) (l : List (List C)) (t : Int) : Holds (Wfs [.agg [.sl [.int .i64, .int .i64, .int .i64, .int .i64] ns, .sl [.int .i64, .int .i64, .int .i64, .int .i64] ls], .sl [.int .i64] os, .sl [.int .i64, .int .i64, .int .i64, .int .i64] l, .int .i64 t] → True → B36 ns ls os l t) := by
 refine ⟨fun hw hp => ?_⟩
 rw [e36]
 delta q0 m36_0
 simp only [Wfs, Wf, InR, and_true] at hw
 simp only [eq_self, true_and, and_true, true_implies, implies_true, iAdd, iSub, iMul, iLen, bEq, bNe, bLt, bLe, bNot, pIn, pLe, pNe, InR, decide_eq_true_eq, decide_eq_false_iff_not, Bool.not_eq_true', Bool.not_eq_false', decide_eq_decide]
 refine ⟨⟨0, Sp.at_init, rfl⟩, fun x hx hx1 _ => ⟨fun hlt => ?_, fun hge => Sp.nxt_miss hx hge⟩⟩
 have h0 := hx.1
 have next : Sp.canB ls l t (rGet os x) = false → (-9223372036854775808 ≤ x + 1 ∧ x + 1 ≤ 9223372036854775807) ∧ ∃ y, Sp.at (Sp.canB ls l t) os y ∧ x + 1 = y ∧ os.length - y.toNat < os.length - x.toNat := fun h => ⟨by omega, x + 1, Sp.at_step hx hlt h, rfl, by omega⟩
 refine ⟨⟨h0, hlt⟩, fun _ _ => ⟨fun hn => ⟨⟨h0, hlt⟩, fun _ => ⟨fun hr => ⟨⟨h0, hlt⟩, fun _ => Sp.nxt_hit hx hlt ?_⟩, fun hr => next ?_⟩⟩, fun hn => next ?_⟩⟩
 · unfold Sp.canB; rw [decide_eq_true (show Sp.nix l (Sp.c0 (rGet os x)) < 0 from hn), show Sp.rdA ls l (Sp.c0 (rGet os x)) t = true from hr]; rfl
 · unfold Sp.canB; rw [show Sp.rdA ls l (Sp.c0 (rGet os x)) t = false from hr, Bool.and_false]
 · unfold Sp.canB; rw [decide_eq_false (show ¬ Sp.nix l (Sp.c0 (rGet os x)) < 0 from hn)]; rfl
theorem s36 : SoundCt Go.Proofs.Tryz.prog 36 ct36 :=
 contractH followsMixed (look_sound (show Tb Go.Proofs.Tryz.prog tb36 from ⟨s60, ⟨s61, trivial⟩⟩)) (fun _ => false) (fun a => A36 ((cel 1 (arg 0 a)).list) ((cel 0 (arg 1 a)).list) ((cel 0 (arg 2 a)).list) ((cel 0 (arg 3 a)).int)) 6 36 ct36 rfl (by simp [ct36]) fun a => Eq.mp (by kernel_rfl) (v36 ((cel 0 (arg 0 a)).list) ((cel 1 (arg 0 a)).list) ((cel 0 (arg 1 a)).list) ((cel 0 (arg 2 a)).list) ((cel 0 (arg 3 a)).int))
end Go.Sx
namespace Go.Sx
def ct38 : Ct := { ps := [(false, [.sl [.int .i64, .int .i64, .int .i64, .int .i64]]), (false, [.int .i64])], rs := [(false, [.int .i64])], pre := fun _ => True, out := fun a => [[.i (Sp.lat (cel 0 (arg 0 a)).list (cel 0 (arg 1 a)).int)]] }
def tb38 : List (Nat × Ct) := []
def A38 (l : List (List C)) (t : Int) : FuncId → Nat → LoopAnn := fun _ ii => bif Nat.beq ii 3 then .inv (Int × Int) (fun z => Sp.latI l t z.1 z.2) (fun z => [(6, .int .i64 z.1), (5, .int .i64 z.2)]) (fun z => []) [] [0, 1, 4, 5, 6, 10, 32] (fun z => l.length - z.1.toNat) else .unroll 0
abbrev B38 (l : List (List C)) (t : Int) : Prop := vcF Go.Proofs.Tryz.prog (look tb38) (fun _ => false) (A38 l t) 6 38 [.sl [.int .i64, .int .i64, .int .i64, .int .i64] l, .int .i64 t] [] (fun sv heap => Gives [(false, [.int .i64])] [[.i (Sp.lat l t)]] sv heap)
def m38_0 (l : List (List C)) (t : Int) (x : Int × Int) : Prop := pIn 0 (iLen l) x.1 ∧ (InR .i64 (q3 (rGet l x.1)) → InR .i64 (iAdd x.1 1) ∧ (true = true ∧ (fun z => z = z) [SV.sl [.int .i64, .int .i64, .int .i64, .int .i64] l, SV.int .i64 t, SV.lit .i64 0]) ∧ ([] : List HB) = [] ∧ ∃ (y : Int × Int), Sp.latI l t y.1 y.2 ∧ true = true ∧ ((IntKind.i64 = IntKind.i64 ∧ iAdd x.1 1 = y.1) ∧ (IntKind.i64 = IntKind.i64 ∧ (q3 (rGet l x.1)) = y.2) ∧ True) ∧ True ∧ l.length - y.1.toNat < l.length - x.1.toNat)
def m38_1 (l : List (List C)) (t : Int) (x : Int × Int) : Prop := InR .i64 (iAdd x.1 1) ∧ (true = true ∧ (fun z => z = z) [SV.sl [.int .i64, .int .i64, .int .i64, .int .i64] l, SV.int .i64 t, SV.lit .i64 0]) ∧ ([] : List HB) = [] ∧ ∃ (y : Int × Int), Sp.latI l t y.1 y.2 ∧ true = true ∧ ((IntKind.i64 = IntKind.i64 ∧ iAdd x.1 1 = y.1) ∧ (IntKind.i64 = IntKind.i64 ∧ x.2 = y.2) ∧ True) ∧ True ∧ l.length - y.1.toNat < l.length - x.1.toNat
theorem e38 (l : List (List C)) (t : Int) : B38 l t = ((∃ (x : Int × Int), Sp.latI l t x.1 x.2 ∧ true = true ∧ ((IntKind.i64 = IntKind.i64 ∧ 0 = x.1) ∧ (IntKind.i64 = IntKind.i64 ∧ -1 = x.2) ∧ True) ∧ True) ∧ (∀ (x : Int × Int), true = true ∧ true = true) ∧ ∀ (x : Int × Int), Sp.latI l t x.1 x.2 → InR .i64 x.1 ∧ InR .i64 x.2 ∧ True → True → pLe (iLen l) 9223372036854775807 → (bLt x.1 (iLen l) = true → pIn 0 (iLen l) x.1 ∧ (InR .i64 (q3 (rGet l x.1)) → (bLt t (q3 (rGet l x.1)) = true → (bLt x.2 0 = false → pIn 0 (iLen l) x.1 ∧ (InR .i64 (q3 (rGet l x.1)) → (bLt (q3 (rGet l x.1)) x.2 = true → (m38_0 l t x)) ∧ (bLt (q3 (rGet l x.1)) x.2 = false → (m38_1 l t x)))) ∧ (bLt x.2 0 = true → (m38_0 l t x))) ∧ (bLt t (q3 (rGet l x.1)) = false → (m38_1 l t x)))) ∧ (bLt x.1 (iLen l) = false → (x.2 = Sp.lat l t ∧ True) ∧ True)) := by kernel_rfl
theorem v38 (l : List (List C)) (t : Int) : Holds (Wfs [.sl [.int .i64, .int .i64, .int .i64, .int .i64] l, .int .i64 t] → True → B38 l t) := by
 refine ⟨fun hw hp => ?_⟩
 rw [e38]
 delta q3 m38_0 m38_1
 simp only [Wfs, Wf, InR, and_true] at hw
 simp only [eq_self, true_and, and_true, true_implies, implies_true, iAdd, iSub, iMul, iLen, bEq, bNe, bLt, bLe, bNot, pIn, pLe, pNe, InR, decide_eq_true_eq, decide_eq_false_iff_not, Bool.not_eq_true', Bool.not_eq_false', decide_eq_decide]
 refine ⟨⟨(0, -1), Sp.latI_init, rfl, rfl⟩, ?_⟩
 rintro ⟨z, o⟩ hx _ _
 simp only at hx ⊢
 have h0 := hx.1
 refine ⟨fun hlt => ?_, fun hge => Sp.latI_end hx hge⟩
 have hn := Sp.latI_next hx hlt
 have c3 : ((rGet l z).tail.tail.tail.headD default).int = Sp.c3 (rGet l z) := rfl
 rw [c3]
 have go : ∀ v, Sp.latF t o (rGet l z) = v → (-9223372036854775808 ≤ z + 1 ∧ z + 1 ≤ 9223372036854775807) ∧ ∃ y : Int × Int, Sp.latI l t y.fst y.snd ∧ (z + 1 = y.fst ∧ v = y.snd) ∧ l.length - y.fst.toNat < l.length - z.toNat := fun v hv => ⟨by omega, (z + 1, v), hv ▸ hn, ⟨rfl, rfl⟩, by simp only; omega⟩
 refine ⟨⟨h0, hlt⟩, fun _ => ⟨fun h1 => ⟨fun h2 => ⟨⟨h0, hlt⟩, fun _ => ⟨fun h3 => ⟨⟨h0, hlt⟩, fun _ => go _ ?_⟩, fun h3 => go _ ?_⟩⟩, fun h2 => ⟨⟨h0, hlt⟩, fun _ => go _ ?_⟩⟩, fun h1 => go _ ?_⟩⟩
 · unfold Sp.latF; rw [decide_eq_true h1, decide_eq_true h3]; simp
 · unfold Sp.latF; rw [decide_eq_false h2, decide_eq_false h3]; simp
 · unfold Sp.latF; rw [decide_eq_true h1, decide_eq_true h2]; rfl
 · unfold Sp.latF; rw [decide_eq_false h1]; rfl
theorem s38 : SoundCt Go.Proofs.Tryz.prog 38 ct38 :=
 contractH followsMixed (look_sound (show Tb Go.Proofs.Tryz.prog tb38 from trivial)) (fun _ => false) (fun a => A38 ((cel 0 (arg 0 a)).list) ((cel 0 (arg 1 a)).int)) 6 38 ct38 rfl (by simp [ct38]) fun a => Eq.mp (by kernel_rfl) (v38 ((cel 0 (arg 0 a)).list) ((cel 0 (arg 1 a)).int))
end Go.Sx
namespace Go.Sx
def ct16 : Ct := { ps := [(false, [.sl [.int .i64, .int .i64, .int .i64, .int .i64]])], rs := [(false, [.int .i64])], pre := fun _ => True, out := fun a => [[.i (Sp.spn (cel 0 (arg 0 a)).list)]] }
def tb16 : List (Nat × Ct) := []
def A16 (l : List (List C)) : FuncId → Nat → LoopAnn := fun _ ii => bif Nat.beq ii 3 then .inv (Int × Int) (fun z => Sp.spI l z.1 z.2) (fun z => [(4, .int .i64 z.1), (3, .int .i64 z.2)]) (fun z => []) [] [0, 2, 3, 4, 8] (fun z => l.length - z.1.toNat) else .unroll 0
abbrev B16 (l : List (List C)) : Prop := vcF Go.Proofs.Tryz.prog (look tb16) (fun _ => false) (A16 l) 6 16 [.sl [.int .i64, .int .i64, .int .i64, .int .i64] l] [] (fun sv heap => Gives [(false, [.int .i64])] [[.i (Sp.spn l)]] sv heap)
theorem e16 (l : List (List C)) : B16 l = ((∃ (x : Int × Int), Sp.spI l x.1 x.2 ∧ true = true ∧ ((IntKind.i64 = IntKind.i64 ∧ 0 = x.1) ∧ (IntKind.i64 = IntKind.i64 ∧ 0 = x.2) ∧ True) ∧ True) ∧ (∀ (x : Int × Int), true = true ∧ true = true) ∧ ∀ (x : Int × Int), Sp.spI l x.1 x.2 → InR .i64 x.1 ∧ InR .i64 x.2 ∧ True → True → pLe (iLen l) 9223372036854775807 → (bLt x.1 (iLen l) = true → pIn 0 (iLen l) x.1 ∧ (InR .i64 (q3 (rGet l x.1)) → InR .i64 (iAdd x.1 1) ∧ (true = true ∧ (fun z => z = z) [SV.sl [.int .i64, .int .i64, .int .i64, .int .i64] l, SV.lit .i64 0]) ∧ ([] : List HB) = [] ∧ ∃ (y : Int × Int), Sp.spI l y.1 y.2 ∧ true = true ∧ ((IntKind.i64 = IntKind.i64 ∧ iAdd x.1 1 = y.1) ∧ (IntKind.i64 = IntKind.i64 ∧ iMax x.2 (q3 (rGet l x.1)) = y.2) ∧ True) ∧ True ∧ l.length - y.1.toNat < l.length - x.1.toNat)) ∧ (bLt x.1 (iLen l) = false → (x.2 = Sp.spn l ∧ True) ∧ True)) := by kernel_rfl
theorem v16 (l : List (List C)) : Holds (Wfs [.sl [.int .i64, .int .i64, .int .i64, .int .i64] l] → True → B16 l) := by
 refine ⟨fun hw hp => ?_⟩
 rw [e16]
 delta q3
 simp only [Wfs, Wf, InR, and_true] at hw
 simp only [eq_self, true_and, and_true, true_implies, implies_true, iAdd, iSub, iMul, iLen, bEq, bNe, bLt, bLe, bNot, pIn, pLe, pNe, InR, decide_eq_true_eq, decide_eq_false_iff_not, Bool.not_eq_true', Bool.not_eq_false', decide_eq_decide]
 refine ⟨⟨(0, 0), Sp.spI_init, rfl, rfl⟩, ?_⟩
 rintro ⟨z, o⟩ hx _ _
 simp only at hx ⊢
 have h0 := hx.1
 exact ⟨fun hlt => ⟨⟨h0, hlt⟩, fun _ => ⟨by omega, (z + 1, _), Sp.spI_next hx hlt, ⟨rfl, rfl⟩, by simp only; omega⟩⟩, fun hge => Sp.spI_end hx hge⟩
theorem s16 : SoundCt Go.Proofs.Tryz.prog 16 ct16 :=
 contractH followsMixed (look_sound (show Tb Go.Proofs.Tryz.prog tb16 from trivial)) (fun _ => false) (fun a => A16 ((cel 0 (arg 0 a)).list)) 6 16 ct16 rfl (by simp [ct16]) fun a => Eq.mp (by kernel_rfl) (v16 ((cel 0 (arg 0 a)).list))
end Go.Sx
namespace Go.Sx
def ct14 : Ct := { ps := [(true, [.sl [.int .i64, .int .i64, .int .i64, .int .i64], .sl [.int .i64, .int .i64, .int .i64, .int .i64]]), (false, [.sl [.int .i64]]), (false, [.int .i64])], rs := [(false, [.sl [.int .i64, .int .i64, .int .i64, .int .i64]]), (false, [.int .i64])], pre := fun _ => True, out := fun a => [[.l (Sp.cplE (cel 0 (arg 0 a)).list (cel 1 (arg 0 a)).list (cel 0 (arg 1 a)).list (cel 0 (arg 2 a)).int)], [.i (Sp.cplK (cel 0 (arg 0 a)).list (cel 1 (arg 0 a)).list (cel 0 (arg 1 a)).list (cel 0 (arg 2 a)).int)]] }
def tb14 : List (Nat × Ct) := [(34, ct34), (35, ct35), (36, ct36), (37, ct37), (38, ct38), (39, ct39)]
def A14 (ns : List (List C)) (ls : List (List C)) (cs : List (List C)) (w : Int) : FuncId → Nat → LoopAnn := fun _ ii => bif Nat.beq ii 7 then .ghost 11 [.int .i64, .int .i64, .int .i64, .int .i64] 88 (.on (fun sv0 => match sv0.tmps.getD 11 .undef, sv0.tmps.getD 10 .undef with | .own rr _, .own rb _ => .inv (List (List C) × List (List C) × Int) (fun z => Sp.cmI ns ls cs w z.1 z.2.1 z.2.2) (fun z => [(11, .own rr 0), (10, .own rb 0), (12, .int .i64 z.2.2)]) (fun z => [(rr, .row [.int .i64, .int .i64, .int .i64, .int .i64] 88 0 z.1), (rb, .row [.int .i64] 3 0 z.2.1)]) [rr, rb] [0, 1, 2, 3, 6, 7, 8, 10, 11, 12, 13, 14, 15, 20, 33, 47] (fun z => Sp.cmM ns z.1 z.2.2) | _, _ => .unroll 0)) else .unroll 0
abbrev B14 (ns : List (List C)) (ls : List (List C)) (cs : List (List C)) (w : Int) : Prop := vcF Go.Proofs.Tryz.prog (look tb14) (fun _ => false) (A14 ns ls cs w) 8 14 [.agg [.sl [.int .i64, .int .i64, .int .i64, .int .i64] ns, .sl [.int .i64, .int .i64, .int .i64, .int .i64] ls], .sl [.int .i64] cs, .int .i64 w] [] (fun sv heap => Gives [(false, [.sl [.int .i64, .int .i64, .int .i64, .int .i64]]), (false, [.int .i64])] [[.l (Sp.cplE ns ls cs w)], [.i (Sp.cplK ns ls cs w)]] sv heap)
def h14_0 : List (List C) → List (List C) → List (List C) → Int → List SV := fun (ns ls cs : List (List C)) (w : Int) => [SV.agg [SV.sl [.int .i64, .int .i64, .int .i64, .int .i64] ns, SV.sl [.int .i64, .int .i64, .int .i64, .int .i64] ls], SV.sl [.int .i64] cs, SV.int .i64 w, SV.ref 0 0, SV.nils, SV.lit .i64 0, SV.sl [.int .i64] (Sp.ordE ns ls), SV.any, SV.blit false]
def m14_1 : List Sh := [Sh.int .i64, Sh.int .i64, Sh.int .i64, Sh.int .i64]
def m14_2 (ns : List (List C)) (ls : List (List C)) (x : List (List C) × List (List C) × Int) : Int := (Sp.nxt ls (Sp.ordE ns ls) x.1 x.snd.2)
def m14_3 : List Sh := [.int .i64, .int .i64, .int .i64, .int .i64]
def m14_0 (ns : List (List C)) (ls : List (List C)) (cs : List (List C)) (w : Int) (x : List (List C) × List (List C) × Int) : Prop := True ∧ (InR .i64 (Sp.lat x.1 x.snd.2) → (true = true ∧ h14_0 ns ls cs w = h14_0 ns ls cs w) ∧ (fun z => z = z) [HB.box [SV.sl m14_3 ns, SV.sl m14_3 ls] 50, HB.gone, HB.gone] ∧ ∃ (y : List (List C) × List (List C) × Int), Sp.cmI ns ls cs w y.1 y.snd.1 y.snd.2 ∧ true = true ∧ ((2 = 2 ∧ 0 + 1 = 0 + 1) ∧ (1 = 1 ∧ 0 + 1 = 0 + 1) ∧ (IntKind.i64 = IntKind.i64 ∧ Sp.lat x.1 x.snd.2 = y.snd.2) ∧ True) ∧ ((m14_1 = m14_1 ∧ 88 = 88 ∧ 0 + 1 = 0 + 1 ∧ x.1 = y.1) ∧ ([Sh.int .i64] = [Sh.int .i64] ∧ 3 = 3 ∧ 0 + 1 = 0 + 1 ∧ x.snd.1 = y.snd.1) ∧ True) ∧ Sp.cmM ns y.1 y.snd.2 < Sp.cmM ns x.1 x.snd.2)
theorem e14 (ns : List (List C)) (ls : List (List C)) (cs : List (List C)) (w : Int) : B14 ns ls cs w = (True ∧ (True → True ∧ (bNot (Sp.prb ns ls cs w) = true → ([] = Sp.cplE ns ls cs w ∧ True) ∧ (1 = Sp.cplK ns ls cs w ∧ True) ∧ True) ∧ (bNot (Sp.prb ns ls cs w) = false → True ∧ (((WL [.int .i64] (Sp.ordE ns ls))) ∧ InR .i64 (Sp.vE ns ls) ∧ True → (pLe 0 w ∧ pLe w w ∧ pRoom 8 w) ∧ (∃ (x : List (List C) × List (List C) × Int), Sp.cmI ns ls cs w x.1 x.snd.1 x.snd.2 ∧ true = true ∧ ((2 = 2 ∧ 0 + 1 = 0 + 1) ∧ (1 = 1 ∧ 0 + 1 = 0 + 1) ∧ (IntKind.i64 = IntKind.i64 ∧ 0 = x.snd.2) ∧ True) ∧ (m14_1 = m14_1 ∧ 88 = 88 ∧ 0 + 1 = 0 + 1 ∧ [] = x.1) ∧ ([Sh.int .i64] = [Sh.int .i64] ∧ 3 = 3 ∧ 0 + 1 = 0 + 1 ∧ List.replicate w.toNat [C.i 0] = x.snd.1) ∧ True) ∧ (∀ (x : List (List C) × List (List C) × Int), true = true ∧ true = true) ∧ ∀ (x : List (List C) × List (List C) × Int), Sp.cmI ns ls cs w x.1 x.snd.1 x.snd.2 → True ∧ True ∧ InR .i64 x.snd.2 ∧ True → ((WL m14_3 x.1)) ∧ ((WL [.int .i64] x.snd.1)) ∧ True → pLe (iLen x.1) 9223372036854775807 → pLe (iLen ns) 9223372036854775807 → (bLt (iLen x.1) (iLen ns) = true → True ∧ (InR .i64 (m14_2 ns ls x) → True ∧ (InR .i64 (Sp.fre x.snd.1 x.snd.2) → (bEq (m14_2 ns ls x) 0 = false → (bLt (Sp.fre x.snd.1 x.snd.2) 0 = true → (m14_0 ns ls cs w x)) ∧ (bLt (Sp.fre x.snd.1 x.snd.2) 0 = false → True ∧ (InR .i64 (Sp.nix ns (m14_2 ns ls x)) → pIn 0 (iLen cs) (Sp.nix ns (m14_2 ns ls x)) ∧ (InR .i64 (q0 (rGet cs (Sp.nix ns (m14_2 ns ls x)))) → InR .i64 (iAdd x.snd.2 (q0 (rGet cs (Sp.nix ns (m14_2 ns ls x))))) ∧ pRoom 32 (iLen (x.1 ++ [[C.i (m14_2 ns ls x), C.i (Sp.fre x.snd.1 x.snd.2), C.i x.snd.2, C.i (iAdd x.snd.2 (q0 (rGet cs (Sp.nix ns (m14_2 ns ls x)))))]])) ∧ pIn 0 (iLen x.snd.1) (Sp.fre x.snd.1 x.snd.2) ∧ (true = true ∧ h14_0 ns ls cs w = h14_0 ns ls cs w) ∧ (fun z => z = z) [HB.box [SV.sl m14_3 ns, SV.sl m14_3 ls] 50, HB.gone, HB.gone] ∧ ∃ (y : List (List C) × List (List C) × Int), Sp.cmI ns ls cs w y.1 y.snd.1 y.snd.2 ∧ true = true ∧ ((2 = 2 ∧ 0 + 1 = 0 + 1) ∧ (1 = 1 ∧ 0 + 1 = 0 + 1) ∧ (IntKind.i64 = IntKind.i64 ∧ x.snd.2 = y.snd.2) ∧ True) ∧ (([Sh.int .i64] ++ ([Sh.int .i64] ++ ([Sh.int .i64] ++ ([Sh.int .i64] ++ []))) = m14_1 ∧ 88 = 88 ∧ 0 + 1 = 0 + 1 ∧ x.1 ++ [[C.i (m14_2 ns ls x), C.i (Sp.fre x.snd.1 x.snd.2), C.i x.snd.2, C.i (iAdd x.snd.2 (q0 (rGet cs (Sp.nix ns (m14_2 ns ls x)))))]] = y.1) ∧ ([Sh.int .i64] = [Sh.int .i64] ∧ 3 = 3 ∧ 0 + 1 = 0 + 1 ∧ rSet x.snd.1 (Sp.fre x.snd.1 x.snd.2) [C.i (iAdd x.snd.2 (q0 (rGet cs (Sp.nix ns (m14_2 ns ls x)))))] = y.snd.1) ∧ True) ∧ Sp.cmM ns y.1 y.snd.2 < Sp.cmM ns x.1 x.snd.2)))) ∧ (bEq (m14_2 ns ls x) 0 = true → (m14_0 ns ls cs w x))))) ∧ (bLt (iLen x.1) (iLen ns) = false → (x.1 = Sp.cplE ns ls cs w ∧ True) ∧ (0 = Sp.cplK ns ls cs w ∧ True) ∧ True))))) := by kernel_rfl
theorem v14 (ns : List (List C)) (ls : List (List C)) (cs : List (List C)) (w : Int) : Holds (Wfs [.agg [.sl [.int .i64, .int .i64, .int .i64, .int .i64] ns, .sl [.int .i64, .int .i64, .int .i64, .int .i64] ls], .sl [.int .i64] cs, .int .i64 w] → True → B14 ns ls cs w) := by
 refine ⟨fun hw hp => ?_⟩
 rw [e14]
 delta WL q0 m14_1 m14_2 m14_3 m14_0
 simp only [Wfs, Wf, InR, and_true] at hw
 simp only [eq_self, true_and, and_true, true_implies, implies_true, iAdd, iSub, iMul, iLen, bEq, bNe, bLt, bLe, bNot, pIn, pLe, pNe, InR, decide_eq_true_eq, decide_eq_false_iff_not, Bool.not_eq_true', Bool.not_eq_false', decide_eq_decide]
 refine ⟨fun hp => ?_, fun hp _ => ?_⟩
 · obtain ⟨e1, e2⟩ := Sp.cplE_no hp
   rw [e1, e2]; exact ⟨rfl, rfl⟩
 obtain ⟨e1, e2⟩ := Sp.cplE_ok hp
 obtain ⟨hv, hcl, hw1, hc⟩ := Sp.cs_nn hp
 have hO : Sp.ordE ns ls = Sp.ord ns ls := by unfold Sp.ordE; rw [hv]; rfl
 rw [hO, e1, e2]
 refine ⟨⟨by omega, by omega, by simp only [pRoom]; omega⟩, ⟨([], List.replicate w.toNat [.i 0], 0), Sp.cmI_init hp, rfl, rfl, rfl⟩, ?_⟩
 rintro ⟨l, bs, t⟩ hx _ _ _ _
 simp only at hx ⊢
 obtain ⟨t0, t1, hbl, hll⟩ := Sp.gok_time hp hx.1
 refine ⟨fun hlt _ _ => ?_, fun hge => ⟨Sp.cmI_end hx (by omega), trivial⟩⟩
 have hlt' : l.length < ns.length := by omega
 have wait : (Sp.nxt ls (Sp.ord ns ls) l t = 0 ∨ Sp.fre bs t < 0) → ∃ y : List (List C) × List (List C) × Int, Sp.cmI ns ls cs w y.fst y.snd.fst y.snd.snd ∧ Sp.lat l t = y.snd.snd ∧ (l = y.fst ∧ bs = y.snd.fst) ∧ Sp.cmM ns y.fst y.snd.snd < Sp.cmM ns l t := fun h => by
  obtain ⟨a, b⟩ := Sp.cmI_wait hp hx hlt' h
  exact ⟨(l, bs, Sp.lat l t), a, rfl, ⟨rfl, rfl⟩, b⟩
 refine ⟨fun h1 => ⟨fun h2 _ => wait (.inr h2), fun h2 _ => ?_⟩, fun h1 _ => wait (.inl h1)⟩
 obtain ⟨a, b⟩ := Sp.cmI_put hp hx hlt' h1 h2
 obtain ⟨f0, f1, f2⟩ := Sp.fre_ok h2
 obtain ⟨n0, n1, _⟩ := Sp.nix_has (Sp.nxt_ok h1).1
 have hb := hc (Sp.nix ns (Sp.nxt ls (Sp.ord ns ls) l t))
 have ec : ((rGet cs (Sp.nix ns (Sp.nxt ls (Sp.ord ns ls) l t))).headD default).int = Sp.cmC ns ls cs l t := rfl
 have ec2 : Sp.gV cs (Sp.nix ns (Sp.nxt ls (Sp.ord ns ls) l t)) = Sp.cmC ns ls cs l t := rfl
 rw [ec2] at hb
 rw [ec]
 exact ⟨⟨n0, by omega⟩, fun _ => ⟨by omega, by simp only [pRoom, List.length_append, List.length_singleton]; omega, ⟨f0, f1⟩, (_, _, t), a, rfl, ⟨⟨rfl, rfl⟩, rfl⟩, b⟩⟩
theorem s14 : SoundCt Go.Proofs.Tryz.prog 14 ct14 :=
 contractH followsMixed (look_sound (show Tb Go.Proofs.Tryz.prog tb14 from ⟨s34, ⟨s35, ⟨s36, ⟨s37, ⟨s38, ⟨s39, trivial⟩⟩⟩⟩⟩⟩)) (fun _ => false) (fun a => A14 ((cel 0 (arg 0 a)).list) ((cel 1 (arg 0 a)).list) ((cel 0 (arg 1 a)).list) ((cel 0 (arg 2 a)).int)) 8 14 ct14 rfl (by simp [ct14]) fun a => Eq.mp (by kernel_rfl) (v14 ((cel 0 (arg 0 a)).list) ((cel 1 (arg 0 a)).list) ((cel 0 (arg 1 a)).list) ((cel 0 (arg 2 a)).int))
end Go.Sx
