/- Contracts and conditions, continued. -/
import Derived.Test.YtojecjbhdligcaaDoorSxUse
import Derived.Test.YtojecjbhdligcaaDoorD06b
import Derived.KernelRfl
set_option linter.unusedVariables false
set_option linter.unusedSimpArgs false
set_option maxRecDepth 100000
set_option maxHeartbeats 4000000

namespace Go
open Go.Sx
def Sp.row (n : Int) : List C := [.i n]
def Sp.cmI (a b : List (List C)) (z : Int) : Prop := 0 ≤ z ∧ z ≤ (a.length : Int)
def Sp.comL (a b : List (List C)) : List Int := (a.map Sp.i0).filter (fun n => decide (0 ≤ Sp.ix b n))
def Sp.cmr (a b : List (List C)) : List (List C) := (Sp.comL a b).map Sp.row
def Sp.cmz (a b : List (List C)) (z : Int) : List (List C) := Sp.cmr (a.take z.toNat) b
end Go

namespace Go
open Go.Sx
def Sp.stI (m : List (List C)) (i : Int) (l : List Int) : Prop := 0 ≤ i ∧ i ≤ (m.length : Int) ∧ l.length = i.toNat ∧ l.Pairwise (· ≤ ·) ∧ l.Perm ((m.take i.toNat).map Sp.i0)
def Sp.stJ (l : List (List C)) (p k : Int) : Prop := 0 ≤ k ∧ k ≤ (l.length : Int) ∧ ∀ j : Int, k ≤ j → j < (l.length : Int) → p < Sp.i0 (rGet l j)
end Go

namespace Go
open Go.Sx
theorem Sp.take_next {a : List (List C)} {z : Int} (h0 : 0 ≤ z) (hz : z < (a.length : Int)) : a.take (z + 1).toNat = a.take z.toNat ++ [rGet a z] := by
  obtain ⟨n, rfl⟩ : ∃ n : Nat, z = n := ⟨z.toNat, by omega⟩
  rw [Sp.rGet_at (by omega), show ((n : Int) + 1).toNat = n + 1 by omega, show ((n : Int)).toNat = n by omega, List.take_succ_eq_append_getElem (by omega)]
theorem Sp.cmz_in {a b : List (List C)} {z : Int} (h0 : 0 ≤ z) (hz : z < (a.length : Int)) (h : 0 ≤ Sp.ix b (Sp.i0 (rGet a z))) : Sp.cmz a b z ++ [[C.i (Sp.i0 (rGet a z))]] = Sp.cmz a b (z + 1) := by
  simp only [Sp.cmz, Sp.cmr, Sp.comL, Sp.take_next h0 hz, List.map_append, List.filter_append, List.map_cons, List.map_nil, List.filter_cons, List.filter_nil, decide_eq_true h, if_true, Sp.row]
theorem Sp.cmz_out {a b : List (List C)} {z : Int} (h0 : 0 ≤ z) (hz : z < (a.length : Int)) (h : ¬ 0 ≤ Sp.ix b (Sp.i0 (rGet a z))) : Sp.cmz a b z = Sp.cmz a b (z + 1) := by
  simp only [Sp.cmz, Sp.cmr, Sp.comL, Sp.take_next h0 hz, List.map_append, List.filter_append, List.map_cons, List.map_nil, List.filter_cons, List.filter_nil, decide_eq_false h, Bool.false_eq_true, if_false, List.append_nil]
theorem Sp.cmz_end {a b : List (List C)} {z : Int} (h : Sp.cmI a b z) (hz : ¬ z < (a.length : Int)) : Sp.cmz a b z = Sp.cmr a b := by
  obtain ⟨h0, h1⟩ := h
  unfold Sp.cmz
  rw [List.take_of_length_le (by omega)]
theorem Sp.cmz_len (a b : List (List C)) (z : Int) : (Sp.cmz a b z).length ≤ a.length := by
  simp only [Sp.cmz, Sp.cmr, Sp.comL, List.length_map]
  refine Nat.le_trans (List.length_filter_le _ _) ?_
  simp only [List.length_map, List.length_take]; omega
def Sp.srL (m : List (List C)) : List Int := (m.map Sp.i0).mergeSort (fun x y => decide (x ≤ y))
theorem Sp.srt_eq (m : List (List C)) : Sp.srt m = (Sp.srL m).map Sp.row := rfl
theorem Sp.srL_perm (m : List (List C)) : (Sp.srL m).Perm (m.map Sp.i0) := List.mergeSort_perm _ _
theorem Sp.srL_pw (m : List (List C)) : (Sp.srL m).Pairwise (· ≤ ·) := by
  have := List.pairwise_mergeSort (le := fun x y : Int => decide (x ≤ y)) (fun a b c h1 h2 => by simp only [decide_eq_true_eq] at *; omega) (fun a b => by simp only [Bool.or_eq_true, decide_eq_true_eq]; omega) (m.map Sp.i0)
  exact this.imp fun h => by simpa using h
theorem Sp.i0_row (l : List Int) (j : Nat) (h : j < l.length) : Sp.i0 (rGet (l.map Sp.row) (j : Int)) = l[j] := by
  rw [Sp.rGet_at (by simpa using h), List.getElem_map]; rfl
theorem Sp.st_step {m : List (List C)} {i : Int} {l : List Int} {k : Int} (h : Sp.stI m i l) (hi : i < (m.length : Int)) (hj : Sp.stJ (l.map Sp.row) (Sp.i0 (rGet m i)) k) (hk : ¬ 0 < k ∨ ¬ Sp.i0 (rGet m i) < Sp.i0 (rGet (l.map Sp.row) (k - 1))) :
    ∃ L : List Int, Sp.stI m (i + 1) L ∧ cutRows (l.map Sp.row) none (some k) ++ [[C.i (Sp.i0 (rGet m i))]] ++ cutRows (l.map Sp.row) (some k) none = L.map Sp.row := by
  obtain ⟨a, b, c, d, e⟩ := h
  obtain ⟨k0, k1, k2⟩ := hj
  simp only [List.length_map] at k1 k2
  refine ⟨l.take k.toNat ++ [Sp.i0 (rGet m i)] ++ l.drop k.toNat, ⟨by omega, by omega, ?_, ?_, ?_⟩, ?_⟩
  · simp only [List.length_append, List.length_take, List.length_drop, List.length_singleton]; omega
  · have dt : (l.take k.toNat).Pairwise (· ≤ ·) := d.take
    have dd : (l.drop k.toNat).Pairwise (· ≤ ·) := d.drop
    have lo : ∀ x, x ∈ l.take k.toNat → x ≤ Sp.i0 (rGet m i) := by
      intro x hx
      obtain ⟨j, hj, rfl⟩ := List.mem_iff_getElem.1 hx
      simp only [List.length_take] at hj
      rw [List.getElem_take]
      have hk' := hk.resolve_left (by omega)
      rw [show k - 1 = (((k - 1).toNat : Nat) : Int) by omega, Sp.i0_row _ _ (by omega)] at hk'
      have : l[j] ≤ l[(k - 1).toNat] := by
        by_cases hjk : j = (k - 1).toNat
        · subst hjk; exact Int.le_refl _
        · exact List.pairwise_iff_getElem.1 d j (k - 1).toNat (by omega) (by omega) (by omega)
      omega
    have hi' : ∀ x, x ∈ l.drop k.toNat → Sp.i0 (rGet m i) ≤ x := by
      intro x hx
      obtain ⟨j, hj, rfl⟩ := List.mem_iff_getElem.1 hx
      simp only [List.length_drop] at hj
      rw [List.getElem_drop]
      have := k2 ((k.toNat + j : Nat) : Int) (by omega) (by omega)
      rw [Sp.i0_row _ _ (by omega)] at this
      omega
    rw [List.pairwise_append]
    refine ⟨List.pairwise_append.2 ⟨dt, List.pairwise_singleton _ _, fun x hx y hy => ?_⟩, dd, fun x hx y hy => ?_⟩
    · simp only [List.mem_singleton] at hy; subst hy; exact lo x hx
    · rcases List.mem_append.1 hx with hx | hx
      · exact Int.le_trans (lo x hx) (hi' y hy)
      · simp only [List.mem_singleton] at hx; subst hx; exact hi' y hy
  · rw [Sp.take_next a hi, List.map_append, List.map_cons, List.map_nil]
    have p1 : (l.take k.toNat ++ [Sp.i0 (rGet m i)] ++ l.drop k.toNat).Perm (l ++ [Sp.i0 (rGet m i)]) := by
      rw [List.append_assoc]
      refine (List.Perm.append_left _ List.perm_append_comm).trans ?_
      rw [← List.append_assoc, List.take_append_drop]
    exact p1.trans (e.append_right _)
  · simp only [cutRows, List.map_append, List.map_take, List.map_drop, List.map_cons, List.map_nil, Sp.row]
theorem Sp.st_end {m : List (List C)} {i : Int} {l : List Int} (h : Sp.stI m i l) (hi : ¬ i < (m.length : Int)) : l.map Sp.row = Sp.srt m := by
  obtain ⟨a, b, c, d, e⟩ := h
  rw [Sp.srt_eq]
  congr 1
  rw [List.take_of_length_le (by omega)] at e
  exact List.Perm.eq_of_pairwise (le := fun x y => x ≤ y) (fun x y _ _ h1 h2 => Int.le_antisymm h1 h2) d (Sp.srL_pw m) (e.trans (Sp.srL_perm m).symm)
theorem Sp.stJ_init (l : List (List C)) (p : Int) : Sp.stJ l p (l.length : Int) := ⟨by omega, by omega, fun j h0 h1 => by omega⟩
theorem Sp.stJ_next {l : List (List C)} {p k : Int} (h : Sp.stJ l p k) (hk : 0 < k) (hp : p < Sp.i0 (rGet l (k - 1))) : Sp.stJ l p (k - 1) := by
  obtain ⟨a, b, c⟩ := h
  refine ⟨by omega, by omega, fun j x y => ?_⟩
  by_cases e : j = k - 1
  · rw [e]; exact hp
  · exact c j (by omega) y
end Go

namespace Go.Sx
/-! ### function 20: channels.Common -/
def ct20 : Ct := { ps := [(false, [.sl [.int .i64]]), (false, [.sl [.int .i64]])], rs := [(false, [.sl [.int .i64]])], pre := fun a => pLe ((cel 0 (arg 0 a)).list.length : Int) 1000 ∧ True, out := fun a => [[.l (Sp.cmr (cel 0 (arg 0 a)).list (cel 0 (arg 1 a)).list)]] }
def tb20 : List (Nat × Ct) := [(25, ct25)]
def A20 (a : List (List C)) (b : List (List C)) : FuncId → Nat → LoopAnn := fun _ ii => bif Nat.beq ii 3 then .ghost 5 [.int .i64] 3 (.on (fun sv0 => match sv0.tmps.getD 5 .undef with | .own rc _ => .inv Int (fun z => Sp.cmI a b z) (fun z => [(10, .int .i64 z), (5, .own rc 0)]) (fun z => [(rc, .row [.int .i64] 3 0 (Sp.cmz a b z))]) [rc] [0, 1, 4, 5, 7, 8, 9, 10, 11, 16] (fun z => a.length - z.toNat) | _ => .unroll 0)) else .unroll 0
abbrev B20 (a : List (List C)) (b : List (List C)) : Prop := vcF Go.Proofs.Tryd.prog (look tb20) (fun _ => false) (A20 a b) 6 20 [.sl [.int .i64] a, .sl [.int .i64] b] [] (fun sv heap => Gives [(false, [.sl [.int .i64]])] [[.l (Sp.cmr a b)]] sv heap)
theorem e20 (a : List (List C)) (b : List (List C)) : B20 a b = (pLe (iLen a) 9223372036854775807 → (∃ (x : Int), Sp.cmI a b x ∧ true = true ∧ ((IntKind.i64 = IntKind.i64 ∧ 0 = x) ∧ (0 = 0 ∧ 0 + 1 = 0 + 1) ∧ True) ∧ ([Sh.int .i64] = [Sh.int .i64] ∧ 3 = 3 ∧ 0 + 1 = 0 + 1 ∧ [] = Sp.cmz a b x) ∧ True) ∧ (∀ (x : Int), true = true ∧ true = true) ∧ ∀ (x : Int), Sp.cmI a b x → InR .i64 x ∧ True ∧ True → ((Sp.cmz a b x).length ≤ 9223372036854775807 ∧ ∀ (x_1 : List C), x_1 ∈ Sp.cmz a b x → WfCs [.int .i64] x_1) ∧ True → (bLt x (iLen a) = true → pIn 0 (iLen a) x ∧ (InR .i64 ((rGet a x).headD default).int → True ∧ (True → (decide (0 ≤ Sp.ix b ((rGet a x).headD default).int) = true → pRoom 8 (iLen (Sp.cmz a b x ++ [[C.i ((rGet a x).headD default).int]])) ∧ InR .i64 (iAdd x 1) ∧ (true = true ∧ (fun z => z = z) [SV.sl [.int .i64] a, SV.sl [.int .i64] b, SV.nils, SV.sl [.int .i64] a, SV.int .i64 (iLen a)]) ∧ [HB.gone] = [HB.gone] ∧ ∃ (y : Int), Sp.cmI a b y ∧ true = true ∧ ((IntKind.i64 = IntKind.i64 ∧ iAdd x 1 = y) ∧ (0 = 0 ∧ 0 + 1 = 0 + 1) ∧ True) ∧ (([Sh.int .i64] = [Sh.int .i64] ∧ 3 = 3 ∧ 0 + 1 = 0 + 1 ∧ Sp.cmz a b x ++ [[C.i ((rGet a x).headD default).int]] = Sp.cmz a b y) ∧ True) ∧ a.length - y.toNat < a.length - x.toNat) ∧ (decide (0 ≤ Sp.ix b ((rGet a x).headD default).int) = false → InR .i64 (iAdd x 1) ∧ (true = true ∧ (fun z => z = z) [SV.sl [.int .i64] a, SV.sl [.int .i64] b, SV.nils, SV.sl [.int .i64] a, SV.int .i64 (iLen a)]) ∧ [HB.gone] = [HB.gone] ∧ ∃ (y : Int), Sp.cmI a b y ∧ true = true ∧ ((IntKind.i64 = IntKind.i64 ∧ iAdd x 1 = y) ∧ (0 = 0 ∧ 0 + 1 = 0 + 1) ∧ True) ∧ (([Sh.int .i64] = [Sh.int .i64] ∧ 3 = 3 ∧ 0 + 1 = 0 + 1 ∧ Sp.cmz a b x = Sp.cmz a b y) ∧ True) ∧ a.length - y.toNat < a.length - x.toNat)))) ∧ (bLt x (iLen a) = false → (Sp.cmz a b x = Sp.cmr a b ∧ True) ∧ True)) := by kernel_rfl
theorem v20 (a : List (List C)) (b : List (List C)) : Holds (Wfs [.sl [.int .i64] a, .sl [.int .i64] b] → pLe (a.length : Int) 1000 ∧ True → B20 a b) := by
  refine ⟨fun hw hp => ?_⟩
  rw [e20]
  simp only [Wfs, Wf, InR, and_true] at hw
  have hm : maxLen = 9223372036854775807 := rfl
  simp only [hm] at hw
  simp only [iAdd, iSub, iMul, iLen, iSize, bLt, bLe, bEq, bNe, bNot, bSame, bDiff, sSame, sDiff, InR, pLe, pIn, pRoom, eq_self, true_and, and_true, true_implies, implies_true, decide_eq_true_eq, decide_eq_false_iff_not, Bool.not_eq_true', Bool.not_eq_false']
  have hp := hp.1
  simp only [pLe] at hp
  intro _
  refine ⟨⟨0, ⟨by omega, by omega⟩, rfl, rfl⟩, fun x hx _ hr => ⟨fun hlt => ⟨⟨hx.1, hlt⟩, fun _ => ?_⟩, fun hge => Sp.cmz_end hx hge⟩⟩
  have h0 := hx.1
  have hl := Sp.cmz_len a b x
  have key : ∀ l : List (List C), l = Sp.cmz a b (x + 1) → (-9223372036854775808 ≤ x + 1 ∧ x + 1 ≤ 9223372036854775807) ∧ ∃ y, Sp.cmI a b y ∧ x + 1 = y ∧ l = Sp.cmz a b y ∧ a.length - y.toNat < a.length - x.toNat := fun l e => ⟨by omega, x + 1, ⟨by omega, by omega⟩, rfl, e, by omega⟩
  try intro _
  refine ⟨fun hc => ⟨?_, key _ (Sp.cmz_in h0 hlt hc)⟩, fun hc => key _ (Sp.cmz_out h0 hlt hc)⟩
  simp only [List.length_append, List.length_singleton]; omega
theorem s20 : SoundCt Go.Proofs.Tryd.prog 20 ct20 :=
  contractH followsMixed (look_sound (show Tb Go.Proofs.Tryd.prog tb20 from ⟨s25, trivial⟩)) (fun _ => false) (fun a => A20 ((cel 0 (arg 0 a)).list) ((cel 0 (arg 1 a)).list)) 6 20 ct20 rfl (by simp [ct20]) fun a => Eq.mp (by kernel_rfl) (v20 ((cel 0 (arg 0 a)).list) ((cel 0 (arg 1 a)).list))
end Go.Sx

namespace Go.Sx
/-! ### function 21: ref06.Common -/
def ct21 : Ct := { ps := [(false, [.sl [.int .i64]]), (false, [.sl [.int .i64]])], rs := [(false, [.sl [.int .i64]])], pre := fun a => pLe ((cel 0 (arg 0 a)).list.length : Int) 1000 ∧ True, out := fun a => [[.l (Sp.cmr (cel 0 (arg 0 a)).list (cel 0 (arg 1 a)).list)]] }
def tb21 : List (Nat × Ct) := [(17, ct17)]
def A21 (a : List (List C)) (b : List (List C)) : FuncId → Nat → LoopAnn := fun _ ii => bif Nat.beq ii 3 then .ghost 5 [.int .i64] 3 (.on (fun sv0 => match sv0.tmps.getD 5 .undef with | .own rc _ => .inv Int (fun z => Sp.cmI a b z) (fun z => [(10, .int .i64 z), (5, .own rc 0)]) (fun z => [(rc, .row [.int .i64] 3 0 (Sp.cmz a b z))]) [rc] [0, 1, 4, 5, 7, 8, 9, 10, 11, 17] (fun z => a.length - z.toNat) | _ => .unroll 0)) else .unroll 0
abbrev B21 (a : List (List C)) (b : List (List C)) : Prop := vcF Go.Proofs.Tryd.prog (look tb21) (fun _ => false) (A21 a b) 6 21 [.sl [.int .i64] a, .sl [.int .i64] b] [] (fun sv heap => Gives [(false, [.sl [.int .i64]])] [[.l (Sp.cmr a b)]] sv heap)
theorem e21 (a : List (List C)) (b : List (List C)) : B21 a b = (pLe (iLen a) 9223372036854775807 → (∃ (x : Int), Sp.cmI a b x ∧ true = true ∧ ((IntKind.i64 = IntKind.i64 ∧ 0 = x) ∧ (0 = 0 ∧ 0 + 1 = 0 + 1) ∧ True) ∧ ([Sh.int .i64] = [Sh.int .i64] ∧ 3 = 3 ∧ 0 + 1 = 0 + 1 ∧ [] = Sp.cmz a b x) ∧ True) ∧ (∀ (x : Int), true = true ∧ true = true) ∧ ∀ (x : Int), Sp.cmI a b x → InR .i64 x ∧ True ∧ True → ((Sp.cmz a b x).length ≤ 9223372036854775807 ∧ ∀ (x_1 : List C), x_1 ∈ Sp.cmz a b x → WfCs [.int .i64] x_1) ∧ True → (bLt x (iLen a) = true → pIn 0 (iLen a) x ∧ (InR .i64 ((rGet a x).headD default).int → True ∧ (InR .i64 (Sp.ix b ((rGet a x).headD default).int) → (bLe 0 (Sp.ix b ((rGet a x).headD default).int) = true → pRoom 8 (iLen (Sp.cmz a b x ++ [[C.i ((rGet a x).headD default).int]])) ∧ InR .i64 (iAdd x 1) ∧ (true = true ∧ (fun z => z = z) [SV.sl [.int .i64] a, SV.sl [.int .i64] b, SV.nils, SV.sl [.int .i64] a, SV.int .i64 (iLen a)]) ∧ [HB.gone] = [HB.gone] ∧ ∃ (y : Int), Sp.cmI a b y ∧ true = true ∧ ((IntKind.i64 = IntKind.i64 ∧ iAdd x 1 = y) ∧ (0 = 0 ∧ 0 + 1 = 0 + 1) ∧ True) ∧ (([Sh.int .i64] = [Sh.int .i64] ∧ 3 = 3 ∧ 0 + 1 = 0 + 1 ∧ Sp.cmz a b x ++ [[C.i ((rGet a x).headD default).int]] = Sp.cmz a b y) ∧ True) ∧ a.length - y.toNat < a.length - x.toNat) ∧ (bLe 0 (Sp.ix b ((rGet a x).headD default).int) = false → InR .i64 (iAdd x 1) ∧ (true = true ∧ (fun z => z = z) [SV.sl [.int .i64] a, SV.sl [.int .i64] b, SV.nils, SV.sl [.int .i64] a, SV.int .i64 (iLen a)]) ∧ [HB.gone] = [HB.gone] ∧ ∃ (y : Int), Sp.cmI a b y ∧ true = true ∧ ((IntKind.i64 = IntKind.i64 ∧ iAdd x 1 = y) ∧ (0 = 0 ∧ 0 + 1 = 0 + 1) ∧ True) ∧ (([Sh.int .i64] = [Sh.int .i64] ∧ 3 = 3 ∧ 0 + 1 = 0 + 1 ∧ Sp.cmz a b x = Sp.cmz a b y) ∧ True) ∧ a.length - y.toNat < a.length - x.toNat)))) ∧ (bLt x (iLen a) = false → (Sp.cmz a b x = Sp.cmr a b ∧ True) ∧ True)) := by kernel_rfl
theorem v21 (a : List (List C)) (b : List (List C)) : Holds (Wfs [.sl [.int .i64] a, .sl [.int .i64] b] → pLe (a.length : Int) 1000 ∧ True → B21 a b) := by
  refine ⟨fun hw hp => ?_⟩
  rw [e21]
  simp only [Wfs, Wf, InR, and_true] at hw
  have hm : maxLen = 9223372036854775807 := rfl
  simp only [hm] at hw
  simp only [iAdd, iSub, iMul, iLen, iSize, bLt, bLe, bEq, bNe, bNot, bSame, bDiff, sSame, sDiff, InR, pLe, pIn, pRoom, eq_self, true_and, and_true, true_implies, implies_true, decide_eq_true_eq, decide_eq_false_iff_not, Bool.not_eq_true', Bool.not_eq_false']
  have hp := hp.1
  simp only [pLe] at hp
  intro _
  refine ⟨⟨0, ⟨by omega, by omega⟩, rfl, rfl⟩, fun x hx _ hr => ⟨fun hlt => ⟨⟨hx.1, hlt⟩, fun _ => ?_⟩, fun hge => Sp.cmz_end hx hge⟩⟩
  have h0 := hx.1
  have hl := Sp.cmz_len a b x
  have key : ∀ l : List (List C), l = Sp.cmz a b (x + 1) → (-9223372036854775808 ≤ x + 1 ∧ x + 1 ≤ 9223372036854775807) ∧ ∃ y, Sp.cmI a b y ∧ x + 1 = y ∧ l = Sp.cmz a b y ∧ a.length - y.toNat < a.length - x.toNat := fun l e => ⟨by omega, x + 1, ⟨by omega, by omega⟩, rfl, e, by omega⟩
  try intro _
  refine ⟨fun hc => ⟨?_, key _ (Sp.cmz_in h0 hlt hc)⟩, fun hc => key _ (Sp.cmz_out h0 hlt hc)⟩
  simp only [List.length_append, List.length_singleton]; omega
theorem s21 : SoundCt Go.Proofs.Tryd.prog 21 ct21 :=
  contractH followsMixed (look_sound (show Tb Go.Proofs.Tryd.prog tb21 from ⟨s17, trivial⟩)) (fun _ => false) (fun a => A21 ((cel 0 (arg 0 a)).list) ((cel 0 (arg 1 a)).list)) 6 21 ct21 rfl (by simp [ct21]) fun a => Eq.mp (by kernel_rfl) (v21 ((cel 0 (arg 0 a)).list) ((cel 0 (arg 1 a)).list))
end Go.Sx

namespace Go.Sx
/-! ### function 18: channels.Sorted -/
def ct18 : Ct := { ps := [(false, [.sl [.int .i64]])], rs := [(false, [.sl [.int .i64]])], pre := fun a => pLe ((cel 0 (arg 0 a)).list.length : Int) 1000 ∧ True, out := fun a => [[.l (Sp.srt (cel 0 (arg 0 a)).list)]] }
def tb18 : List (Nat × Ct) := [(28, ct28), (29, ct29)]
def A18  : FuncId → Nat → LoopAnn := fun _ _ => LoopAnn.unroll 200
abbrev B18 (m : List (List C)) : Prop := vcF Go.Proofs.Tryd.prog (look tb18) (fun _ => false) (A18) 6 18 [.sl [.int .i64] m] [] (fun sv heap => Gives [(false, [.sl [.int .i64]])] [[.l (Sp.srt m)]] sv heap)
theorem e18 (m : List (List C)) : B18 m = (pLe (↑m.length) 1000000 ∧ pLe (↑m.length) 1000000 ∧ (Sp.srt m = Sp.srt m ∧ True) ∧ True) := by kernel_rfl
theorem v18 (m : List (List C)) : Holds (Wfs [.sl [.int .i64] m] → pLe (m.length : Int) 1000 ∧ True → B18 m) := by
  refine ⟨fun hw hp => ?_⟩
  rw [e18]
  simp only [Wfs, Wf, InR, and_true] at hw
  have hm : maxLen = 9223372036854775807 := rfl
  simp only [hm] at hw
  simp only [iAdd, iSub, iMul, iLen, iSize, bLt, bLe, bEq, bNe, bNot, bSame, bDiff, sSame, sDiff, InR, pLe, pIn, pRoom, eq_self, true_and, and_true, true_implies, implies_true, decide_eq_true_eq, decide_eq_false_iff_not, Bool.not_eq_true', Bool.not_eq_false']
  have hp := hp.1
  simp only [pLe] at hp
  omega
theorem s18 : SoundCt Go.Proofs.Tryd.prog 18 ct18 :=
  contractH followsMixed (look_sound (show Tb Go.Proofs.Tryd.prog tb18 from ⟨s28, ⟨s29, trivial⟩⟩)) (fun _ => false) (fun _ => A18) 6 18 ct18 rfl (by simp [ct18]) fun a => Eq.mp (by kernel_rfl) (v18 ((cel 0 (arg 0 a)).list))
end Go.Sx

namespace Go.Sx
/-! ### function 19: ref06.Sorted -/
def ct19 : Ct := { ps := [(false, [.sl [.int .i64]])], rs := [(false, [.sl [.int .i64]])], pre := fun a => pLe ((cel 0 (arg 0 a)).list.length : Int) 1000 ∧ True, out := fun a => [[.l (Sp.srt (cel 0 (arg 0 a)).list)]] }
def tb19 : List (Nat × Ct) := []
def A19 (m : List (List C)) : FuncId → Nat → LoopAnn := fun _ ii => bif Nat.beq ii 3 then .inv (Int × List Int) (fun z => Sp.stI m z.1 z.2) (fun z => [(9, .int .i64 z.1), (3, .sl [.int .i64] (z.2.map Sp.row))]) (fun _ => []) [] [0, 2, 3, 5, 6, 7, 8, 9, 10, 25] (fun z => m.length - z.1.toNat) else bif Nat.beq ii 6 then .on (fun sv0 => match sv0.tmps.getD 3 .undef, sv0.tmps.getD 5 .undef with | .sl _ ys, .int _ pp => .inv Int (fun z => Sp.stJ ys pp z) (fun z => [(6, .int .i64 z)]) (fun _ => []) [] [0, 2, 3, 5, 6, 7, 8, 9, 10, 25] (fun z => z.toNat) | _, _ => .unroll 0) else .unroll 0
abbrev B19 (m : List (List C)) : Prop := vcF Go.Proofs.Tryd.prog (look tb19) (fun _ => false) (A19 m) 6 19 [.sl [.int .i64] m] [] (fun sv heap => Gives [(false, [.sl [.int .i64]])] [[.l (Sp.srt m)]] sv heap)
theorem e19 (m : List (List C)) : B19 m = (pLe (iLen m) 9223372036854775807 → (∃ (x : Int × List Int), Sp.stI m x.1 x.2 ∧ true = true ∧ ((IntKind.i64 = IntKind.i64 ∧ 0 = x.1) ∧ List.map Sp.row x.2 = [] ∧ True) ∧ True) ∧ (∀ (x : Int × List Int), true = true ∧ true = true) ∧ ∀ (x : Int × List Int), Sp.stI m x.1 x.2 → InR .i64 x.1 ∧ ((List.map Sp.row x.2).length ≤ 9223372036854775807 ∧ ∀ (x_1 : List C), x_1 ∈ List.map Sp.row x.2 → WfCs [.int .i64] x_1) ∧ True → True → (bLt x.1 (iLen m) = true → pIn 0 (iLen m) x.1 ∧ (InR .i64 ((rGet m x.1).headD default).int → pLe (iLen (List.map Sp.row x.2)) 9223372036854775807 → (∃ (x_1 : Int), Sp.stJ (List.map Sp.row x.2) ((rGet m x.1).headD default).int x_1 ∧ true = true ∧ ((IntKind.i64 = IntKind.i64 ∧ iLen (List.map Sp.row x.2) = x_1) ∧ True) ∧ True) ∧ (∀ (x : Int), true = true ∧ true = true) ∧ ∀ (x_1 : Int), Sp.stJ (List.map Sp.row x.2) ((rGet m x.1).headD default).int x_1 → InR .i64 x_1 ∧ True → True → (bLt 0 x_1 = true → InR .i64 (iSub x_1 1) ∧ pIn 0 (iLen (List.map Sp.row x.2)) (iSub x_1 1) ∧ (InR .i64 ((rGet (List.map Sp.row x.2) (iSub x_1 1)).headD default).int → (bLt ((rGet m x.1).headD default).int ((rGet (List.map Sp.row x.2) (iSub x_1 1)).headD default).int = true → InR .i64 (iSub x_1 1) ∧ (true = true ∧ (fun z => z = z) [SV.sl [.int .i64] m, SV.nils, SV.sl [.int .i64] (List.map Sp.row x.2), SV.int .i64 ((rGet m x.1).headD default).int, SV.sl [.int .i64] m, SV.int .i64 (iLen m), SV.int .i64 x.1, SV.blit true]) ∧ ([] : List HB) = [] ∧ ∃ (y : Int), Sp.stJ (List.map Sp.row x.2) ((rGet m x.1).headD default).int y ∧ true = true ∧ ((IntKind.i64 = IntKind.i64 ∧ iSub x_1 1 = y) ∧ True) ∧ True ∧ y.toNat < x_1.toNat) ∧ (bLt ((rGet m x.1).headD default).int ((rGet (List.map Sp.row x.2) (iSub x_1 1)).headD default).int = false → geB none (some x_1) (iLen (List.map Sp.row x.2)) ∧ pRoom 8 (iLen (cutRows (List.map Sp.row x.2) none (some x_1))) ∧ pRoom 8 (iLen (cutRows (List.map Sp.row x.2) none (some x_1) ++ [[C.i ((rGet m x.1).headD default).int]])) ∧ geB (some x_1) none (iLen (List.map Sp.row x.2)) ∧ pRoom 8 (iLen (cutRows (List.map Sp.row x.2) none (some x_1) ++ [[C.i ((rGet m x.1).headD default).int]] ++ cutRows (List.map Sp.row x.2) (some x_1) none)) ∧ InR .i64 (iAdd x.1 1) ∧ (true = true ∧ (fun z => z = z) [SV.sl [.int .i64] m, SV.nils, SV.sl [.int .i64] m, SV.int .i64 (iLen m)]) ∧ ([] : List HB) = [] ∧ ∃ (y : Int × List Int), Sp.stI m y.1 y.2 ∧ true = true ∧ ((IntKind.i64 = IntKind.i64 ∧ iAdd x.1 1 = y.1) ∧ ([Sh.int .i64] = [Sh.int .i64] ∧ cutRows (List.map Sp.row x.2) none (some x_1) ++ [[C.i ((rGet m x.1).headD default).int]] ++ cutRows (List.map Sp.row x.2) (some x_1) none = List.map Sp.row y.2) ∧ True) ∧ True ∧ m.length - y.1.toNat < m.length - x.1.toNat))) ∧ (bLt 0 x_1 = false → geB none (some x_1) (iLen (List.map Sp.row x.2)) ∧ pRoom 8 (iLen (cutRows (List.map Sp.row x.2) none (some x_1))) ∧ pRoom 8 (iLen (cutRows (List.map Sp.row x.2) none (some x_1) ++ [[C.i ((rGet m x.1).headD default).int]])) ∧ geB (some x_1) none (iLen (List.map Sp.row x.2)) ∧ pRoom 8 (iLen (cutRows (List.map Sp.row x.2) none (some x_1) ++ [[C.i ((rGet m x.1).headD default).int]] ++ cutRows (List.map Sp.row x.2) (some x_1) none)) ∧ InR .i64 (iAdd x.1 1) ∧ (true = true ∧ (fun z => z = z) [SV.sl [.int .i64] m, SV.nils, SV.sl [.int .i64] m, SV.int .i64 (iLen m)]) ∧ ([] : List HB) = [] ∧ ∃ (y : Int × List Int), Sp.stI m y.1 y.2 ∧ true = true ∧ ((IntKind.i64 = IntKind.i64 ∧ iAdd x.1 1 = y.1) ∧ ([Sh.int .i64] = [Sh.int .i64] ∧ cutRows (List.map Sp.row x.2) none (some x_1) ++ [[C.i ((rGet m x.1).headD default).int]] ++ cutRows (List.map Sp.row x.2) (some x_1) none = List.map Sp.row y.2) ∧ True) ∧ True ∧ m.length - y.1.toNat < m.length - x.1.toNat))) ∧ (bLt x.1 (iLen m) = false → (List.map Sp.row x.2 = Sp.srt m ∧ True) ∧ True)) := by kernel_rfl
theorem v19 (m : List (List C)) : Holds (Wfs [.sl [.int .i64] m] → pLe (m.length : Int) 1000 ∧ True → B19 m) := by
  refine ⟨fun hw hp => ?_⟩
  rw [e19]
  simp only [Wfs, Wf, InR, and_true] at hw
  have hm : maxLen = 9223372036854775807 := rfl
  simp only [hm] at hw
  simp only [iAdd, iSub, iMul, iLen, iSize, bLt, bLe, bEq, bNe, bNot, bSame, bDiff, sSame, sDiff, InR, pLe, pIn, pRoom, eq_self, true_and, and_true, true_implies, implies_true, decide_eq_true_eq, decide_eq_false_iff_not, Bool.not_eq_true', Bool.not_eq_false']
  have hp := hp.1
  simp only [pLe] at hp
  intro _
  refine ⟨⟨(0, []), ⟨by simp, by simp, by simp, by simp, by simp⟩, rfl, rfl⟩, ?_⟩
  rintro ⟨i, l⟩ hx hb
  simp only at hx hb ⊢
  obtain ⟨hb, _, _⟩ := hb
  have hl : l.length = i.toNat := hx.2.2.1
  have hi0 := hx.1
  have hi1 := hx.2.1
  refine ⟨fun hlt => ⟨⟨hx.1, hlt⟩, fun _ _ => ⟨⟨_, Sp.stJ_init _ _, rfl⟩, fun k hk _ => ?_⟩⟩, fun hge => Sp.st_end hx hge⟩
  have k0 := hk.1
  have k1 := hk.2.1
  simp only [List.length_map] at k1
  have c1 : (cutRows (l.map Sp.row) none (some k)).length ≤ l.length := by simp only [cutRows, List.length_take, List.length_map]; omega
  have c2 : (cutRows (l.map Sp.row) (some k) none).length ≤ l.length := by simp only [cutRows, List.length_drop, List.length_map]; omega
  have fin : (¬ 0 < k ∨ ¬ Sp.i0 (rGet m i) < Sp.i0 (rGet (l.map Sp.row) (k - 1))) → _ := fun hq => Sp.st_step hx hlt hk hq
  have gb : geB none (some k) ((l.map Sp.row).length : Int) := ⟨k0, by simp only [List.length_map]; omega⟩
  have gc : geB (some k) none ((l.map Sp.row).length : Int) := ⟨k0, by simp only [List.length_map]; omega⟩
  refine ⟨fun kp => ⟨by omega, ⟨by omega, by simp only [List.length_map]; omega⟩, fun _ => ⟨fun q => ⟨by omega, k - 1, Sp.stJ_next hk kp q, rfl, by omega⟩, fun q => ?_⟩⟩, fun kn => ?_⟩
  · obtain ⟨L, g1, g2⟩ := fin (.inr q)
    exact ⟨gb, by omega, by simp only [List.length_append, List.length_singleton]; omega, gc, by simp only [List.length_append, List.length_singleton]; omega, by omega, (i + 1, L), g1, ⟨rfl, g2⟩, by simp only []; omega⟩
  · obtain ⟨L, g1, g2⟩ := fin (.inl kn)
    exact ⟨gb, by omega, by simp only [List.length_append, List.length_singleton]; omega, gc, by simp only [List.length_append, List.length_singleton]; omega, by omega, (i + 1, L), g1, ⟨rfl, g2⟩, by simp only []; omega⟩
theorem s19 : SoundCt Go.Proofs.Tryd.prog 19 ct19 :=
  contractH followsMixed (look_sound (show Tb Go.Proofs.Tryd.prog tb19 from trivial)) (fun _ => false) (fun a => A19 ((cel 0 (arg 0 a)).list)) 6 19 ct19 rfl (by simp [ct19]) fun a => Eq.mp (by kernel_rfl) (v19 ((cel 0 (arg 0 a)).list))
end Go.Sx

