/- Contracts and conditions, continued. -/
import Derived.Test.YtmoeognojncmhaaSxUse
import Derived.Test.YtmoeognojncmhaaC13n
import Derived.KernelRfl
set_option linter.unusedVariables false
set_option linter.unusedSimpArgs false
set_option maxRecDepth 100000
set_option maxHeartbeats 4000000

namespace Go
open Go.Sx
def Sp.mkL : Nat → Int → List (List C) → List (List C) → List (List C) × List (List C)
  | 0, _, l, c => (l, c)
  | n + 1, a, l, c => Sp.mkL n (a + (1 + Sp.dN l 90)) (Sp.dT (Sp.dT l 90) 8) (if Sp.chE c (a + (1 + Sp.dN l 90)) (Sp.raN (Sp.dT l 90)) (Sp.raD (Sp.dT l 90)) = 0 then Sp.chV c (a + (1 + Sp.dN l 90)) (Sp.raN (Sp.dT l 90)) (Sp.raD (Sp.dT l 90)) else c)
def Sp.mkR (l : List (List C)) : List (List C) × List (List C) := Sp.mkL (Sp.dN (Sp.dT l 8) 5).toNat 0 (Sp.dT (Sp.dT l 8) 5) (Sp.nwV (Sp.raN l) (Sp.raD l))
def Sp.mkD (l : List (List C)) : List (List C) := (Sp.mkR l).1
def Sp.mkC (l : List (List C)) : List (List C) := (Sp.mkR l).2
def Sp.s300 (s : List (List C)) : List (List C) := s.take (min (s.length : Int) 300).toNat
def Sp.mcJ (l : List (List C)) (a n : Int) (k c : List (List C)) : Prop := (0 ≤ n ∧ 0 ≤ a ∧ a + 90 * n ≤ 1000) ∧ Sp.mkL n.toNat a k c = Sp.mkR l
end Go

namespace Go
open Go.Sx Go.Proofs
theorem Sp.cvR_snoc {f n d : Int} (hc : Sp.cu n d = true) (hf : f ≤ 1099511627776) : ∀ {xs : List (List C)} {p : Int}, Sp.cvR p xs = true → (xs = [] → p < f) → (xs ≠ [] → Sp.lastF xs < f) → Sp.cvR p (xs ++ [[C.i f, C.i n, C.i d]]) = true
  | [], p, _, h1, _ => by
    simp only [List.nil_append, Sp.cvR, Bool.and_true, Bool.and_eq_true, decide_eq_true_eq]
    exact ⟨hc, hf, h1 rfl⟩
  | x :: r, p, h, _, h2 => by
    simp only [Sp.cvR, List.cons_append, Bool.and_eq_true] at h ⊢
    refine ⟨h.1, Sp.cvR_snoc hc hf h.2 (fun e => ?_) fun e => ?_⟩
    · have := h2 (by simp)
      subst e
      simpa [Sp.lastF, rGet] using this
    · have := h2 (by simp)
      have hl : 0 < r.length := List.length_pos_iff.2 e
      have e1 : Sp.lastF (x :: r) = Sp.lastF r := by
        unfold Sp.lastF
        rw [show (((x :: r).length : Int) - 1) = ((r.length : Int) - 1) + 1 by simp, rGet_cons (by omega)]
      rwa [e1] at this
theorem Sp.chE_zero {xs : List (List C)} {f n d : Int} (h : Sp.chE xs f n d = 0) : Sp.cval xs = true ∧ Sp.lastF xs < f ∧ f ≤ 1099511627776 ∧ Sp.cu n d = true ∧ (xs.length : Int) ≠ 64 := by
  unfold Sp.chE at h
  split at h
  · omega
  · rename_i h1
    split at h
    · omega
    · split at h
      · omega
      · split at h
        · omega
        · rename_i h2 h3 h4
          exact ⟨by simpa using h1, by omega, by omega, by simpa using h3, h4⟩
theorem Sp.cval_chV {xs : List (List C)} {f n d : Int} (h : Sp.chE xs f n d = 0) : Sp.cval (Sp.chV xs f n d) = true := by
  obtain ⟨h1, h2, h3, h4, h5⟩ := Sp.chE_zero h
  have hl := Sp.cval_len h1
  unfold Sp.chV
  rw [if_pos h]
  unfold Sp.cval at h1 ⊢
  rw [Bool.and_eq_true] at h1 ⊢
  refine ⟨?_, by simp only [List.length_append, List.length_cons, List.length_nil, decide_eq_true_eq]; omega⟩
  cases xs with
  | nil => simp at hl
  | cons x r =>
    have h6 := h1.1
    simp only [Sp.cvA, List.cons_append, Bool.and_eq_true] at h6 ⊢
    refine ⟨h6.1, Sp.cvR_snoc h4 h3 h6.2 (fun e => ?_) fun e => ?_⟩
    · subst e
      simpa [Sp.lastF, rGet] using h2
    · have hl : 0 < r.length := List.length_pos_iff.2 e
      have e1 : Sp.lastF (x :: r) = Sp.lastF r := by
        unfold Sp.lastF
        rw [show (((x :: r).length : Int) - 1) = ((r.length : Int) - 1) + 1 by simp, rGet_cons (by omega)]
      rwa [e1] at h2
theorem Sp.cval_nwV {n d : Int} (h : Sp.cu n d = true) : Sp.cval (Sp.nwV n d) = true := by
  unfold Sp.nwV
  rw [h]
  exact (Sp.cval_one n d).trans h
theorem Sp.cval_mkL : ∀ (n : Nat) (a : Int) (l c : List (List C)), Sp.cval c = true → Sp.cval (Sp.mkL n a l c).2 = true
  | 0, _, _, _, h => h
  | n + 1, a, l, c, h => by
    simp only [Sp.mkL]
    apply Sp.cval_mkL n
    split
    · rename_i h1; exact Sp.cval_chV h1
    · exact h
theorem Sp.cval_mkC (l : List (List C)) : Sp.cval (Sp.mkC l) = true := Sp.cval_mkL _ _ _ _ (Sp.cval_nwV (Sp.ra_cu l))
end Go

namespace Go.Sx
/-! ### function 29: made.Clock -/
def ct29 : Ct := { ps := [], rs := [(true, [.sl [.int .i64, .int .i64, .int .i64]])], pre := fun _ => True, out := fun a => [[.l (Sp.mkD (cel 0 (arg 0 a)).list)], [.l (Sp.mkC (cel 0 (arg 0 a)).list)]], bx := some (63, [.sl [.int .u8]]) }
def tb29 : List (Nat × Ct) := [(32, ct32), (20, ct20), (12, ct12), (16, ct16)]
theorem e29 (l : List (List C)) : vcF Go.Proofs.Try.prog (look tb29) (fun _ => false) (fun _ _ => (.on (fun sv0 => match sv0.tmps.getD 0 .undef, sv0.tmps.getD 3 .undef with | .ref kk _, .ref jj _ => .inv (Int × Int × List (List C) × List (List C)) (fun z => Sp.mcJ l z.1 z.2.1 z.2.2.1 z.2.2.2) (fun z => [(5, .int .i64 z.1), (6, .int .i64 z.2.1)]) (fun z => [(kk, .box [.sl [.int .u8] z.2.2.1] 63), (jj, .box [.sl [.int .i64, .int .i64, .int .i64] z.2.2.2] 24)]) [kk, jj] [0, 2, 3, 5, 6, 7, 8, 18, 35] (fun z => z.2.1.toNat) | _, _ => .unroll 0))) 6 29 [.ref 0 0] [.box [.sl [.int .u8] l] 63] (fun sv heap => GivesB 63 [.sl [.int .u8]] [(true, [.sl [.int .i64, .int .i64, .int .i64]])] [[.l (Sp.mkD l)], [.l (Sp.mkC l)]] sv heap) = (True ∧ (InR IntKind.i64 (Sp.raN l) ∧ InR IntKind.i64 (Sp.raD l) ∧ True → True ∧ ((((Sp.nwV (Sp.raN l) (Sp.raD l)).length ≤ 9223372036854775807 ∧ ∀ (x : List C), x ∈ Sp.nwV (Sp.raN l) (Sp.raD l) → WfCs [Sh.int IntKind.i64, Sh.int IntKind.i64, Sh.int IntKind.i64] x) ∧ True) ∧ InR IntKind.i64 (Sp.nwE (Sp.raN l) (Sp.raD l)) ∧ True → (pLe 1 5 ∧ True) ∧ (InR IntKind.i64 (Sp.dN (Sp.dT l 8) 5) → (∃ (x : Int × Int × List (List C) × List (List C)), Sp.mcJ l x.1 x.snd.1 x.snd.snd.1 x.snd.snd.2 ∧ true = true ∧ ((IntKind.i64 = IntKind.i64 ∧ 0 = x.1) ∧ (IntKind.i64 = IntKind.i64 ∧ Sp.dN (Sp.dT l 8) 5 = x.snd.1) ∧ True) ∧ ((([Sh.int IntKind.u8] = [Sh.int IntKind.u8] ∧ Sp.dT (Sp.dT l 8) 5 = x.snd.snd.1) ∧ True) ∧ 63 = 63) ∧ ((([Sh.int IntKind.i64, Sh.int IntKind.i64, Sh.int IntKind.i64] = [Sh.int IntKind.i64, Sh.int IntKind.i64, Sh.int IntKind.i64] ∧ Sp.nwV (Sp.raN l) (Sp.raD l) = x.snd.snd.2) ∧ True) ∧ 24 = 24) ∧ True) ∧ (∀ (x : Int × Int × List (List C) × List (List C)), true = true ∧ true = true) ∧ ∀ (x : Int × Int × List (List C) × List (List C)), Sp.mcJ l x.1 x.snd.1 x.snd.snd.1 x.snd.snd.2 → InR IntKind.i64 x.1 ∧ InR IntKind.i64 x.snd.1 ∧ True → ((x.snd.snd.1.length ≤ 9223372036854775807 ∧ ∀ (x_1 : List C), x_1 ∈ x.snd.snd.1 → WfCs [Sh.int IntKind.u8] x_1) ∧ True) ∧ ((x.snd.snd.2.length ≤ 9223372036854775807 ∧ ∀ (x_1 : List C), x_1 ∈ x.snd.snd.2 → WfCs [Sh.int IntKind.i64, Sh.int IntKind.i64, Sh.int IntKind.i64] x_1) ∧ True) ∧ True → (bLt 0 x.snd.1 = true → (pLe 1 90 ∧ True) ∧ (InR IntKind.i64 (Sp.dN x.snd.snd.1 90) → InR IntKind.i64 (iAdd 1 (Sp.dN x.snd.snd.1 90)) ∧ InR IntKind.i64 (iAdd x.1 (iAdd 1 (Sp.dN x.snd.snd.1 90))) ∧ True ∧ (InR IntKind.i64 (Sp.raN (Sp.dT x.snd.snd.1 90)) ∧ InR IntKind.i64 (Sp.raD (Sp.dT x.snd.snd.1 90)) ∧ True → True ∧ ((((Sp.chV x.snd.snd.2 (iAdd x.1 (iAdd 1 (Sp.dN x.snd.snd.1 90))) (Sp.raN (Sp.dT x.snd.snd.1 90)) (Sp.raD (Sp.dT x.snd.snd.1 90))).length ≤ 9223372036854775807 ∧ ∀ (x_1 : List C), x_1 ∈ Sp.chV x.snd.snd.2 (iAdd x.1 (iAdd 1 (Sp.dN x.snd.snd.1 90))) (Sp.raN (Sp.dT x.snd.snd.1 90)) (Sp.raD (Sp.dT x.snd.snd.1 90)) → WfCs [Sh.int IntKind.i64, Sh.int IntKind.i64, Sh.int IntKind.i64] x_1) ∧ True) ∧ InR IntKind.i64 (Sp.chE x.snd.snd.2 (iAdd x.1 (iAdd 1 (Sp.dN x.snd.snd.1 90))) (Sp.raN (Sp.dT x.snd.snd.1 90)) (Sp.raD (Sp.dT x.snd.snd.1 90))) ∧ True → (bEq (Sp.chE x.snd.snd.2 (iAdd x.1 (iAdd 1 (Sp.dN x.snd.snd.1 90))) (Sp.raN (Sp.dT x.snd.snd.1 90)) (Sp.raD (Sp.dT x.snd.snd.1 90))) 0 = true → InR IntKind.i64 (iSub x.snd.1 1) ∧ (true = true ∧ [SV.ref 0 0, SV.ref 1 0, SV.ref 2 0] = [SV.ref 0 0, SV.ref 1 0, SV.ref 2 0]) ∧ [HB.gone, HB.box [SV.nils] 24, HB.gone] = [HB.gone, HB.box [SV.nils] 24, HB.gone] ∧ ∃ (y : Int × Int × List (List C) × List (List C)), Sp.mcJ l y.1 y.snd.1 y.snd.snd.1 y.snd.snd.2 ∧ true = true ∧ ((IntKind.i64 = IntKind.i64 ∧ iAdd x.1 (iAdd 1 (Sp.dN x.snd.snd.1 90)) = y.1) ∧ (IntKind.i64 = IntKind.i64 ∧ iSub x.snd.1 1 = y.snd.1) ∧ True) ∧ (((([Sh.int IntKind.u8] = [Sh.int IntKind.u8] ∧ Sp.dT (Sp.dT x.snd.snd.1 90) 8 = y.snd.snd.1) ∧ True) ∧ 63 = 63) ∧ ((([Sh.int IntKind.i64, Sh.int IntKind.i64, Sh.int IntKind.i64] = [Sh.int IntKind.i64, Sh.int IntKind.i64, Sh.int IntKind.i64] ∧ Sp.chV x.snd.snd.2 (iAdd x.1 (iAdd 1 (Sp.dN x.snd.snd.1 90))) (Sp.raN (Sp.dT x.snd.snd.1 90)) (Sp.raD (Sp.dT x.snd.snd.1 90)) = y.snd.snd.2) ∧ True) ∧ 24 = 24) ∧ True) ∧ y.snd.1.toNat < x.snd.1.toNat) ∧ (bEq (Sp.chE x.snd.snd.2 (iAdd x.1 (iAdd 1 (Sp.dN x.snd.snd.1 90))) (Sp.raN (Sp.dT x.snd.snd.1 90)) (Sp.raD (Sp.dT x.snd.snd.1 90))) 0 = false → InR IntKind.i64 (iSub x.snd.1 1) ∧ (true = true ∧ [SV.ref 0 0, SV.ref 1 0, SV.ref 2 0] = [SV.ref 0 0, SV.ref 1 0, SV.ref 2 0]) ∧ [HB.gone, HB.box [SV.nils] 24, HB.gone] = [HB.gone, HB.box [SV.nils] 24, HB.gone] ∧ ∃ (y : Int × Int × List (List C) × List (List C)), Sp.mcJ l y.1 y.snd.1 y.snd.snd.1 y.snd.snd.2 ∧ true = true ∧ ((IntKind.i64 = IntKind.i64 ∧ iAdd x.1 (iAdd 1 (Sp.dN x.snd.snd.1 90)) = y.1) ∧ (IntKind.i64 = IntKind.i64 ∧ iSub x.snd.1 1 = y.snd.1) ∧ True) ∧ (((([Sh.int IntKind.u8] = [Sh.int IntKind.u8] ∧ Sp.dT (Sp.dT x.snd.snd.1 90) 8 = y.snd.snd.1) ∧ True) ∧ 63 = 63) ∧ ((([Sh.int IntKind.i64, Sh.int IntKind.i64, Sh.int IntKind.i64] = [Sh.int IntKind.i64, Sh.int IntKind.i64, Sh.int IntKind.i64] ∧ x.snd.snd.2 = y.snd.snd.2) ∧ True) ∧ 24 = 24) ∧ True) ∧ y.snd.1.toNat < x.snd.1.toNat))))) ∧ (bLt 0 x.snd.1 = false → 63 = 63 ∧ (x.snd.snd.1 = Sp.mkD l ∧ True) ∧ (x.snd.snd.2 = Sp.mkC l ∧ True) ∧ True))))) := by kernel_rfl
theorem v29 (l : List (List C)) : Holds (Wfs [.agg [.sl [.int .u8] l]] → True → vcF Go.Proofs.Try.prog (look tb29) (fun _ => false) (fun _ _ => (.on (fun sv0 => match sv0.tmps.getD 0 .undef, sv0.tmps.getD 3 .undef with | .ref kk _, .ref jj _ => .inv (Int × Int × List (List C) × List (List C)) (fun z => Sp.mcJ l z.1 z.2.1 z.2.2.1 z.2.2.2) (fun z => [(5, .int .i64 z.1), (6, .int .i64 z.2.1)]) (fun z => [(kk, .box [.sl [.int .u8] z.2.2.1] 63), (jj, .box [.sl [.int .i64, .int .i64, .int .i64] z.2.2.2] 24)]) [kk, jj] [0, 2, 3, 5, 6, 7, 8, 18, 35] (fun z => z.2.1.toNat) | _, _ => .unroll 0))) 6 29 [.ref 0 0] [.box [.sl [.int .u8] l] 63] (fun sv heap => GivesB 63 [.sl [.int .u8]] [(true, [.sl [.int .i64, .int .i64, .int .i64]])] [[.l (Sp.mkD l)], [.l (Sp.mkC l)]] sv heap)) := by
  refine ⟨fun hw hp => ?_⟩
  rw [e29]
  simp only [iAdd, iSub, iMul, iLen, eq_self, true_and, and_true, true_implies, implies_true]
  have N0 := Sp.dN_bd (l := Sp.dT l 8) (n := 5) (by omega)
  refine fun _ _ => ⟨by simp [pLe], fun _ => ⟨⟨(0, Sp.dN (Sp.dT l 8) 5, Sp.dT (Sp.dT l 8) 5, Sp.nwV (Sp.raN l) (Sp.raD l)), ⟨⟨by simp only; omega, by simp only; omega, by simp only; omega⟩, rfl⟩, ⟨rfl, rfl⟩, rfl, rfl⟩, ?_⟩⟩
  rintro ⟨a, n, k, c⟩ ⟨⟨y0, y1, y2⟩, hr⟩ _ _
  simp only at y0 y1 y2 hr ⊢
  have N1 := Sp.dN_bd (l := k) (n := 90) (by omega)
  have rng : ∀ {m : Int}, 0 ≤ m → m ≤ 1125899906842624 → InR .i64 m := fun a b => by simp only [InR]; omega
  refine ⟨fun hlt => ?_, fun hge => ?_⟩
  · simp only [bLt, decide_eq_true_eq] at hlt
    obtain ⟨m, hm⟩ : ∃ m : Nat, n.toNat = m + 1 := ⟨n.toNat - 1, by omega⟩
    rw [hm, Sp.mkL] at hr
    have hm' : (n - 1).toNat = m := by omega
    refine ⟨by simp [pLe], fun _ => ⟨rng (by omega) (by omega), rng (by omega) (by omega), fun _ _ => ⟨fun he => ⟨rng (by omega) (by omega), (_, _, _, _), ?_, ⟨rfl, rfl⟩, ⟨rfl, rfl⟩, by simp only; omega⟩, fun he => ⟨rng (by omega) (by omega), (_, _, _, _), ?_, ⟨rfl, rfl⟩, ⟨rfl, rfl⟩, by simp only; omega⟩⟩⟩⟩
    · simp only [bEq, decide_eq_true_eq] at he
      rw [if_pos he] at hr
      exact ⟨⟨by simp only; omega, by simp only; omega, by simp only; omega⟩, by simp only [hm']; exact hr⟩
    · simp only [bEq, decide_eq_false_iff_not] at he
      rw [if_neg he] at hr
      exact ⟨⟨by simp only; omega, by simp only; omega, by simp only; omega⟩, by simp only [hm']; exact hr⟩
  · simp only [bLt, decide_eq_false_iff_not] at hge
    rw [show n.toNat = 0 by omega, Sp.mkL] at hr
    unfold Sp.mkD Sp.mkC
    rw [← hr]
    exact ⟨rfl, rfl⟩
theorem s29 : SoundCt Go.Proofs.Try.prog 29 ct29 :=
  contractHB followsMixed (look_sound (show Tb Go.Proofs.Try.prog tb29 from ⟨s32, ⟨s20, ⟨s12, ⟨s16, trivial⟩⟩⟩⟩)) (fun _ => false) (fun a => fun _ _ => (.on (fun sv0 => match sv0.tmps.getD 0 .undef, sv0.tmps.getD 3 .undef with | .ref kk _, .ref jj _ => .inv (Int × Int × List (List C) × List (List C)) (fun z => Sp.mcJ (cel 0 (arg 0 a)).list z.1 z.2.1 z.2.2.1 z.2.2.2) (fun z => [(5, .int .i64 z.1), (6, .int .i64 z.2.1)]) (fun z => [(kk, .box [.sl [.int .u8] z.2.2.1] 63), (jj, .box [.sl [.int .i64, .int .i64, .int .i64] z.2.2.2] 24)]) [kk, jj] [0, 2, 3, 5, 6, 7, 8, 18, 35] (fun z => z.2.1.toNat) | _, _ => .unroll 0))) 6 29 ct29 rfl (by simp [ct29]) fun a => Eq.mp (by kernel_rfl) (v29 ((cel 0 (arg 0 a)).list))
end Go.Sx

namespace Go.Sx
/-! ### function 14: law13.made -/
def ct14 : Ct := { ps := [(false, [.sl [.int .u8]])], rs := [(true, [.sl [.int .i64, .int .i64, .int .i64]])], pre := fun _ => True, out := fun a => [[.l (Sp.mkC (Sp.s300 (cel 0 (arg 0 a)).list))]] }
def tb14 : List (Nat × Ct) := [(29, ct29)]
theorem e14 (s : List (List C)) : vcF Go.Proofs.Try.prog (look tb14) (fun _ => false) (fun _ _ => LoopAnn.unroll 200) 6 14 [.sl [.int .u8] s] [] (fun sv heap => Gives [(true, [.sl [.int .i64, .int .i64, .int .i64]])] [[.l (Sp.mkC (Sp.s300 s))]] sv heap) = (pLe (iLen s) 9223372036854775807 → geB none (some (iMin (iLen s) 300)) (iLen s) ∧ True ∧ (((Sp.mkC (cutRows s none (some (iMin (iLen s) 300)))).length ≤ 9223372036854775807 ∧ ∀ (x : List C), x ∈ Sp.mkC (cutRows s none (some (iMin (iLen s) 300))) → WfCs [Sh.int IntKind.i64, Sh.int IntKind.i64, Sh.int IntKind.i64] x) ∧ True → (Sp.mkC (cutRows s none (some (iMin (iLen s) 300))) = Sp.mkC (Sp.s300 s) ∧ True) ∧ True)) := by kernel_rfl
theorem v14 (s : List (List C)) : Holds (Wfs [.sl [.int .u8] s] → True → vcF Go.Proofs.Try.prog (look tb14) (fun _ => false) (fun _ _ => LoopAnn.unroll 200) 6 14 [.sl [.int .u8] s] [] (fun sv heap => Gives [(true, [.sl [.int .i64, .int .i64, .int .i64]])] [[.l (Sp.mkC (Sp.s300 s))]] sv heap)) := by
  refine ⟨fun hw hp => ?_⟩
  rw [e14]
  simp only [iAdd, iSub, iMul, iLen, eq_self, true_and, and_true, true_implies, implies_true]
  have e : cutRows s none (some (iMin (s.length : Int) 300)) = Sp.s300 s := rfl
  rw [e]
  exact fun _ => ⟨by simp only [geB, iMin]; omega, fun _ => rfl⟩
theorem s14 : SoundCt Go.Proofs.Try.prog 14 ct14 :=
  contractH followsMixed (look_sound (show Tb Go.Proofs.Try.prog tb14 from ⟨s29, trivial⟩)) (fun _ => false) (fun _ => fun _ _ => LoopAnn.unroll 200) 6 14 ct14 rfl (by simp [ct14]) fun a => Eq.mp (by kernel_rfl) (v14 ((cel 0 (arg 0 a)).list))
end Go.Sx

