/- Contracts and conditions, continued. -/
import Derived.Test.YtojecjbhdligcaaDoorSxUse
import Derived.Test.YtojecjbhdligcaaDoorD06e
import Derived.KernelRfl
set_option linter.unusedVariables false
set_option linter.unusedSimpArgs false
set_option maxRecDepth 100000
set_option maxHeartbeats 4000000

namespace Go
open Go.Sx
def Sp.sub (s : ByteArray) (a : Int) : List UInt8 := (s.data.toList.drop a.toNat).take 2
def Sp.rpI (s : ByteArray) (a : Int) (l : List Int) : Prop := 0 ≤ a ∧ a ≤ (s.size : Int) ∧ l.length ≤ a.toNat ∧ Sp.prM s = (Sp.pr2 (s.data.toList.drop a.toNat)).map (l ++ ·)
def Sp.rkI (s : ByteArray) (a k p : Int) : Prop := 1 ≤ k ∧ k ≤ 9 ∧ p = if Sp.cod (Sp.sub s a) < k then Sp.cod (Sp.sub s a) else 0
end Go

namespace Go
open Go.Sx
theorem Sp.cod_nm {x : List UInt8} {k : Int} (h1 : 1 ≤ k) (h8 : k ≤ 8) : Sp.nmL k = x ↔ Sp.cod x = k := by
  constructor
  · rintro rfl
    rcases Sp.eight h1 h8 with rfl | rfl | rfl | rfl | rfl | rfl | rfl | rfl <;> decide
  · intro h
    unfold Sp.cod at h
    rcases Sp.eight h1 h8 with rfl | rfl | rfl | rfl | rfl | rfl | rfl | rfl <;>
      (repeat' split at h) <;> first | (exact absurd h (by decide)) | (rename_i e; rw [e]; decide) | (rename_i e _; rw [e]; decide)
theorem Sp.sub_cut {s : ByteArray} {a : Int} (h0 : 0 ≤ a) : (sCut s (some a) (some (a + 2))).toList = Sp.sub s a := by
  unfold sCut Sp.sub
  rw [Lib.toList_data, Lib.extract_data]
  simp only [Option.getD_some]
  rw [show (a + 2).toNat - a.toNat = 2 by omega]
theorem Sp.nm_sub {s : ByteArray} {a k : Int} (h0 : 0 ≤ a) (h1 : 1 ≤ k) (h8 : k ≤ 8) : ((sCut Sp.nms (some (2 * k - 2)) (some (2 * k))).toList == (sCut s (some a) (some (a + 2))).toList) = decide (Sp.cod (Sp.sub s a) = k) := by
  rw [Sp.sub_cut h0, Sp.nm_cut h1 h8, Lib.toList_data]
  show (Sp.nmL k == Sp.sub s a) = _
  rw [Bool.eq_iff_iff, beq_iff_eq, decide_eq_true_eq]
  exact Sp.cod_nm h1 h8
theorem Sp.rk_init (s : ByteArray) (a : Int) : Sp.rkI s a 1 0 := by
  refine ⟨by omega, by omega, ?_⟩
  have := Sp.cod_bd (Sp.sub s a)
  split <;> omega
theorem Sp.rk_hit {s : ByteArray} {a k p : Int} (h : Sp.rkI s a k p) (h8 : k ≤ 8) (he : Sp.cod (Sp.sub s a) = k) : Sp.rkI s a (k + 1) k := by
  obtain ⟨x, y, z⟩ := h
  exact ⟨by omega, by omega, by rw [if_pos (by omega), he]⟩
theorem Sp.rk_miss {s : ByteArray} {a k p : Int} (h : Sp.rkI s a k p) (h8 : k ≤ 8) (he : ¬ Sp.cod (Sp.sub s a) = k) : Sp.rkI s a (k + 1) p := by
  obtain ⟨x, y, z⟩ := h
  refine ⟨by omega, by omega, ?_⟩
  rw [z]
  split <;> split <;> omega
theorem Sp.rk_end {s : ByteArray} {a k p : Int} (h : Sp.rkI s a k p) (h8 : ¬ k ≤ 8) : p = Sp.cod (Sp.sub s a) := by
  obtain ⟨x, y, z⟩ := h
  have := Sp.cod_bd (Sp.sub s a)
  rw [z, if_pos (by omega)]
theorem Sp.drop1 {s : ByteArray} {a : Int} (h0 : 0 ≤ a) (h : a < (s.size : Int)) : ∃ x, s.data.toList.drop a.toNat = x :: s.data.toList.drop (a + 1).toNat ∧ sAt s a = (x.toNat : Int) := by
  have hl : s.data.toList.length = s.size := (Lib.size_eq s).symm
  refine ⟨s.data.toList[a.toNat]'(by omega), ?_, ?_⟩
  · rw [List.drop_eq_getElem_cons (by omega), show (a + 1).toNat = a.toNat + 1 by omega]
  · unfold sAt
    have : s[a.toNat]? = some (s.data.toList[a.toNat]'(by omega)) := by
      rw [getElem?_pos s a.toNat (by omega)]; rfl
    rw [this]
theorem Sp.drop2 {s : ByteArray} {a : Int} (h0 : 0 ≤ a) (h : a + 2 ≤ (s.size : Int)) : ∃ b c, s.data.toList.drop a.toNat = b :: c :: s.data.toList.drop (a + 2).toNat ∧ Sp.sub s a = [b, c] := by
  obtain ⟨b, e1, _⟩ := Sp.drop1 h0 (s := s) (by omega)
  obtain ⟨c, e2, _⟩ := Sp.drop1 (a := a + 1) (s := s) (by omega) (by omega)
  rw [show a + 1 + 1 = a + 2 by omega] at e2
  refine ⟨b, c, by rw [e1, e2], ?_⟩
  unfold Sp.sub
  rw [e1, e2]; rfl
def Sp.bl (s : ByteArray) : Nat := s.size
theorem Sp.pr_none {s : ByteArray} (h : Sp.prM s = none) : Sp.prL s = [] ∧ Sp.prE s = 5 := by simp only [Sp.prL, Sp.prE, h, and_self]
theorem Sp.rp_short {s : ByteArray} {a : Int} {l : List Int} (h : Sp.rpI s a l) (hs : (s.size : Int) - a < 2) : Sp.prL s = [] ∧ Sp.prE s = 5 := by
  obtain ⟨h0, h1, _, h2⟩ := h
  refine Sp.pr_none ?_
  have hl : (s.data.toList.drop a.toNat).length < 2 := by
    have : s.data.toList.length = s.size := (Lib.size_eq s).symm
    simp only [List.length_drop]; omega
  rw [h2]
  match s.data.toList.drop a.toNat, hl with
  | [], _ => rfl
  | [x], _ => rfl
theorem Sp.rp_no {s : ByteArray} {a : Int} {l : List Int} (h : Sp.rpI s a l) (hs : ¬ (s.size : Int) - a < 2) (hc : Sp.cod (Sp.sub s a) = 0) : Sp.prL s = [] ∧ Sp.prE s = 5 := by
  obtain ⟨h0, h1, _, h2⟩ := h
  refine Sp.pr_none ?_
  obtain ⟨b, c, e, e'⟩ := Sp.drop2 h0 (s := s) (by omega)
  rw [e'] at hc
  rw [h2, e]
  cases s.data.toList.drop (a + 2).toNat with
  | nil => simp only [Sp.pr2, hc, if_true, Option.map_none]
  | cons x r => simp only [Sp.pr2, hc, if_true, Option.map_none]
theorem Sp.rp_last {s : ByteArray} {a : Int} {l : List Int} (h : Sp.rpI s a l) (hs : (s.size : Int) = a + 2) (hc : ¬ Sp.cod (Sp.sub s a) = 0) : Sp.prM s = some (l ++ [Sp.cod (Sp.sub s a)]) := by
  obtain ⟨h0, h1, _, h2⟩ := h
  obtain ⟨b, c, e, e'⟩ := Sp.drop2 h0 (s := s) (by omega)
  have hl : s.data.toList.length = s.size := (Lib.size_eq s).symm
  rw [List.drop_of_length_le (show s.data.toList.length ≤ (a + 2).toNat by omega)] at e
  rw [e'] at hc ⊢
  rw [h2, e]
  simp only [Sp.pr2, if_neg hc, Option.map_some]
theorem Sp.rp_comma {s : ByteArray} {a : Int} {l : List Int} (h : Sp.rpI s a l) (hs : a + 2 < (s.size : Int)) (hn : ¬ sAt s (a + 2) = 44) : Sp.prL s = [] ∧ Sp.prE s = 5 := by
  obtain ⟨h0, h1, _, h2⟩ := h
  refine Sp.pr_none ?_
  obtain ⟨b, c, e, e'⟩ := Sp.drop2 h0 (s := s) (by omega)
  obtain ⟨x, e3, e4⟩ := Sp.drop1 (a := a + 2) (s := s) (by omega) hs
  have hx : ¬ x = 44 := by rintro rfl; exact hn e4
  rw [h2, e, e3]
  simp only [Sp.pr2, if_neg hx, ite_self, Option.map_none]
theorem Sp.rp_next {s : ByteArray} {a : Int} {l : List Int} (h : Sp.rpI s a l) (hs : a + 2 < (s.size : Int)) (hn : sAt s (a + 2) = 44) (hc : ¬ Sp.cod (Sp.sub s a) = 0) : Sp.rpI s (a + 3) (l ++ [Sp.cod (Sp.sub s a)]) := by
  obtain ⟨h0, h1, hl, h2⟩ := h
  obtain ⟨b, c, e, e'⟩ := Sp.drop2 h0 (s := s) (by omega)
  obtain ⟨x, e3, e4⟩ := Sp.drop1 (a := a + 2) (s := s) (by omega) hs
  have hx : x = 44 := by
    apply UInt8.toNat_inj.1
    show x.toNat = 44
    omega
  subst hx
  rw [show a + 2 + 1 = a + 3 by omega] at e3
  rw [e'] at hc ⊢
  refine ⟨by omega, by omega, by simp only [List.length_append, List.length_singleton]; omega, ?_⟩
  rw [h2, e, e3]
  simp only [Sp.pr2, if_neg hc, if_true, Option.map_map]
  congr 1
  funext y
  simp
end Go

namespace Go.Sx
/-! ### function 9: ref06.Parse -/
def ct9 : Ct := { ps := [(false, [.str])], rs := [(false, [.sl [.int .i64]]), (false, [.int .i64])], pre := fun a => pLe (iSize (cel 0 (arg 0 a)).str) 1000 ∧ True, out := fun a => [[.l (Sp.prL (cel 0 (arg 0 a)).str)], [.i (Sp.prE (cel 0 (arg 0 a)).str)]] }
def tb9 : List (Nat × Ct) := [(15, ct15)]
def A9 (s : ByteArray) : FuncId → Nat → LoopAnn := fun _ ii => bif Nat.beq ii 4 then .ghost 4 [.int .i64] 3 (.on (fun sv0 => match sv0.tmps.getD 4 .undef with | .own rc _ => .inv (Int × List Int) (fun z => Sp.rpI s z.1 z.2) (fun z => [(5, .int .i64 z.1), (4, .own rc 0)]) (fun z => [(rc, .row [.int .i64] 3 0 (z.2.map Sp.row))]) [rc] [0, 2, 3, 4, 5, 6, 7, 14, 16, 30, 33, 42, 47, 50] (fun z => Sp.bl s - z.1.toNat) | _ => .unroll 0)) else bif Nat.beq ii 8 then .on (fun sv0 => match sv0.tmps.getD 5 .undef with | .int _ aa => .inv (Int × Int) (fun z => Sp.rkI s aa z.1 z.2) (fun z => [(7, .int .i64 z.1), (6, .int .i64 z.2)]) (fun _ => []) [] [0, 2, 3, 4, 5, 6, 7, 14, 16, 30, 33, 42, 47, 50] (fun z => 10 - z.1.toNat) | _ => .unroll 0) else .unroll 0
abbrev B9 (s : ByteArray) : Prop := vcF Go.Proofs.Tryd.prog (look tb9) (fun _ => false) (A9 s) 6 9 [.str s] [] (fun sv heap => Gives [(false, [.sl [.int .i64]]), (false, [.int .i64])] [[.l (Sp.prL s)], [.i (Sp.prE s)]] sv heap)
theorem e9 (s : ByteArray) : B9 s = ((∃ (x : Int × List Int), Sp.rpI s x.1 x.2 ∧ true = true ∧ ((IntKind.i64 = IntKind.i64 ∧ 0 = x.1) ∧ (0 = 0 ∧ 0 + 1 = 0 + 1) ∧ True) ∧ ([Sh.int .i64] = [Sh.int .i64] ∧ 3 = 3 ∧ 0 + 1 = 0 + 1 ∧ [] = List.map Sp.row x.2) ∧ True) ∧ (∀ (x : Int × List Int), true = true ∧ true = true) ∧ ∀ (x : Int × List Int), Sp.rpI s x.1 x.2 → InR .i64 x.1 ∧ True ∧ True → ((List.map Sp.row x.2).length ≤ 9223372036854775807 ∧ ∀ (x_1 : List C), x_1 ∈ List.map Sp.row x.2 → WfCs [.int .i64] x_1) ∧ True → pLe (iSize s) 9223372036854775807 → InR .i64 (iSub (iSize s) x.1) ∧ (bLt (iSub (iSize s) x.1) 2 = true → ([] = Sp.prL s ∧ True) ∧ (5 = Sp.prE s ∧ True) ∧ True) ∧ (bLt (iSub (iSize s) x.1) 2 = false → (∃ (x_1 : Int × Int), Sp.rkI s x.1 x_1.1 x_1.2 ∧ true = true ∧ ((IntKind.i64 = IntKind.i64 ∧ 1 = x_1.1) ∧ (IntKind.i64 = IntKind.i64 ∧ 0 = x_1.2) ∧ True) ∧ True) ∧ (∀ (x : Int × Int), true = true ∧ true = true) ∧ ∀ (x_1 : Int × Int), Sp.rkI s x.1 x_1.1 x_1.2 → InR .i64 x_1.1 ∧ InR .i64 x_1.2 ∧ True → True → (bLe x_1.1 8 = true → InR .i64 (iMul 2 x_1.1) ∧ InR .i64 (iSub (iMul 2 x_1.1) 2) ∧ InR .i64 (iMul 2 x_1.1) ∧ geB (some (iSub (iMul 2 x_1.1) 2)) (some (iMul 2 x_1.1)) (iSize { data := { toList := [70, 76, 70, 82, 70, 67, 76, 70, 66, 76, 66, 82, 83, 76, 83, 82] } }) ∧ InR .i64 (iAdd x.1 2) ∧ geB (some x.1) (some (iAdd x.1 2)) (iSize s) ∧ (sSame (sCut { data := { toList := [70, 76, 70, 82, 70, 67, 76, 70, 66, 76, 66, 82, 83, 76, 83, 82] } } (some (iSub (iMul 2 x_1.1) 2)) (some (iMul 2 x_1.1))) (sCut s (some x.1) (some (iAdd x.1 2))) = true → InR .i64 (iAdd x_1.1 1) ∧ (true = true ∧ (fun z => z = z) [SV.str s, SV.any, SV.any, SV.own 0 (0 + 1), SV.int .i64 x.1, SV.blit false, SV.any, SV.any, SV.any, SV.undef]) ∧ [HB.row [.int .i64] 3 (0 + 1) (List.map Sp.row x.2)] = [HB.row [.int .i64] 3 (0 + 1) (List.map Sp.row x.2)] ∧ ∃ (y : Int × Int), Sp.rkI s x.1 y.1 y.2 ∧ true = true ∧ ((IntKind.i64 = IntKind.i64 ∧ iAdd x_1.1 1 = y.1) ∧ (IntKind.i64 = IntKind.i64 ∧ x_1.1 = y.2) ∧ True) ∧ True ∧ 10 - y.1.toNat < 10 - x_1.1.toNat) ∧ (sSame (sCut { data := { toList := [70, 76, 70, 82, 70, 67, 76, 70, 66, 76, 66, 82, 83, 76, 83, 82] } } (some (iSub (iMul 2 x_1.1) 2)) (some (iMul 2 x_1.1))) (sCut s (some x.1) (some (iAdd x.1 2))) = false → InR .i64 (iAdd x_1.1 1) ∧ (true = true ∧ (fun z => z = z) [SV.str s, SV.any, SV.any, SV.own 0 (0 + 1), SV.int .i64 x.1, SV.blit false, SV.any, SV.any, SV.any, SV.undef]) ∧ [HB.row [.int .i64] 3 (0 + 1) (List.map Sp.row x.2)] = [HB.row [.int .i64] 3 (0 + 1) (List.map Sp.row x.2)] ∧ ∃ (y : Int × Int), Sp.rkI s x.1 y.1 y.2 ∧ true = true ∧ ((IntKind.i64 = IntKind.i64 ∧ iAdd x_1.1 1 = y.1) ∧ (IntKind.i64 = IntKind.i64 ∧ x_1.2 = y.2) ∧ True) ∧ True ∧ 10 - y.1.toNat < 10 - x_1.1.toNat)) ∧ (bLe x_1.1 8 = false → (bEq x_1.2 0 = true → ([] = Sp.prL s ∧ True) ∧ (5 = Sp.prE s ∧ True) ∧ True) ∧ (bEq x_1.2 0 = false → pRoom 8 (iLen (List.map Sp.row x.2 ++ [[C.i x_1.2]])) ∧ (pLe (iSize s) 9223372036854775807 → InR .i64 (iAdd x.1 2) ∧ (bEq (iSize s) (iAdd x.1 2) = true → True ∧ (True → True ∧ (bNot (Sp.vld (List.map Sp.row x.2 ++ [[C.i x_1.2]])) = true → ([] = Sp.prL s ∧ True) ∧ (1 = Sp.prE s ∧ True) ∧ True) ∧ (bNot (Sp.vld (List.map Sp.row x.2 ++ [[C.i x_1.2]])) = false → (List.map Sp.row x.2 ++ [[C.i x_1.2]] = Sp.prL s ∧ True) ∧ (0 = Sp.prE s ∧ True) ∧ True))) ∧ (bEq (iSize s) (iAdd x.1 2) = false → InR .i64 (iAdd x.1 2) ∧ pIn 0 (iSize s) (iAdd x.1 2) ∧ (bNe (sAt s (iAdd x.1 2)) 44 = true → ([] = Sp.prL s ∧ True) ∧ (5 = Sp.prE s ∧ True) ∧ True) ∧ (bNe (sAt s (iAdd x.1 2)) 44 = false → InR .i64 (iAdd x.1 3) ∧ (true = true ∧ [SV.str s, SV.undef] = [SV.str s, SV.undef]) ∧ [HB.gone] = [HB.gone] ∧ ∃ (y : Int × List Int), Sp.rpI s y.1 y.2 ∧ true = true ∧ ((IntKind.i64 = IntKind.i64 ∧ iAdd x.1 3 = y.1) ∧ (0 = 0 ∧ 0 + 1 = 0 + 1) ∧ True) ∧ (([Sh.int .i64] = [Sh.int .i64] ∧ 3 = 3 ∧ 0 + 1 = 0 + 1 ∧ List.map Sp.row x.2 ++ [[C.i x_1.2]] = List.map Sp.row y.2) ∧ True) ∧ Sp.bl s - y.1.toNat < Sp.bl s - x.1.toNat))))))) := by kernel_rfl
theorem v9 (s : ByteArray) : Holds (Wfs [.str s] → pLe (iSize s) 1000 ∧ True → B9 s) := by
  refine ⟨fun hw hp => ?_⟩
  rw [e9]
  simp only [Wfs, Wf, InR, and_true] at hw
  have hm : maxLen = 9223372036854775807 := rfl
  simp only [hm] at hw
  simp only [iAdd, iSub, iMul, iLen, iSize, bLt, bLe, bEq, bNe, bNot, bSame, bDiff, sSame, sDiff, InR, pLe, pIn, pRoom, eq_self, true_and, and_true, true_implies, implies_true, decide_eq_true_eq, decide_eq_false_iff_not, Bool.not_eq_true', Bool.not_eq_false']
  have hp := hp.1
  simp only [pLe, iSize] at hp
  refine ⟨⟨(0, []), ⟨by simp, by simp, by simp, ?_⟩, rfl, rfl⟩, ?_⟩
  · simp only [Int.toNat_zero, List.drop_zero, List.nil_append, Option.map_id']
    exact (Sp.pr2_eq _).symm
  rintro ⟨a, l⟩ hx _ hr _
  simp only at hx hr ⊢
  have a0 := hx.1
  have a1 := hx.2.1
  have al := hx.2.2.1
  refine ⟨by omega, fun hs => ?_, fun hs => ⟨⟨(1, 0), Sp.rk_init s a, rfl, rfl⟩, ?_⟩⟩
  · obtain ⟨e1, e2⟩ := Sp.rp_short hx hs
    rw [e1, e2]; exact ⟨rfl, rfl⟩
  rintro ⟨k, p⟩ hk _
  simp only at hk ⊢
  have k1 := hk.1
  refine ⟨fun k8 => ⟨by omega, by omega, by omega, ⟨by omega, by omega, ?_⟩, by omega, ⟨by omega, by omega, by omega⟩, fun he => ⟨by omega, (k + 1, k), ?_, ⟨rfl, rfl⟩, by simp only []; omega⟩, fun he => ⟨by omega, (k + 1, p), ?_, ⟨rfl, rfl⟩, by simp only []; omega⟩⟩, fun k8 => ?_⟩
  · show 2 * k ≤ (16 : Int); omega
  · exact Sp.rk_hit hk k8 (of_decide_eq_true ((Sp.nm_sub a0 k1 k8).symm.trans he))
  · exact Sp.rk_miss hk k8 (of_decide_eq_false ((Sp.nm_sub a0 k1 k8).symm.trans he))
  have hpe := Sp.rk_end hk k8
  subst hpe
  have er : List.map Sp.row l ++ [[C.i (Sp.cod (Sp.sub s a))]] = List.map Sp.row (l ++ [Sp.cod (Sp.sub s a)]) := by simp [Sp.row]
  refine ⟨fun hc => ?_, fun hc => ⟨?_, fun _ => ⟨by omega, fun hz => ?_, fun hz => ⟨by omega, ⟨by omega, by omega⟩, fun hn => ?_, fun hn => ⟨by omega, (a + 3, l ++ [Sp.cod (Sp.sub s a)]), Sp.rp_next hx (by omega) hn hc, rfl, er, ?_⟩⟩⟩⟩⟩
  · obtain ⟨e1, e2⟩ := Sp.rp_no hx hs hc
    rw [e1, e2]; exact ⟨rfl, rfl⟩
  · simp only [List.length_append, List.length_map, List.length_singleton]; omega
  · obtain ⟨q1, q2⟩ := Sp.pr_of (Sp.rp_last hx hz hc)
    rw [er]
    exact ⟨fun h => ⟨(q2 h).1.symm, (q2 h).2.symm⟩, fun h => ⟨(q1 h).1.symm, (q1 h).2.symm⟩⟩
  · obtain ⟨e1, e2⟩ := Sp.rp_comma hx (by omega) hn
    rw [e1, e2]; exact ⟨rfl, rfl⟩
  · have : Sp.bl s = s.size := rfl
    simp only []; omega
theorem s9 : SoundCt Go.Proofs.Tryd.prog 9 ct9 :=
  contractH followsMixed (look_sound (show Tb Go.Proofs.Tryd.prog tb9 from ⟨s15, trivial⟩)) (fun _ => false) (fun a => A9 ((cel 0 (arg 0 a)).str)) 6 9 ct9 rfl (by simp [ct9]) fun a => Eq.mp (by kernel_rfl) (v9 ((cel 0 (arg 0 a)).str))
end Go.Sx

