/- Contracts and conditions, continued. -/
import Derived.Test.YtfeejcmeibfomaaSxUse
import Derived.Test.YtfeejcmeibfomaaP31h
import Derived.KernelRfl
set_option linter.unusedVariables false
set_option linter.unusedSimpArgs false
set_option maxRecDepth 100000
set_option maxHeartbeats 4000000

namespace Go
open Go.Sx
theorem Sp.flz_fld {a p : List (List C)} : ∀ (r st st' : List (List C)), Sp.fld a p r st = some st' → Sp.flz r (st.length : Int) = some (st'.length : Int)
  | [], st, st', h => by
    simp only [Sp.fld, Option.some.injEq] at h; rw [h, Sp.flz]
  | x :: r, st, st', h => by
    simp only [Sp.fld] at h
    cases ht : Sp.tok x (st.length : Int) with
    | false => rw [ht] at h; cases h
    | true =>
      rw [ht] at h
      have := Sp.flz_fld r _ st' h
      rw [Sp.nst_len ht] at this
      rw [Sp.flz, ht]; exact this
theorem Sp.hld_prp {a p cnd : List (List C)} (h : Sp.prp cnd = false) : Sp.hld a p cnd = false := by
  unfold Sp.prp at h
  unfold Sp.hld
  rw [Bool.or_eq_false_iff] at h
  rw [h.1, Bool.false_or]
  cases h16 : decide (cnd.length ≤ 16) with
  | false => rfl
  | true =>
    rw [h16, Bool.true_and] at h
    rw [Bool.true_and]
    cases hf : Sp.fld a p cnd [] with
    | none => rfl
    | some st =>
      have := Sp.flz_fld _ _ _ hf
      simp only [List.length_nil] at this
      have h2 := h.2
      rw [show ((0 : Nat) : Int) = 0 from rfl] at this
      rw [this] at h2
      unfold Sp.one at h2
      have h3 : ¬ (st.length : Int) = 1 := of_decide_eq_false h2
      show (decide (st.length = 1) && _) = false
      rw [decide_eq_false (by omega)]; rfl
theorem Sp.drop_get {m : List (List C)} {q j : Int} (hq : 0 ≤ q) (hj : 0 ≤ j) : rGet (cutRows m (some q) none) j = rGet m (q + j) := by
  simp only [cutRows, rGet]
  rw [List.getD_eq_getElem?_getD, List.getD_eq_getElem?_getD, List.getElem?_drop, show q.toNat + j.toNat = (q + j).toNat by omega]
theorem Sp.nst_k1 {a p st : List (List C)} {x : List C} (h : Sp.i0 x = 1) : st ++ [[.b (Sp.inn a (Sp.s1 x))]] = Sp.nst a p x st := by
  have e : Sp.ari (Sp.i0 x) = 0 := by rw [h]; rfl
  unfold Sp.nst
  rw [e, Int.sub_zero]
  simp only [cutRows, Int.toNat_natCast, List.take_length]
  congr 2
  rw [h]; rfl
theorem Sp.nst_k2 {a p st : List (List C)} {x : List C} (h : Sp.i0 x = 2) : st ++ [[.b (Sp.inn p (Sp.s1 x))]] = Sp.nst a p x st := by
  have e : Sp.ari (Sp.i0 x) = 0 := by rw [h]; rfl
  unfold Sp.nst
  rw [e, Int.sub_zero]
  simp only [cutRows, Int.toNat_natCast, List.take_length]
  congr 2
  rw [h]; rfl
theorem Sp.nst_k3 {a p st : List (List C)} {x : List C} (h : Sp.i0 x = 3) (h1 : 1 ≤ (st.length : Int)) : rSet st ((st.length : Int) - 1) [.b (!Sp.b0 (rGet st ((st.length : Int) - 1)))] = Sp.nst a p x st := by
  have e : Sp.ari (Sp.i0 x) = 1 := by rw [h]; rfl
  have et : Sp.tv a p (Sp.i0 x) (Sp.s1 x) (cutRows st (some ((st.length : Int) - 1)) none) = !Sp.b0 (rGet st ((st.length : Int) - 1)) := by
    rw [h]
    show (!Sp.b0 (rGet (cutRows st (some ((st.length : Int) - 1)) none) 0)) = _
    rw [Sp.drop_get (by omega) (by omega), Int.add_zero]
  unfold Sp.nst
  rw [e, et]
  generalize [C.b (!Sp.b0 (rGet st ((st.length : Int) - 1)))] = y
  simp only [rSet, cutRows]
  have hn : ((st.length : Int) - 1).toNat = st.length - 1 := by omega
  rw [hn]
  refine List.ext_getElem (by simp; omega) fun i h1 h2 => ?_
  simp only [List.length_set] at h1
  rw [List.getElem_set, List.getElem_append]
  by_cases hi : st.length - 1 = i
  · rw [if_pos hi, dif_neg (by simp; omega)]; simp
  · rw [if_neg hi, dif_pos (by simp; omega)]; simp
theorem Sp.nst_k4 {a p st : List (List C)} {x : List C} (h : Sp.i0 x = 4) (h2 : 2 ≤ (st.length : Int)) : cutRows st none (some ((st.length : Int) - 2)) ++ [[.b (Sp.b0 (rGet st ((st.length : Int) - 2)) && Sp.b0 (rGet st ((st.length : Int) - 1)))]] = Sp.nst a p x st := by
  have e : Sp.ari (Sp.i0 x) = 2 := by rw [h]; rfl
  unfold Sp.nst
  rw [e]
  congr 4
  rw [h]
  show _ = (Sp.b0 (rGet (cutRows st (some ((st.length : Int) - 2)) none) 0) && Sp.b0 (rGet (cutRows st (some ((st.length : Int) - 2)) none) 1))
  rw [Sp.drop_get (by omega) (by omega), Sp.drop_get (by omega) (by omega), Int.add_zero, show (st.length : Int) - 2 + 1 = (st.length : Int) - 1 by omega]
theorem Sp.nst_k5 {a p st : List (List C)} {x : List C} (h : Sp.i0 x = 5) (h2 : 2 ≤ (st.length : Int)) : cutRows st none (some ((st.length : Int) - 2)) ++ [[.b (Sp.b0 (rGet st ((st.length : Int) - 2)) || Sp.b0 (rGet st ((st.length : Int) - 1)))]] = Sp.nst a p x st := by
  have e : Sp.ari (Sp.i0 x) = 2 := by rw [h]; rfl
  unfold Sp.nst
  rw [e]
  congr 4
  rw [h]
  show _ = (Sp.b0 (rGet (cutRows st (some ((st.length : Int) - 2)) none) 0) || Sp.b0 (rGet (cutRows st (some ((st.length : Int) - 2)) none) 1))
  rw [Sp.drop_get (by omega) (by omega), Sp.drop_get (by omega) (by omega), Int.add_zero, show (st.length : Int) - 2 + 1 = (st.length : Int) - 1 by omega]
end Go

namespace Go.Sx
def ct5000109 : Ct := { ps := [], rs := [], pre := fun _ => False, out := fun _ => [] }
theorem s5000109 : SoundCt Go.Proofs.Try.prog 5000109 ct5000109 :=
  ⟨fun _ _ h => False.elim h, fun _ _ _ _ _ _ _ _ _ h _ => False.elim h, fun t e h => (by cases h), fun t e r _ h => (by cases h), fun t e _ _ h => (by cases h)⟩
end Go.Sx

namespace Go.Sx
/-! ### function 52: ref29.Holds -/
def ct52 : Ct := { ps := [(false, [.sl [.int .i64, .str]]), (false, [.sl [.str]]), (false, [.sl [.str]])], rs := [(false, [.bool])], pre := fun _ => True, out := fun a => [[.b (Sp.hld (cel 0 (arg 1 a)).list (cel 0 (arg 2 a)).list (cel 0 (arg 0 a)).list)]] }
def tb52 : List (Nat × Ct) := [(67, ct67), (68, ct68), (5000109, ct5000109)]
def A52 (cnd : List (List C)) (act : List (List C)) (cls : List (List C)) : FuncId → Nat → LoopAnn := fun ff ii => bif Nat.beq ii 7 then .ghost 7 [.bool] 4 (.on (fun sv0 => match sv0.tmps.getD 7 .undef with | .own rr _ => .inv (Int × List (List C)) (fun z => Sp.fdI act cls cnd z.1 z.2 ∧ Sp.fzI cnd z.1 (z.2.length : Int)) (fun z => [(7, .own rr 0), (8, .int .i64 z.1)]) (fun z => [(rr, .row [.bool] 4 0 (z.2))]) [rr] [0, 1, 2, 6, 7, 8, 9, 12, 15, 19, 28, 47, 59, 71, 83] (fun z => cnd.length - z.1.toNat) | _ => .unroll 0)) else .unroll 0
abbrev B52 (cnd : List (List C)) (act : List (List C)) (cls : List (List C)) : Prop := vcF Go.Proofs.Try.prog (look tb52) (fun _ => false) (A52 cnd act cls) 6 52 [.sl [.int .i64, .str] cnd, .sl [.str] act, .sl [.str] cls] [] (fun sv heap => Gives [(false, [.bool])] [[.b (Sp.hld act cls cnd)]] sv heap)
theorem e52 (cnd : List (List C)) (act : List (List C)) (cls : List (List C)) : B52 cnd act cls = (True ∧ (True → True ∧ (bNot (Sp.prp cnd) = true → (false = Sp.hld act cls cnd ∧ True) ∧ True) ∧ (bNot (Sp.prp cnd) = false → pLe (iLen cnd) 9223372036854775807 → (bEq (iLen cnd) 0 = true → (true = Sp.hld act cls cnd ∧ True) ∧ True) ∧ (bEq (iLen cnd) 0 = false → (∃ (x : Int × List (List C)), (Sp.fdI act cls cnd x.1 x.2 ∧ Sp.fzI cnd x.1 ↑x.2.length) ∧ true = true ∧ ((0 = 0 ∧ 0 + 1 = 0 + 1) ∧ (IntKind.i64 = IntKind.i64 ∧ 0 = x.1) ∧ True) ∧ ([Sh.bool] = [Sh.bool] ∧ 4 = 4 ∧ 0 + 1 = 0 + 1 ∧ [] = x.2) ∧ True) ∧ (∀ (x : Int × List (List C)), true = true ∧ true = true) ∧ ∀ (x : Int × List (List C)), Sp.fdI act cls cnd x.1 x.2 ∧ Sp.fzI cnd x.1 ↑x.2.length → True ∧ InR .i64 x.1 ∧ True → ((WL [.bool] x.2)) ∧ True → pLe (iLen cnd) 9223372036854775807 → (bLt x.1 (iLen cnd) = true → pLe (iLen x.2) 9223372036854775807 → pIn 0 (iLen cnd) x.1 ∧ (InR .i64 (q0 (rGet cnd x.1)) → (bEq (q0 (rGet cnd x.1)) 1 = true → pIn 0 (iLen cnd) x.1 ∧ ((List.brecOn.go ((rGet cnd x.fst).tail.headD default).str.1.toList List.length._f).1.le 9223372036854775807 → True ∧ (True → pRoom 1 (iLen (x.2 ++ [[C.b (Sp.inn act ((rGet cnd x.1).tail.headD default).str)]])) ∧ InR .i64 (iAdd x.1 1) ∧ (true = true ∧ (fun z => z = z) [SV.sl [.int .i64, .str] cnd, SV.sl [.str] act, SV.sl [.str] cls, SV.blit false, SV.blit false, SV.blit false]) ∧ [HB.gone] = [HB.gone] ∧ ∃ (y : Int × List (List C)), (Sp.fdI act cls cnd y.1 y.2 ∧ Sp.fzI cnd y.1 ↑y.2.length) ∧ true = true ∧ ((0 = 0 ∧ 0 + 1 = 0 + 1) ∧ (IntKind.i64 = IntKind.i64 ∧ iAdd x.1 1 = y.1) ∧ True) ∧ (([Sh.bool] = [Sh.bool] ∧ 4 = 4 ∧ 0 + 1 = 0 + 1 ∧ x.2 ++ [[C.b (Sp.inn act ((rGet cnd x.1).tail.headD default).str)]] = y.2) ∧ True) ∧ cnd.length - y.1.toNat < cnd.length - x.1.toNat))) ∧ (bEq (q0 (rGet cnd x.1)) 1 = false → (bEq (q0 (rGet cnd x.1)) 2 = true → pIn 0 (iLen cnd) x.1 ∧ ((List.brecOn.go ((rGet cnd x.fst).tail.headD default).str.1.toList List.length._f).1.le 9223372036854775807 → True ∧ (True → pRoom 1 (iLen (x.2 ++ [[C.b (Sp.inn cls ((rGet cnd x.1).tail.headD default).str)]])) ∧ InR .i64 (iAdd x.1 1) ∧ (true = true ∧ (fun z => z = z) [SV.sl [.int .i64, .str] cnd, SV.sl [.str] act, SV.sl [.str] cls, SV.blit false, SV.blit false, SV.blit false]) ∧ [HB.gone] = [HB.gone] ∧ ∃ (y : Int × List (List C)), (Sp.fdI act cls cnd y.1 y.2 ∧ Sp.fzI cnd y.1 ↑y.2.length) ∧ true = true ∧ ((0 = 0 ∧ 0 + 1 = 0 + 1) ∧ (IntKind.i64 = IntKind.i64 ∧ iAdd x.1 1 = y.1) ∧ True) ∧ (([Sh.bool] = [Sh.bool] ∧ 4 = 4 ∧ 0 + 1 = 0 + 1 ∧ x.2 ++ [[C.b (Sp.inn cls ((rGet cnd x.1).tail.headD default).str)]] = y.2) ∧ True) ∧ cnd.length - y.1.toNat < cnd.length - x.1.toNat))) ∧ (bEq (q0 (rGet cnd x.1)) 2 = false → (bEq (q0 (rGet cnd x.1)) 3 = true → InR .i64 (iSub (iLen x.2) 1) ∧ InR .i64 (iSub (iLen x.2) 1) ∧ pIn 0 (iLen x.2) (iSub (iLen x.2) 1) ∧ (True → True ∧ pIn 0 (iLen x.2) (iSub (iLen x.2) 1) ∧ InR .i64 (iAdd x.1 1) ∧ (true = true ∧ (fun z => z = z) [SV.sl [.int .i64, .str] cnd, SV.sl [.str] act, SV.sl [.str] cls, SV.blit false, SV.blit false, SV.blit false]) ∧ [HB.gone] = [HB.gone] ∧ ∃ (y : Int × List (List C)), (Sp.fdI act cls cnd y.1 y.2 ∧ Sp.fzI cnd y.1 ↑y.2.length) ∧ true = true ∧ ((0 = 0 ∧ 0 + 1 = 0 + 1) ∧ (IntKind.i64 = IntKind.i64 ∧ iAdd x.1 1 = y.1) ∧ True) ∧ (([Sh.bool] = [Sh.bool] ∧ 4 = 4 ∧ 0 + 1 = 0 + 1 ∧ rSet x.2 (iSub (iLen x.2) 1) [C.b (bNot ((rGet x.2 (iSub (iLen x.2) 1)).headD default).bool)] = y.2) ∧ True) ∧ cnd.length - y.1.toNat < cnd.length - x.1.toNat)) ∧ (bEq (q0 (rGet cnd x.1)) 3 = false → (bEq (q0 (rGet cnd x.1)) 4 = true → InR .i64 (iSub (iLen x.2) 2) ∧ geB none (some (iSub (iLen x.2) 2)) (iLen x.2) ∧ InR .i64 (iSub (iLen x.2) 2) ∧ pIn 0 (iLen x.2) (iSub (iLen x.2) 2) ∧ (True → (((rGet x.2 (iSub (iLen x.2) 2)).headD default).bool = true → InR .i64 (iSub (iLen x.2) 1) ∧ pIn 0 (iLen x.2) (iSub (iLen x.2) 1) ∧ (True → pRoom 1 (iLen (cutRows x.2 none (some (iSub (iLen x.2) 2)) ++ [[C.b ((rGet x.2 (iSub (iLen x.2) 1)).headD default).bool]])) ∧ InR .i64 (iAdd x.1 1) ∧ (true = true ∧ (fun z => z = z) [SV.sl [.int .i64, .str] cnd, SV.sl [.str] act, SV.sl [.str] cls, SV.blit false, SV.blit false, SV.blit false]) ∧ [HB.gone] = [HB.gone] ∧ ∃ (y : Int × List (List C)), (Sp.fdI act cls cnd y.1 y.2 ∧ Sp.fzI cnd y.1 ↑y.2.length) ∧ true = true ∧ ((0 = 0 ∧ 0 + 1 = 0 + 1) ∧ (IntKind.i64 = IntKind.i64 ∧ iAdd x.1 1 = y.1) ∧ True) ∧ (([Sh.bool] = [Sh.bool] ∧ 4 = 4 ∧ 0 + 1 = 0 + 1 ∧ cutRows x.2 none (some (iSub (iLen x.2) 2)) ++ [[C.b ((rGet x.2 (iSub (iLen x.2) 1)).headD default).bool]] = y.2) ∧ True) ∧ cnd.length - y.1.toNat < cnd.length - x.1.toNat)) ∧ (((rGet x.2 (iSub (iLen x.2) 2)).headD default).bool = false → pRoom 1 (iLen (cutRows x.2 none (some (iSub (iLen x.2) 2)) ++ [[C.b false]])) ∧ InR .i64 (iAdd x.1 1) ∧ (true = true ∧ (fun z => z = z) [SV.sl [.int .i64, .str] cnd, SV.sl [.str] act, SV.sl [.str] cls, SV.blit false, SV.blit false, SV.blit false]) ∧ [HB.gone] = [HB.gone] ∧ ∃ (y : Int × List (List C)), (Sp.fdI act cls cnd y.1 y.2 ∧ Sp.fzI cnd y.1 ↑y.2.length) ∧ true = true ∧ ((0 = 0 ∧ 0 + 1 = 0 + 1) ∧ (IntKind.i64 = IntKind.i64 ∧ iAdd x.1 1 = y.1) ∧ True) ∧ (([Sh.bool] = [Sh.bool] ∧ 4 = 4 ∧ 0 + 1 = 0 + 1 ∧ cutRows x.2 none (some (iSub (iLen x.2) 2)) ++ [[C.b false]] = y.2) ∧ True) ∧ cnd.length - y.1.toNat < cnd.length - x.1.toNat))) ∧ (bEq (q0 (rGet cnd x.1)) 4 = false → InR .i64 (iSub (iLen x.2) 2) ∧ geB none (some (iSub (iLen x.2) 2)) (iLen x.2) ∧ InR .i64 (iSub (iLen x.2) 2) ∧ pIn 0 (iLen x.2) (iSub (iLen x.2) 2) ∧ (True → (((rGet x.2 (iSub (iLen x.2) 2)).headD default).bool = false → InR .i64 (iSub (iLen x.2) 1) ∧ pIn 0 (iLen x.2) (iSub (iLen x.2) 1) ∧ (True → pRoom 1 (iLen (cutRows x.2 none (some (iSub (iLen x.2) 2)) ++ [[C.b ((rGet x.2 (iSub (iLen x.2) 1)).headD default).bool]])) ∧ InR .i64 (iAdd x.1 1) ∧ (true = true ∧ (fun z => z = z) [SV.sl [.int .i64, .str] cnd, SV.sl [.str] act, SV.sl [.str] cls, SV.blit false, SV.blit false, SV.blit false]) ∧ [HB.gone] = [HB.gone] ∧ ∃ (y : Int × List (List C)), (Sp.fdI act cls cnd y.1 y.2 ∧ Sp.fzI cnd y.1 ↑y.2.length) ∧ true = true ∧ ((0 = 0 ∧ 0 + 1 = 0 + 1) ∧ (IntKind.i64 = IntKind.i64 ∧ iAdd x.1 1 = y.1) ∧ True) ∧ (([Sh.bool] = [Sh.bool] ∧ 4 = 4 ∧ 0 + 1 = 0 + 1 ∧ cutRows x.2 none (some (iSub (iLen x.2) 2)) ++ [[C.b ((rGet x.2 (iSub (iLen x.2) 1)).headD default).bool]] = y.2) ∧ True) ∧ cnd.length - y.1.toNat < cnd.length - x.1.toNat)) ∧ (((rGet x.2 (iSub (iLen x.2) 2)).headD default).bool = true → pRoom 1 (iLen (cutRows x.2 none (some (iSub (iLen x.2) 2)) ++ [[C.b true]])) ∧ InR .i64 (iAdd x.1 1) ∧ (true = true ∧ (fun z => z = z) [SV.sl [.int .i64, .str] cnd, SV.sl [.str] act, SV.sl [.str] cls, SV.blit false, SV.blit false, SV.blit false]) ∧ [HB.gone] = [HB.gone] ∧ ∃ (y : Int × List (List C)), (Sp.fdI act cls cnd y.1 y.2 ∧ Sp.fzI cnd y.1 ↑y.2.length) ∧ true = true ∧ ((0 = 0 ∧ 0 + 1 = 0 + 1) ∧ (IntKind.i64 = IntKind.i64 ∧ iAdd x.1 1 = y.1) ∧ True) ∧ (([Sh.bool] = [Sh.bool] ∧ 4 = 4 ∧ 0 + 1 = 0 + 1 ∧ cutRows x.2 none (some (iSub (iLen x.2) 2)) ++ [[C.b true]] = y.2) ∧ True) ∧ cnd.length - y.1.toNat < cnd.length - x.1.toNat)))))))) ∧ (bLt x.1 (iLen cnd) = false → pIn 0 (iLen x.2) 0 ∧ (True → (((rGet x.2 0).headD default).bool = Sp.hld act cls cnd ∧ True) ∧ True)))))) := by kernel_rfl
theorem v52 (cnd : List (List C)) (act : List (List C)) (cls : List (List C)) : Holds (Wfs [.sl [.int .i64, .str] cnd, .sl [.str] act, .sl [.str] cls] → True → B52 cnd act cls) := by
  refine ⟨fun hw hp => ?_⟩
  rw [e52]
  unfold WL q0
  simp only [Wfs, Wf, InR, and_true] at hw
  have hm : maxLen = 9223372036854775807 := rfl
  simp only [hm] at hw
  simp only [iAdd, iSub, iMul, iLen, iSize, bLt, bLe, bEq, bNe, bNot, bSame, bDiff, sSame, sDiff, bIf, bAnd, InR, pLe, pIn, pRoom, eq_self, true_and, and_true, true_implies, implies_true, decide_eq_true_eq, decide_eq_false_iff_not, Bool.not_eq_true', Bool.not_eq_false', Bool.true_eq_false, Bool.false_eq_true, false_implies]
  refine ⟨fun hv => (Sp.hld_prp hv).symm, fun hv _ => ⟨fun h => (Sp.hld_0 h).symm, fun hn => ⟨⟨(0, []), ⟨Sp.fd_init, Sp.fz_init⟩, rfl, rfl⟩, ?_⟩⟩⟩
  have h16 : ¬ 16 < (cnd.length : Int) := fun h => by rw [Sp.prp_big h] at hv; cases hv
  rintro ⟨z, st⟩ hx _ _ _
  simp only at hx ⊢
  obtain ⟨hf, hz⟩ := hx
  have h0 := hf.1
  have hsl := hf.2.2.1
  refine ⟨fun hlt _ => ⟨⟨h0, hlt⟩, fun _ => ?_⟩, fun hge => ?_⟩
  · have ht : Sp.tok (rGet cnd z) (st.length : Int) = true := by
      cases e : Sp.tok (rGet cnd z) (st.length : Int) with
      | true => rfl
      | false => rw [Sp.fz_bad hz hlt e] at hv; cases hv
    have hb := (Sp.tok_iff.1 ht).1
    have e := Sp.ari_def (Sp.i0 (rGet cnd z))
    have hK : Sp.i0 (rGet cnd z) = ((rGet cnd z).headD default).int := rfl
    have hl := Sp.nst_len (a := act) (p := cls) ht
    have hnx : Sp.fdI act cls cnd (z + 1) (Sp.nst act cls (rGet cnd z) st) ∧ Sp.fzI cnd (z + 1) ((Sp.nst act cls (rGet cnd z) st).length : Int) := ⟨Sp.fd_next hf hlt ht, by rw [hl]; exact Sp.fz_next hz hlt ht⟩
    have go : ∀ out, out = Sp.nst act cls (rGet cnd z) st → ∃ y : Int × List (List C), (Sp.fdI act cls cnd y.fst y.snd ∧ Sp.fzI cnd y.fst (y.snd.length : Int)) ∧ z + 1 = y.fst ∧ out = y.snd ∧ cnd.length - y.fst.toNat < cnd.length - z.toNat := fun out he => ⟨(z + 1, out), by rw [he]; exact hnx, rfl, rfl, by simp only; omega⟩
    have gl : ∀ out, out = Sp.nst act cls (rGet cnd z) st → (out.length : Int) * ((1 : Nat) : Int) ≤ 140737488355328 := fun out he => by rw [he]; omega
    have both : ∀ out, out = Sp.nst act cls (rGet cnd z) st → (out.length : Int) * ((1 : Nat) : Int) ≤ 140737488355328 ∧ (-9223372036854775808 ≤ z + 1 ∧ z + 1 ≤ 9223372036854775807) ∧ ∃ y : Int × List (List C), (Sp.fdI act cls cnd y.fst y.snd ∧ Sp.fzI cnd y.fst (y.snd.length : Int)) ∧ z + 1 = y.fst ∧ out = y.snd ∧ cnd.length - y.fst.toNat < cnd.length - z.toNat := fun out he => ⟨gl out he, by omega, go out he⟩
    refine ⟨fun k1 => ⟨⟨h0, hlt⟩, fun _ => both _ (Sp.nst_k1 k1)⟩, fun k1 => ⟨fun k2 => ⟨⟨h0, hlt⟩, fun _ => both _ (Sp.nst_k2 k2)⟩, fun k2 => ⟨fun k3 => ⟨by omega, by omega, by omega, by omega, by omega, go _ (Sp.nst_k3 k3 (by omega))⟩, fun k3 => ⟨fun k4 => ?_, fun k4 => ?_⟩⟩⟩⟩
    · have e4 := Sp.nst_k4 (a := act) (p := cls) (st := st) (x := rGet cnd z) k4 (by omega)
      refine ⟨by omega, by simp only [geB]; omega, by omega, by omega, fun c => ⟨by omega, by omega, both _ ?_⟩, fun c => both _ ?_⟩
      · rw [← e4, show Sp.b0 (rGet st ((st.length : Int) - 2)) = true from c]; rfl
      · rw [← e4, show Sp.b0 (rGet st ((st.length : Int) - 2)) = false from c]; rfl
    · have k5 : Sp.i0 (rGet cnd z) = 5 := by omega
      have e5 := Sp.nst_k5 (a := act) (p := cls) (st := st) (x := rGet cnd z) k5 (by omega)
      refine ⟨by omega, by simp only [geB]; omega, by omega, by omega, fun c => ⟨by omega, by omega, both _ ?_⟩, fun c => both _ ?_⟩
      · rw [← e5, show Sp.b0 (rGet st ((st.length : Int) - 2)) = false from c]; rfl
      · rw [← e5, show Sp.b0 (rGet st ((st.length : Int) - 2)) = true from c]; rfl
  · have h1 := Sp.fz_end hz hge
    rw [hv, decide_eq_false hn, decide_eq_true (show (cnd.length : Int) ≤ 16 by omega)] at h1
    have hs1 : (st.length : Int) = 1 := of_decide_eq_true (by simpa using h1.symm)
    rw [Sp.fd_end hf hge h16 hn, decide_eq_true (show st.length = 1 by omega)]
    exact ⟨by omega, rfl⟩
theorem s52 : SoundCt Go.Proofs.Try.prog 52 ct52 :=
  contractH followsMixed (look_sound (show Tb Go.Proofs.Try.prog tb52 from ⟨s67, ⟨s68, ⟨s5000109, trivial⟩⟩⟩)) (fun _ => false) (fun a => A52 ((cel 0 (arg 0 a)).list) ((cel 0 (arg 1 a)).list) ((cel 0 (arg 2 a)).list)) 6 52 ct52 rfl (by simp [ct52]) fun a => Eq.mp (by kernel_rfl) (v52 ((cel 0 (arg 0 a)).list) ((cel 0 (arg 1 a)).list) ((cel 0 (arg 2 a)).list))
end Go.Sx

