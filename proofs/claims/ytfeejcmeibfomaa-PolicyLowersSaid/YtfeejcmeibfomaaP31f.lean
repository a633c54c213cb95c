/- Contracts and conditions, continued. -/
import Derived.Test.YtfeejcmeibfomaaSxUse
import Derived.Test.YtfeejcmeibfomaaP31e
import Derived.KernelRfl
set_option linter.unusedVariables false
set_option linter.unusedSimpArgs false
set_option maxRecDepth 100000
set_option maxHeartbeats 4000000

namespace Go
open Go.Sx
def Sp.s1 (x : List C) : ByteArray := (x.tail.headD default).str
def Sp.b0 (x : List C) : Bool := (x.headD default).bool
def Sp.ari (k : Int) : Int := bif decide (k = 1 ∨ k = 2) then 0 else bif decide (k = 3) then 1 else bif decide (k = 4 ∨ k = 5) then 2 else -1
def Sp.emt (s : ByteArray) : Bool := s.toList == (ByteArray.mk (Array.mk [])).toList
def Sp.tok (x : List C) (n : Int) : Bool := decide (0 ≤ Sp.ari (Sp.i0 x) ∧ Sp.ari (Sp.i0 x) ≤ n) && bif decide (Sp.ari (Sp.i0 x) = 0) then Sp.nam (Sp.s1 x) else Sp.emt (Sp.s1 x)
def Sp.tv (a p : List (List C)) (k : Int) (nm : ByteArray) (l : List (List C)) : Bool := bif decide (k = 1) then Sp.inn a nm else bif decide (k = 2) then Sp.inn p nm else bif decide (k = 3) then !Sp.b0 (rGet l 0) else bif decide (k = 4) then Sp.b0 (rGet l 0) && Sp.b0 (rGet l 1) else Sp.b0 (rGet l 0) || Sp.b0 (rGet l 1)
def Sp.nst (a p : List (List C)) (x : List C) (st : List (List C)) : List (List C) := cutRows st none (some ((st.length : Int) - Sp.ari (Sp.i0 x))) ++ [[.b (Sp.tv a p (Sp.i0 x) (Sp.s1 x) (cutRows st (some ((st.length : Int) - Sp.ari (Sp.i0 x))) none))]]
def Sp.fld (a p : List (List C)) : List (List C) → List (List C) → Option (List (List C))
  | [], st => some st
  | x :: r, st => bif Sp.tok x (st.length : Int) then Sp.fld a p r (Sp.nst a p x st) else none
def Sp.hld (a p : List (List C)) (cond : List (List C)) : Bool := decide (cond.length = 0) || (decide (cond.length ≤ 16) && match Sp.fld a p cond [] with | some st => decide (st.length = 1) && Sp.b0 (rGet st 0) | none => false)
def Sp.fdI (a p cond : List (List C)) (z : Int) (st : List (List C)) : Prop := 0 ≤ z ∧ z ≤ (cond.length : Int) ∧ (st.length : Int) ≤ z ∧ Sp.fld a p (cond.drop z.toNat) st = Sp.fld a p cond []
end Go

namespace Go
open Go.Sx
theorem Sp.ari_def (k : Int) : ((k = 1 ∨ k = 2) ∧ Sp.ari k = 0) ∨ (k = 3 ∧ Sp.ari k = 1) ∨ ((k = 4 ∨ k = 5) ∧ Sp.ari k = 2) ∨ (¬ (k = 1 ∨ k = 2) ∧ ¬ k = 3 ∧ ¬ (k = 4 ∨ k = 5) ∧ Sp.ari k = -1) := by
  unfold Sp.ari
  by_cases h1 : k = 1 ∨ k = 2
  · rw [decide_eq_true h1]; exact .inl ⟨h1, rfl⟩
  · rw [decide_eq_false h1]
    by_cases h2 : k = 3
    · rw [decide_eq_true h2]; exact .inr (.inl ⟨h2, rfl⟩)
    · rw [decide_eq_false h2]
      by_cases h3 : k = 4 ∨ k = 5
      · rw [decide_eq_true h3]; exact .inr (.inr (.inl ⟨h3, rfl⟩))
      · rw [decide_eq_false h3]; exact .inr (.inr (.inr ⟨h1, h2, h3, rfl⟩))
theorem Sp.inn_of {xs : List (List C)} {v : ByteArray} : Sp.inn xs v = (Sp.hasS xs v || ((v.toList == Sp.any3.toList) && decide (0 < (xs.length : Int)))) := by
  rw [Bool.eq_iff_iff]
  unfold Sp.inn Sp.hasS
  rw [Bool.or_eq_true, Bool.and_eq_true, decide_eq_true_eq, decide_eq_true_eq, decide_eq_true_eq, Sp.fi_ge, Sp.fi_ge]
  constructor
  · rintro ⟨i, h, e⟩
    unfold Sp.eqA at e
    rw [Bool.or_eq_true] at e
    rcases e with e | e
    · exact .inl ⟨i, h, e⟩
    · exact .inr ⟨e, by omega⟩
  · rintro (⟨i, h, e⟩ | ⟨e, h⟩)
    · exact ⟨i, h, by unfold Sp.eqA; rw [e]; rfl⟩
    · exact ⟨0, by omega, by unfold Sp.eqA; rw [e, Bool.or_true]⟩
theorem Sp.tok_iff {x : List C} {n : Int} : Sp.tok x n = true ↔ (0 ≤ Sp.ari (Sp.i0 x) ∧ Sp.ari (Sp.i0 x) ≤ n) ∧ (Sp.ari (Sp.i0 x) = 0 → Sp.nam (Sp.s1 x) = true) ∧ (¬ Sp.ari (Sp.i0 x) = 0 → Sp.emt (Sp.s1 x) = true) := by
  unfold Sp.tok
  rw [Bool.and_eq_true, decide_eq_true_eq]
  by_cases h : Sp.ari (Sp.i0 x) = 0
  · rw [decide_eq_true h]; simp [h]
  · rw [decide_eq_false h]; simp [h]
theorem Sp.cut_lo {m : List (List C)} {x : Int} (h0 : 0 ≤ x) (h : x ≤ (m.length : Int)) : (cutRows m (some x) none).length = m.length - x.toNat := by
  simp only [cutRows, List.length_drop]
theorem Sp.fd_init {a p cnd : List (List C)} : Sp.fdI a p cnd 0 [] := ⟨by omega, by omega, by simp, by simp⟩
theorem Sp.nst_len {a p : List (List C)} {x : List C} {st : List (List C)} (h : Sp.tok x (st.length : Int) = true) : ((Sp.nst a p x st).length : Int) = (st.length : Int) - Sp.ari (Sp.i0 x) + 1 := by
  have ht := (Sp.tok_iff.1 h).1
  unfold Sp.nst
  rw [List.length_append, Sp.take_len (by omega) (by omega), List.length_singleton]
  omega
theorem Sp.fd_next {a p cnd st : List (List C)} {z : Int} (h : Sp.fdI a p cnd z st) (hz : z < (cnd.length : Int)) (ht : Sp.tok (rGet cnd z) (st.length : Int) = true) : Sp.fdI a p cnd (z + 1) (Sp.nst a p (rGet cnd z) st) := by
  have hl := Sp.nst_len (a := a) (p := p) ht
  have hb := (Sp.tok_iff.1 ht).1
  obtain ⟨h0, h1, h2, h3⟩ := h
  refine ⟨by omega, by omega, by omega, ?_⟩
  rw [← h3, Sp.dropAt h0 hz, Sp.fld, ht]; rfl
theorem Sp.hld_0 {a p cnd : List (List C)} (h : (cnd.length : Int) = 0) : Sp.hld a p cnd = true := by
  unfold Sp.hld; rw [decide_eq_true (by omega)]; rfl
theorem Sp.hld_big {a p cnd : List (List C)} (h : 16 < (cnd.length : Int)) : Sp.hld a p cnd = false := by
  unfold Sp.hld; rw [decide_eq_false (by omega), decide_eq_false (by omega)]; rfl
theorem Sp.fd_bad {a p cnd st : List (List C)} {z : Int} (h : Sp.fdI a p cnd z st) (hz : z < (cnd.length : Int)) (ht : Sp.tok (rGet cnd z) (st.length : Int) = false) : Sp.hld a p cnd = false := by
  obtain ⟨h0, h1, h2, h3⟩ := h
  unfold Sp.hld
  rw [← h3, Sp.dropAt h0 hz, Sp.fld, ht, decide_eq_false (by omega)]; simp
theorem Sp.fd_end {a p cnd st : List (List C)} {z : Int} (h : Sp.fdI a p cnd z st) (hz : ¬ z < (cnd.length : Int)) (h16 : ¬ 16 < (cnd.length : Int)) (hn : ¬ (cnd.length : Int) = 0) : Sp.hld a p cnd = (decide (st.length = 1) && Sp.b0 (rGet st 0)) := by
  obtain ⟨h0, h1, h2, h3⟩ := h
  unfold Sp.hld
  rw [← h3, List.drop_eq_nil_of_le (by omega), Sp.fld, decide_eq_false (by omega), decide_eq_true (by omega)]; simp
theorem Sp.fd_go {a p cnd st : List (List C)} {z M : Int} (h : Sp.fdI a p cnd z st) (hz : z < (cnd.length : Int)) (h16 : ¬ 16 < (cnd.length : Int)) (ht : Sp.tok (rGet cnd z) (st.length : Int) = true) (hM : 16 < M) :
    (st.length : Int) ≤ M → (-9223372036854775808 ≤ (st.length : Int) - Sp.ari (Sp.i0 (rGet cnd z)) ∧ (st.length : Int) - Sp.ari (Sp.i0 (rGet cnd z)) ≤ 9223372036854775807) ∧
    geB none (some ((st.length : Int) - Sp.ari (Sp.i0 (rGet cnd z)))) (st.length : Int) ∧ geB (some ((st.length : Int) - Sp.ari (Sp.i0 (rGet cnd z)))) none (st.length : Int) ∧
    (0 ≤ Sp.ari (Sp.i0 (rGet cnd z)) ∧ Sp.ari (Sp.i0 (rGet cnd z)) ≤ ((cutRows st (some ((st.length : Int) - Sp.ari (Sp.i0 (rGet cnd z)))) none).length : Int)) ∧
    (((Sp.nst a p (rGet cnd z) st).length : Int) * ((1 : Nat) : Int) ≤ 140737488355328 ∧ ((Sp.nst a p (rGet cnd z) st).length : Int) ≤ M) ∧ (-9223372036854775808 ≤ z + 1 ∧ z + 1 ≤ 9223372036854775807) ∧
    ∃ y : Int × List (List C), Sp.fdI a p cnd y.fst y.snd ∧ (z + 1 = y.fst ∧ Sp.nst a p (rGet cnd z) st = y.snd) ∧ cnd.length - y.fst.toNat < cnd.length - z.toNat := by
  intro _
  have hb := (Sp.tok_iff.1 ht).1
  have hl := Sp.nst_len (a := a) (p := p) ht
  have hn := Sp.fd_next h hz ht
  have h0 := h.1
  have h2 := h.2.2.1
  refine ⟨by omega, by simp only [geB]; omega, by simp only [geB]; omega, ⟨hb.1, ?_⟩, ⟨by omega, by omega⟩, by omega, (z + 1, _), hn, ⟨rfl, rfl⟩, by simp only; omega⟩
  rw [Sp.cut_lo (by omega) (by omega)]; omega
end Go

namespace Go.Sx
/-! ### function 98: rules.arity -/
def ct98 : Ct := { ps := [(false, [.int .i64])], rs := [(false, [.int .i64])], pre := fun _ => True, out := fun a => [[.i (Sp.ari (cel 0 (arg 0 a)).int)]] }
def tb98 : List (Nat × Ct) := []
def A98  : FuncId → Nat → LoopAnn := fun _ _ => LoopAnn.unroll 200
abbrev B98 (k : Int) : Prop := vcF Go.Proofs.Try.prog (look tb98) (fun _ => false) (A98) 6 98 [.int .i64 k] [] (fun sv heap => Gives [(false, [.int .i64])] [[.i (Sp.ari k)]] sv heap)
theorem e98 (k : Int) : B98 k = ((bEq k 1 = true → (0 = Sp.ari k ∧ True) ∧ True) ∧ (bEq k 1 = false → (bEq k 2 = true → (0 = Sp.ari k ∧ True) ∧ True) ∧ (bEq k 2 = false → (bEq k 3 = true → (1 = Sp.ari k ∧ True) ∧ True) ∧ (bEq k 3 = false → (bEq k 4 = true → (2 = Sp.ari k ∧ True) ∧ True) ∧ (bEq k 4 = false → (bEq k 5 = true → (2 = Sp.ari k ∧ True) ∧ True) ∧ (bEq k 5 = false → (-1 = Sp.ari k ∧ True) ∧ True)))))) := by kernel_rfl
theorem v98 (k : Int) : Holds (Wfs [.int .i64 k] → True → B98 k) := by
  refine ⟨fun hw hp => ?_⟩
  rw [e98]
  have e := Sp.ari_def k
  simp only [bEq, decide_eq_true_eq, decide_eq_false_iff_not, and_true]
  generalize Sp.ari k = a at *
  clear hw
  repeat' (first | apply And.intro | intro _)
  all_goals omega
theorem s98 : SoundCt Go.Proofs.Try.prog 98 ct98 :=
  contractH followsMixed (look_sound (show Tb Go.Proofs.Try.prog tb98 from trivial)) (fun _ => false) (fun _ => A98) 6 98 ct98 rfl (by simp [ct98]) fun a => Eq.mp (by kernel_rfl) (v98 ((cel 0 (arg 0 a)).int))
end Go.Sx

namespace Go.Sx
/-! ### function 82: rules.in -/
def ct82 : Ct := { ps := [(false, [.str]), (false, [.sl [.str]])], rs := [(false, [.bool])], pre := fun _ => True, out := fun a => [[.b (Sp.inn (cel 0 (arg 1 a)).list (cel 0 (arg 0 a)).str)]] }
def tb82 : List (Nat × Ct) := [(53, ct53)]
def A82  : FuncId → Nat → LoopAnn := fun _ _ => LoopAnn.unroll 200
abbrev B82 (v : ByteArray) (xs : List (List C)) : Prop := vcF Go.Proofs.Try.prog (look tb82) (fun _ => false) (A82) 6 82 [.str v, .sl [.str] xs] [] (fun sv heap => Gives [(false, [.bool])] [[.b (Sp.inn xs v)]] sv heap)
theorem e82 (v : ByteArray) (xs : List (List C)) : B82 v xs = (True ∧ (True → (Sp.hasS xs v = false → (sSame v (ByteArray.mk (Array.mk [97, 110, 121])) = true → pLe (iLen xs) 9223372036854775807 → (bLt 0 (iLen xs) = Sp.inn xs v ∧ True) ∧ True) ∧ (sSame v (ByteArray.mk (Array.mk [97, 110, 121])) = false → (false = Sp.inn xs v ∧ True) ∧ True)) ∧ (Sp.hasS xs v = true → (true = Sp.inn xs v ∧ True) ∧ True))) := by kernel_rfl
theorem v82 (v : ByteArray) (xs : List (List C)) : Holds (Wfs [.str v, .sl [.str] xs] → True → B82 v xs) := by
  refine ⟨fun hw hp => ?_⟩
  rw [e82]
  simp only [Wfs, Wf, InR, and_true] at hw
  have hm : maxLen = 9223372036854775807 := rfl
  simp only [hm] at hw
  simp only [iAdd, iSub, iMul, iLen, iSize, bLt, bLe, bEq, bNe, bNot, bSame, bDiff, sSame, sDiff, bIf, bAnd, InR, pLe, pIn, pRoom, eq_self, true_and, and_true, true_implies, implies_true, decide_eq_true_eq, decide_eq_false_iff_not, Bool.not_eq_true', Bool.not_eq_false', Bool.true_eq_false, Bool.false_eq_true, false_implies]
  have e : Sp.inn xs v = (Sp.hasS xs v || ((v.toList == (ByteArray.mk (Array.mk [97, 110, 121])).toList) && decide (0 < (xs.length : Int)))) := Sp.inn_of
  rw [e]
  refine ⟨fun h => ⟨fun h2 _ => by rw [h, h2]; rfl, fun h2 => by rw [h, h2]; rfl⟩, fun h => by rw [h]; rfl⟩
theorem s82 : SoundCt Go.Proofs.Try.prog 82 ct82 :=
  contractH followsMixed (look_sound (show Tb Go.Proofs.Try.prog tb82 from ⟨s53, trivial⟩)) (fun _ => false) (fun _ => A82) 6 82 ct82 rfl (by simp [ct82]) fun a => Eq.mp (by kernel_rfl) (v82 ((cel 0 (arg 0 a)).str) ((cel 0 (arg 1 a)).list))
end Go.Sx

namespace Go.Sx
def ct4000043 : Ct := { ps := [], rs := [], pre := fun _ => False, out := fun _ => [] }
theorem s4000043 : SoundCt Go.Proofs.Try.prog 4000043 ct4000043 :=
  ⟨fun _ _ h => False.elim h, fun _ _ _ _ _ _ _ _ _ h _ => False.elim h, fun t e h => (by cases h), fun t e r _ h => (by cases h), fun t e _ _ h => (by cases h)⟩
end Go.Sx

namespace Go.Sx
/-! ### function 81: rules.Holds$1 -/
def ct81 : Ct := { ps := [(true, [.int .i64, .str]), (false, [.sl [.bool]]), (false, [.bool, .sl [.str]]), (false, [.bool, .sl [.str]])], rs := [(false, [.bool])], pre := fun a => pLe 0 (Sp.ari (cel 0 (arg 0 a)).int) ∧ pLe (Sp.ari (cel 0 (arg 0 a)).int) ((cel 0 (arg 1 a)).list.length : Int), out := fun a => [[.b (Sp.tv (cel 0 (arg 2 a)).list (cel 0 (arg 3 a)).list (cel 0 (arg 0 a)).int (cel 1 (arg 0 a)).str (cel 0 (arg 1 a)).list)]] }
def tb81 : List (Nat × Ct) := [(82, ct82)]
def A81  : FuncId → Nat → LoopAnn := fun _ _ => LoopAnn.unroll 200
abbrev B81 (k : Int) (nm : ByteArray) (l : List (List C)) (act : List (List C)) (cls : List (List C)) : Prop := vcF Go.Proofs.Try.prog (look tb81) (fun _ => false) (A81) 6 81 [.agg [.int .i64 k, .str nm], .sl [.bool] l, .cref [.sl [.str] act], .cref [.sl [.str] cls]] [] (fun sv heap => Gives [(false, [.bool])] [[.b (Sp.tv act cls k nm l)]] sv heap)
theorem e81 (k : Int) (nm : ByteArray) (l : List (List C)) (act : List (List C)) (cls : List (List C)) : B81 k nm l act cls = ((bEq k 1 = true → ((WL [.str] act)) → True ∧ (True → (Sp.inn act nm = Sp.tv act cls k nm l ∧ True) ∧ True)) ∧ (bEq k 1 = false → (bEq k 2 = true → ((WL [.str] cls)) → True ∧ (True → (Sp.inn cls nm = Sp.tv act cls k nm l ∧ True) ∧ True)) ∧ (bEq k 2 = false → (bEq k 3 = true → pIn 0 (iLen l) 0 ∧ (True → True ∧ (bNot ((rGet l 0).headD default).bool = Sp.tv act cls k nm l ∧ True) ∧ True)) ∧ (bEq k 3 = false → (bEq k 4 = true → pIn 0 (iLen l) 0 ∧ (True → (((rGet l 0).headD default).bool = true → pIn 0 (iLen l) 1 ∧ (True → (((rGet l 1).headD default).bool = Sp.tv act cls k nm l ∧ True) ∧ True)) ∧ (((rGet l 0).headD default).bool = false → (false = Sp.tv act cls k nm l ∧ True) ∧ True))) ∧ (bEq k 4 = false → pIn 0 (iLen l) 0 ∧ (True → (((rGet l 0).headD default).bool = false → pIn 0 (iLen l) 1 ∧ (True → (((rGet l 1).headD default).bool = Sp.tv act cls k nm l ∧ True) ∧ True)) ∧ (((rGet l 0).headD default).bool = true → (true = Sp.tv act cls k nm l ∧ True) ∧ True))))))) := by kernel_rfl
theorem v81 (k : Int) (nm : ByteArray) (l : List (List C)) (act : List (List C)) (cls : List (List C)) : Holds (Wfs [.agg [.int .i64 k, .str nm], .sl [.bool] l, .cref [.sl [.str] act], .cref [.sl [.str] cls]] → pLe 0 (Sp.ari k) ∧ pLe (Sp.ari k) (l.length : Int) → B81 k nm l act cls) := by
  refine ⟨fun hw hp => ?_⟩
  rw [e81]
  unfold WL
  simp only [Wfs, Wf, InR, and_true] at hw
  have hm : maxLen = 9223372036854775807 := rfl
  simp only [hm] at hw
  simp only [iAdd, iSub, iMul, iLen, iSize, bLt, bLe, bEq, bNe, bNot, bSame, bDiff, sSame, sDiff, bIf, bAnd, InR, pLe, pIn, pRoom, eq_self, true_and, and_true, true_implies, implies_true, decide_eq_true_eq, decide_eq_false_iff_not, Bool.not_eq_true', Bool.not_eq_false', Bool.true_eq_false, Bool.false_eq_true, false_implies]
  have e := Sp.ari_def k
  obtain ⟨p0, p1⟩ := hp
  simp only [pLe] at p0 p1
  unfold Sp.tv
  refine ⟨fun h _ => by rw [decide_eq_true h]; rfl, fun n1 => ?_⟩
  rw [decide_eq_false n1]
  refine ⟨fun h _ => by rw [decide_eq_true h]; rfl, fun n2 => ?_⟩
  rw [decide_eq_false n2]
  refine ⟨fun h => ⟨by omega, by rw [decide_eq_true h]; rfl⟩, fun n3 => ?_⟩
  rw [decide_eq_false n3]
  refine ⟨fun h => ⟨by omega, fun h1 => ⟨by omega, ?_⟩, fun h1 => ?_⟩, fun n4 => ⟨by omega, fun h1 => ⟨by omega, ?_⟩, fun h1 => ?_⟩⟩
  · rw [decide_eq_true h, show Sp.b0 (rGet l 0) = true from h1]; rfl
  · rw [decide_eq_true h, show Sp.b0 (rGet l 0) = false from h1]; rfl
  · rw [decide_eq_false n4, show Sp.b0 (rGet l 0) = false from h1]; rfl
  · rw [decide_eq_false n4, show Sp.b0 (rGet l 0) = true from h1]; rfl
theorem s81 : SoundCt Go.Proofs.Try.prog 81 ct81 :=
  contractH followsMixed (look_sound (show Tb Go.Proofs.Try.prog tb81 from ⟨s82, trivial⟩)) (fun _ => false) (fun _ => A81) 6 81 ct81 rfl (by simp [ct81]) fun a => Eq.mp (by kernel_rfl) (v81 ((cel 0 (arg 0 a)).int) ((cel 1 (arg 0 a)).str) ((cel 0 (arg 1 a)).list) ((cel 0 (arg 2 a)).list) ((cel 0 (arg 3 a)).list))
end Go.Sx

namespace Go.Sx
/-! ### function 66: rules.Holds -/
def ct66 : Ct := { ps := [(false, [.sl [.int .i64, .str]]), (false, [.sl [.str]]), (false, [.sl [.str]])], rs := [(false, [.bool])], pre := fun _ => True, out := fun a => [[.b (Sp.hld (cel 0 (arg 1 a)).list (cel 0 (arg 2 a)).list (cel 0 (arg 0 a)).list)]] }
def tb66 : List (Nat × Ct) := [(98, ct98), (82, ct82), (79, ct79), (81, ct81), (4000043, ct4000043)]
def A66 (cnd : List (List C)) (act : List (List C)) (cls : List (List C)) : FuncId → Nat → LoopAnn := fun ff ii => bif Nat.beq ff 80 then (bif Nat.beq ii 6 then .inv (Int × List (List C)) (fun z => Sp.fdI act cls cnd z.1 z.2) (fun z => [(18, .int .i64 z.1), (7, .sl [.bool] z.2)]) (fun _ => []) [] [0, 1, 4, 5, 6, 7, 9, 10, 11, 14, 16, 17, 18, 19, 51, 72] (fun z => cnd.length - z.1.toNat) else .unroll 0) else .unroll 0
abbrev B66 (cnd : List (List C)) (act : List (List C)) (cls : List (List C)) : Prop := vcF Go.Proofs.Try.prog (look tb66) (fun _ => false) (A66 cnd act cls) 6 66 [.sl [.int .i64, .str] cnd, .sl [.str] act, .sl [.str] cls] [] (fun sv heap => Gives [(false, [.bool])] [[.b (Sp.hld act cls cnd)]] sv heap)
def h66_0 : List (List C) → List (List C) → List (List C) → List SV := fun (cnd act cls : List (List C)) => [SV.sl [.int .i64, .str] cnd, SV.fn 81 [SV.cref [SV.sl [.str] act], SV.cref [SV.sl [.str] cls]], SV.blit false, SV.blit false, SV.sl [.int .i64, .str] cnd, SV.int .i64 (iLen cnd), SV.undef]
theorem e66 (cnd : List (List C)) (act : List (List C)) (cls : List (List C)) : B66 cnd act cls = (pLe (iLen cnd) 9223372036854775807 → (bEq (iLen cnd) 0 = true → (true = Sp.hld act cls cnd ∧ True) ∧ True) ∧ (bEq (iLen cnd) 0 = false → pLe (iLen cnd) 9223372036854775807 → (bLt 16 (iLen cnd) = true → (false = Sp.hld act cls cnd ∧ True) ∧ True) ∧ (bLt 16 (iLen cnd) = false → pLe (iLen cnd) 9223372036854775807 → (∃ (x : Int × List (List C)), Sp.fdI act cls cnd x.1 x.2 ∧ true = true ∧ ((IntKind.i64 = IntKind.i64 ∧ 0 = x.1) ∧ x.2 = [] ∧ True) ∧ True) ∧ (∀ (x : Int × List (List C)), true = true ∧ true = true) ∧ ∀ (x : Int × List (List C)), Sp.fdI act cls cnd x.1 x.2 → InR .i64 x.1 ∧ ((WL [.bool] x.2)) ∧ True → True → (bLt x.1 (iLen cnd) = true → pIn 0 (iLen cnd) x.1 ∧ (InR .i64 (q0 (rGet cnd x.1)) ∧ (List.brecOn.go ((rGet cnd x.fst).tail.headD default).str.1.toList List.length._f).1.le 9223372036854775807 ∧ True → True ∧ (InR .i64 (Sp.ari (q0 (rGet cnd x.1))) → (bLt (Sp.ari (q0 (rGet cnd x.1))) 0 = false → pLe (iLen x.2) 9223372036854775807 → (bLt (iLen x.2) (Sp.ari (q0 (rGet cnd x.1))) = false → (bEq (Sp.ari (q0 (rGet cnd x.1))) 0 = true → True ∧ (True → True ∧ (bNot (Sp.nam ((rGet cnd x.1).tail.headD default).str) = false → (bLt 0 (Sp.ari (q0 (rGet cnd x.1))) = true → (sDiff ((rGet cnd x.1).tail.headD default).str (ByteArray.mk (Array.mk [])) = true → (false = Sp.hld act cls cnd ∧ True) ∧ True) ∧ (sDiff ((rGet cnd x.1).tail.headD default).str (ByteArray.mk (Array.mk [])) = false → pLe (iLen x.2) 9223372036854775807 → InR .i64 (iSub (iLen x.2) (Sp.ari (q0 (rGet cnd x.1)))) ∧ (geB none (some (iSub (iLen x.2) (Sp.ari (q0 (rGet cnd x.1))))) (iLen x.2) ∧ iSub (iLen x.2) (Sp.ari (q0 (rGet cnd x.1))) = iSub (iLen x.2) (Sp.ari (q0 (rGet cnd x.1)))) ∧ geB (some (iSub (iLen x.2) (Sp.ari (q0 (rGet cnd x.1))))) none (iLen x.2) ∧ (pLe 0 (Sp.ari (q0 (rGet cnd x.1))) ∧ pLe (Sp.ari (q0 (rGet cnd x.1))) ↑(cutRows x.2 (some (iSub (iLen x.2) (Sp.ari (q0 (rGet cnd x.1))))) none).length) ∧ (True → (pRoom 1 (iLen (cutRows x.2 none (some (iSub (iLen x.2) (Sp.ari (q0 (rGet cnd x.1))))) ++ [[C.b (Sp.tv act cls (q0 (rGet cnd x.1)) ((rGet cnd x.1).tail.headD default).str (cutRows x.2 (some (iSub (iLen x.2) (Sp.ari (q0 (rGet cnd x.1))))) none))]])) ∧ pLe (iLen (cutRows x.2 none (some (iSub (iLen x.2) (Sp.ari (q0 (rGet cnd x.1))))) ++ [[C.b (Sp.tv act cls (q0 (rGet cnd x.1)) ((rGet cnd x.1).tail.headD default).str (cutRows x.2 (some (iSub (iLen x.2) (Sp.ari (q0 (rGet cnd x.1))))) none))]])) 9223372036854775807) ∧ InR .i64 (iAdd x.1 1) ∧ (true = true ∧ h66_0 cnd act cls = h66_0 cnd act cls) ∧ ([] : List HB) = [] ∧ ∃ (y : Int × List (List C)), Sp.fdI act cls cnd y.1 y.2 ∧ true = true ∧ ((IntKind.i64 = IntKind.i64 ∧ iAdd x.1 1 = y.1) ∧ ([Sh.bool] = [Sh.bool] ∧ cutRows x.2 none (some (iSub (iLen x.2) (Sp.ari (q0 (rGet cnd x.1))))) ++ [[C.b (Sp.tv act cls (q0 (rGet cnd x.1)) ((rGet cnd x.1).tail.headD default).str (cutRows x.2 (some (iSub (iLen x.2) (Sp.ari (q0 (rGet cnd x.1))))) none))]] = y.2) ∧ True) ∧ True ∧ cnd.length - y.1.toNat < cnd.length - x.1.toNat))) ∧ (bLt 0 (Sp.ari (q0 (rGet cnd x.1))) = false → pLe (iLen x.2) 9223372036854775807 → InR .i64 (iSub (iLen x.2) (Sp.ari (q0 (rGet cnd x.1)))) ∧ (geB none (some (iSub (iLen x.2) (Sp.ari (q0 (rGet cnd x.1))))) (iLen x.2) ∧ iSub (iLen x.2) (Sp.ari (q0 (rGet cnd x.1))) = iSub (iLen x.2) (Sp.ari (q0 (rGet cnd x.1)))) ∧ geB (some (iSub (iLen x.2) (Sp.ari (q0 (rGet cnd x.1))))) none (iLen x.2) ∧ (pLe 0 (Sp.ari (q0 (rGet cnd x.1))) ∧ pLe (Sp.ari (q0 (rGet cnd x.1))) ↑(cutRows x.2 (some (iSub (iLen x.2) (Sp.ari (q0 (rGet cnd x.1))))) none).length) ∧ (True → (pRoom 1 (iLen (cutRows x.2 none (some (iSub (iLen x.2) (Sp.ari (q0 (rGet cnd x.1))))) ++ [[C.b (Sp.tv act cls (q0 (rGet cnd x.1)) ((rGet cnd x.1).tail.headD default).str (cutRows x.2 (some (iSub (iLen x.2) (Sp.ari (q0 (rGet cnd x.1))))) none))]])) ∧ pLe (iLen (cutRows x.2 none (some (iSub (iLen x.2) (Sp.ari (q0 (rGet cnd x.1))))) ++ [[C.b (Sp.tv act cls (q0 (rGet cnd x.1)) ((rGet cnd x.1).tail.headD default).str (cutRows x.2 (some (iSub (iLen x.2) (Sp.ari (q0 (rGet cnd x.1))))) none))]])) 9223372036854775807) ∧ InR .i64 (iAdd x.1 1) ∧ (true = true ∧ h66_0 cnd act cls = h66_0 cnd act cls) ∧ ([] : List HB) = [] ∧ ∃ (y : Int × List (List C)), Sp.fdI act cls cnd y.1 y.2 ∧ true = true ∧ ((IntKind.i64 = IntKind.i64 ∧ iAdd x.1 1 = y.1) ∧ ([Sh.bool] = [Sh.bool] ∧ cutRows x.2 none (some (iSub (iLen x.2) (Sp.ari (q0 (rGet cnd x.1))))) ++ [[C.b (Sp.tv act cls (q0 (rGet cnd x.1)) ((rGet cnd x.1).tail.headD default).str (cutRows x.2 (some (iSub (iLen x.2) (Sp.ari (q0 (rGet cnd x.1))))) none))]] = y.2) ∧ True) ∧ True ∧ cnd.length - y.1.toNat < cnd.length - x.1.toNat))) ∧ (bNot (Sp.nam ((rGet cnd x.1).tail.headD default).str) = true → (false = Sp.hld act cls cnd ∧ True) ∧ True))) ∧ (bEq (Sp.ari (q0 (rGet cnd x.1))) 0 = false → (bLt 0 (Sp.ari (q0 (rGet cnd x.1))) = true → (sDiff ((rGet cnd x.1).tail.headD default).str (ByteArray.mk (Array.mk [])) = true → (false = Sp.hld act cls cnd ∧ True) ∧ True) ∧ (sDiff ((rGet cnd x.1).tail.headD default).str (ByteArray.mk (Array.mk [])) = false → pLe (iLen x.2) 9223372036854775807 → InR .i64 (iSub (iLen x.2) (Sp.ari (q0 (rGet cnd x.1)))) ∧ (geB none (some (iSub (iLen x.2) (Sp.ari (q0 (rGet cnd x.1))))) (iLen x.2) ∧ iSub (iLen x.2) (Sp.ari (q0 (rGet cnd x.1))) = iSub (iLen x.2) (Sp.ari (q0 (rGet cnd x.1)))) ∧ geB (some (iSub (iLen x.2) (Sp.ari (q0 (rGet cnd x.1))))) none (iLen x.2) ∧ (pLe 0 (Sp.ari (q0 (rGet cnd x.1))) ∧ pLe (Sp.ari (q0 (rGet cnd x.1))) ↑(cutRows x.2 (some (iSub (iLen x.2) (Sp.ari (q0 (rGet cnd x.1))))) none).length) ∧ (True → (pRoom 1 (iLen (cutRows x.2 none (some (iSub (iLen x.2) (Sp.ari (q0 (rGet cnd x.1))))) ++ [[C.b (Sp.tv act cls (q0 (rGet cnd x.1)) ((rGet cnd x.1).tail.headD default).str (cutRows x.2 (some (iSub (iLen x.2) (Sp.ari (q0 (rGet cnd x.1))))) none))]])) ∧ pLe (iLen (cutRows x.2 none (some (iSub (iLen x.2) (Sp.ari (q0 (rGet cnd x.1))))) ++ [[C.b (Sp.tv act cls (q0 (rGet cnd x.1)) ((rGet cnd x.1).tail.headD default).str (cutRows x.2 (some (iSub (iLen x.2) (Sp.ari (q0 (rGet cnd x.1))))) none))]])) 9223372036854775807) ∧ InR .i64 (iAdd x.1 1) ∧ (true = true ∧ h66_0 cnd act cls = h66_0 cnd act cls) ∧ ([] : List HB) = [] ∧ ∃ (y : Int × List (List C)), Sp.fdI act cls cnd y.1 y.2 ∧ true = true ∧ ((IntKind.i64 = IntKind.i64 ∧ iAdd x.1 1 = y.1) ∧ ([Sh.bool] = [Sh.bool] ∧ cutRows x.2 none (some (iSub (iLen x.2) (Sp.ari (q0 (rGet cnd x.1))))) ++ [[C.b (Sp.tv act cls (q0 (rGet cnd x.1)) ((rGet cnd x.1).tail.headD default).str (cutRows x.2 (some (iSub (iLen x.2) (Sp.ari (q0 (rGet cnd x.1))))) none))]] = y.2) ∧ True) ∧ True ∧ cnd.length - y.1.toNat < cnd.length - x.1.toNat))) ∧ (bLt 0 (Sp.ari (q0 (rGet cnd x.1))) = false → pLe (iLen x.2) 9223372036854775807 → InR .i64 (iSub (iLen x.2) (Sp.ari (q0 (rGet cnd x.1)))) ∧ (geB none (some (iSub (iLen x.2) (Sp.ari (q0 (rGet cnd x.1))))) (iLen x.2) ∧ iSub (iLen x.2) (Sp.ari (q0 (rGet cnd x.1))) = iSub (iLen x.2) (Sp.ari (q0 (rGet cnd x.1)))) ∧ geB (some (iSub (iLen x.2) (Sp.ari (q0 (rGet cnd x.1))))) none (iLen x.2) ∧ (pLe 0 (Sp.ari (q0 (rGet cnd x.1))) ∧ pLe (Sp.ari (q0 (rGet cnd x.1))) ↑(cutRows x.2 (some (iSub (iLen x.2) (Sp.ari (q0 (rGet cnd x.1))))) none).length) ∧ (True → (pRoom 1 (iLen (cutRows x.2 none (some (iSub (iLen x.2) (Sp.ari (q0 (rGet cnd x.1))))) ++ [[C.b (Sp.tv act cls (q0 (rGet cnd x.1)) ((rGet cnd x.1).tail.headD default).str (cutRows x.2 (some (iSub (iLen x.2) (Sp.ari (q0 (rGet cnd x.1))))) none))]])) ∧ pLe (iLen (cutRows x.2 none (some (iSub (iLen x.2) (Sp.ari (q0 (rGet cnd x.1))))) ++ [[C.b (Sp.tv act cls (q0 (rGet cnd x.1)) ((rGet cnd x.1).tail.headD default).str (cutRows x.2 (some (iSub (iLen x.2) (Sp.ari (q0 (rGet cnd x.1))))) none))]])) 9223372036854775807) ∧ InR .i64 (iAdd x.1 1) ∧ (true = true ∧ h66_0 cnd act cls = h66_0 cnd act cls) ∧ ([] : List HB) = [] ∧ ∃ (y : Int × List (List C)), Sp.fdI act cls cnd y.1 y.2 ∧ true = true ∧ ((IntKind.i64 = IntKind.i64 ∧ iAdd x.1 1 = y.1) ∧ ([Sh.bool] = [Sh.bool] ∧ cutRows x.2 none (some (iSub (iLen x.2) (Sp.ari (q0 (rGet cnd x.1))))) ++ [[C.b (Sp.tv act cls (q0 (rGet cnd x.1)) ((rGet cnd x.1).tail.headD default).str (cutRows x.2 (some (iSub (iLen x.2) (Sp.ari (q0 (rGet cnd x.1))))) none))]] = y.2) ∧ True) ∧ True ∧ cnd.length - y.1.toNat < cnd.length - x.1.toNat)))) ∧ (bLt (iLen x.2) (Sp.ari (q0 (rGet cnd x.1))) = true → (false = Sp.hld act cls cnd ∧ True) ∧ True)) ∧ (bLt (Sp.ari (q0 (rGet cnd x.1))) 0 = true → (false = Sp.hld act cls cnd ∧ True) ∧ True)))) ∧ (bLt x.1 (iLen cnd) = false → pLe (iLen x.2) 9223372036854775807 → (bNe (iLen x.2) 1 = true → (false = Sp.hld act cls cnd ∧ True) ∧ True) ∧ (bNe (iLen x.2) 1 = false → pIn 0 (iLen x.2) 0 ∧ (True → (((rGet x.2 0).headD default).bool = true → (true = Sp.hld act cls cnd ∧ True) ∧ True) ∧ (((rGet x.2 0).headD default).bool = false → (false = Sp.hld act cls cnd ∧ True) ∧ True))))))) := by kernel_rfl
theorem v66 (cnd : List (List C)) (act : List (List C)) (cls : List (List C)) : Holds (Wfs [.sl [.int .i64, .str] cnd, .sl [.str] act, .sl [.str] cls] → True → B66 cnd act cls) := by
  refine ⟨fun hw hp => ?_⟩
  rw [e66]
  unfold WL q0
  simp only [Wfs, Wf, InR, and_true] at hw
  have hm : maxLen = 9223372036854775807 := rfl
  simp only [hm] at hw
  simp only [iAdd, iSub, iMul, iLen, iSize, bLt, bLe, bEq, bNe, bNot, bSame, bDiff, sSame, sDiff, bIf, bAnd, InR, pLe, pIn, pRoom, eq_self, true_and, and_true, true_implies, implies_true, decide_eq_true_eq, decide_eq_false_iff_not, Bool.not_eq_true', Bool.not_eq_false', Bool.true_eq_false, Bool.false_eq_true, false_implies]
  refine fun _ => ⟨fun h => (Sp.hld_0 h).symm, fun hn _ => ⟨fun h => (Sp.hld_big h).symm, fun h16 _ => ⟨⟨(0, []), Sp.fd_init, rfl, rfl⟩, ?_⟩⟩⟩
  rintro ⟨z, st⟩ hx _
  simp only at hx ⊢
  have h0 := hx.1
  have hsl := hx.2.2.1
  refine ⟨fun hlt => ⟨⟨h0, hlt⟩, fun _ => ?_⟩, fun hge _ => ?_⟩
  · have bad : ¬ ((0 ≤ Sp.ari (Sp.i0 (rGet cnd z)) ∧ Sp.ari (Sp.i0 (rGet cnd z)) ≤ (st.length : Int)) ∧ (Sp.ari (Sp.i0 (rGet cnd z)) = 0 → Sp.nam (Sp.s1 (rGet cnd z)) = true) ∧ (¬ Sp.ari (Sp.i0 (rGet cnd z)) = 0 → Sp.emt (Sp.s1 (rGet cnd z)) = true)) → false = Sp.hld act cls cnd := fun h => by
      refine (Sp.fd_bad hx hlt ?_).symm
      cases e : Sp.tok (rGet cnd z) (st.length : Int) with
      | false => rfl
      | true => exact absurd (Sp.tok_iff.1 e) h
    have fwd : Sp.tok (rGet cnd z) (st.length : Int) = true → ((0 ≤ Sp.ari (Sp.i0 (rGet cnd z)) ∧ Sp.ari (Sp.i0 (rGet cnd z)) ≤ (st.length : Int)) ∧ ((Sp.nst act cls (rGet cnd z) st).length : Int) = (st.length : Int) - Sp.ari (Sp.i0 (rGet cnd z)) + 1) ∧ Sp.fdI act cls cnd (z + 1) (Sp.nst act cls (rGet cnd z) st) := fun h => ⟨⟨(Sp.tok_iff.1 h).1, Sp.nst_len h⟩, Sp.fd_next hx hlt h⟩
    refine fun _ => ⟨fun h0 _ => ⟨fun h1 => ⟨fun h2 => ⟨fun hn => ⟨fun h3 => absurd h3 (by omega), fun _ => ?_⟩, fun hn => bad fun h => by (have := h.2.1 h2; rw [show Sp.nam (Sp.s1 (rGet cnd z)) = false from hn] at this; cases this)⟩, fun h2 => ⟨fun h3 => ⟨fun he => bad fun h => by (have := h.2.2 h2; rw [show Sp.emt (Sp.s1 (rGet cnd z)) = false from he] at this; cases this), fun he => ?_⟩, fun h3 => absurd h3 (by omega)⟩⟩, fun h1 => bad fun h => absurd h.1.2 (Int.not_le.2 h1)⟩, fun h0 => bad fun h => absurd h.1.1 (Int.not_le.2 h0)⟩
    · have ht : Sp.tok (rGet cnd z) (st.length : Int) = true := Sp.tok_iff.2 ⟨⟨Int.not_lt.1 h0, Int.not_lt.1 h1⟩, fun _ => hn, fun h => absurd h2 h⟩
      obtain ⟨⟨⟨f1, f2⟩, f3⟩, f4⟩ := fwd ht
      exact Sp.fd_go (M := 9223372036854775807) hx hlt h16 ht (by omega)
    · have ht : Sp.tok (rGet cnd z) (st.length : Int) = true := Sp.tok_iff.2 ⟨⟨Int.not_lt.1 h0, Int.not_lt.1 h1⟩, fun h => absurd h h2, fun _ => he⟩
      exact Sp.fd_go (M := 9223372036854775807) hx hlt h16 ht (by omega)
  · rw [Sp.fd_end hx hge h16 hn]
    refine ⟨fun h => by rw [decide_eq_false (by omega)]; rfl, fun h => ⟨by omega, fun hb => ?_, fun hb => ?_⟩⟩
    · rw [decide_eq_true (by omega), show Sp.b0 (rGet st 0) = true from hb]; rfl
    · rw [decide_eq_true (by omega), show Sp.b0 (rGet st 0) = false from hb]; rfl
theorem s66 : SoundCt Go.Proofs.Try.prog 66 ct66 :=
  contractH followsMixed (look_sound (show Tb Go.Proofs.Try.prog tb66 from ⟨s98, ⟨s82, ⟨s79, ⟨s81, ⟨s4000043, trivial⟩⟩⟩⟩⟩)) (fun _ => false) (fun a => A66 ((cel 0 (arg 0 a)).list) ((cel 0 (arg 1 a)).list) ((cel 0 (arg 2 a)).list)) 6 66 ct66 rfl (by simp [ct66]) fun a => Eq.mp (by kernel_rfl) (v66 ((cel 0 (arg 0 a)).list) ((cel 0 (arg 1 a)).list) ((cel 0 (arg 2 a)).list))
end Go.Sx

