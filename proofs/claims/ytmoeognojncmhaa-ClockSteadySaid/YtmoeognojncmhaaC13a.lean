/- Contracts and conditions, continued. -/
import Derived.Test.YtmoeognojncmhaaSxUse
import Derived.Test.YtmoeognojncmhaaR13e
import Derived.KernelRfl
set_option linter.unusedVariables false
set_option linter.unusedSimpArgs false
set_option maxRecDepth 100000
set_option maxHeartbeats 4000000

namespace Go
open Go.Sx
def Sp.cu (n d : Int) : Bool := Sp.rvalid n d && decide (d ≤ n * 1024 ∧ n ≤ d * 1024)
def Sp.cf (x : List C) : Int := (x.headD default).int
def Sp.cn (x : List C) : Int := (x.tail.headD default).int
def Sp.cd (x : List C) : Int := (x.tail.tail.headD default).int
def Sp.cvR (p : Int) (xs : List (List C)) : Bool :=
  match xs with
  | [] => true
  | x :: r => (Sp.cu (Sp.cn x) (Sp.cd x) && decide (Sp.cf x ≤ 1099511627776 ∧ p < Sp.cf x)) && Sp.cvR (Sp.cf x) r
def Sp.cvA (xs : List (List C)) : Bool :=
  match xs with
  | [] => true
  | x :: r => (Sp.cu (Sp.cn x) (Sp.cd x) && decide (Sp.cf x = 0)) && Sp.cvR (Sp.cf x) r
def Sp.cval (xs : List (List C)) : Bool := Sp.cvA xs && decide (1 ≤ (xs.length : Int) ∧ (xs.length : Int) ≤ 64)
def Sp.cvI (xs : List (List C)) (i : Int) : Prop := 0 ≤ i ∧ i ≤ (xs.length : Int) ∧ (1 ≤ i → Sp.cvR (Sp.cf (rGet xs (i - 1))) (xs.drop i.toNat) = Sp.cvA xs)
def Sp.nwV (n d : Int) : List (List C) := bif Sp.cu n d then [[.i 0, .i n, .i d]] else []
def Sp.nwE (n d : Int) : Int := bif Sp.cu n d then 0 else 1
def Sp.lastF (xs : List (List C)) : Int := Sp.cf (rGet xs ((xs.length : Int) - 1))
def Sp.chE (xs : List (List C)) (f n d : Int) : Int := if Sp.cval xs = false then 1 else if f ≤ Sp.lastF xs ∨ 1099511627776 < f then 2 else if Sp.cu n d = false then 1 else if (xs.length : Int) = 64 then 3 else 0
def Sp.chV (xs : List (List C)) (f n d : Int) : List (List C) := if Sp.chE xs f n d = 0 then xs ++ [[.i f, .i n, .i d]] else []
def Sp.sameC (xs ys : List (List C)) : Bool :=
  match xs, ys with
  | [], [] => true
  | x :: r, y :: s => (decide (Sp.cf x = Sp.cf y) && (decide (Sp.cn x = Sp.cn y) && decide (Sp.cd x = Sp.cd y))) && Sp.sameC r s
  | _, _ => false
def Sp.k66 (xs : List (List C)) : Bool := decide ((xs.length : Int) ≤ 66)
def Sp.scI (xs ys : List (List C)) (i : Int) : Prop := 0 ≤ i ∧ i ≤ (xs.length : Int) ∧ Sp.sameC (xs.drop i.toNat) (ys.drop i.toNat) = Sp.sameC xs ys
end Go

namespace Go
open Go.Sx
theorem Sp.drop_cons {xs : List (List C)} {k : Int} (h0 : 0 ≤ k) (h1 : k < (xs.length : Int)) : xs.drop k.toNat = rGet xs k :: xs.drop (k + 1).toNat := by
  rw [List.drop_eq_getElem_cons (show k.toNat < xs.length by omega), show (k + 1).toNat = k.toNat + 1 by omega]
  congr 1
  simp [rGet, List.getD_eq_getElem?_getD, show k.toNat < xs.length by omega]
section
variable {xs : List (List C)} {i : Int}
theorem Sp.cvI_next (h : Sp.cvI xs i) (hi : i < (xs.length : Int)) (h1 : Sp.cu (Sp.cn (rGet xs i)) (Sp.cd (rGet xs i)) = true) (h2 : Sp.cf (rGet xs i) ≤ 1099511627776) (h3 : i = 0 → Sp.cf (rGet xs i) = 0) (h4 : 0 < i → Sp.cf (rGet xs (i - 1)) < Sp.cf (rGet xs i)) : Sp.cvI xs (i + 1) := by
  obtain ⟨i0, i1, hr⟩ := h
  refine ⟨by omega, by omega, fun _ => ?_⟩
  rw [show i + 1 - 1 = i by omega]
  have hd := Sp.drop_cons i0 hi
  by_cases hz : i = 0
  · subst hz
    have hx : xs = rGet xs 0 :: xs.drop (0 + 1 : Int).toNat := hd
    have : Sp.cvA xs = Sp.cvA (rGet xs 0 :: xs.drop (0 + 1 : Int).toNat) := congrArg Sp.cvA hx
    rw [this, Sp.cvA, h1, decide_eq_true (h3 rfl)]; rfl
  · rw [← hr (by omega), hd, Sp.cvR, h1, decide_eq_true (And.intro h2 (h4 (by omega)))]; rfl
theorem Sp.cvI_bad (h : Sp.cvI xs i) (hi : i < (xs.length : Int)) (hb : Sp.cu (Sp.cn (rGet xs i)) (Sp.cd (rGet xs i)) = false ∨ 1099511627776 < Sp.cf (rGet xs i) ∨ (i = 0 ∧ Sp.cf (rGet xs i) ≠ 0) ∨ (0 < i ∧ Sp.cf (rGet xs i) ≤ Sp.cf (rGet xs (i - 1)))) : false = Sp.cval xs := by
  obtain ⟨i0, i1, hr⟩ := h
  have hd := Sp.drop_cons i0 hi
  have key : Sp.cvA xs = false := by
    by_cases hz : i = 0
    · subst hz
      have hx : xs = rGet xs 0 :: xs.drop (0 + 1 : Int).toNat := hd
      have : Sp.cvA xs = Sp.cvA (rGet xs 0 :: xs.drop (0 + 1 : Int).toNat) := congrArg Sp.cvA hx
      rw [this, Sp.cvA]
      rcases hb with hb | hb | hb | hb
      · rw [hb]; rfl
      · rw [decide_eq_false (show ¬ Sp.cf (rGet xs 0) = 0 by omega), Bool.and_false]; rfl
      · rw [decide_eq_false hb.2, Bool.and_false]; rfl
      · omega
    · rw [← hr (by omega), hd, Sp.cvR]
      rcases hb with hb | hb | hb | hb
      · rw [hb]; rfl
      · rw [decide_eq_false (by omega), Bool.and_false]; rfl
      · omega
      · rw [decide_eq_false (by omega), Bool.and_false]; rfl
  unfold Sp.cval
  rw [key]; rfl
theorem Sp.cvI_end (h : Sp.cvI xs i) (hi : ¬ i < (xs.length : Int)) : Sp.cval xs = decide (1 ≤ (xs.length : Int) ∧ (xs.length : Int) ≤ 64) := by
  obtain ⟨i0, i1, hr⟩ := h
  unfold Sp.cval
  by_cases hz : xs.length = 0
  · have : xs = [] := List.eq_nil_of_length_eq_zero hz
    subst this; rfl
  · rw [← hr (by omega), List.drop_eq_nil_of_le (by omega)]; rfl
end
end Go

namespace Go
open Go.Sx
theorem Sp.cval_len {xs : List (List C)} (h : Sp.cval xs = true) : 1 ≤ (xs.length : Int) ∧ (xs.length : Int) ≤ 64 := by
  unfold Sp.cval at h
  rw [Bool.and_eq_true, decide_eq_true_eq] at h
  exact h.2
theorem Sp.cval_one (n d : Int) : Sp.cval [[C.i 0, C.i n, C.i d]] = Sp.cu n d := by
  unfold Sp.cval
  simp only [Sp.cvA, Sp.cvR]
  rw [show Sp.cf [C.i 0, C.i n, C.i d] = 0 from rfl, show Sp.cn [C.i 0, C.i n, C.i d] = n from rfl, show Sp.cd [C.i 0, C.i n, C.i d] = d from rfl]
  simp
section
variable {xs : List (List C)} {f n d v : Int}
theorem Sp.chV_no (h : Sp.chE xs f n d = v) (hv : v ≠ 0) : [] = Sp.chV xs f n d ∧ v = Sp.chE xs f n d := by
  unfold Sp.chV
  rw [if_neg (by rw [h]; exact hv)]
  exact ⟨rfl, h.symm⟩
theorem Sp.chV_yes (h : Sp.chE xs f n d = 0) : xs ++ [[C.i f, C.i n, C.i d]] = Sp.chV xs f n d ∧ 0 = Sp.chE xs f n d := by
  unfold Sp.chV
  rw [if_pos h]
  exact ⟨rfl, h.symm⟩
theorem Sp.chE1 (h : Sp.cval xs = false) : Sp.chE xs f n d = 1 := by unfold Sp.chE; rw [if_pos h]
theorem Sp.chE2 (h : Sp.cval xs = true) (hf : f ≤ Sp.lastF xs ∨ 1099511627776 < f) : Sp.chE xs f n d = 2 := by unfold Sp.chE; rw [if_neg (by simp [h]), if_pos hf]
theorem Sp.chE3 (h : Sp.cval xs = true) (hf : ¬ (f ≤ Sp.lastF xs ∨ 1099511627776 < f)) (hc : Sp.cu n d = false) : Sp.chE xs f n d = 1 := by unfold Sp.chE; rw [if_neg (by simp [h]), if_neg hf, if_pos hc]
theorem Sp.chE4 (h : Sp.cval xs = true) (hf : ¬ (f ≤ Sp.lastF xs ∨ 1099511627776 < f)) (hc : Sp.cu n d = true) (hl : (xs.length : Int) = 64) : Sp.chE xs f n d = 3 := by unfold Sp.chE; rw [if_neg (by simp [h]), if_neg hf, if_neg (by simp [hc]), if_pos hl]
theorem Sp.chE0 (h : Sp.cval xs = true) (hf : ¬ (f ≤ Sp.lastF xs ∨ 1099511627776 < f)) (hc : Sp.cu n d = true) (hl : ¬ (xs.length : Int) = 64) : Sp.chE xs f n d = 0 := by unfold Sp.chE; rw [if_neg (by simp [h]), if_neg hf, if_neg (by simp [hc]), if_neg hl]
end
theorem Sp.sameC_ne : ∀ (us ws : List (List C)), us.length ≠ ws.length → Sp.sameC us ws = false := by
  intro us
  induction us with
  | nil => intro ws h; cases ws with
    | nil => simp at h
    | cons y s => rfl
  | cons x r ih => intro ws h; cases ws with
    | nil => rfl
    | cons y s => simp only [Sp.sameC]; rw [ih s (by simpa using h), Bool.and_false]
theorem Sp.sameC_self : ∀ (xs : List (List C)), Sp.sameC xs xs = true
  | [] => rfl
  | x :: r => by simp [Sp.sameC, Sp.sameC_self r]
end Go

namespace Go.Sx
/-! ### function 30: clock.usual -/
def ct30 : Ct := { ps := [(true, [.int .i64, .int .i64])], rs := [(false, [.bool])], pre := fun _ => True, out := fun a => [[.b (Sp.cu (cel 0 (arg 0 a)).int (cel 1 (arg 0 a)).int)]] }
def tb30 : List (Nat × Ct) := [(40, ct40)]
theorem e30 (n : Int) (d : Int) : vcF Go.Proofs.Try.prog (look tb30) (fun _ => false) (fun _ _ => LoopAnn.unroll 200) 6 30 [.agg [.int .i64 n, .int .i64 d]] [] (fun sv heap => Gives [(false, [.bool])] [[.b (Sp.cu n d)]] sv heap) = (True ∧ (True → (Sp.rvalid n d = true → InR IntKind.i64 (iMul n 1024) ∧ (bLe d (iMul n 1024) = true → InR IntKind.i64 (iMul d 1024) ∧ (bLe n (iMul d 1024) = Sp.cu n d ∧ True) ∧ True) ∧ (bLe d (iMul n 1024) = false → (false = Sp.cu n d ∧ True) ∧ True)) ∧ (Sp.rvalid n d = false → (false = Sp.cu n d ∧ True) ∧ True))) := by kernel_rfl
theorem v30 (n : Int) (d : Int) : Holds (Wfs [.agg [.int .i64 n, .int .i64 d]] → True → vcF Go.Proofs.Try.prog (look tb30) (fun _ => false) (fun _ _ => LoopAnn.unroll 200) 6 30 [.agg [.int .i64 n, .int .i64 d]] [] (fun sv heap => Gives [(false, [.bool])] [[.b (Sp.cu n d)]] sv heap)) := by
  refine ⟨fun hw hp => ?_⟩
  rw [e30]
  simp only [iAdd, iSub, iMul, iLen, eq_self, true_and, and_true, true_implies, implies_true]
  have hc : Sp.cu n d = (Sp.rvalid n d && decide (d ≤ n * 1024 ∧ n ≤ d * 1024)) := rfl
  refine ⟨fun h => ?_, fun h => by rw [hc, h]; rfl⟩
  have hr := h
  simp only [Sp.rvalid, decide_eq_true_eq] at hr
  rw [hc, h, Bool.true_and]
  simp only [bLe, decide_eq_true_eq, decide_eq_false_iff_not, InR]
  exact ⟨by omega, fun h1 => ⟨by omega, by rw [decide_eq_decide]; omega⟩, fun h1 => by symm; rw [decide_eq_false_iff_not]; omega⟩
theorem s30 : SoundCt Go.Proofs.Try.prog 30 ct30 :=
  contractH followsMixed (look_sound (show Tb Go.Proofs.Try.prog tb30 from ⟨s40, trivial⟩)) (fun _ => false) (fun _ => fun _ _ => LoopAnn.unroll 200) 6 30 ct30 rfl (by simp [ct30]) fun a => Eq.mp (by kernel_rfl) (v30 ((cel 0 (arg 0 a)).int) ((cel 1 (arg 0 a)).int))
end Go.Sx

namespace Go.Sx
/-! ### function 31: ref13.rate -/
def ct31 : Ct := { ps := [(true, [.int .i64, .int .i64])], rs := [(false, [.bool])], pre := fun _ => True, out := fun a => [[.b (Sp.cu (cel 0 (arg 0 a)).int (cel 1 (arg 0 a)).int)]] }
def tb31 : List (Nat × Ct) := [(44, ct44), (45, ct45)]
theorem e31 (n : Int) (d : Int) : vcF Go.Proofs.Try.prog (look tb31) (fun _ => false) (fun _ _ => LoopAnn.unroll 200) 6 31 [.agg [.int .i64 n, .int .i64 d]] [] (fun sv heap => Gives [(false, [.bool])] [[.b (Sp.cu n d)]] sv heap) = (True ∧ (True → (Sp.rvalid n d = true → True ∧ (InR IntKind.i64 (Sp.cmp n d 1 1024) → (bLe 0 (Sp.cmp n d 1 1024) = true → True ∧ (InR IntKind.i64 (Sp.cmp n d 1024 1) → (bLe (Sp.cmp n d 1024 1) 0 = Sp.cu n d ∧ True) ∧ True)) ∧ (bLe 0 (Sp.cmp n d 1 1024) = false → (false = Sp.cu n d ∧ True) ∧ True))) ∧ (Sp.rvalid n d = false → (false = Sp.cu n d ∧ True) ∧ True))) := by kernel_rfl
theorem v31 (n : Int) (d : Int) : Holds (Wfs [.agg [.int .i64 n, .int .i64 d]] → True → vcF Go.Proofs.Try.prog (look tb31) (fun _ => false) (fun _ _ => LoopAnn.unroll 200) 6 31 [.agg [.int .i64 n, .int .i64 d]] [] (fun sv heap => Gives [(false, [.bool])] [[.b (Sp.cu n d)]] sv heap)) := by
  refine ⟨fun hw hp => ?_⟩
  rw [e31]
  simp only [iAdd, iSub, iMul, iLen, eq_self, true_and, and_true, true_implies, implies_true]
  have hc : Sp.cu n d = (Sp.rvalid n d && decide (d ≤ n * 1024 ∧ n ≤ d * 1024)) := rfl
  refine ⟨fun h => ?_, fun h => by rw [hc, h]; rfl⟩
  have hr := h
  simp only [Sp.rvalid, decide_eq_true_eq] at hr
  have r1 : Sp.rvalid 1 1024 = true := by decide +kernel
  have r2 : Sp.rvalid 1024 1 = true := by decide +kernel
  have k1 : Sp.cmp n d 1 1024 = if n * 1024 < 1 * d then -1 else if n * 1024 = 1 * d then 0 else 1 := by unfold Sp.cmp; rw [if_neg (by simp [h, r1])]
  have k2 : Sp.cmp n d 1024 1 = if n * 1 < 1024 * d then -1 else if n * 1 = 1024 * d then 0 else 1 := by unfold Sp.cmp; rw [if_neg (by simp [h, r2])]
  rw [hc, h, Bool.true_and, k1, k2]
  simp only [bLe, decide_eq_true_eq, decide_eq_false_iff_not]
  refine fun _ => ⟨fun h1 _ => ?_, fun h1 => ?_⟩
  · rw [decide_eq_decide]
    split at h1 <;> split <;> (try split) <;> (try split at h1) <;> omega
  · symm; rw [decide_eq_false_iff_not]
    split at h1 <;> (try split at h1) <;> omega
theorem s31 : SoundCt Go.Proofs.Try.prog 31 ct31 :=
  contractH followsMixed (look_sound (show Tb Go.Proofs.Try.prog tb31 from ⟨s44, ⟨s45, trivial⟩⟩)) (fun _ => false) (fun _ => fun _ _ => LoopAnn.unroll 200) 6 31 ct31 rfl (by simp [ct31]) fun a => Eq.mp (by kernel_rfl) (v31 ((cel 0 (arg 0 a)).int) ((cel 1 (arg 0 a)).int))
end Go.Sx

namespace Go.Sx
/-! ### function 17: clock.Valid -/
def ct17 : Ct := { ps := [(true, [.sl [.int .i64, .int .i64, .int .i64]])], rs := [(false, [.bool])], pre := fun _ => True, out := fun a => [[.b (Sp.cval (cel 0 (arg 0 a)).list)]] }
def tb17 : List (Nat × Ct) := [(30, ct30)]
theorem e17 (xs : List (List C)) : vcF Go.Proofs.Try.prog (look tb17) (fun _ => false) (fun _ ii => bif Nat.beq ii 2 then .inv Int (fun z => Sp.cvI xs z) (fun z => [(8, .int .i64 z)]) (fun _ => []) [] [0, 1, 2, 3, 4, 6, 7, 8, 9, 46] (fun z => xs.length - z.toNat) else .unroll 0) 6 17 [.agg [.sl [.int .i64, .int .i64, .int .i64] xs]] [] (fun sv heap => Gives [(false, [.bool])] [[.b (Sp.cval xs)]] sv heap) = (pLe (iLen xs) 9223372036854775807 → (∃ (x : Int), Sp.cvI xs x ∧ true = true ∧ ((IntKind.i64 = IntKind.i64 ∧ 0 = x) ∧ True) ∧ True) ∧ (∀ (x : Int), true = true ∧ true = true) ∧ ∀ (x : Int), Sp.cvI xs x → InR IntKind.i64 x ∧ True → True → (bLt x (iLen xs) = true → pIn 0 (iLen xs) x ∧ (InR IntKind.i64 ((rGet xs x).headD default).int ∧ InR IntKind.i64 ((rGet xs x).tail.headD default).int ∧ InR IntKind.i64 ((rGet xs x).tail.tail.headD default).int ∧ True → True ∧ (True → True ∧ (bNot (Sp.cu ((rGet xs x).tail.headD default).int ((rGet xs x).tail.tail.headD default).int) = false → (bLt 1099511627776 ((rGet xs x).headD default).int = false → (bEq x 0 = true → (bNe ((rGet xs x).headD default).int 0 = false → (bLt 0 x = true → InR IntKind.i64 (iSub x 1) ∧ pIn 0 (iLen xs) (iSub x 1) ∧ (InR IntKind.i64 ((rGet xs (iSub x 1)).headD default).int → (bLe ((rGet xs x).headD default).int ((rGet xs (iSub x 1)).headD default).int = true → (false = Sp.cval xs ∧ True) ∧ True) ∧ (bLe ((rGet xs x).headD default).int ((rGet xs (iSub x 1)).headD default).int = false → InR IntKind.i64 (iAdd x 1) ∧ (true = true ∧ [SV.agg [SV.sl [Sh.int IntKind.i64, Sh.int IntKind.i64, Sh.int IntKind.i64] xs], SV.ref 0 0, SV.sl [Sh.int IntKind.i64, Sh.int IntKind.i64, Sh.int IntKind.i64] xs, SV.int IntKind.i64 (iLen xs)] = [SV.agg [SV.sl [Sh.int IntKind.i64, Sh.int IntKind.i64, Sh.int IntKind.i64] xs], SV.ref 0 0, SV.sl [Sh.int IntKind.i64, Sh.int IntKind.i64, Sh.int IntKind.i64] xs, SV.int IntKind.i64 (iLen xs)]) ∧ [HB.box [SV.sl [Sh.int IntKind.i64, Sh.int IntKind.i64, Sh.int IntKind.i64] xs] 24] = [HB.box [SV.sl [Sh.int IntKind.i64, Sh.int IntKind.i64, Sh.int IntKind.i64] xs] 24] ∧ ∃ (y : Int), Sp.cvI xs y ∧ true = true ∧ ((IntKind.i64 = IntKind.i64 ∧ iAdd x 1 = y) ∧ True) ∧ True ∧ xs.length - y.toNat < xs.length - x.toNat))) ∧ (bLt 0 x = false → InR IntKind.i64 (iAdd x 1) ∧ (true = true ∧ [SV.agg [SV.sl [Sh.int IntKind.i64, Sh.int IntKind.i64, Sh.int IntKind.i64] xs], SV.ref 0 0, SV.sl [Sh.int IntKind.i64, Sh.int IntKind.i64, Sh.int IntKind.i64] xs, SV.int IntKind.i64 (iLen xs)] = [SV.agg [SV.sl [Sh.int IntKind.i64, Sh.int IntKind.i64, Sh.int IntKind.i64] xs], SV.ref 0 0, SV.sl [Sh.int IntKind.i64, Sh.int IntKind.i64, Sh.int IntKind.i64] xs, SV.int IntKind.i64 (iLen xs)]) ∧ [HB.box [SV.sl [Sh.int IntKind.i64, Sh.int IntKind.i64, Sh.int IntKind.i64] xs] 24] = [HB.box [SV.sl [Sh.int IntKind.i64, Sh.int IntKind.i64, Sh.int IntKind.i64] xs] 24] ∧ ∃ (y : Int), Sp.cvI xs y ∧ true = true ∧ ((IntKind.i64 = IntKind.i64 ∧ iAdd x 1 = y) ∧ True) ∧ True ∧ xs.length - y.toNat < xs.length - x.toNat)) ∧ (bNe ((rGet xs x).headD default).int 0 = true → (false = Sp.cval xs ∧ True) ∧ True)) ∧ (bEq x 0 = false → (bLt 0 x = true → InR IntKind.i64 (iSub x 1) ∧ pIn 0 (iLen xs) (iSub x 1) ∧ (InR IntKind.i64 ((rGet xs (iSub x 1)).headD default).int → (bLe ((rGet xs x).headD default).int ((rGet xs (iSub x 1)).headD default).int = true → (false = Sp.cval xs ∧ True) ∧ True) ∧ (bLe ((rGet xs x).headD default).int ((rGet xs (iSub x 1)).headD default).int = false → InR IntKind.i64 (iAdd x 1) ∧ (true = true ∧ [SV.agg [SV.sl [Sh.int IntKind.i64, Sh.int IntKind.i64, Sh.int IntKind.i64] xs], SV.ref 0 0, SV.sl [Sh.int IntKind.i64, Sh.int IntKind.i64, Sh.int IntKind.i64] xs, SV.int IntKind.i64 (iLen xs)] = [SV.agg [SV.sl [Sh.int IntKind.i64, Sh.int IntKind.i64, Sh.int IntKind.i64] xs], SV.ref 0 0, SV.sl [Sh.int IntKind.i64, Sh.int IntKind.i64, Sh.int IntKind.i64] xs, SV.int IntKind.i64 (iLen xs)]) ∧ [HB.box [SV.sl [Sh.int IntKind.i64, Sh.int IntKind.i64, Sh.int IntKind.i64] xs] 24] = [HB.box [SV.sl [Sh.int IntKind.i64, Sh.int IntKind.i64, Sh.int IntKind.i64] xs] 24] ∧ ∃ (y : Int), Sp.cvI xs y ∧ true = true ∧ ((IntKind.i64 = IntKind.i64 ∧ iAdd x 1 = y) ∧ True) ∧ True ∧ xs.length - y.toNat < xs.length - x.toNat))) ∧ (bLt 0 x = false → InR IntKind.i64 (iAdd x 1) ∧ (true = true ∧ [SV.agg [SV.sl [Sh.int IntKind.i64, Sh.int IntKind.i64, Sh.int IntKind.i64] xs], SV.ref 0 0, SV.sl [Sh.int IntKind.i64, Sh.int IntKind.i64, Sh.int IntKind.i64] xs, SV.int IntKind.i64 (iLen xs)] = [SV.agg [SV.sl [Sh.int IntKind.i64, Sh.int IntKind.i64, Sh.int IntKind.i64] xs], SV.ref 0 0, SV.sl [Sh.int IntKind.i64, Sh.int IntKind.i64, Sh.int IntKind.i64] xs, SV.int IntKind.i64 (iLen xs)]) ∧ [HB.box [SV.sl [Sh.int IntKind.i64, Sh.int IntKind.i64, Sh.int IntKind.i64] xs] 24] = [HB.box [SV.sl [Sh.int IntKind.i64, Sh.int IntKind.i64, Sh.int IntKind.i64] xs] 24] ∧ ∃ (y : Int), Sp.cvI xs y ∧ true = true ∧ ((IntKind.i64 = IntKind.i64 ∧ iAdd x 1 = y) ∧ True) ∧ True ∧ xs.length - y.toNat < xs.length - x.toNat))) ∧ (bLt 1099511627776 ((rGet xs x).headD default).int = true → (false = Sp.cval xs ∧ True) ∧ True)) ∧ (bNot (Sp.cu ((rGet xs x).tail.headD default).int ((rGet xs x).tail.tail.headD default).int) = true → (false = Sp.cval xs ∧ True) ∧ True)))) ∧ (bLt x (iLen xs) = false → pLe (iLen xs) 9223372036854775807 → (bLe 1 (iLen xs) = true → pLe (iLen xs) 9223372036854775807 → (bLe (iLen xs) 64 = Sp.cval xs ∧ True) ∧ True) ∧ (bLe 1 (iLen xs) = false → (false = Sp.cval xs ∧ True) ∧ True))) := by kernel_rfl
theorem v17 (xs : List (List C)) : Holds (Wfs [.agg [.sl [.int .i64, .int .i64, .int .i64] xs]] → True → vcF Go.Proofs.Try.prog (look tb17) (fun _ => false) (fun _ ii => bif Nat.beq ii 2 then .inv Int (fun z => Sp.cvI xs z) (fun z => [(8, .int .i64 z)]) (fun _ => []) [] [0, 1, 2, 3, 4, 6, 7, 8, 9, 46] (fun z => xs.length - z.toNat) else .unroll 0) 6 17 [.agg [.sl [.int .i64, .int .i64, .int .i64] xs]] [] (fun sv heap => Gives [(false, [.bool])] [[.b (Sp.cval xs)]] sv heap)) := by
  refine ⟨fun hw hp => ?_⟩
  rw [e17]
  simp only [iAdd, iSub, iMul, iLen, eq_self, true_and, and_true, true_implies, implies_true]
  simp only [Wfs, Wf, and_true] at hw
  have hm : xs.length ≤ 9223372036854775807 := hw.1
  intro _
  refine ⟨⟨0, ⟨by omega, by omega, fun h => by omega⟩, rfl⟩, ?_⟩
  rintro i hI _
  have hI' := hI
  obtain ⟨i0, i1, _⟩ := hI'
  refine ⟨fun hlt => ?_, fun hge => ?_⟩
  rotate_left
  · simp only [bLt, decide_eq_false_iff_not] at hge
    rw [Sp.cvI_end hI hge]
    simp only [pLe, bLe]
    repeat' (first | apply And.intro | intro _)
    all_goals (first | assumption | (rw [decide_eq_decide]; simp only [decide_eq_true_eq] at *; omega) | (symm; rw [decide_eq_false_iff_not]; simp only [decide_eq_false_iff_not] at *; omega))
  simp only [bLt, decide_eq_true_eq] at hlt
  refine ⟨⟨i0, hlt⟩, fun _ => ?_⟩
  have B := fun hb => Sp.cvI_bad hI hlt hb
  have N : Sp.cu (Sp.cn (rGet xs i)) (Sp.cd (rGet xs i)) = true → Sp.cf (rGet xs i) ≤ 1099511627776 → (i = 0 → Sp.cf (rGet xs i) = 0) → (0 < i → Sp.cf (rGet xs (i - 1)) < Sp.cf (rGet xs i)) → InR IntKind.i64 (i + 1) ∧ ∃ y, Sp.cvI xs y ∧ i + 1 = y ∧ xs.length - y.toNat < xs.length - i.toNat := fun a b c d => by
    exact ⟨by simp only [InR]; omega, i + 1, Sp.cvI_next hI hlt a b c d, rfl, by omega⟩
  have ef : ∀ j, ((rGet xs j).headD default).int = Sp.cf (rGet xs j) := fun _ => rfl
  have en : ((rGet xs i).tail.headD default).int = Sp.cn (rGet xs i) := rfl
  have ed : ((rGet xs i).tail.tail.headD default).int = Sp.cd (rGet xs i) := rfl
  simp only [ef, en, ed]
  generalize Sp.cu (Sp.cn (rGet xs i)) (Sp.cd (rGet xs i)) = c at *
  generalize Sp.cf (rGet xs i) = F at *
  generalize Sp.cf (rGet xs (i - 1)) = L at *
  have B2 : c = true → (1099511627776 < F ∨ i = 0 ∧ F ≠ 0 ∨ 0 < i ∧ F ≤ L) → false = Sp.cval xs := fun _ h => B (.inr h)
  cases c
  · have b := B (.inl rfl)
    clear B N B2
    simp only [bNot, Bool.not_false, Bool.true_eq_false, false_implies, true_implies, true_and]
    repeat' (first | exact b | apply And.intro | intro _)
    all_goals (first | trivial | assumption)
  · have N := N rfl
    have B2 := B2 rfl
    clear B
    simp only [bNot, Bool.not_true, Bool.false_eq_true, false_implies, true_implies, true_and, and_true, bLt, bLe, bEq, bNe, decide_eq_true_eq, decide_eq_false_iff_not, Bool.not_eq_true', Bool.not_eq_false', Decidable.not_not, pIn]
    have R : InR IntKind.i64 (i - 1) := by simp only [InR]; omega
    repeat' (first | exact R | exact B2 (by omega) | exact N (by omega) (by omega) (by omega) | apply And.intro | intro _)
    all_goals omega
theorem s17 : SoundCt Go.Proofs.Try.prog 17 ct17 :=
  contractH followsMixed (look_sound (show Tb Go.Proofs.Try.prog tb17 from ⟨s30, trivial⟩)) (fun _ => false) (fun a => fun _ ii => bif Nat.beq ii 2 then .inv Int (fun z => Sp.cvI (cel 0 (arg 0 a)).list z) (fun z => [(8, .int .i64 z)]) (fun _ => []) [] [0, 1, 2, 3, 4, 6, 7, 8, 9, 46] (fun z => (cel 0 (arg 0 a)).list.length - z.toNat) else .unroll 0) 6 17 ct17 rfl (by simp [ct17]) fun a => Eq.mp (by kernel_rfl) (v17 ((cel 0 (arg 0 a)).list))
end Go.Sx

namespace Go.Sx
/-! ### function 18: ref13.Valid -/
def ct18 : Ct := { ps := [(true, [.sl [.int .i64, .int .i64, .int .i64]])], rs := [(false, [.bool])], pre := fun _ => True, out := fun a => [[.b (Sp.cval (cel 0 (arg 0 a)).list)]] }
def tb18 : List (Nat × Ct) := [(31, ct31)]
theorem e18 (xs : List (List C)) : vcF Go.Proofs.Try.prog (look tb18) (fun _ => false) (fun _ ii => bif Nat.beq ii 2 then .inv Int (fun z => Sp.cvI xs z) (fun z => [(8, .int .i64 z)]) (fun _ => []) [] [0, 1, 2, 3, 4, 6, 7, 8, 9, 46] (fun z => xs.length - z.toNat) else .unroll 0) 6 18 [.agg [.sl [.int .i64, .int .i64, .int .i64] xs]] [] (fun sv heap => Gives [(false, [.bool])] [[.b (Sp.cval xs)]] sv heap) = (pLe (iLen xs) 9223372036854775807 → (∃ (x : Int), Sp.cvI xs x ∧ true = true ∧ ((IntKind.i64 = IntKind.i64 ∧ 0 = x) ∧ True) ∧ True) ∧ (∀ (x : Int), true = true ∧ true = true) ∧ ∀ (x : Int), Sp.cvI xs x → InR IntKind.i64 x ∧ True → True → (bLt x (iLen xs) = true → pIn 0 (iLen xs) x ∧ (InR IntKind.i64 ((rGet xs x).headD default).int ∧ InR IntKind.i64 ((rGet xs x).tail.headD default).int ∧ InR IntKind.i64 ((rGet xs x).tail.tail.headD default).int ∧ True → True ∧ (True → True ∧ (bNot (Sp.cu ((rGet xs x).tail.headD default).int ((rGet xs x).tail.tail.headD default).int) = false → (bEq x 0 = true → (bNe ((rGet xs x).headD default).int 0 = false → (bLt 0 x = true → InR IntKind.i64 (iSub x 1) ∧ pIn 0 (iLen xs) (iSub x 1) ∧ (InR IntKind.i64 ((rGet xs (iSub x 1)).headD default).int → (bLe ((rGet xs x).headD default).int ((rGet xs (iSub x 1)).headD default).int = false → (bLt 1099511627776 ((rGet xs x).headD default).int = true → (false = Sp.cval xs ∧ True) ∧ True) ∧ (bLt 1099511627776 ((rGet xs x).headD default).int = false → InR IntKind.i64 (iAdd x 1) ∧ (true = true ∧ [SV.agg [SV.sl [Sh.int IntKind.i64, Sh.int IntKind.i64, Sh.int IntKind.i64] xs], SV.ref 0 0, SV.sl [Sh.int IntKind.i64, Sh.int IntKind.i64, Sh.int IntKind.i64] xs, SV.int IntKind.i64 (iLen xs)] = [SV.agg [SV.sl [Sh.int IntKind.i64, Sh.int IntKind.i64, Sh.int IntKind.i64] xs], SV.ref 0 0, SV.sl [Sh.int IntKind.i64, Sh.int IntKind.i64, Sh.int IntKind.i64] xs, SV.int IntKind.i64 (iLen xs)]) ∧ [HB.box [SV.sl [Sh.int IntKind.i64, Sh.int IntKind.i64, Sh.int IntKind.i64] xs] 24] = [HB.box [SV.sl [Sh.int IntKind.i64, Sh.int IntKind.i64, Sh.int IntKind.i64] xs] 24] ∧ ∃ (y : Int), Sp.cvI xs y ∧ true = true ∧ ((IntKind.i64 = IntKind.i64 ∧ iAdd x 1 = y) ∧ True) ∧ True ∧ xs.length - y.toNat < xs.length - x.toNat)) ∧ (bLe ((rGet xs x).headD default).int ((rGet xs (iSub x 1)).headD default).int = true → (false = Sp.cval xs ∧ True) ∧ True))) ∧ (bLt 0 x = false → (bLt 1099511627776 ((rGet xs x).headD default).int = true → (false = Sp.cval xs ∧ True) ∧ True) ∧ (bLt 1099511627776 ((rGet xs x).headD default).int = false → InR IntKind.i64 (iAdd x 1) ∧ (true = true ∧ [SV.agg [SV.sl [Sh.int IntKind.i64, Sh.int IntKind.i64, Sh.int IntKind.i64] xs], SV.ref 0 0, SV.sl [Sh.int IntKind.i64, Sh.int IntKind.i64, Sh.int IntKind.i64] xs, SV.int IntKind.i64 (iLen xs)] = [SV.agg [SV.sl [Sh.int IntKind.i64, Sh.int IntKind.i64, Sh.int IntKind.i64] xs], SV.ref 0 0, SV.sl [Sh.int IntKind.i64, Sh.int IntKind.i64, Sh.int IntKind.i64] xs, SV.int IntKind.i64 (iLen xs)]) ∧ [HB.box [SV.sl [Sh.int IntKind.i64, Sh.int IntKind.i64, Sh.int IntKind.i64] xs] 24] = [HB.box [SV.sl [Sh.int IntKind.i64, Sh.int IntKind.i64, Sh.int IntKind.i64] xs] 24] ∧ ∃ (y : Int), Sp.cvI xs y ∧ true = true ∧ ((IntKind.i64 = IntKind.i64 ∧ iAdd x 1 = y) ∧ True) ∧ True ∧ xs.length - y.toNat < xs.length - x.toNat))) ∧ (bNe ((rGet xs x).headD default).int 0 = true → (false = Sp.cval xs ∧ True) ∧ True)) ∧ (bEq x 0 = false → (bLt 0 x = true → InR IntKind.i64 (iSub x 1) ∧ pIn 0 (iLen xs) (iSub x 1) ∧ (InR IntKind.i64 ((rGet xs (iSub x 1)).headD default).int → (bLe ((rGet xs x).headD default).int ((rGet xs (iSub x 1)).headD default).int = false → (bLt 1099511627776 ((rGet xs x).headD default).int = true → (false = Sp.cval xs ∧ True) ∧ True) ∧ (bLt 1099511627776 ((rGet xs x).headD default).int = false → InR IntKind.i64 (iAdd x 1) ∧ (true = true ∧ [SV.agg [SV.sl [Sh.int IntKind.i64, Sh.int IntKind.i64, Sh.int IntKind.i64] xs], SV.ref 0 0, SV.sl [Sh.int IntKind.i64, Sh.int IntKind.i64, Sh.int IntKind.i64] xs, SV.int IntKind.i64 (iLen xs)] = [SV.agg [SV.sl [Sh.int IntKind.i64, Sh.int IntKind.i64, Sh.int IntKind.i64] xs], SV.ref 0 0, SV.sl [Sh.int IntKind.i64, Sh.int IntKind.i64, Sh.int IntKind.i64] xs, SV.int IntKind.i64 (iLen xs)]) ∧ [HB.box [SV.sl [Sh.int IntKind.i64, Sh.int IntKind.i64, Sh.int IntKind.i64] xs] 24] = [HB.box [SV.sl [Sh.int IntKind.i64, Sh.int IntKind.i64, Sh.int IntKind.i64] xs] 24] ∧ ∃ (y : Int), Sp.cvI xs y ∧ true = true ∧ ((IntKind.i64 = IntKind.i64 ∧ iAdd x 1 = y) ∧ True) ∧ True ∧ xs.length - y.toNat < xs.length - x.toNat)) ∧ (bLe ((rGet xs x).headD default).int ((rGet xs (iSub x 1)).headD default).int = true → (false = Sp.cval xs ∧ True) ∧ True))) ∧ (bLt 0 x = false → (bLt 1099511627776 ((rGet xs x).headD default).int = true → (false = Sp.cval xs ∧ True) ∧ True) ∧ (bLt 1099511627776 ((rGet xs x).headD default).int = false → InR IntKind.i64 (iAdd x 1) ∧ (true = true ∧ [SV.agg [SV.sl [Sh.int IntKind.i64, Sh.int IntKind.i64, Sh.int IntKind.i64] xs], SV.ref 0 0, SV.sl [Sh.int IntKind.i64, Sh.int IntKind.i64, Sh.int IntKind.i64] xs, SV.int IntKind.i64 (iLen xs)] = [SV.agg [SV.sl [Sh.int IntKind.i64, Sh.int IntKind.i64, Sh.int IntKind.i64] xs], SV.ref 0 0, SV.sl [Sh.int IntKind.i64, Sh.int IntKind.i64, Sh.int IntKind.i64] xs, SV.int IntKind.i64 (iLen xs)]) ∧ [HB.box [SV.sl [Sh.int IntKind.i64, Sh.int IntKind.i64, Sh.int IntKind.i64] xs] 24] = [HB.box [SV.sl [Sh.int IntKind.i64, Sh.int IntKind.i64, Sh.int IntKind.i64] xs] 24] ∧ ∃ (y : Int), Sp.cvI xs y ∧ true = true ∧ ((IntKind.i64 = IntKind.i64 ∧ iAdd x 1 = y) ∧ True) ∧ True ∧ xs.length - y.toNat < xs.length - x.toNat)))) ∧ (bNot (Sp.cu ((rGet xs x).tail.headD default).int ((rGet xs x).tail.tail.headD default).int) = true → (false = Sp.cval xs ∧ True) ∧ True)))) ∧ (bLt x (iLen xs) = false → pLe (iLen xs) 9223372036854775807 → (bLe 1 (iLen xs) = true → pLe (iLen xs) 9223372036854775807 → (bLe (iLen xs) 64 = Sp.cval xs ∧ True) ∧ True) ∧ (bLe 1 (iLen xs) = false → (false = Sp.cval xs ∧ True) ∧ True))) := by kernel_rfl
theorem v18 (xs : List (List C)) : Holds (Wfs [.agg [.sl [.int .i64, .int .i64, .int .i64] xs]] → True → vcF Go.Proofs.Try.prog (look tb18) (fun _ => false) (fun _ ii => bif Nat.beq ii 2 then .inv Int (fun z => Sp.cvI xs z) (fun z => [(8, .int .i64 z)]) (fun _ => []) [] [0, 1, 2, 3, 4, 6, 7, 8, 9, 46] (fun z => xs.length - z.toNat) else .unroll 0) 6 18 [.agg [.sl [.int .i64, .int .i64, .int .i64] xs]] [] (fun sv heap => Gives [(false, [.bool])] [[.b (Sp.cval xs)]] sv heap)) := by
  refine ⟨fun hw hp => ?_⟩
  rw [e18]
  simp only [iAdd, iSub, iMul, iLen, eq_self, true_and, and_true, true_implies, implies_true]
  simp only [Wfs, Wf, and_true] at hw
  have hm : xs.length ≤ 9223372036854775807 := hw.1
  intro _
  refine ⟨⟨0, ⟨by omega, by omega, fun h => by omega⟩, rfl⟩, ?_⟩
  rintro i hI _
  have hI' := hI
  obtain ⟨i0, i1, _⟩ := hI'
  refine ⟨fun hlt => ?_, fun hge => ?_⟩
  rotate_left
  · simp only [bLt, decide_eq_false_iff_not] at hge
    rw [Sp.cvI_end hI hge]
    simp only [pLe, bLe]
    repeat' (first | apply And.intro | intro _)
    all_goals (first | assumption | (rw [decide_eq_decide]; simp only [decide_eq_true_eq] at *; omega) | (symm; rw [decide_eq_false_iff_not]; simp only [decide_eq_false_iff_not] at *; omega))
  simp only [bLt, decide_eq_true_eq] at hlt
  refine ⟨⟨i0, hlt⟩, fun _ => ?_⟩
  have B := fun hb => Sp.cvI_bad hI hlt hb
  have N : Sp.cu (Sp.cn (rGet xs i)) (Sp.cd (rGet xs i)) = true → Sp.cf (rGet xs i) ≤ 1099511627776 → (i = 0 → Sp.cf (rGet xs i) = 0) → (0 < i → Sp.cf (rGet xs (i - 1)) < Sp.cf (rGet xs i)) → InR IntKind.i64 (i + 1) ∧ ∃ y, Sp.cvI xs y ∧ i + 1 = y ∧ xs.length - y.toNat < xs.length - i.toNat := fun a b c d => by
    exact ⟨by simp only [InR]; omega, i + 1, Sp.cvI_next hI hlt a b c d, rfl, by omega⟩
  have ef : ∀ j, ((rGet xs j).headD default).int = Sp.cf (rGet xs j) := fun _ => rfl
  have en : ((rGet xs i).tail.headD default).int = Sp.cn (rGet xs i) := rfl
  have ed : ((rGet xs i).tail.tail.headD default).int = Sp.cd (rGet xs i) := rfl
  simp only [ef, en, ed]
  generalize Sp.cu (Sp.cn (rGet xs i)) (Sp.cd (rGet xs i)) = c at *
  generalize Sp.cf (rGet xs i) = F at *
  generalize Sp.cf (rGet xs (i - 1)) = L at *
  have B2 : c = true → (1099511627776 < F ∨ i = 0 ∧ F ≠ 0 ∨ 0 < i ∧ F ≤ L) → false = Sp.cval xs := fun _ h => B (.inr h)
  cases c
  · have b := B (.inl rfl)
    clear B N B2
    simp only [bNot, Bool.not_false, Bool.true_eq_false, false_implies, true_implies, true_and]
    repeat' (first | exact b | apply And.intro | intro _)
    all_goals (first | trivial | assumption)
  · have N := N rfl
    have B2 := B2 rfl
    clear B
    simp only [bNot, Bool.not_true, Bool.false_eq_true, false_implies, true_implies, true_and, and_true, bLt, bLe, bEq, bNe, decide_eq_true_eq, decide_eq_false_iff_not, Bool.not_eq_true', Bool.not_eq_false', Decidable.not_not, pIn]
    have R : InR IntKind.i64 (i - 1) := by simp only [InR]; omega
    repeat' (first | exact R | exact B2 (by omega) | exact N (by omega) (by omega) (by omega) | apply And.intro | intro _)
    all_goals omega
theorem s18 : SoundCt Go.Proofs.Try.prog 18 ct18 :=
  contractH followsMixed (look_sound (show Tb Go.Proofs.Try.prog tb18 from ⟨s31, trivial⟩)) (fun _ => false) (fun a => fun _ ii => bif Nat.beq ii 2 then .inv Int (fun z => Sp.cvI (cel 0 (arg 0 a)).list z) (fun z => [(8, .int .i64 z)]) (fun _ => []) [] [0, 1, 2, 3, 4, 6, 7, 8, 9, 46] (fun z => (cel 0 (arg 0 a)).list.length - z.toNat) else .unroll 0) 6 18 ct18 rfl (by simp [ct18]) fun a => Eq.mp (by kernel_rfl) (v18 ((cel 0 (arg 0 a)).list))
end Go.Sx

namespace Go.Sx
/-! ### function 11: clock.New -/
def ct11 : Ct := { ps := [(true, [.int .i64, .int .i64])], rs := [(true, [.sl [.int .i64, .int .i64, .int .i64]]), (false, [.int .i64])], pre := fun _ => True, out := fun a => [[.l (Sp.nwV (cel 0 (arg 0 a)).int (cel 1 (arg 0 a)).int)], [.i (Sp.nwE (cel 0 (arg 0 a)).int (cel 1 (arg 0 a)).int)]] }
def tb11 : List (Nat × Ct) := [(30, ct30)]
theorem e11 (n : Int) (d : Int) : vcF Go.Proofs.Try.prog (look tb11) (fun _ => false) (fun _ _ => LoopAnn.unroll 200) 6 11 [.agg [.int .i64 n, .int .i64 d]] [] (fun sv heap => Gives [(true, [.sl [.int .i64, .int .i64, .int .i64]]), (false, [.int .i64])] [[.l (Sp.nwV n d)], [.i (Sp.nwE n d)]] sv heap) = (True ∧ (True → True ∧ (bNot (Sp.cu n d) = true → ([] = Sp.nwV n d ∧ True) ∧ (1 = Sp.nwE n d ∧ True) ∧ True) ∧ (bNot (Sp.cu n d) = false → ([[C.i 0, C.i n, C.i d]] = Sp.nwV n d ∧ True) ∧ (0 = Sp.nwE n d ∧ True) ∧ True))) := by kernel_rfl
theorem v11 (n : Int) (d : Int) : Holds (Wfs [.agg [.int .i64 n, .int .i64 d]] → True → vcF Go.Proofs.Try.prog (look tb11) (fun _ => false) (fun _ _ => LoopAnn.unroll 200) 6 11 [.agg [.int .i64 n, .int .i64 d]] [] (fun sv heap => Gives [(true, [.sl [.int .i64, .int .i64, .int .i64]]), (false, [.int .i64])] [[.l (Sp.nwV n d)], [.i (Sp.nwE n d)]] sv heap)) := by
  refine ⟨fun hw hp => ?_⟩
  rw [e11]
  simp only [iAdd, iSub, iMul, iLen, eq_self, true_and, and_true, true_implies, implies_true]
  unfold Sp.nwV Sp.nwE
  cases Sp.cu n d <;> simp [bNot]
theorem s11 : SoundCt Go.Proofs.Try.prog 11 ct11 :=
  contractH followsMixed (look_sound (show Tb Go.Proofs.Try.prog tb11 from ⟨s30, trivial⟩)) (fun _ => false) (fun _ => fun _ _ => LoopAnn.unroll 200) 6 11 ct11 rfl (by simp [ct11]) fun a => Eq.mp (by kernel_rfl) (v11 ((cel 0 (arg 0 a)).int) ((cel 1 (arg 0 a)).int))
end Go.Sx

namespace Go.Sx
/-! ### function 12: ref13.New -/
def ct12 : Ct := { ps := [(true, [.int .i64, .int .i64])], rs := [(true, [.sl [.int .i64, .int .i64, .int .i64]]), (false, [.int .i64])], pre := fun _ => True, out := fun a => [[.l (Sp.nwV (cel 0 (arg 0 a)).int (cel 1 (arg 0 a)).int)], [.i (Sp.nwE (cel 0 (arg 0 a)).int (cel 1 (arg 0 a)).int)]] }
def tb12 : List (Nat × Ct) := [(18, ct18)]
theorem e12 (n : Int) (d : Int) : vcF Go.Proofs.Try.prog (look tb12) (fun _ => false) (fun _ _ => LoopAnn.unroll 200) 6 12 [.agg [.int .i64 n, .int .i64 d]] [] (fun sv heap => Gives [(true, [.sl [.int .i64, .int .i64, .int .i64]]), (false, [.int .i64])] [[.l (Sp.nwV n d)], [.i (Sp.nwE n d)]] sv heap) = (True ∧ (True → True ∧ (bNot (Sp.cval [[C.i 0, C.i n, C.i d]]) = true → ([] = Sp.nwV n d ∧ True) ∧ (1 = Sp.nwE n d ∧ True) ∧ True) ∧ (bNot (Sp.cval [[C.i 0, C.i n, C.i d]]) = false → ([[C.i 0, C.i n, C.i d]] = Sp.nwV n d ∧ True) ∧ (0 = Sp.nwE n d ∧ True) ∧ True))) := by kernel_rfl
theorem v12 (n : Int) (d : Int) : Holds (Wfs [.agg [.int .i64 n, .int .i64 d]] → True → vcF Go.Proofs.Try.prog (look tb12) (fun _ => false) (fun _ _ => LoopAnn.unroll 200) 6 12 [.agg [.int .i64 n, .int .i64 d]] [] (fun sv heap => Gives [(true, [.sl [.int .i64, .int .i64, .int .i64]]), (false, [.int .i64])] [[.l (Sp.nwV n d)], [.i (Sp.nwE n d)]] sv heap)) := by
  refine ⟨fun hw hp => ?_⟩
  rw [e12]
  simp only [iAdd, iSub, iMul, iLen, eq_self, true_and, and_true, true_implies, implies_true]
  rw [Sp.cval_one]
  unfold Sp.nwV Sp.nwE
  cases Sp.cu n d <;> simp [bNot]
theorem s12 : SoundCt Go.Proofs.Try.prog 12 ct12 :=
  contractH followsMixed (look_sound (show Tb Go.Proofs.Try.prog tb12 from ⟨s18, trivial⟩)) (fun _ => false) (fun _ => fun _ _ => LoopAnn.unroll 200) 6 12 ct12 rfl (by simp [ct12]) fun a => Eq.mp (by kernel_rfl) (v12 ((cel 0 (arg 0 a)).int) ((cel 1 (arg 0 a)).int))
end Go.Sx

namespace Go.Sx
/-! ### function 15: clock.Change -/
def ct15 : Ct := { ps := [(true, [.sl [.int .i64, .int .i64, .int .i64]]), (false, [.int .i64]), (true, [.int .i64, .int .i64])], rs := [(true, [.sl [.int .i64, .int .i64, .int .i64]]), (false, [.int .i64])], pre := fun _ => True, out := fun a => [[.l (Sp.chV (cel 0 (arg 0 a)).list (cel 0 (arg 1 a)).int (cel 0 (arg 2 a)).int (cel 1 (arg 2 a)).int)], [.i (Sp.chE (cel 0 (arg 0 a)).list (cel 0 (arg 1 a)).int (cel 0 (arg 2 a)).int (cel 1 (arg 2 a)).int)]] }
def tb15 : List (Nat × Ct) := [(30, ct30), (17, ct17)]
theorem e15 (xs : List (List C)) (f : Int) (n : Int) (d : Int) : vcF Go.Proofs.Try.prog (look tb15) (fun _ => false) (fun _ _ => LoopAnn.unroll 200) 6 15 [.agg [.sl [.int .i64, .int .i64, .int .i64] xs], .int .i64 f, .agg [.int .i64 n, .int .i64 d]] [] (fun sv heap => Gives [(true, [.sl [.int .i64, .int .i64, .int .i64]]), (false, [.int .i64])] [[.l (Sp.chV xs f n d)], [.i (Sp.chE xs f n d)]] sv heap) = (pLe (iLen xs) 9223372036854775807 → True ∧ (True → True ∧ (bNot (Sp.cval xs) = true → ([] = Sp.chV xs f n d ∧ True) ∧ (1 = Sp.chE xs f n d ∧ True) ∧ True) ∧ (bNot (Sp.cval xs) = false → InR IntKind.i64 (iSub (iLen xs) 1) ∧ pIn 0 (iLen xs) (iSub (iLen xs) 1) ∧ (InR IntKind.i64 ((rGet xs (iSub (iLen xs) 1)).headD default).int → (bLe f ((rGet xs (iSub (iLen xs) 1)).headD default).int = false → (bLt 1099511627776 f = true → ([] = Sp.chV xs f n d ∧ True) ∧ (2 = Sp.chE xs f n d ∧ True) ∧ True) ∧ (bLt 1099511627776 f = false → True ∧ (True → True ∧ (bNot (Sp.cu n d) = true → ([] = Sp.chV xs f n d ∧ True) ∧ (1 = Sp.chE xs f n d ∧ True) ∧ True) ∧ (bNot (Sp.cu n d) = false → (bEq (iLen xs) 64 = true → ([] = Sp.chV xs f n d ∧ True) ∧ (3 = Sp.chE xs f n d ∧ True) ∧ True) ∧ (bEq (iLen xs) 64 = false → InR IntKind.i64 (iAdd (iLen xs) 1) ∧ (pLe 0 0 ∧ pLe 0 (iAdd (iLen xs) 1) ∧ pRoom 24 (iAdd (iLen xs) 1)) ∧ pRoom 24 (iLen (List.replicate (Int.toNat 0) [C.i 0, C.i 0, C.i 0] ++ xs)) ∧ pRoom 24 (iLen (List.replicate (Int.toNat 0) [C.i 0, C.i 0, C.i 0] ++ xs ++ [[C.i f, C.i n, C.i d]])) ∧ (List.replicate (Int.toNat 0) [C.i 0, C.i 0, C.i 0] ++ xs ++ [[C.i f, C.i n, C.i d]] = Sp.chV xs f n d ∧ True) ∧ (0 = Sp.chE xs f n d ∧ True) ∧ True))))) ∧ (bLe f ((rGet xs (iSub (iLen xs) 1)).headD default).int = true → ([] = Sp.chV xs f n d ∧ True) ∧ (2 = Sp.chE xs f n d ∧ True) ∧ True))))) := by kernel_rfl
theorem v15 (xs : List (List C)) (f : Int) (n : Int) (d : Int) : Holds (Wfs [.agg [.sl [.int .i64, .int .i64, .int .i64] xs], .int .i64 f, .agg [.int .i64 n, .int .i64 d]] → True → vcF Go.Proofs.Try.prog (look tb15) (fun _ => false) (fun _ _ => LoopAnn.unroll 200) 6 15 [.agg [.sl [.int .i64, .int .i64, .int .i64] xs], .int .i64 f, .agg [.int .i64 n, .int .i64 d]] [] (fun sv heap => Gives [(true, [.sl [.int .i64, .int .i64, .int .i64]]), (false, [.int .i64])] [[.l (Sp.chV xs f n d)], [.i (Sp.chE xs f n d)]] sv heap)) := by
  refine ⟨fun hw hp => ?_⟩
  rw [e15]
  simp only [iAdd, iSub, iMul, iLen, eq_self, true_and, and_true, true_implies, implies_true]
  simp only [pLe]
  have el : ((rGet xs ((xs.length : Int) - 1)).headD default).int = Sp.lastF xs := rfl
  simp only [el]
  intro _
  refine ⟨fun hv => ?_, fun hv => ?_⟩
  · exact Sp.chV_no (Sp.chE1 (by simpa [bNot] using hv)) (by omega)
  have hv : Sp.cval xs = true := by simpa [bNot] using hv
  have hl := Sp.cval_len hv
  refine ⟨by simp only [InR]; omega, ⟨by omega, by omega⟩, fun _ => ⟨fun h1 => ⟨fun h2 => ?_, fun h2 => ⟨fun h3 => ?_, fun h3 => ⟨fun h4 => ?_, fun h4 => ?_⟩⟩⟩, fun h1 => ?_⟩⟩
  · exact Sp.chV_no (Sp.chE2 hv (.inr (by simpa [bLt] using h2))) (by omega)
  · simp only [bLe, bLt, decide_eq_false_iff_not] at h1 h2
    exact Sp.chV_no (Sp.chE3 hv (by omega) (by simpa [bNot] using h3)) (by omega)
  rotate_left 2
  · exact Sp.chV_no (Sp.chE2 hv (.inl (by simpa [bLe] using h1))) (by omega)
  · simp only [bLe, bLt, decide_eq_false_iff_not] at h1 h2
    have hc : Sp.cu n d = true := by simpa [bNot] using h3
    simp only [bEq, decide_eq_true_eq, decide_eq_false_iff_not] at h4
    have e4 : Sp.chE xs f n d = 3 := Sp.chE4 hv (by omega) hc (by omega)
    exact Sp.chV_no e4 (by omega)
  · simp only [bLe, bLt, decide_eq_false_iff_not] at h1 h2
    have hc : Sp.cu n d = true := by simpa [bNot] using h3
    simp only [bEq, decide_eq_true_eq, decide_eq_false_iff_not] at h4
    have e4 : Sp.chE xs f n d = 0 := Sp.chE0 hv (by omega) hc (by omega)
    have y := Sp.chV_yes e4
    simp only [show List.replicate (Int.toNat 0) [C.i 0, C.i 0, C.i 0] = [] from rfl, List.nil_append]
    exact ⟨by simp only [InR]; omega, by simp only [pRoom]; omega, by simp only [pRoom]; omega, by simp only [pRoom, List.length_append, List.length_cons, List.length_nil]; omega, y⟩
theorem s15 : SoundCt Go.Proofs.Try.prog 15 ct15 :=
  contractH followsMixed (look_sound (show Tb Go.Proofs.Try.prog tb15 from ⟨s30, ⟨s17, trivial⟩⟩)) (fun _ => false) (fun _ => fun _ _ => LoopAnn.unroll 200) 6 15 ct15 rfl (by simp [ct15]) fun a => Eq.mp (by kernel_rfl) (v15 ((cel 0 (arg 0 a)).list) ((cel 0 (arg 1 a)).int) ((cel 0 (arg 2 a)).int) ((cel 1 (arg 2 a)).int))
end Go.Sx

namespace Go.Sx
/-! ### function 16: ref13.Change -/
def ct16 : Ct := { ps := [(true, [.sl [.int .i64, .int .i64, .int .i64]]), (false, [.int .i64]), (true, [.int .i64, .int .i64])], rs := [(true, [.sl [.int .i64, .int .i64, .int .i64]]), (false, [.int .i64])], pre := fun _ => True, out := fun a => [[.l (Sp.chV (cel 0 (arg 0 a)).list (cel 0 (arg 1 a)).int (cel 0 (arg 2 a)).int (cel 1 (arg 2 a)).int)], [.i (Sp.chE (cel 0 (arg 0 a)).list (cel 0 (arg 1 a)).int (cel 0 (arg 2 a)).int (cel 1 (arg 2 a)).int)]] }
def tb16 : List (Nat × Ct) := [(18, ct18), (31, ct31)]
theorem e16 (xs : List (List C)) (f : Int) (n : Int) (d : Int) : vcF Go.Proofs.Try.prog (look tb16) (fun _ => false) (fun _ _ => LoopAnn.unroll 200) 6 16 [.agg [.sl [.int .i64, .int .i64, .int .i64] xs], .int .i64 f, .agg [.int .i64 n, .int .i64 d]] [] (fun sv heap => Gives [(true, [.sl [.int .i64, .int .i64, .int .i64]]), (false, [.int .i64])] [[.l (Sp.chV xs f n d)], [.i (Sp.chE xs f n d)]] sv heap) = (True ∧ (True → True ∧ (bNot (Sp.cval xs) = true → ([] = Sp.chV xs f n d ∧ True) ∧ (1 = Sp.chE xs f n d ∧ True) ∧ True) ∧ (bNot (Sp.cval xs) = false → pLe (iLen xs) 9223372036854775807 → InR IntKind.i64 (iSub (iLen xs) 1) ∧ pIn 0 (iLen xs) (iSub (iLen xs) 1) ∧ (InR IntKind.i64 ((rGet xs (iSub (iLen xs) 1)).headD default).int → (bLe f ((rGet xs (iSub (iLen xs) 1)).headD default).int = false → (bLt 1099511627776 f = true → ([] = Sp.chV xs f n d ∧ True) ∧ (2 = Sp.chE xs f n d ∧ True) ∧ True) ∧ (bLt 1099511627776 f = false → True ∧ (True → True ∧ (bNot (Sp.cu n d) = true → ([] = Sp.chV xs f n d ∧ True) ∧ (1 = Sp.chE xs f n d ∧ True) ∧ True) ∧ (bNot (Sp.cu n d) = false → pLe (iLen xs) 9223372036854775807 → (bLe 64 (iLen xs) = true → ([] = Sp.chV xs f n d ∧ True) ∧ (3 = Sp.chE xs f n d ∧ True) ∧ True) ∧ (bLe 64 (iLen xs) = false → pRoom 24 (iLen xs) ∧ pRoom 24 (iLen (xs ++ [[C.i f, C.i n, C.i d]])) ∧ (xs ++ [[C.i f, C.i n, C.i d]] = Sp.chV xs f n d ∧ True) ∧ (0 = Sp.chE xs f n d ∧ True) ∧ True))))) ∧ (bLe f ((rGet xs (iSub (iLen xs) 1)).headD default).int = true → ([] = Sp.chV xs f n d ∧ True) ∧ (2 = Sp.chE xs f n d ∧ True) ∧ True))))) := by kernel_rfl
theorem v16 (xs : List (List C)) (f : Int) (n : Int) (d : Int) : Holds (Wfs [.agg [.sl [.int .i64, .int .i64, .int .i64] xs], .int .i64 f, .agg [.int .i64 n, .int .i64 d]] → True → vcF Go.Proofs.Try.prog (look tb16) (fun _ => false) (fun _ _ => LoopAnn.unroll 200) 6 16 [.agg [.sl [.int .i64, .int .i64, .int .i64] xs], .int .i64 f, .agg [.int .i64 n, .int .i64 d]] [] (fun sv heap => Gives [(true, [.sl [.int .i64, .int .i64, .int .i64]]), (false, [.int .i64])] [[.l (Sp.chV xs f n d)], [.i (Sp.chE xs f n d)]] sv heap)) := by
  refine ⟨fun hw hp => ?_⟩
  rw [e16]
  simp only [iAdd, iSub, iMul, iLen, eq_self, true_and, and_true, true_implies, implies_true]
  simp only [pLe]
  have el : ((rGet xs ((xs.length : Int) - 1)).headD default).int = Sp.lastF xs := rfl
  simp only [el]
  refine ⟨fun hv => ?_, fun hv _ => ?_⟩
  · exact Sp.chV_no (Sp.chE1 (by simpa [bNot] using hv)) (by omega)
  have hv : Sp.cval xs = true := by simpa [bNot] using hv
  have hl := Sp.cval_len hv
  refine ⟨by simp only [InR]; omega, ⟨by omega, by omega⟩, fun _ => ⟨fun h1 => ⟨fun h2 => ?_, fun h2 => ⟨fun h3 => ?_, fun h3 _ => ⟨fun h4 => ?_, fun h4 => ?_⟩⟩⟩, fun h1 => ?_⟩⟩
  · exact Sp.chV_no (Sp.chE2 hv (.inr (by simpa [bLt] using h2))) (by omega)
  · simp only [bLe, bLt, decide_eq_false_iff_not] at h1 h2
    exact Sp.chV_no (Sp.chE3 hv (by omega) (by simpa [bNot] using h3)) (by omega)
  rotate_left 2
  · exact Sp.chV_no (Sp.chE2 hv (.inl (by simpa [bLe] using h1))) (by omega)
  · simp only [bLe, bLt, decide_eq_false_iff_not, decide_eq_true_eq] at h1 h2 h4
    have hc : Sp.cu n d = true := by simpa [bNot] using h3
    have e4 : Sp.chE xs f n d = 3 := Sp.chE4 hv (by omega) hc (by omega)
    exact Sp.chV_no e4 (by omega)
  · simp only [bLe, bLt, decide_eq_false_iff_not, decide_eq_true_eq] at h1 h2 h4
    have hc : Sp.cu n d = true := by simpa [bNot] using h3
    have e4 : Sp.chE xs f n d = 0 := Sp.chE0 hv (by omega) hc (by omega)
    have y := Sp.chV_yes e4
    exact ⟨by simp only [pRoom]; omega, by simp only [pRoom, List.length_append, List.length_cons, List.length_nil]; omega, y⟩
theorem s16 : SoundCt Go.Proofs.Try.prog 16 ct16 :=
  contractH followsMixed (look_sound (show Tb Go.Proofs.Try.prog tb16 from ⟨s18, ⟨s31, trivial⟩⟩)) (fun _ => false) (fun _ => fun _ _ => LoopAnn.unroll 200) 6 16 ct16 rfl (by simp [ct16]) fun a => Eq.mp (by kernel_rfl) (v16 ((cel 0 (arg 0 a)).list) ((cel 0 (arg 1 a)).int) ((cel 0 (arg 2 a)).int) ((cel 1 (arg 2 a)).int))
end Go.Sx

namespace Go.Sx
/-! ### function 13: ref13.Same -/
def ct13 : Ct := { ps := [(true, [.sl [.int .i64, .int .i64, .int .i64]]), (true, [.sl [.int .i64, .int .i64, .int .i64]])], rs := [(false, [.bool])], pre := fun _ => True, out := fun a => [[.b (Sp.sameC (cel 0 (arg 0 a)).list (cel 0 (arg 1 a)).list)]] }
def tb13 : List (Nat × Ct) := []
theorem e13 (xs : List (List C)) (ys : List (List C)) : vcF Go.Proofs.Try.prog (look tb13) (fun _ => false) (fun _ ii => bif Nat.beq ii 4 then .inv Int (fun z => Sp.scI xs ys z) (fun z => [(16, .int .i64 z)]) (fun _ => []) [] [0, 1, 2, 3, 4, 5, 12, 15, 16, 17, 29] (fun z => xs.length - z.toNat) else .unroll 0) 6 13 [.agg [.sl [.int .i64, .int .i64, .int .i64] xs], .agg [.sl [.int .i64, .int .i64, .int .i64] ys]] [] (fun sv heap => Gives [(false, [.bool])] [[.b (Sp.sameC xs ys)]] sv heap) = (pLe (iLen xs) 9223372036854775807 → pLe (iLen ys) 9223372036854775807 → (bNe (iLen xs) (iLen ys) = true → (false = Sp.sameC xs ys ∧ True) ∧ True) ∧ (bNe (iLen xs) (iLen ys) = false → pLe (iLen xs) 9223372036854775807 → (∃ (x : Int), Sp.scI xs ys x ∧ true = true ∧ ((IntKind.i64 = IntKind.i64 ∧ 0 = x) ∧ True) ∧ True) ∧ (∀ (x : Int), true = true ∧ true = true) ∧ ∀ (x : Int), Sp.scI xs ys x → InR IntKind.i64 x ∧ True → True → (bLt x (iLen xs) = true → pIn 0 (iLen xs) x ∧ (InR IntKind.i64 ((rGet xs x).headD default).int ∧ InR IntKind.i64 ((rGet xs x).tail.headD default).int ∧ InR IntKind.i64 ((rGet xs x).tail.tail.headD default).int ∧ True → pIn 0 (iLen ys) x ∧ (InR IntKind.i64 ((rGet ys x).headD default).int ∧ InR IntKind.i64 ((rGet ys x).tail.headD default).int ∧ InR IntKind.i64 ((rGet ys x).tail.tail.headD default).int ∧ True → (bNot (bAnd (bEq ((rGet xs x).headD default).int ((rGet ys x).headD default).int) (bAnd (bEq ((rGet xs x).tail.headD default).int ((rGet ys x).tail.headD default).int) (bEq ((rGet xs x).tail.tail.headD default).int ((rGet ys x).tail.tail.headD default).int))) = true → (false = Sp.sameC xs ys ∧ True) ∧ True) ∧ (bNot (bAnd (bEq ((rGet xs x).headD default).int ((rGet ys x).headD default).int) (bAnd (bEq ((rGet xs x).tail.headD default).int ((rGet ys x).tail.headD default).int) (bEq ((rGet xs x).tail.tail.headD default).int ((rGet ys x).tail.tail.headD default).int))) = false → InR IntKind.i64 (iAdd x 1) ∧ (true = true ∧ [SV.agg [SV.sl [Sh.int IntKind.i64, Sh.int IntKind.i64, Sh.int IntKind.i64] xs], SV.agg [SV.sl [Sh.int IntKind.i64, Sh.int IntKind.i64, Sh.int IntKind.i64] ys], SV.ref 0 0, SV.ref 1 0, SV.blit false, SV.int IntKind.i64 (iLen xs)] = [SV.agg [SV.sl [Sh.int IntKind.i64, Sh.int IntKind.i64, Sh.int IntKind.i64] xs], SV.agg [SV.sl [Sh.int IntKind.i64, Sh.int IntKind.i64, Sh.int IntKind.i64] ys], SV.ref 0 0, SV.ref 1 0, SV.blit false, SV.int IntKind.i64 (iLen xs)]) ∧ [HB.box [SV.sl [Sh.int IntKind.i64, Sh.int IntKind.i64, Sh.int IntKind.i64] xs] 24, HB.box [SV.sl [Sh.int IntKind.i64, Sh.int IntKind.i64, Sh.int IntKind.i64] ys] 24] = [HB.box [SV.sl [Sh.int IntKind.i64, Sh.int IntKind.i64, Sh.int IntKind.i64] xs] 24, HB.box [SV.sl [Sh.int IntKind.i64, Sh.int IntKind.i64, Sh.int IntKind.i64] ys] 24] ∧ ∃ (y : Int), Sp.scI xs ys y ∧ true = true ∧ ((IntKind.i64 = IntKind.i64 ∧ iAdd x 1 = y) ∧ True) ∧ True ∧ xs.length - y.toNat < xs.length - x.toNat)))) ∧ (bLt x (iLen xs) = false → (true = Sp.sameC xs ys ∧ True) ∧ True))) := by kernel_rfl
theorem v13 (xs : List (List C)) (ys : List (List C)) : Holds (Wfs [.agg [.sl [.int .i64, .int .i64, .int .i64] xs], .agg [.sl [.int .i64, .int .i64, .int .i64] ys]] → True → vcF Go.Proofs.Try.prog (look tb13) (fun _ => false) (fun _ ii => bif Nat.beq ii 4 then .inv Int (fun z => Sp.scI xs ys z) (fun z => [(16, .int .i64 z)]) (fun _ => []) [] [0, 1, 2, 3, 4, 5, 12, 15, 16, 17, 29] (fun z => xs.length - z.toNat) else .unroll 0) 6 13 [.agg [.sl [.int .i64, .int .i64, .int .i64] xs], .agg [.sl [.int .i64, .int .i64, .int .i64] ys]] [] (fun sv heap => Gives [(false, [.bool])] [[.b (Sp.sameC xs ys)]] sv heap)) := by
  refine ⟨fun hw hp => ?_⟩
  rw [e13]
  simp only [Wfs, Wf, and_true] at hw
  have hm : xs.length ≤ 9223372036854775807 := hw.1.1
  simp only [iAdd, iSub, iMul, iLen, eq_self, true_and, and_true, true_implies, implies_true]
  intro _ _
  refine ⟨fun hne => ?_, fun heq _ => ⟨⟨0, ⟨by omega, by omega, rfl⟩, rfl⟩, ?_⟩⟩
  · rw [Sp.sameC_ne xs ys (fun h => by simp [bNe, h] at hne)]
  have hl : (xs.length : Int) = (ys.length : Int) := by simpa [bNe] using heq
  rintro i ⟨i0, i1, hr⟩ _
  refine ⟨fun hlt => ?_, fun hge => ?_⟩
  rotate_left
  · simp only [bLt, decide_eq_false_iff_not] at hge
    rw [← hr, List.drop_eq_nil_of_le (by omega), List.drop_eq_nil_of_le (by omega)]; rfl
  simp only [bLt, decide_eq_true_eq] at hlt
  rw [Sp.drop_cons i0 hlt, Sp.drop_cons i0 (by omega), Sp.sameC] at hr
  refine ⟨⟨i0, hlt⟩, fun _ => ⟨⟨i0, by omega⟩, fun _ => ⟨fun hb => ?_, fun hb => ?_⟩⟩⟩
  · generalize hc : (decide (Sp.cf (rGet xs i) = Sp.cf (rGet ys i)) && (decide (Sp.cn (rGet xs i) = Sp.cn (rGet ys i)) && decide (Sp.cd (rGet xs i) = Sp.cd (rGet ys i)))) = c at hr
    have hb' : bNot c = true := by rw [← hc]; exact hb
    cases c
    · rw [← hr]; rfl
    · cases hb'
  · generalize hc : (decide (Sp.cf (rGet xs i) = Sp.cf (rGet ys i)) && (decide (Sp.cn (rGet xs i) = Sp.cn (rGet ys i)) && decide (Sp.cd (rGet xs i) = Sp.cd (rGet ys i)))) = c at hr
    have hb' : bNot c = false := by rw [← hc]; exact hb
    cases c
    · cases hb'
    · exact ⟨by simp only [InR]; omega, i + 1, ⟨by omega, by omega, hr⟩, rfl, by omega⟩
theorem s13 : SoundCt Go.Proofs.Try.prog 13 ct13 :=
  contractH followsMixed (look_sound (show Tb Go.Proofs.Try.prog tb13 from trivial)) (fun _ => false) (fun a => fun _ ii => bif Nat.beq ii 4 then .inv Int (fun z => Sp.scI (cel 0 (arg 0 a)).list (cel 0 (arg 1 a)).list z) (fun z => [(16, .int .i64 z)]) (fun _ => []) [] [0, 1, 2, 3, 4, 5, 12, 15, 16, 17, 29] (fun z => (cel 0 (arg 0 a)).list.length - z.toNat) else .unroll 0) 6 13 ct13 rfl (by simp [ct13]) fun a => Eq.mp (by kernel_rfl) (v13 ((cel 0 (arg 0 a)).list) ((cel 0 (arg 1 a)).list))
end Go.Sx

namespace Go.Sx
/-! ### function 10: keep.Clock -/
def ct10 : Ct := { ps := [(true, [.sl [.int .i64, .int .i64, .int .i64]])], rs := [(false, [.bool])], pre := fun _ => True, out := fun a => [[.b (Sp.k66 (cel 0 (arg 0 a)).list)]] }
def tb10 : List (Nat × Ct) := []
theorem e10 (xs : List (List C)) : vcF Go.Proofs.Try.prog (look tb10) (fun _ => false) (fun _ _ => LoopAnn.unroll 200) 6 10 [.agg [.sl [.int .i64, .int .i64, .int .i64] xs]] [] (fun sv heap => Gives [(false, [.bool])] [[.b (Sp.k66 xs)]] sv heap) = (pLe (iLen xs) 9223372036854775807 → (bLe (iLen xs) 66 = Sp.k66 xs ∧ True) ∧ True) := by kernel_rfl
theorem v10 (xs : List (List C)) : Holds (Wfs [.agg [.sl [.int .i64, .int .i64, .int .i64] xs]] → True → vcF Go.Proofs.Try.prog (look tb10) (fun _ => false) (fun _ _ => LoopAnn.unroll 200) 6 10 [.agg [.sl [.int .i64, .int .i64, .int .i64] xs]] [] (fun sv heap => Gives [(false, [.bool])] [[.b (Sp.k66 xs)]] sv heap)) := by
  refine ⟨fun hw hp => ?_⟩
  rw [e10]
  simp only [iAdd, iSub, iMul, iLen, eq_self, true_and, and_true, true_implies, implies_true]
  exact fun _ => rfl
theorem s10 : SoundCt Go.Proofs.Try.prog 10 ct10 :=
  contractH followsMixed (look_sound (show Tb Go.Proofs.Try.prog tb10 from trivial)) (fun _ => false) (fun _ => fun _ _ => LoopAnn.unroll 200) 6 10 ct10 rfl (by simp [ct10]) fun a => Eq.mp (by kernel_rfl) (v10 ((cel 0 (arg 0 a)).list))
end Go.Sx

