/- Contracts and conditions, continued. -/
import Derived.Test.YtfeejcmeibfomaaSxUse
import Derived.Test.YtfeejcmeibfomaaP31p
import Derived.KernelRfl
set_option linter.unusedVariables false
set_option linter.unusedSimpArgs false
set_option maxRecDepth 100000
set_option maxHeartbeats 4000000

namespace Go
open Go.Sx
def Sp.i1 (x : List C) : Int := (x.tail.headD default).int
def Sp.i4 (x : List C) : Int := (x.tail.tail.tail.tail.headD default).int
def Sp.i5 (x : List C) : Int := (x.tail.tail.tail.tail.tail.headD default).int
def Sp.dEq (x y : List C) : Bool := decide (Sp.i0 x = Sp.i0 y ∧ Sp.i1 x = Sp.i1 y ∧ Sp.i2 x = Sp.i2 y ∧ Sp.i3 x = Sp.i3 y ∧ Sp.i4 x = Sp.i4 y ∧ Sp.i5 x = Sp.i5 y)
def Sp.dP (a b : List (List C)) (z : Int) : Bool := Sp.dEq (rGet a z) (rGet b z)
def Sp.sD (a b : List (List C)) : Bool := decide (a.length = b.length) && Sp.allB (Sp.dP a b) a.length
def Sp.nP (a b : List (List C)) (z : Int) : Bool := (Sp.s0 (rGet a z)).toList == (Sp.s0 (rGet b z)).toList
def Sp.sN (a b : List (List C)) : Bool := decide (a.length = b.length) && Sp.allB (Sp.nP a b) a.length
end Go

namespace Go
open Go.Sx
theorem Sp.dEq_b (x y : List C) : (decide (Sp.i0 x = Sp.i0 y) && (decide (Sp.i1 x = Sp.i1 y) && (decide (Sp.i2 x = Sp.i2 y) && (decide (Sp.i3 x = Sp.i3 y) && (decide (Sp.i4 x = Sp.i4 y) && decide (Sp.i5 x = Sp.i5 y)))))) = Sp.dEq x y := by
  unfold Sp.dEq; simp only [Bool.decide_and]
section
variable {p : Int → Bool} {a b : List (List C)}
theorem Sp.same_ne (h : ¬ a.length = b.length) : (decide (a.length = b.length) && Sp.allB p a.length) = false := by rw [decide_eq_false h]; rfl
theorem Sp.same_bad {x : Int} (h0 : 0 ≤ x) (hx : x < (a.length : Int)) (h : p x = false) : (decide (a.length = b.length) && Sp.allB p a.length) = false := by rw [Sp.all_bad h0 hx h, Bool.and_false]
theorem Sp.same_end {x : Int} (h : a.length = b.length ∧ Sp.alI p a.length x) (hx : ¬ x < (a.length : Int)) : (decide (a.length = b.length) && Sp.allB p a.length) = true := by rw [Sp.all_end h.2 hx, decide_eq_true h.1]; rfl
end
theorem Sp.sD_self (a : List (List C)) : Sp.sD a a = true := by
  unfold Sp.sD
  rw [decide_eq_true rfl, Bool.true_and, Sp.all_iff]
  intro i _
  unfold Sp.dP Sp.dEq
  exact decide_eq_true ⟨rfl, rfl, rfl, rfl, rfl, rfl⟩
theorem Sp.sN_self (a : List (List C)) : Sp.sN a a = true := by
  unfold Sp.sN
  rw [decide_eq_true rfl, Bool.true_and, Sp.all_iff]
  intro i _
  unfold Sp.nP
  rw [beq_iff_eq]
theorem Sp.sk_add {l : List (List C)} : ∀ (n : Nat) (s : Int × List (List C)), (Sp.itr (Sp.skF l) n s).2.length = s.2.length + n
  | 0, _ => rfl
  | n + 1, s => by rw [Sp.itr, Sp.sk_add n]; simp only [Sp.skF, List.length_append, List.length_singleton]; omega
theorem Sp.skO_len {l : List (List C)} {a : Int} : (Sp.skO l a).length ≤ 5 := by
  have b := Sp.kn_bd (l := l) (a := a) (n := 6) (by omega)
  unfold Sp.skO Sp.skZ
  rw [Sp.sk_add]; simp only [List.length_nil]; omega
theorem Sp.wt_add {l : List (List C)} : ∀ (n : Nat) (s : Int × List (List C)), (Sp.itr (Sp.wtF l) n s).2.length = s.2.length + n
  | 0, _ => rfl
  | n + 1, s => by rw [Sp.itr, Sp.wt_add n]; simp only [Sp.wtF, List.length_append, List.length_singleton]; omega
theorem Sp.wtO_len {l : List (List C)} {a : Int} : (Sp.wtO l a).length ≤ 4 := by
  have b := Sp.kn_bd (l := l) (a := a) (n := 5) (by omega)
  unfold Sp.wtO Sp.wtZ
  rw [Sp.wt_add]; simp only [List.length_nil]; omega
theorem Sp.rs_add {l : List (List C)} : ∀ (n : Nat) (s : Int × List (List C)), (Sp.itr (Sp.rsF l) n s).2.length = s.2.length + n
  | 0, _ => rfl
  | n + 1, s => by rw [Sp.itr, Sp.rs_add n]; simp only [Sp.rsF, List.length_append, List.length_singleton]; omega
theorem Sp.rsO_len {l : List (List C)} {a : Int} : (Sp.rsO l a).length ≤ 5 := by
  have b := Sp.kn_bd (l := l) (a := a) (n := 6) (by omega)
  unfold Sp.rsO Sp.rsZ
  rw [Sp.rs_add]; simp only [List.length_nil]; omega
section
variable {l : List (List C)} {a : Int}
theorem Sp.skA_nn (h : 0 ≤ a) : 0 ≤ Sp.skA l a := by
  unfold Sp.skA Sp.skZ
  exact Sp.itr_ind (P := fun s : Int × List (List C) => 0 ≤ s.1) (fun s hs => Sp.ka_nn (Sp.ka_nn (Sp.ka_nn hs))) _ _ (Sp.ka_nn h)
theorem Sp.wtA_nn (h : 0 ≤ a) : 0 ≤ Sp.wtA l a := by
  unfold Sp.wtA Sp.wtZ
  exact Sp.itr_ind (P := fun s : Int × List (List C) => 0 ≤ s.1) (fun s hs => Sp.ka_nn (Sp.ka_nn (Sp.ka_nn (Sp.ka_nn hs)))) _ _ (Sp.ka_nn h)
theorem Sp.rsA_nn (h : 0 ≤ a) : 0 ≤ Sp.rsA l a := by
  unfold Sp.rsA Sp.rsZ
  exact Sp.itr_ind (P := fun s : Int × List (List C) => 0 ≤ s.1) (fun s hs => Sp.ruA_nn hs) _ _ (Sp.ka_nn h)
theorem Sp.meA_nn (h : 0 ≤ a) : 0 ≤ Sp.meA l a := by
  unfold Sp.meA Sp.meZ
  exact Sp.itr_ind (P := fun s : Int × List (List C) => 0 ≤ s.1) (fun s hs => Sp.chA_nn hs) _ _ (Sp.ka_nn h)
end
end Go

namespace Go.Sx
/-! ### function 13: ref31.Same -/
def ct13 : Ct := { ps := [(false, [.sl [.int .i64, .int .u64, .int .i64, .int .i64, .int .i64, .int .i64]]), (false, [.sl [.int .i64, .int .u64, .int .i64, .int .i64, .int .i64, .int .i64]])], rs := [(false, [.bool])], pre := fun _ => True, out := fun a => [[.b (Sp.sD (cel 0 (arg 0 a)).list (cel 0 (arg 1 a)).list)]] }
def tb13 : List (Nat × Ct) := []
def A13 (a : List (List C)) (b : List (List C)) : FuncId → Nat → LoopAnn := fun _ ii => bif Nat.beq ii 4 then .inv Int (fun z => a.length = b.length ∧ Sp.alI (Sp.dP a b) a.length z) (fun z => [(5, .int .i64 z)]) (fun _ => []) [] [0, 1, 4, 5, 10, 14, 25] (fun z => a.length - z.toNat) else .unroll 0
abbrev B13 (a : List (List C)) (b : List (List C)) : Prop := vcF Go.Proofs.Try.prog (look tb13) (fun _ => false) (A13 a b) 6 13 [.sl [.int .i64, .int .u64, .int .i64, .int .i64, .int .i64, .int .i64] a, .sl [.int .i64, .int .u64, .int .i64, .int .i64, .int .i64, .int .i64] b] [] (fun sv heap => Gives [(false, [.bool])] [[.b (Sp.sD a b)]] sv heap)
theorem e13 (a : List (List C)) (b : List (List C)) : B13 a b = (pLe (iLen a) 9223372036854775807 → pLe (iLen b) 9223372036854775807 → (bNe (iLen a) (iLen b) = true → (false = Sp.sD a b ∧ True) ∧ True) ∧ (bNe (iLen a) (iLen b) = false → (∃ (x : Int), (a.length = b.length ∧ Sp.alI (Sp.dP a b) a.length x) ∧ true = true ∧ ((IntKind.i64 = IntKind.i64 ∧ 0 = x) ∧ True) ∧ True) ∧ (∀ (x : Int), true = true ∧ true = true) ∧ ∀ (x : Int), a.length = b.length ∧ Sp.alI (Sp.dP a b) a.length x → InR .i64 x ∧ True → True → pLe (iLen a) 9223372036854775807 → (bLt x (iLen a) = true → pIn 0 (iLen a) x ∧ (InR .i64 (q0 (rGet a x)) ∧ InR .u64 (q1 (rGet a x)) ∧ InR .i64 (q2 (rGet a x)) ∧ InR .i64 (q3 (rGet a x)) ∧ InR .i64 (q4 (rGet a x)) ∧ InR .i64 (q5 (rGet a x)) ∧ True → pIn 0 (iLen b) x ∧ (InR .i64 (q0 (rGet b x)) ∧ InR .u64 (q1 (rGet b x)) ∧ InR .i64 (q2 (rGet b x)) ∧ InR .i64 (q3 (rGet b x)) ∧ InR .i64 (q4 (rGet b x)) ∧ InR .i64 (q5 (rGet b x)) ∧ True → (bNot (bAnd (bEq (q0 (rGet a x)) (q0 (rGet b x))) (bAnd (bEq (q1 (rGet a x)) (q1 (rGet b x))) (bAnd (bEq (q2 (rGet a x)) (q2 (rGet b x))) (bAnd (bEq (q3 (rGet a x)) (q3 (rGet b x))) (bAnd (bEq (q4 (rGet a x)) (q4 (rGet b x))) (bEq (q5 (rGet a x)) (q5 (rGet b x)))))))) = true → (false = Sp.sD a b ∧ True) ∧ True) ∧ (bNot (bAnd (bEq (q0 (rGet a x)) (q0 (rGet b x))) (bAnd (bEq (q1 (rGet a x)) (q1 (rGet b x))) (bAnd (bEq (q2 (rGet a x)) (q2 (rGet b x))) (bAnd (bEq (q3 (rGet a x)) (q3 (rGet b x))) (bAnd (bEq (q4 (rGet a x)) (q4 (rGet b x))) (bEq (q5 (rGet a x)) (q5 (rGet b x)))))))) = false → InR .i64 (iAdd x 1) ∧ (true = true ∧ (fun z => z = z) [SV.sl [.int .i64, .int .u64, .int .i64, .int .i64, .int .i64, .int .i64] a, SV.sl [.int .i64, .int .u64, .int .i64, .int .i64, .int .i64, .int .i64] b, SV.blit false]) ∧ ([] : List HB) = [] ∧ ∃ (y : Int), (a.length = b.length ∧ Sp.alI (Sp.dP a b) a.length y) ∧ true = true ∧ ((IntKind.i64 = IntKind.i64 ∧ iAdd x 1 = y) ∧ True) ∧ True ∧ a.length - y.toNat < a.length - x.toNat)))) ∧ (bLt x (iLen a) = false → (true = Sp.sD a b ∧ True) ∧ True))) := by kernel_rfl
theorem v13 (a : List (List C)) (b : List (List C)) : Holds (Wfs [.sl [.int .i64, .int .u64, .int .i64, .int .i64, .int .i64, .int .i64] a, .sl [.int .i64, .int .u64, .int .i64, .int .i64, .int .i64, .int .i64] b] → True → B13 a b) := by
  refine ⟨fun hw hp => ?_⟩
  rw [e13]
  unfold q0 q1 q2 q3 q4 q5
  simp only [Wfs, Wf, InR, and_true] at hw
  have hm : maxLen = 9223372036854775807 := rfl
  simp only [hm] at hw
  simp only [iAdd, iSub, iMul, iLen, iSize, bLt, bLe, bEq, bNe, bNot, bSame, bDiff, sSame, sDiff, bIf, bAnd, InR, pLe, pIn, pRoom, eq_self, true_and, and_true, true_implies, implies_true, decide_eq_true_eq, decide_eq_false_iff_not, Bool.not_eq_true', Bool.not_eq_false', Bool.true_eq_false, Bool.false_eq_true, false_implies]
  refine fun _ _ => ⟨fun h => (Sp.same_ne (by omega)).symm, fun he => ⟨⟨0, ⟨by omega, Sp.alI_init _ _⟩, rfl⟩, fun x hx _ _ => ⟨fun hlt => ?_, fun hge => (Sp.same_end hx hge).symm⟩⟩⟩
  have h0 := hx.2.1
  rw [show (decide (((rGet a x).headD default).int = ((rGet b x).headD default).int) && (decide (((rGet a x).tail.headD default).int = ((rGet b x).tail.headD default).int) && (decide (((rGet a x).tail.tail.headD default).int = ((rGet b x).tail.tail.headD default).int) && (decide (((rGet a x).tail.tail.tail.headD default).int = ((rGet b x).tail.tail.tail.headD default).int) && (decide (((rGet a x).tail.tail.tail.tail.headD default).int = ((rGet b x).tail.tail.tail.tail.headD default).int) && decide (((rGet a x).tail.tail.tail.tail.tail.headD default).int = ((rGet b x).tail.tail.tail.tail.tail.headD default).int)))))) = Sp.dP a b x from Sp.dEq_b (rGet a x) (rGet b x)]
  exact ⟨⟨h0, hlt⟩, fun _ => ⟨⟨h0, by omega⟩, fun _ => ⟨fun h => (Sp.same_bad h0 hlt h).symm, fun h => ⟨by omega, x + 1, ⟨hx.1, Sp.alI_next hx.2 hlt h⟩, rfl, by omega⟩⟩⟩⟩
theorem s13 : SoundCt Go.Proofs.Try.prog 13 ct13 :=
  contractH followsMixed (look_sound (show Tb Go.Proofs.Try.prog tb13 from trivial)) (fun _ => false) (fun a => A13 ((cel 0 (arg 0 a)).list) ((cel 0 (arg 1 a)).list)) 6 13 ct13 rfl (by simp [ct13]) fun a => Eq.mp (by kernel_rfl) (v13 ((cel 0 (arg 0 a)).list) ((cel 0 (arg 1 a)).list))
end Go.Sx

namespace Go.Sx
/-! ### function 16: law31.same -/
def ct16 : Ct := { ps := [(false, [.sl [.str]]), (false, [.sl [.str]])], rs := [(false, [.bool])], pre := fun _ => True, out := fun a => [[.b (Sp.sN (cel 0 (arg 0 a)).list (cel 0 (arg 1 a)).list)]] }
def tb16 : List (Nat × Ct) := []
def A16 (a : List (List C)) (b : List (List C)) : FuncId → Nat → LoopAnn := fun _ ii => bif Nat.beq ii 4 then .inv Int (fun z => a.length = b.length ∧ Sp.alI (Sp.nP a b) a.length z) (fun z => [(13, .int .i64 z)]) (fun _ => []) [] [0, 1, 4, 5, 10, 12, 13, 14, 24] (fun z => a.length - z.toNat) else .unroll 0
abbrev B16 (a : List (List C)) (b : List (List C)) : Prop := vcF Go.Proofs.Try.prog (look tb16) (fun _ => false) (A16 a b) 6 16 [.sl [.str] a, .sl [.str] b] [] (fun sv heap => Gives [(false, [.bool])] [[.b (Sp.sN a b)]] sv heap)
theorem e16 (a : List (List C)) (b : List (List C)) : B16 a b = (pLe (iLen a) 9223372036854775807 → pLe (iLen b) 9223372036854775807 → (bNe (iLen a) (iLen b) = true → (false = Sp.sN a b ∧ True) ∧ True) ∧ (bNe (iLen a) (iLen b) = false → pLe (iLen a) 9223372036854775807 → (∃ (x : Int), (a.length = b.length ∧ Sp.alI (Sp.nP a b) a.length x) ∧ true = true ∧ ((IntKind.i64 = IntKind.i64 ∧ 0 = x) ∧ True) ∧ True) ∧ (∀ (x : Int), true = true ∧ true = true) ∧ ∀ (x : Int), a.length = b.length ∧ Sp.alI (Sp.nP a b) a.length x → InR .i64 x ∧ True → True → (bLt x (iLen a) = true → pIn 0 (iLen a) x ∧ ((List.brecOn.go ((rGet a x).headD default).str.1.toList List.length._f).1.le 9223372036854775807 → pIn 0 (iLen b) x ∧ ((List.brecOn.go ((rGet b x).headD default).str.1.toList List.length._f).1.le 9223372036854775807 → (sDiff ((rGet a x).headD default).str ((rGet b x).headD default).str = true → (false = Sp.sN a b ∧ True) ∧ True) ∧ (sDiff ((rGet a x).headD default).str ((rGet b x).headD default).str = false → InR .i64 (iAdd x 1) ∧ (true = true ∧ (fun z => z = z) [SV.sl [.str] a, SV.sl [.str] b, SV.blit false, SV.int .i64 (iLen a)]) ∧ ([] : List HB) = [] ∧ ∃ (y : Int), (a.length = b.length ∧ Sp.alI (Sp.nP a b) a.length y) ∧ true = true ∧ ((IntKind.i64 = IntKind.i64 ∧ iAdd x 1 = y) ∧ True) ∧ True ∧ a.length - y.toNat < a.length - x.toNat)))) ∧ (bLt x (iLen a) = false → (true = Sp.sN a b ∧ True) ∧ True))) := by kernel_rfl
theorem v16 (a : List (List C)) (b : List (List C)) : Holds (Wfs [.sl [.str] a, .sl [.str] b] → True → B16 a b) := by
  refine ⟨fun hw hp => ?_⟩
  rw [e16]
  simp only [Wfs, Wf, InR, and_true] at hw
  have hm : maxLen = 9223372036854775807 := rfl
  simp only [hm] at hw
  simp only [iAdd, iSub, iMul, iLen, iSize, bLt, bLe, bEq, bNe, bNot, bSame, bDiff, sSame, sDiff, bIf, bAnd, InR, pLe, pIn, pRoom, eq_self, true_and, and_true, true_implies, implies_true, decide_eq_true_eq, decide_eq_false_iff_not, Bool.not_eq_true', Bool.not_eq_false', Bool.true_eq_false, Bool.false_eq_true, false_implies]
  refine fun _ _ => ⟨fun h => (Sp.same_ne (by omega)).symm, fun he _ => ⟨⟨0, ⟨by omega, Sp.alI_init _ _⟩, rfl⟩, fun x hx _ => ⟨fun hlt => ?_, fun hge => (Sp.same_end hx hge).symm⟩⟩⟩
  have h0 := hx.2.1
  exact ⟨⟨h0, hlt⟩, fun _ => ⟨⟨h0, by omega⟩, fun _ => ⟨fun h => (Sp.same_bad h0 hlt h).symm, fun h => ⟨by omega, x + 1, ⟨hx.1, Sp.alI_next hx.2 hlt h⟩, rfl, by omega⟩⟩⟩⟩
theorem s16 : SoundCt Go.Proofs.Try.prog 16 ct16 :=
  contractH followsMixed (look_sound (show Tb Go.Proofs.Try.prog tb16 from trivial)) (fun _ => false) (fun a => A16 ((cel 0 (arg 0 a)).list) ((cel 0 (arg 1 a)).list)) 6 16 ct16 rfl (by simp [ct16]) fun a => Eq.mp (by kernel_rfl) (v16 ((cel 0 (arg 0 a)).list) ((cel 0 (arg 1 a)).list))
end Go.Sx

namespace Go.Sx
/-! ### function 7: law31.sane -/
def ct7 : Ct := { ps := [], rs := [(false, [.bool])], pre := fun _ => True, out := fun _ => [[.b true]] }
def tb7 : List (Nat × Ct) := [(14, ct14)]
def A7  : FuncId → Nat → LoopAnn := fun _ _ => LoopAnn.unroll 200
abbrev B7  : Prop := vcF Go.Proofs.Try.prog (look tb7) (fun _ => false) (A7) 6 7 [] [] (fun sv heap => Gives [(false, [.bool])] [[.b true]] sv heap)
theorem e7  : B7 = ((pLe (↑2) 12 ∧ pLe (↑1) 1000000) ∧ (((WL [.int .i64, .int .u64, .int .i64, .int .i64, .int .i64, .int .i64] (Sp.dcs [[C.i 1, C.s (ByteArray.mk (Array.mk [97, 110, 121])), C.s (ByteArray.mk (Array.mk [104, 101, 97, 100, 115, 101, 116])), C.i 0, C.l []]] [] [[C.i 1, C.s (ByteArray.mk (Array.mk [109, 117, 115, 105, 99])), C.i 1, C.b false, C.i 0]] [[C.i 2, C.s (ByteArray.mk (Array.mk [115, 112, 101, 97, 107, 101, 114])), C.i 1], [C.i 3, C.s (ByteArray.mk (Array.mk [104, 101, 97, 100, 115, 101, 116])), C.i 1]]))) → pLe (iLen (Sp.dcs [[C.i 1, C.s (ByteArray.mk (Array.mk [97, 110, 121])), C.s (ByteArray.mk (Array.mk [104, 101, 97, 100, 115, 101, 116])), C.i 0, C.l []]] [] [[C.i 1, C.s (ByteArray.mk (Array.mk [109, 117, 115, 105, 99])), C.i 1, C.b false, C.i 0]] [[C.i 2, C.s (ByteArray.mk (Array.mk [115, 112, 101, 97, 107, 101, 114])), C.i 1], [C.i 3, C.s (ByteArray.mk (Array.mk [104, 101, 97, 100, 115, 101, 116])), C.i 1]])) 9223372036854775807 → (bEq (iLen (Sp.dcs [[C.i 1, C.s (ByteArray.mk (Array.mk [97, 110, 121])), C.s (ByteArray.mk (Array.mk [104, 101, 97, 100, 115, 101, 116])), C.i 0, C.l []]] [] [[C.i 1, C.s (ByteArray.mk (Array.mk [109, 117, 115, 105, 99])), C.i 1, C.b false, C.i 0]] [[C.i 2, C.s (ByteArray.mk (Array.mk [115, 112, 101, 97, 107, 101, 114])), C.i 1], [C.i 3, C.s (ByteArray.mk (Array.mk [104, 101, 97, 100, 115, 101, 116])), C.i 1]])) 1 = true → pIn 0 (iLen (Sp.dcs [[C.i 1, C.s (ByteArray.mk (Array.mk [97, 110, 121])), C.s (ByteArray.mk (Array.mk [104, 101, 97, 100, 115, 101, 116])), C.i 0, C.l []]] [] [[C.i 1, C.s (ByteArray.mk (Array.mk [109, 117, 115, 105, 99])), C.i 1, C.b false, C.i 0]] [[C.i 2, C.s (ByteArray.mk (Array.mk [115, 112, 101, 97, 107, 101, 114])), C.i 1], [C.i 3, C.s (ByteArray.mk (Array.mk [104, 101, 97, 100, 115, 101, 116])), C.i 1]])) 0 ∧ (InR .u64 (q1 (rGet (Sp.dcs [[C.i 1, C.s (ByteArray.mk (Array.mk [97, 110, 121])), C.s (ByteArray.mk (Array.mk [104, 101, 97, 100, 115, 101, 116])), C.i 0, C.l []]] [] [[C.i 1, C.s (ByteArray.mk (Array.mk [109, 117, 115, 105, 99])), C.i 1, C.b false, C.i 0]] [[C.i 2, C.s (ByteArray.mk (Array.mk [115, 112, 101, 97, 107, 101, 114])), C.i 1], [C.i 3, C.s (ByteArray.mk (Array.mk [104, 101, 97, 100, 115, 101, 116])), C.i 1]]) 0)) → (bEq (q1 (rGet (Sp.dcs [[C.i 1, C.s (ByteArray.mk (Array.mk [97, 110, 121])), C.s (ByteArray.mk (Array.mk [104, 101, 97, 100, 115, 101, 116])), C.i 0, C.l []]] [] [[C.i 1, C.s (ByteArray.mk (Array.mk [109, 117, 115, 105, 99])), C.i 1, C.b false, C.i 0]] [[C.i 2, C.s (ByteArray.mk (Array.mk [115, 112, 101, 97, 107, 101, 114])), C.i 1], [C.i 3, C.s (ByteArray.mk (Array.mk [104, 101, 97, 100, 115, 101, 116])), C.i 1]]) 0)) 3 = true → pIn 0 (iLen (Sp.dcs [[C.i 1, C.s (ByteArray.mk (Array.mk [97, 110, 121])), C.s (ByteArray.mk (Array.mk [104, 101, 97, 100, 115, 101, 116])), C.i 0, C.l []]] [] [[C.i 1, C.s (ByteArray.mk (Array.mk [109, 117, 115, 105, 99])), C.i 1, C.b false, C.i 0]] [[C.i 2, C.s (ByteArray.mk (Array.mk [115, 112, 101, 97, 107, 101, 114])), C.i 1], [C.i 3, C.s (ByteArray.mk (Array.mk [104, 101, 97, 100, 115, 101, 116])), C.i 1]])) 0 ∧ (InR .i64 (q2 (rGet (Sp.dcs [[C.i 1, C.s (ByteArray.mk (Array.mk [97, 110, 121])), C.s (ByteArray.mk (Array.mk [104, 101, 97, 100, 115, 101, 116])), C.i 0, C.l []]] [] [[C.i 1, C.s (ByteArray.mk (Array.mk [109, 117, 115, 105, 99])), C.i 1, C.b false, C.i 0]] [[C.i 2, C.s (ByteArray.mk (Array.mk [115, 112, 101, 97, 107, 101, 114])), C.i 1], [C.i 3, C.s (ByteArray.mk (Array.mk [104, 101, 97, 100, 115, 101, 116])), C.i 1]]) 0)) → (bEq (q2 (rGet (Sp.dcs [[C.i 1, C.s (ByteArray.mk (Array.mk [97, 110, 121])), C.s (ByteArray.mk (Array.mk [104, 101, 97, 100, 115, 101, 116])), C.i 0, C.l []]] [] [[C.i 1, C.s (ByteArray.mk (Array.mk [109, 117, 115, 105, 99])), C.i 1, C.b false, C.i 0]] [[C.i 2, C.s (ByteArray.mk (Array.mk [115, 112, 101, 97, 107, 101, 114])), C.i 1], [C.i 3, C.s (ByteArray.mk (Array.mk [104, 101, 97, 100, 115, 101, 116])), C.i 1]]) 0)) 3 = true → pIn 0 (iLen (Sp.dcs [[C.i 1, C.s (ByteArray.mk (Array.mk [97, 110, 121])), C.s (ByteArray.mk (Array.mk [104, 101, 97, 100, 115, 101, 116])), C.i 0, C.l []]] [] [[C.i 1, C.s (ByteArray.mk (Array.mk [109, 117, 115, 105, 99])), C.i 1, C.b false, C.i 0]] [[C.i 2, C.s (ByteArray.mk (Array.mk [115, 112, 101, 97, 107, 101, 114])), C.i 1], [C.i 3, C.s (ByteArray.mk (Array.mk [104, 101, 97, 100, 115, 101, 116])), C.i 1]])) 0 ∧ (InR .i64 (q4 (rGet (Sp.dcs [[C.i 1, C.s (ByteArray.mk (Array.mk [97, 110, 121])), C.s (ByteArray.mk (Array.mk [104, 101, 97, 100, 115, 101, 116])), C.i 0, C.l []]] [] [[C.i 1, C.s (ByteArray.mk (Array.mk [109, 117, 115, 105, 99])), C.i 1, C.b false, C.i 0]] [[C.i 2, C.s (ByteArray.mk (Array.mk [115, 112, 101, 97, 107, 101, 114])), C.i 1], [C.i 3, C.s (ByteArray.mk (Array.mk [104, 101, 97, 100, 115, 101, 116])), C.i 1]]) 0)) → (bEq (q4 (rGet (Sp.dcs [[C.i 1, C.s (ByteArray.mk (Array.mk [97, 110, 121])), C.s { data := { toList := [104, 101, 97, 100, 115, 101, 116] } }, C.i 0, C.l []]] [] [[C.i 1, C.s (ByteArray.mk (Array.mk [109, 117, 115, 105, 99])), C.i 1, C.b false, C.i 0]] [[C.i 2, C.s { data := { toList := [115, 112, 101, 97, 107, 101, 114] } }, C.i 1], [C.i 3, C.s { data := { toList := [104, 101, 97, 100, 115, 101, 116] } }, C.i 1]]) 0)) 65536 = true → pIn 0 (iLen (Sp.dcs [[C.i 1, C.s (ByteArray.mk (Array.mk [97, 110, 121])), C.s (ByteArray.mk (Array.mk [104, 101, 97, 100, 115, 101, 116])), C.i 0, C.l []]] [] [[C.i 1, C.s (ByteArray.mk (Array.mk [109, 117, 115, 105, 99])), C.i 1, C.b false, C.i 0]] [[C.i 2, C.s (ByteArray.mk (Array.mk [115, 112, 101, 97, 107, 101, 114])), C.i 1], [C.i 3, C.s (ByteArray.mk (Array.mk [104, 101, 97, 100, 115, 101, 116])), C.i 1]])) 0 ∧ (InR .i64 (q5 (rGet (Sp.dcs [[C.i 1, C.s (ByteArray.mk (Array.mk [97, 110, 121])), C.s { data := { toList := [104, 101, 97, 100, 115, 101, 116] } }, C.i 0, C.l []]] [] [[C.i 1, C.s (ByteArray.mk (Array.mk [109, 117, 115, 105, 99])), C.i 1, C.b false, C.i 0]] [[C.i 2, C.s { data := { toList := [115, 112, 101, 97, 107, 101, 114] } }, C.i 1], [C.i 3, C.s { data := { toList := [104, 101, 97, 100, 115, 101, 116] } }, C.i 1]]) 0)) → (bEq (q5 (rGet (Sp.dcs [[C.i 1, C.s (ByteArray.mk (Array.mk [97, 110, 121])), C.s { data := { toList := [104, 101, 97, 100, 115, 101, 116] } }, C.i 0, C.l []]] [] [[C.i 1, C.s { data := { toList := [109, 117, 115, 105, 99] } }, C.i 1, C.b false, C.i 0]] [[C.i 2, C.s { data := { toList := [115, 112, 101, 97, 107, 101, 114] } }, C.i 1], [C.i 3, C.s { data := { toList := [104, 101, 97, 100, 115, 101, 116] } }, C.i 1]]) 0)) (-1) = true ∧ True) ∧ True)) ∧ (bEq (q4 (rGet (Sp.dcs [[C.i 1, C.s (ByteArray.mk (Array.mk [97, 110, 121])), C.s { data := { toList := [104, 101, 97, 100, 115, 101, 116] } }, C.i 0, C.l []]] [] [[C.i 1, C.s (ByteArray.mk (Array.mk [109, 117, 115, 105, 99])), C.i 1, C.b false, C.i 0]] [[C.i 2, C.s { data := { toList := [115, 112, 101, 97, 107, 101, 114] } }, C.i 1], [C.i 3, C.s { data := { toList := [104, 101, 97, 100, 115, 101, 116] } }, C.i 1]]) 0)) 65536 = false → (false = true ∧ True) ∧ True))) ∧ (bEq (q2 (rGet (Sp.dcs [[C.i 1, C.s (ByteArray.mk (Array.mk [97, 110, 121])), C.s (ByteArray.mk (Array.mk [104, 101, 97, 100, 115, 101, 116])), C.i 0, C.l []]] [] [[C.i 1, C.s (ByteArray.mk (Array.mk [109, 117, 115, 105, 99])), C.i 1, C.b false, C.i 0]] [[C.i 2, C.s (ByteArray.mk (Array.mk [115, 112, 101, 97, 107, 101, 114])), C.i 1], [C.i 3, C.s (ByteArray.mk (Array.mk [104, 101, 97, 100, 115, 101, 116])), C.i 1]]) 0)) 3 = false → (false = true ∧ True) ∧ True))) ∧ (bEq (q1 (rGet (Sp.dcs [[C.i 1, C.s (ByteArray.mk (Array.mk [97, 110, 121])), C.s (ByteArray.mk (Array.mk [104, 101, 97, 100, 115, 101, 116])), C.i 0, C.l []]] [] [[C.i 1, C.s (ByteArray.mk (Array.mk [109, 117, 115, 105, 99])), C.i 1, C.b false, C.i 0]] [[C.i 2, C.s (ByteArray.mk (Array.mk [115, 112, 101, 97, 107, 101, 114])), C.i 1], [C.i 3, C.s (ByteArray.mk (Array.mk [104, 101, 97, 100, 115, 101, 116])), C.i 1]]) 0)) 3 = false → (false = true ∧ True) ∧ True))) ∧ (bEq (iLen (Sp.dcs [[C.i 1, C.s (ByteArray.mk (Array.mk [97, 110, 121])), C.s (ByteArray.mk (Array.mk [104, 101, 97, 100, 115, 101, 116])), C.i 0, C.l []]] [] [[C.i 1, C.s (ByteArray.mk (Array.mk [109, 117, 115, 105, 99])), C.i 1, C.b false, C.i 0]] [[C.i 2, C.s (ByteArray.mk (Array.mk [115, 112, 101, 97, 107, 101, 114])), C.i 1], [C.i 3, C.s (ByteArray.mk (Array.mk [104, 101, 97, 100, 115, 101, 116])), C.i 1]])) 1 = false → (false = true ∧ True) ∧ True))) := by kernel_rfl
theorem v7  : Holds (Wfs [] → True → B7) := by
  refine ⟨fun hw hp => ?_⟩
  rw [e7]
  unfold WL q1 q2 q4 q5
  have e : Sp.dcs [[C.i 1, C.s (ByteArray.mk (Array.mk [97, 110, 121])), C.s (ByteArray.mk (Array.mk [104, 101, 97, 100, 115, 101, 116])), C.i 0, C.l []]] [] [[C.i 1, C.s (ByteArray.mk (Array.mk [109, 117, 115, 105, 99])), C.i 1, C.b false, C.i 0]] [[C.i 2, C.s (ByteArray.mk (Array.mk [115, 112, 101, 97, 107, 101, 114])), C.i 1], [C.i 3, C.s (ByteArray.mk (Array.mk [104, 101, 97, 100, 115, 101, 116])), C.i 1]] = [[.i 1, .i 3, .i 3, .i 0, .i 65536, .i (-1)]] := by kernel_rfl
  rw [e]
  simp only [rGet, iLen, bEq, pLe, pIn, bAnd, bIf, List.length_cons, List.length_nil, InR, List.getD_cons_zero, show Int.toNat 0 = 0 from rfl, List.tail_cons, List.headD_cons, C.int, eq_self, decide_true, true_and, and_true]
  repeat' (first | exact trivial | apply And.intro | intro _)
  all_goals first
    | omega
    | contradiction
    | simp_all
theorem s7 : SoundCt Go.Proofs.Try.prog 7 ct7 :=
  contractH followsMixed (look_sound (show Tb Go.Proofs.Try.prog tb7 from ⟨s14, trivial⟩)) (fun _ => false) (fun _ => A7) 6 7 ct7 rfl (by simp [ct7]) fun a => Eq.mp (by kernel_rfl) (v7 )
end Go.Sx

namespace Go.Sx
/-! ### function 3: law31.PolicyDecides -/
def tb3 : List (Nat × Ct) := [(7, ct7), (9, ct9), (10, ct10), (11, ct11), (12, ct12), (14, ct14), (15, ct15), (13, ct13), (16, ct16), (17, ct17), (18, ct18), (19, ct19), (20, ct20)]
def A3 (raw : List (List C)) : FuncId → Nat → LoopAnn := fun _ ii => bif Nat.beq ii 6 then .inv Int (fun z => 0 ≤ z ∧ z ≤ (raw.length : Int)) (fun z => [(41, .int .i64 z)]) (fun _ => []) [] [0, 1, 2, 3, 4, 7, 10, 12, 13, 14, 15, 16, 17, 19, 38, 39, 40, 41, 42, 48] (fun z => raw.length - z.toNat) else .unroll 0
abbrev B3 (l : List (List C)) (raw : List (List C)) (m : List (List C)) (wants : List (List C)) (sinks : List (List C)) : Prop := vcF Go.Proofs.Try.prog (look tb3) (fun _ => false) (A3 raw) 8 3 [.sl [.int .i64] l, .sl [.int .i64, .str, .str, .int .i64, .sl [.int .i64, .str]] raw, .agg [.sl [.str, .sl [.int .u64], .int .u64] m], .sl [.int .i64, .str, .int .i64, .bool, .int .u64] wants, .sl [.int .u64, .str, .int .i64] sinks] [] (fun sv _ => isTrue sv)
def h3_0 : List (List C) → List (List C) → List (List C) → List (List C) → List (List C) → List SV := fun (l raw m wants sinks : List (List C)) => [SV.sl [.int .i64] l, SV.sl [Sh.int .i64, Sh.str, Sh.str, Sh.int .i64, Sh.sl [Sh.int .i64, Sh.str]] raw, SV.agg [SV.sl [Sh.str, Sh.sl [Sh.int .u64], Sh.int .u64] m], SV.sl [.int .i64, .str, .int .i64, .bool, .int .u64] wants, SV.sl [.int .u64, .str, .int .i64] sinks, SV.ref 0 0, SV.undef, SV.undef, SV.undef, SV.undef, SV.undef, SV.blit false, SV.blit false, SV.sl [Sh.int .i64, Sh.str, Sh.str, Sh.int .i64, Sh.sl [Sh.int .i64, Sh.str]] raw, SV.int .i64 (iLen raw)]
theorem e3 (l : List (List C)) (raw : List (List C)) (m : List (List C)) (wants : List (List C)) (sinks : List (List C)) (Z1 : Int) (hZ1 : Z1 = Sp.meA l (Sp.rsA l 0)) (Z4 : List (List C)) (hZ4 : Z4 = Sp.skO l (Sp.wtA l Z1)) (Z5 : List (List C)) (hZ5 : Z5 = Sp.wtO l Z1) (Z2 : List (List C)) (hZ2 : Z2 = Sp.dcs (Sp.rsO l 0) (Sp.meO l (Sp.rsA l 0)) Z5 Z4) (Z3 : List (List C)) (hZ3 : Z3 = Sp.dcs raw (Sp.meO l (Sp.rsA l 0)) Z5 sinks) (Z6 : List (List C)) (hZ6 : Z6 = Sp.dcs raw m wants sinks) : B3 l raw m wants sinks = (True ∧ (True → True ∧ (bNot true = true → false = true) ∧ (bNot true = false → pLe (iLen raw) 9223372036854775807 → (bLt 8 (iLen raw) = false → pLe (iLen m) 9223372036854775807 → (bLt 8 (iLen m) = false → pLe (iLen wants) 9223372036854775807 → (bLt 8 (iLen wants) = false → pLe (iLen sinks) 9223372036854775807 → (bLt 8 (iLen sinks) = true → true = true) ∧ (bLt 8 (iLen sinks) = false → pLe (iLen raw) 9223372036854775807 → (∃ (x : Int), (0 ≤ x ∧ x ≤ ↑raw.length) ∧ true = true ∧ ((IntKind.i64 = IntKind.i64 ∧ 0 = x) ∧ True) ∧ True) ∧ (∀ (x : Int), true = true ∧ true = true) ∧ ∀ (x : Int), 0 ≤ x ∧ x ≤ ↑raw.length → InR .i64 x ∧ True → True → (bLt x (iLen raw) = true → pIn 0 (iLen raw) x ∧ (InR .i64 (q0 (rGet raw x)) ∧ (List.brecOn.go ((rGet raw x).tail.headD default).str.1.toList List.length._f).1.le 9223372036854775807 ∧ (List.brecOn.go ((rGet raw x).tail.tail.headD default).str.1.toList List.length._f).1.le 9223372036854775807 ∧ InR .i64 (q3 (rGet raw x)) ∧ (((rGet raw x).tail.tail.tail.tail.headD default).list.length ≤ 9223372036854775807 ∧ ∀ (x_1 : List C), x_1 ∈ ((rGet raw x).tail.tail.tail.tail.headD default).list → WfCs [.int .i64, .str] x_1) ∧ True → pLe (iLen ((rGet raw x).tail.tail.tail.tail.headD default).list) 9223372036854775807 → (bLt 20 (iLen ((rGet raw x).tail.tail.tail.tail.headD default).list) = true → true = true) ∧ (bLt 20 (iLen ((rGet raw x).tail.tail.tail.tail.headD default).list) = false → InR .i64 (iAdd x 1) ∧ (true = true ∧ h3_0 l raw m wants sinks = h3_0 l raw m wants sinks) ∧ (fun z => z = z) [HB.box [SV.sl [Sh.str, Sh.sl [Sh.int .u64], Sh.int .u64] m] 26] ∧ ∃ (y : Int), (0 ≤ y ∧ y ≤ ↑raw.length) ∧ true = true ∧ ((IntKind.i64 = IntKind.i64 ∧ iAdd x 1 = y) ∧ True) ∧ True ∧ raw.length - y.toNat < raw.length - x.toNat))) ∧ (bLt x (iLen raw) = false → (pLe 0 0 ∧ True) ∧ (((WL [Sh.int .i64, Sh.str, Sh.str, Sh.int .i64, Sh.sl [Sh.int .i64, Sh.str]] (Sp.rsO l 0))) → (pLe 0 (Sp.rsA l 0) ∧ True) ∧ (((WL [Sh.str, Sh.sl [Sh.int .u64], Sh.int .u64] (Sp.meO l (Sp.rsA l 0)))) ∧ True → (pLe 0 Z1 ∧ True) ∧ (((WL [.int .i64, .str, .int .i64, .bool, .int .u64] Z5)) → (pLe 0 (Sp.wtA l Z1) ∧ True) ∧ (((WL [.int .u64, .str, .int .i64] Z4)) → (pLe (↑Z4.length) 12 ∧ pLe (↑Z5.length) 1000000) ∧ (((WL [.int .i64, .int .u64, .int .i64, .int .i64, .int .i64, .int .i64] Z2)) → (pLe (↑Z4.length) 12 ∧ pLe (↑Z5.length) 1000000) ∧ (((WL [.int .i64, .int .u64, .int .i64, .int .i64, .int .i64, .int .i64] Z2)) → True ∧ (True → (Sp.sD Z2 Z2 = true → (pLe (↑sinks.length) 12 ∧ pLe (↑wants.length) 1000000) ∧ (((WL [.int .i64, .int .u64, .int .i64, .int .i64, .int .i64, .int .i64] Z6)) → (pLe (↑sinks.length) 12 ∧ pLe (↑wants.length) 1000000) ∧ (((WL [.int .i64, .int .u64, .int .i64, .int .i64, .int .i64, .int .i64] Z6)) → True ∧ (True → (Sp.sD Z6 Z6 = true → (pLe (↑sinks.length) 12 ∧ pLe (↑Z5.length) 1000000) ∧ (((WL [.int .i64, .int .u64, .int .i64, .int .i64, .int .i64, .int .i64] Z3)) → (pLe (↑sinks.length) 12 ∧ pLe (↑Z5.length) 1000000) ∧ (((WL [.int .i64, .int .u64, .int .i64, .int .i64, .int .i64, .int .i64] Z3)) → True ∧ (True → (Sp.sD Z3 Z3 = true → (pLe (↑Z4.length) 1000000 ∧ True) ∧ (((WL [.str] (Sp.cls Z4))) → (pLe (↑Z4.length) 1000000 ∧ True) ∧ (((WL [.str] (Sp.cls Z4))) → True ∧ (True → (Sp.sN (Sp.cls Z4) (Sp.cls Z4) = true → (pLe (↑Z5.length) 1000000 ∧ True) ∧ (((WL [.str] (Sp.rls Z5))) → (pLe (↑Z5.length) 1000000 ∧ True) ∧ (((WL [.str] (Sp.rls Z5))) → True ∧ (True → (Sp.sN (Sp.rls Z5) (Sp.rls Z5) = true → (pLe (↑sinks.length) 1000000 ∧ True) ∧ (((WL [.str] (Sp.cls sinks))) → (pLe (↑sinks.length) 1000000 ∧ True) ∧ (((WL [.str] (Sp.cls sinks))) → True ∧ (True → (Sp.sN (Sp.cls sinks) (Sp.cls sinks) = true → (pLe (↑wants.length) 1000000 ∧ True) ∧ (((WL [.str] (Sp.rls wants))) → (pLe (↑wants.length) 1000000 ∧ True) ∧ (((WL [.str] (Sp.rls wants))) → True ∧ (True → Sp.sN (Sp.rls wants) (Sp.rls wants) = true)))) ∧ (Sp.sN (Sp.cls sinks) (Sp.cls sinks) = false → false = true))))) ∧ (Sp.sN (Sp.rls Z5) (Sp.rls Z5) = false → false = true))))) ∧ (Sp.sN (Sp.cls Z4) (Sp.cls Z4) = false → false = true))))) ∧ (Sp.sD Z3 Z3 = false → false = true))))) ∧ (Sp.sD Z6 Z6 = false → false = true))))) ∧ (Sp.sD Z2 Z2 = false → false = true))))))))))) ∧ (bLt 8 (iLen wants) = true → true = true)) ∧ (bLt 8 (iLen m) = true → true = true)) ∧ (bLt 8 (iLen raw) = true → true = true)))) := by subst hZ6; subst hZ3; subst hZ2; subst hZ5; subst hZ4; subst hZ1; kernel_rfl
theorem v3 (l : List (List C)) (raw : List (List C)) (m : List (List C)) (wants : List (List C)) (sinks : List (List C)) : Holds (Wfs [.sl [.int .i64] l, .sl [.int .i64, .str, .str, .int .i64, .sl [.int .i64, .str]] raw, .agg [.sl [.str, .sl [.int .u64], .int .u64] m], .sl [.int .i64, .str, .int .i64, .bool, .int .u64] wants, .sl [.int .u64, .str, .int .i64] sinks] → True → B3 l raw m wants sinks) := by
  refine ⟨fun hw hp => ?_⟩
  rw [e3 _ _ _ _ _ _ rfl _ rfl _ rfl _ rfl _ rfl _ rfl]
  unfold WL q0 q3
  simp only [Wfs, Wf, InR, and_true] at hw
  have hm : maxLen = 9223372036854775807 := rfl
  simp only [hm] at hw
  simp only [iAdd, iSub, iMul, iLen, iSize, bLt, bLe, bEq, bNe, bNot, bSame, bDiff, sSame, sDiff, bIf, bAnd, InR, pLe, pIn, pRoom, eq_self, true_and, and_true, true_implies, implies_true, decide_eq_true_eq, decide_eq_false_iff_not, Bool.not_eq_true', Bool.not_eq_false', Bool.true_eq_false, Bool.false_eq_true, false_implies]
  clear hw hp
  have a1 := Sp.rsA_nn (l := l) (a := 0) (by omega)
  have a2 := Sp.meA_nn (l := l) a1
  have a3 := Sp.wtA_nn (l := l) a2
  have n1 := Sp.wtO_len (l := l) (a := Sp.meA l (Sp.rsA l 0))
  have n2 := Sp.skO_len (l := l) (a := Sp.wtA l (Sp.meA l (Sp.rsA l 0)))
  simp only [Sp.sD_self, Sp.sN_self, not_true_eq_false, false_implies, true_implies, implies_true, and_true, true_and, Bool.true_eq_false, Bool.false_eq_true, not_false_eq_true, ne_eq]
  repeat' (first | exact trivial | exact a1 | exact a2 | exact a3 | exact ⟨0, ⟨by omega, by omega⟩, rfl⟩ | apply And.intro | intro _)
  all_goals (first | omega | contradiction | (refine ⟨_, ?_, rfl, ?_⟩ <;> omega) | trace_state)
end Go.Sx

