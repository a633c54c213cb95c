import Derived.Test.YtphaelepnjekoaaGreatSxUse
import Derived.Test.YtphaelepnjekoaaGreatH27e
import Derived.KernelRfl
set_option linter.unusedVariables false
set_option linter.unusedSimpArgs false
set_option maxRecDepth 100000
set_option maxHeartbeats 4000000
namespace Go
open Go.Sx
def Sp.dokI (ds : List (List C)) (i : Int) : Bool := decide (1 ≤ Sp.c0 (rGet ds i) ∧ (i ≤ 0 ∨ Sp.c0 (rGet ds (i - 1)) < Sp.c0 (rGet ds i)) ∧ 1 ≤ Sp.c1 (rGet ds i) ∧ Sp.c1 (rGet ds i) ≤ 8)
def Sp.sokI (ds ss : List (List C)) (i : Int) : Bool := decide (1 ≤ Sp.c0 (rGet ss i) ∧ (i ≤ 0 ∨ Sp.c0 (rGet ss (i - 1)) < Sp.c0 (rGet ss i)) ∧ 1 ≤ Sp.c2 (rGet ss i) ∧ Sp.c2 (rGet ss i) ≤ 8 ∧ 0 ≤ Sp.c3 (rGet ss i) ∧ Sp.c3 (rGet ss i) ≤ 1099511627776) && Sp.has ds (Sp.c1 (rGet ss i))
def Sp.prop (w c p : Int) (ds ss : List (List C)) : Bool := decide ((1 ≤ w ∧ w ≤ 8) ∧ (0 ≤ c ∧ c ≤ 1099511627776) ∧ (16 ≤ p ∧ p ≤ 8192) ∧ ds.length ≤ 8 ∧ ss.length ≤ 24) && Sp.allI (Sp.dokI ds) ds.length && Sp.allI (Sp.sokI ds ss) ss.length
def Sp.cD (ch p : Int) : Int := bif decide ((1 ≤ ch ∧ ch ≤ 8) ∧ 16 ≤ p ∧ p ≤ 8192) then 400 + 8 * ch * p else 0
def Sp.cDe (ch p : Int) : Int := bif decide ((1 ≤ ch ∧ ch ≤ 8) ∧ 16 ≤ p ∧ p ≤ 8192) then 0 else 2
def Sp.cS (a b p : Int) : Int := bif decide ((1 ≤ a ∧ a ≤ 8) ∧ (1 ≤ b ∧ b ≤ 8) ∧ 16 ≤ p ∧ p ≤ 8192) then 300 + (4 * a + a * b + 2 * b) * p else 0
def Sp.cSe (a b p : Int) : Int := bif decide ((1 ≤ a ∧ a ≤ 8) ∧ (1 ≤ b ∧ b ≤ 8) ∧ 16 ≤ p ∧ p ≤ 8192) then 0 else 2
end Go
namespace Go
open Go.Sx
def Sp.bsr (key : Int) (xs : List (List C)) (n : Nat) (i j : Int) : Int :=
 match n with
 | 0 => i
 | k + 1 => if i < j then (if Sp.c0 (rGet xs ((i + j) / 2)) < key then Sp.bsr key xs k ((i + j) / 2 + 1) j else Sp.bsr key xs k i ((i + j) / 2)) else i
def Sp.bsx (xs : List (List C)) (key : Int) : Int := Sp.bsr key xs xs.length 0 xs.length
def Sp.bsf (xs : List (List C)) (key : Int) : Bool := decide (Sp.bsx xs key < (xs.length : Int)) && decide (Sp.c0 (rGet xs (Sp.bsx xs key)) = key)
def Sp.brI (xs : List (List C)) (key i j : Int) : Prop := 0 ≤ i ∧ i ≤ j ∧ j ≤ (xs.length : Int) ∧ ∃ n : Nat, (j - i).toNat ≤ n ∧ Sp.bsr key xs n i j = Sp.bsx xs key
end Go
namespace Go
open Go.Sx
theorem Sp.br_init {xs : List (List C)} {key : Int} : Sp.brI xs key 0 xs.length := ⟨by omega, by omega, by omega, xs.length, by omega, rfl⟩
theorem Sp.br_up {xs : List (List C)} {key i j : Int} (h : Sp.brI xs key i j) (hij : i < j) (hc : Sp.c0 (rGet xs ((i + j) / 2)) < key) : Sp.brI xs key ((i + j) / 2 + 1) j := by
 obtain ⟨h0, h1, h2, n, h3, h4⟩ := h
 refine ⟨by omega, by omega, by omega, ?_⟩
 cases n with
 | zero => omega
 | succ n =>
  refine ⟨n, by omega, ?_⟩
  rw [← h4]
  simp only [Sp.bsr, if_pos hij, if_pos hc]
theorem Sp.br_down {xs : List (List C)} {key i j : Int} (h : Sp.brI xs key i j) (hij : i < j) (hc : ¬ Sp.c0 (rGet xs ((i + j) / 2)) < key) : Sp.brI xs key i ((i + j) / 2) := by
 obtain ⟨h0, h1, h2, n, h3, h4⟩ := h
 refine ⟨by omega, by omega, by omega, ?_⟩
 cases n with
 | zero => omega
 | succ n =>
  refine ⟨n, by omega, ?_⟩
  rw [← h4]
  simp only [Sp.bsr, if_pos hij, if_neg hc]
theorem Sp.br_end {xs : List (List C)} {key i j : Int} (h : Sp.brI xs key i j) (hij : ¬ i < j) : i = Sp.bsx xs key := by
 obtain ⟨h0, h1, h2, n, h3, h4⟩ := h
 rw [← h4]
 cases n with
 | zero => rfl
 | succ n => simp only [Sp.bsr, if_neg hij]
theorem Sp.cmp_lt' {a b : Int} : Sp.cmp a b < 0 ↔ a < b := by unfold Sp.cmp; grind
theorem Sp.cmp_eq' {a b : Int} : Sp.cmp a b = 0 ↔ a = b := by unfold Sp.cmp; grind
theorem Sp.mid {p q : Int} (h0 : 0 ≤ p) (h1 : p ≤ q) (h2 : q ≤ 9223372036854775807) : iWrap IntKind.i64 (iShr (iWrap IntKind.u64 (iWrap IntKind.i64 (p + q))) 1) = (p + q) / 2 := by
 have e1 : iWrap IntKind.u64 (iWrap IntKind.i64 (p + q)) = p + q := by
  show IntKind.wrap _ (IntKind.wrap _ _) = _
  rw [IntKind.wrap_u64, IntKind.wrap_i64]; omega
 have e2 : iShr (p + q) 1 = (p + q) / 2 := by show Int.fdiv (p + q) 2 = _; rw [Int.fdiv_eq_ediv_of_nonneg _ (by omega)]
 rw [e1, e2]
 show IntKind.wrap _ _ = _
 rw [IntKind.wrap_i64]; omega
theorem Sp.wr1 {p : Int} (h0 : 0 ≤ p) (h1 : p < 9223372036854775807) : iWrap IntKind.i64 (p + 1) = p + 1 := by
 show IntKind.wrap _ _ = _
 rw [IntKind.wrap_i64]; omega
end Go
namespace Go.Sx
def ct74 : Ct := { ps := [(false, [.int .u64]), (false, [.int .u64])], rs := [(false, [.int .i64])], pre := fun _ => True, out := fun a => [[.i (Sp.cmp (cel 0 (arg 0 a)).int (cel 0 (arg 1 a)).int)]] }
def tb74 : List (Nat × Ct) := []
def A74  : FuncId → Nat → LoopAnn := fun _ _ => LoopAnn.unroll 200
abbrev B74 (a : Int) (b : Int) : Prop := vcF Go.Proofs.Tryz.prog (look tb74) (fun _ => false) (A74) 8 74 [.int .u64 a, .int .u64 b] [] (fun sv heap => Gives [(false, [.int .i64])] [[.i (Sp.cmp a b)]] sv heap)
theorem e74 (a : Int) (b : Int) : B74 a b = ((bNe a a = true → (bNe b b = true → (0 = Sp.cmp a b ∧ True) ∧ True) ∧ (bNe b b = false → (-1 = Sp.cmp a b ∧ True) ∧ True)) ∧ (bNe a a = false → (bNe b b = true → (1 = Sp.cmp a b ∧ True) ∧ True) ∧ (bNe b b = false → (bLt a b = true → (-1 = Sp.cmp a b ∧ True) ∧ True) ∧ (bLt a b = false → (bLt b a = true → (1 = Sp.cmp a b ∧ True) ∧ True) ∧ (bLt b a = false → (0 = Sp.cmp a b ∧ True) ∧ True))))) := by kernel_rfl
theorem v74 (a : Int) (b : Int) : Holds (Wfs [.int .u64 a, .int .u64 b] → True → B74 a b) := by
 refine ⟨fun hw hp => ?_⟩
 rw [e74]
 simp only [bLt, bNe, eq_self, and_true, Bool.not_eq_true', Bool.not_eq_false', decide_eq_true_eq, decide_eq_false_iff_not, Sp.cmp]
 grind
theorem s74 : SoundCt Go.Proofs.Tryz.prog 74 ct74 :=
 contractH followsMixed (look_sound (show Tb Go.Proofs.Tryz.prog tb74 from trivial)) (fun _ => false) (fun _ => A74) 8 74 ct74 rfl (by simp [ct74]) fun a => Eq.mp (by kernel_rfl) (v74 ((cel 0 (arg 0 a)).int) ((cel 0 (arg 1 a)).int))
end Go.Sx
namespace Go.Sx
def ct32 : Ct := { ps := [(false, [.int .i64]), (false, [.int .i64])], rs := [(false, [.int .i64]), (false, [.int .i64])], pre := fun _ => True, out := fun a => [[.i (Sp.cD (cel 0 (arg 0 a)).int (cel 0 (arg 1 a)).int)], [.i (Sp.cDe (cel 0 (arg 0 a)).int (cel 0 (arg 1 a)).int)]] }
def tb32 : List (Nat × Ct) := []
def A32  : FuncId → Nat → LoopAnn := fun _ _ => .unroll 4
abbrev B32 (ch : Int) (p : Int) : Prop := vcF Go.Proofs.Tryz.prog (look tb32) (fun _ => false) (A32) 6 32 [.int .i64 ch, .int .i64 p] [] (fun sv heap => Gives [(false, [.int .i64]), (false, [.int .i64])] [[.i (Sp.cD ch p)], [.i (Sp.cDe ch p)]] sv heap)
def m32_0 (ch : Int) (p : Int) : Prop := True ∧ (0 = Sp.cD ch p ∧ True) ∧ (2 = Sp.cDe ch p ∧ True) ∧ True
theorem e32 (ch : Int) (p : Int) : B32 ch p = (InR .i64 ch → (bLt ch 1 = false → (bLt 8 ch = true → (m32_0 ch p)) ∧ (bLt 8 ch = false → True ∧ (InR .i64 p → (bLt p 16 = false → (bLt 8192 p = true → (m32_0 ch p)) ∧ (bLt 8192 p = false → True ∧ InR .i64 (iMul 8 ch) ∧ InR .i64 (iMul (iMul 8 ch) p) ∧ InR .i64 (iAdd 400 (iMul (iMul 8 ch) p)) ∧ (iAdd 400 (iMul (iMul 8 ch) p) = Sp.cD ch p ∧ True) ∧ (0 = Sp.cDe ch p ∧ True) ∧ True)) ∧ (bLt p 16 = true → (m32_0 ch p))))) ∧ (bLt ch 1 = true → (m32_0 ch p))) := by kernel_rfl
theorem v32 (ch : Int) (p : Int) : Holds (Wfs [.int .i64 ch, .int .i64 p] → True → B32 ch p) := by
 refine ⟨fun hw hp => ?_⟩
 rw [e32]
 delta m32_0
 simp only [Wfs, Wf, InR, and_true] at hw
 simp only [eq_self, true_and, and_true, true_implies, implies_true, iAdd, iSub, iMul, bLt, bLe, bNot, InR, decide_eq_true_eq, decide_eq_false_iff_not, Bool.not_eq_true', Bool.not_eq_false', Sp.cD, Sp.cDe, Sp.cS, Sp.cSe]
 by_cases h : (1 ≤ ch ∧ ch ≤ 8) ∧ 16 ≤ p ∧ p ≤ 8192
 · have m0 : 0 ≤ 8 * ch * p := Int.mul_nonneg (by omega) (by omega)
   have m1 : 8 * ch * p ≤ 64 * 8192 := Int.mul_le_mul (by omega) (by omega) (by omega) (by omega)
   rw [decide_eq_true h]
   simp only [cond_true]
   repeat' (first | apply And.intro | intro _)
   all_goals omega
 · rw [decide_eq_false h]
   simp only [cond_false]
   repeat' (first | apply And.intro | intro _)
   all_goals (first | trivial | rfl | (exfalso; omega))
theorem s32 : SoundCt Go.Proofs.Tryz.prog 32 ct32 :=
 contractH followsMixed (look_sound (show Tb Go.Proofs.Tryz.prog tb32 from trivial)) (fun _ => false) (fun _ => A32) 6 32 ct32 rfl (by simp [ct32]) fun a => Eq.mp (by kernel_rfl) (v32 ((cel 0 (arg 0 a)).int) ((cel 0 (arg 1 a)).int))
end Go.Sx
namespace Go.Sx
def ct86 : Ct := { ps := [(false, [.int .i64]), (false, [.int .i64])], rs := [(false, [.int .i64]), (false, [.int .i64])], pre := fun _ => True, out := fun a => [[.i (Sp.cD (cel 0 (arg 0 a)).int (cel 0 (arg 1 a)).int)], [.i (Sp.cDe (cel 0 (arg 0 a)).int (cel 0 (arg 1 a)).int)]] }
def tb86 : List (Nat × Ct) := []
def A86  : FuncId → Nat → LoopAnn := fun _ _ => .unroll 4
abbrev B86 (ch : Int) (p : Int) : Prop := vcF Go.Proofs.Tryz.prog (look tb86) (fun _ => false) (A86) 6 86 [.int .i64 ch, .int .i64 p] [] (fun sv heap => Gives [(false, [.int .i64]), (false, [.int .i64])] [[.i (Sp.cD ch p)], [.i (Sp.cDe ch p)]] sv heap)
def m86_0 (ch : Int) (p : Int) : Prop := (0 = Sp.cD ch p ∧ True) ∧ (2 = Sp.cDe ch p ∧ True) ∧ True
theorem e86 (ch : Int) (p : Int) : B86 ch p = ((bLe 1 ch = true → (bLe ch 8 = true → (bLe 16 p = true → True ∧ (bNot (bLe p 8192) = true → (m86_0 ch p)) ∧ (bNot (bLe p 8192) = false → InR .i64 (iMul 8 ch) ∧ InR .i64 (iMul (iMul 8 ch) p) ∧ InR .i64 (iAdd 400 (iMul (iMul 8 ch) p)) ∧ (iAdd 400 (iMul (iMul 8 ch) p) = Sp.cD ch p ∧ True) ∧ (0 = Sp.cDe ch p ∧ True) ∧ True)) ∧ (bLe 16 p = false → True ∧ (m86_0 ch p))) ∧ (bLe ch 8 = false → True ∧ (m86_0 ch p))) ∧ (bLe 1 ch = false → True ∧ (m86_0 ch p))) := by kernel_rfl
theorem v86 (ch : Int) (p : Int) : Holds (Wfs [.int .i64 ch, .int .i64 p] → True → B86 ch p) := by
 refine ⟨fun hw hp => ?_⟩
 rw [e86]
 delta m86_0
 simp only [Wfs, Wf, InR, and_true] at hw
 simp only [eq_self, true_and, and_true, true_implies, implies_true, iAdd, iSub, iMul, bLt, bLe, bNot, InR, decide_eq_true_eq, decide_eq_false_iff_not, Bool.not_eq_true', Bool.not_eq_false', Sp.cD, Sp.cDe, Sp.cS, Sp.cSe]
 by_cases h : (1 ≤ ch ∧ ch ≤ 8) ∧ 16 ≤ p ∧ p ≤ 8192
 · have m0 : 0 ≤ 8 * ch * p := Int.mul_nonneg (by omega) (by omega)
   have m1 : 8 * ch * p ≤ 64 * 8192 := Int.mul_le_mul (by omega) (by omega) (by omega) (by omega)
   rw [decide_eq_true h]
   simp only [cond_true]
   repeat' (first | apply And.intro | intro _)
   all_goals omega
 · rw [decide_eq_false h]
   simp only [cond_false]
   repeat' (first | apply And.intro | intro _)
   all_goals (first | trivial | rfl | (exfalso; omega))
theorem s86 : SoundCt Go.Proofs.Tryz.prog 86 ct86 :=
 contractH followsMixed (look_sound (show Tb Go.Proofs.Tryz.prog tb86 from trivial)) (fun _ => false) (fun _ => A86) 6 86 ct86 rfl (by simp [ct86]) fun a => Eq.mp (by kernel_rfl) (v86 ((cel 0 (arg 0 a)).int) ((cel 0 (arg 1 a)).int))
end Go.Sx
namespace Go.Sx
def ct33 : Ct := { ps := [(false, [.int .i64]), (false, [.int .i64]), (false, [.int .i64])], rs := [(false, [.int .i64]), (false, [.int .i64])], pre := fun _ => True, out := fun a => [[.i (Sp.cS (cel 0 (arg 0 a)).int (cel 0 (arg 1 a)).int (cel 0 (arg 2 a)).int)], [.i (Sp.cSe (cel 0 (arg 0 a)).int (cel 0 (arg 1 a)).int (cel 0 (arg 2 a)).int)]] }
def tb33 : List (Nat × Ct) := []
def A33  : FuncId → Nat → LoopAnn := fun _ _ => .unroll 4
abbrev B33 (a : Int) (b : Int) (p : Int) : Prop := vcF Go.Proofs.Tryz.prog (look tb33) (fun _ => false) (A33) 6 33 [.int .i64 a, .int .i64 b, .int .i64 p] [] (fun sv heap => Gives [(false, [.int .i64]), (false, [.int .i64])] [[.i (Sp.cS a b p)], [.i (Sp.cSe a b p)]] sv heap)
def m33_0 (a : Int) (b : Int) (p : Int) : Prop := True ∧ (0 = Sp.cS a b p ∧ True) ∧ (2 = Sp.cSe a b p ∧ True) ∧ True
theorem e33 (a : Int) (b : Int) (p : Int) : B33 a b p = (InR .i64 a → (bLt a 1 = false → (bLt 8 a = true → (m33_0 a b p)) ∧ (bLt 8 a = false → InR .i64 b → (bLt b 1 = false → (bLt 8 b = true → (m33_0 a b p)) ∧ (bLt 8 b = false → True ∧ (InR .i64 p → (bLt p 16 = false → (bLt 8192 p = true → (m33_0 a b p)) ∧ (bLt 8192 p = false → True ∧ InR .i64 (iMul 4 a) ∧ InR .i64 (iMul a b) ∧ InR .i64 (iAdd (iMul 4 a) (iMul a b)) ∧ InR .i64 (iMul 2 b) ∧ InR .i64 (iAdd (iAdd (iMul 4 a) (iMul a b)) (iMul 2 b)) ∧ InR .i64 (iMul (iAdd (iAdd (iMul 4 a) (iMul a b)) (iMul 2 b)) p) ∧ InR .i64 (iAdd 300 (iMul (iAdd (iAdd (iMul 4 a) (iMul a b)) (iMul 2 b)) p)) ∧ (iAdd 300 (iMul (iAdd (iAdd (iMul 4 a) (iMul a b)) (iMul 2 b)) p) = Sp.cS a b p ∧ True) ∧ (0 = Sp.cSe a b p ∧ True) ∧ True)) ∧ (bLt p 16 = true → (m33_0 a b p))))) ∧ (bLt b 1 = true → (m33_0 a b p)))) ∧ (bLt a 1 = true → (m33_0 a b p))) := by kernel_rfl
theorem v33 (a : Int) (b : Int) (p : Int) : Holds (Wfs [.int .i64 a, .int .i64 b, .int .i64 p] → True → B33 a b p) := by
 refine ⟨fun hw hp => ?_⟩
 rw [e33]
 delta m33_0
 simp only [Wfs, Wf, InR, and_true] at hw
 simp only [eq_self, true_and, and_true, true_implies, implies_true, iAdd, iSub, iMul, bLt, bLe, bNot, InR, decide_eq_true_eq, decide_eq_false_iff_not, Bool.not_eq_true', Bool.not_eq_false', Sp.cD, Sp.cDe, Sp.cS, Sp.cSe]
 by_cases h : (1 ≤ a ∧ a ≤ 8) ∧ (1 ≤ b ∧ b ≤ 8) ∧ 16 ≤ p ∧ p ≤ 8192
 · have n0 : 0 ≤ a * b := Int.mul_nonneg (by omega) (by omega)
   have n1 : a * b ≤ 8 * 8 := Int.mul_le_mul (by omega) (by omega) (by omega) (by omega)
   have m0 : 0 ≤ (4 * a + a * b + 2 * b) * p := Int.mul_nonneg (by omega) (by omega)
   have m1 : (4 * a + a * b + 2 * b) * p ≤ 112 * 8192 := Int.mul_le_mul (by omega) (by omega) (by omega) (by omega)
   rw [decide_eq_true h]
   simp only [cond_true]
   repeat' (first | apply And.intro | intro _)
   all_goals omega
 · rw [decide_eq_false h]
   simp only [cond_false]
   repeat' (first | apply And.intro | intro _)
   all_goals (first | trivial | rfl | (exfalso; omega))
theorem s33 : SoundCt Go.Proofs.Tryz.prog 33 ct33 :=
 contractH followsMixed (look_sound (show Tb Go.Proofs.Tryz.prog tb33 from trivial)) (fun _ => false) (fun _ => A33) 6 33 ct33 rfl (by simp [ct33]) fun a => Eq.mp (by kernel_rfl) (v33 ((cel 0 (arg 0 a)).int) ((cel 0 (arg 1 a)).int) ((cel 0 (arg 2 a)).int))
end Go.Sx
namespace Go.Sx
def ct87 : Ct := { ps := [(false, [.int .i64]), (false, [.int .i64]), (false, [.int .i64])], rs := [(false, [.int .i64]), (false, [.int .i64])], pre := fun _ => True, out := fun a => [[.i (Sp.cS (cel 0 (arg 0 a)).int (cel 0 (arg 1 a)).int (cel 0 (arg 2 a)).int)], [.i (Sp.cSe (cel 0 (arg 0 a)).int (cel 0 (arg 1 a)).int (cel 0 (arg 2 a)).int)]] }
def tb87 : List (Nat × Ct) := []
def A87  : FuncId → Nat → LoopAnn := fun _ _ => .unroll 4
abbrev B87 (a : Int) (b : Int) (p : Int) : Prop := vcF Go.Proofs.Tryz.prog (look tb87) (fun _ => false) (A87) 6 87 [.int .i64 a, .int .i64 b, .int .i64 p] [] (fun sv heap => Gives [(false, [.int .i64]), (false, [.int .i64])] [[.i (Sp.cS a b p)], [.i (Sp.cSe a b p)]] sv heap)
def m87_0 (a : Int) (b : Int) (p : Int) : Prop := (0 = Sp.cS a b p ∧ True) ∧ (2 = Sp.cSe a b p ∧ True) ∧ True
theorem e87 (a : Int) (b : Int) (p : Int) : B87 a b p = ((bLe 1 a = true → (bLe a 8 = true → (bLe 1 b = true → (bLe b 8 = true → (bLe 16 p = true → True ∧ (bNot (bLe p 8192) = true → (m87_0 a b p)) ∧ (bNot (bLe p 8192) = false → InR .i64 (iMul 4 a) ∧ InR .i64 (iMul a b) ∧ InR .i64 (iAdd (iMul 4 a) (iMul a b)) ∧ InR .i64 (iMul 2 b) ∧ InR .i64 (iAdd (iAdd (iMul 4 a) (iMul a b)) (iMul 2 b)) ∧ InR .i64 (iMul (iAdd (iAdd (iMul 4 a) (iMul a b)) (iMul 2 b)) p) ∧ InR .i64 (iAdd 300 (iMul (iAdd (iAdd (iMul 4 a) (iMul a b)) (iMul 2 b)) p)) ∧ (iAdd 300 (iMul (iAdd (iAdd (iMul 4 a) (iMul a b)) (iMul 2 b)) p) = Sp.cS a b p ∧ True) ∧ (0 = Sp.cSe a b p ∧ True) ∧ True)) ∧ (bLe 16 p = false → True ∧ (m87_0 a b p))) ∧ (bLe b 8 = false → True ∧ (m87_0 a b p))) ∧ (bLe 1 b = false → True ∧ (m87_0 a b p))) ∧ (bLe a 8 = false → True ∧ (m87_0 a b p))) ∧ (bLe 1 a = false → True ∧ (m87_0 a b p))) := by kernel_rfl
theorem v87 (a : Int) (b : Int) (p : Int) : Holds (Wfs [.int .i64 a, .int .i64 b, .int .i64 p] → True → B87 a b p) := by
 refine ⟨fun hw hp => ?_⟩
 rw [e87]
 delta m87_0
 simp only [Wfs, Wf, InR, and_true] at hw
 simp only [eq_self, true_and, and_true, true_implies, implies_true, iAdd, iSub, iMul, bLt, bLe, bNot, InR, decide_eq_true_eq, decide_eq_false_iff_not, Bool.not_eq_true', Bool.not_eq_false', Sp.cD, Sp.cDe, Sp.cS, Sp.cSe]
 by_cases h : (1 ≤ a ∧ a ≤ 8) ∧ (1 ≤ b ∧ b ≤ 8) ∧ 16 ≤ p ∧ p ≤ 8192
 · have n0 : 0 ≤ a * b := Int.mul_nonneg (by omega) (by omega)
   have n1 : a * b ≤ 8 * 8 := Int.mul_le_mul (by omega) (by omega) (by omega) (by omega)
   have m0 : 0 ≤ (4 * a + a * b + 2 * b) * p := Int.mul_nonneg (by omega) (by omega)
   have m1 : (4 * a + a * b + 2 * b) * p ≤ 112 * 8192 := Int.mul_le_mul (by omega) (by omega) (by omega) (by omega)
   rw [decide_eq_true h]
   simp only [cond_true]
   repeat' (first | apply And.intro | intro _)
   all_goals omega
 · rw [decide_eq_false h]
   simp only [cond_false]
   repeat' (first | apply And.intro | intro _)
   all_goals (first | trivial | rfl | (exfalso; omega))
theorem s87 : SoundCt Go.Proofs.Tryz.prog 87 ct87 :=
 contractH followsMixed (look_sound (show Tb Go.Proofs.Tryz.prog tb87 from trivial)) (fun _ => false) (fun _ => A87) 6 87 ct87 rfl (by simp [ct87]) fun a => Eq.mp (by kernel_rfl) (v87 ((cel 0 (arg 0 a)).int) ((cel 0 (arg 1 a)).int) ((cel 0 (arg 2 a)).int))
end Go.Sx
namespace Go.Sx
def ct24 : Ct := { ps := [(true, [.int .i64, .int .i64, .int .i64, .sl [.int .u64, .int .i64], .sl [.int .i64, .int .u64, .int .i64, .int .i64]]), (false, [.int .u64])], rs := [(false, [.int .i64]), (false, [.bool])], pre := fun _ => True, out := fun a => [[.i (Sp.bsx (cel 3 (arg 0 a)).list (cel 0 (arg 1 a)).int)], [.b (Sp.bsf (cel 3 (arg 0 a)).list (cel 0 (arg 1 a)).int)]] }
def tb24 : List (Nat × Ct) := [(74, ct74)]
def A24 (ds : List (List C)) (id : Int) : FuncId → Nat → LoopAnn := fun ff ii => (bif Nat.beq ff 72 then .inv (Int × Int) (fun z => Sp.brI ds id z.1 z.2) (fun z => [(9, .int .i64 z.1), (10, .int .i64 z.2)]) (fun z => []) [] [0, 1, 2, 6, 7, 8, 9, 10, 11, 17, 31] (fun z => (z.2 - z.1).toNat) else .unroll 0)
abbrev B24 (w : Int) (c : Int) (p : Int) (ds : List (List C)) (ss : List (List C)) (id : Int) : Prop := vcF Go.Proofs.Tryz.prog (look tb24) (fun ff => Nat.beq ff 72) (A24 ds id) 8 24 [.agg [.int .i64 w, .int .i64 c, .int .i64 p, .sl [.int .u64, .int .i64] ds, .sl [.int .i64, .int .u64, .int .i64, .int .i64] ss], .int .u64 id] [] (fun sv heap => Gives [(false, [.int .i64]), (false, [.bool])] [[.i (Sp.bsx ds id)], [.b (Sp.bsf ds id)]] sv heap)
def h24_0 : Int → Int → Int → List (List C) → List (List C) → List HB := fun (w c p : Int) (ds ss : List (List C)) => [HB.box [SV.int .i64 w, SV.int .i64 c, SV.int .i64 p, SV.sl [.int .u64, .int .i64] ds, SV.sl [.int .i64, .int .u64, .int .i64, .int .i64] ss] 31, HB.box [SV.fn 52 []] 99]
def m24_0 (ds : List (List C)) (x : Int × Int) : List C := (rGet ds (iWrap .i64 (iShr (iWrap .u64 (iWrap .i64 (iAdd x.1 x.2))) 1)))
def m24_1 (ds : List (List C)) (id : Int) : Prop := true = true ∧ (fun z => z = z) [SV.sl [.int .u64, .int .i64] ds, SV.int .u64 id, SV.fn 73 [SV.ref 1 0], SV.lit .i64 0, SV.blit false, SV.int .i64 (iLen ds)]
theorem e24 (w : Int) (c : Int) (p : Int) (ds : List (List C)) (ss : List (List C)) (id : Int) : B24 w c p ds ss id = (pLe (iLen ds) 9223372036854775807 → (∃ (x : Int × Int), Sp.brI ds id x.1 x.2 ∧ true = true ∧ ((IntKind.i64 = IntKind.i64 ∧ 0 = x.1) ∧ (IntKind.i64 = IntKind.i64 ∧ iLen ds = x.2) ∧ True) ∧ True) ∧ (∀ (x : Int × Int), true = true ∧ true = true) ∧ ∀ (x : Int × Int), Sp.brI ds id x.1 x.2 → InR .i64 x.1 ∧ InR .i64 x.2 ∧ True → True → (bLt x.1 x.2 = true → pSh 64 1 ∧ pIn 0 (iLen ds) (iWrap .i64 (iShr (iWrap .u64 (iWrap .i64 (iAdd x.1 x.2))) 1)) ∧ (InR .u64 (q0 (m24_0 ds x)) ∧ InR .i64 (q1 (m24_0 ds x)) ∧ True → True ∧ (InR .i64 (Sp.cmp (q0 (m24_0 ds x)) id) → (bLt (Sp.cmp (q0 (m24_0 ds x)) id) 0 = true → ((m24_1 ds id)) ∧ h24_0 w c p ds ss = h24_0 w c p ds ss ∧ ∃ (y : Int × Int), Sp.brI ds id y.1 y.2 ∧ true = true ∧ ((IntKind.i64 = IntKind.i64 ∧ iWrap .i64 (iAdd (iWrap .i64 (iShr (iWrap .u64 (iWrap .i64 (iAdd x.1 x.2))) 1)) 1) = y.1) ∧ (IntKind.i64 = IntKind.i64 ∧ x.2 = y.2) ∧ True) ∧ True ∧ (y.2 - y.1).toNat < (x.2 - x.1).toNat) ∧ (bLt (Sp.cmp (q0 (m24_0 ds x)) id) 0 = false → ((m24_1 ds id)) ∧ h24_0 w c p ds ss = h24_0 w c p ds ss ∧ ∃ (y : Int × Int), Sp.brI ds id y.1 y.2 ∧ true = true ∧ ((IntKind.i64 = IntKind.i64 ∧ x.1 = y.1) ∧ (IntKind.i64 = IntKind.i64 ∧ iWrap .i64 (iShr (iWrap .u64 (iWrap .i64 (iAdd x.1 x.2))) 1) = y.2) ∧ True) ∧ True ∧ (y.2 - y.1).toNat < (x.2 - x.1).toNat)))) ∧ (bLt x.1 x.2 = false → (bLt x.1 (iLen ds) = true → pIn 0 (iLen ds) x.1 ∧ (InR .u64 (q0 (rGet ds x.1)) ∧ InR .i64 (q1 (rGet ds x.1)) ∧ True → True ∧ (InR .i64 (Sp.cmp (q0 (rGet ds x.1)) id) → (x.1 = Sp.bsx ds id ∧ True) ∧ (bEq (Sp.cmp (q0 (rGet ds x.1)) id) 0 = Sp.bsf ds id ∧ True) ∧ True))) ∧ (bLt x.1 (iLen ds) = false → (x.1 = Sp.bsx ds id ∧ True) ∧ (false = Sp.bsf ds id ∧ True) ∧ True))) := by kernel_rfl
theorem v24 (w : Int) (c : Int) (p : Int) (ds : List (List C)) (ss : List (List C)) (id : Int) : Holds (Wfs [.agg [.int .i64 w, .int .i64 c, .int .i64 p, .sl [.int .u64, .int .i64] ds, .sl [.int .i64, .int .u64, .int .i64, .int .i64] ss], .int .u64 id] → True → B24 w c p ds ss id) := by
 refine ⟨fun hw hp => ?_⟩
 rw [e24]
 delta q0 q1 m24_0 m24_1
 simp only [Wfs, Wf, InR, and_true] at hw
 simp only [eq_self, true_and, and_true, true_implies, implies_true, iAdd, iSub, iMul, iLen, bEq, bNe, bLt, bLe, bNot, pIn, pLe, pNe, InR, decide_eq_true_eq, decide_eq_false_iff_not, Bool.not_eq_true', Bool.not_eq_false', decide_eq_decide]
 intro hlen
 refine ⟨⟨(0, _), Sp.br_init, rfl, rfl⟩, ?_⟩
 rintro ⟨i, j⟩ hb hb1
 simp only at hb hb1 ⊢
 have p0 := hb.1
 have pq := hb.2.1
 have ql := hb.2.2.1
 rw [Sp.mid p0 pq (by omega)]
 simp only [Sp.cmp_lt', Sp.cmp_eq']
 refine ⟨fun hpq => ?_, fun hpq => ?_⟩
 · have e := Sp.wr1 (p := (i + j) / 2) (by omega) (by omega)
   exact ⟨by simp [pSh], ⟨by omega, by omega⟩, fun _ _ => ⟨fun hl => ⟨((i + j) / 2 + 1, j), Sp.br_up hb hpq hl, ⟨e, rfl⟩, by simp only; omega⟩, fun hl => ⟨(i, (i + j) / 2), Sp.br_down hb hpq hl, ⟨rfl, rfl⟩, by simp only; omega⟩⟩⟩
 · have e := Sp.br_end hb hpq
   unfold Sp.bsf
   rw [← e]
   refine ⟨fun hl => ⟨⟨p0, hl⟩, fun _ _ => ⟨rfl, ?_⟩⟩, fun hl => ⟨rfl, ?_⟩⟩
   · rw [decide_eq_true hl, Bool.true_and]; rfl
   · rw [decide_eq_false hl]; rfl
theorem s24 : SoundCt Go.Proofs.Tryz.prog 24 ct24 :=
 contractH followsMixed (look_sound (show Tb Go.Proofs.Tryz.prog tb24 from ⟨s74, trivial⟩)) (fun ff => Nat.beq ff 72) (fun a => A24 ((cel 3 (arg 0 a)).list) ((cel 0 (arg 1 a)).int)) 8 24 ct24 rfl (by simp [ct24]) fun a => Eq.mp (by kernel_rfl) (v24 ((cel 0 (arg 0 a)).int) ((cel 1 (arg 0 a)).int) ((cel 2 (arg 0 a)).int) ((cel 3 (arg 0 a)).list) ((cel 4 (arg 0 a)).list) ((cel 0 (arg 1 a)).int))
end Go.Sx
namespace Go.Sx
def ct23 : Ct := { ps := [(true, [.int .i64, .int .i64, .int .i64, .sl [.int .u64, .int .i64], .sl [.int .i64, .int .u64, .int .i64, .int .i64]]), (false, [.int .i64])], rs := [(false, [.int .i64]), (false, [.bool])], pre := fun _ => True, out := fun a => [[.i (Sp.bsx (cel 4 (arg 0 a)).list (cel 0 (arg 1 a)).int)], [.b (Sp.bsf (cel 4 (arg 0 a)).list (cel 0 (arg 1 a)).int)]] }
def tb23 : List (Nat × Ct) := [(71, ct71)]
def A23 (ss : List (List C)) (id : Int) : FuncId → Nat → LoopAnn := fun ff ii => (bif Nat.beq ff 69 then .inv (Int × Int) (fun z => Sp.brI ss id z.1 z.2) (fun z => [(9, .int .i64 z.1), (10, .int .i64 z.2)]) (fun z => []) [] [0, 1, 2, 6, 7, 8, 9, 10, 11, 17, 31] (fun z => (z.2 - z.1).toNat) else .unroll 0)
abbrev B23 (w : Int) (c : Int) (p : Int) (ds : List (List C)) (ss : List (List C)) (id : Int) : Prop := vcF Go.Proofs.Tryz.prog (look tb23) (fun ff => Nat.beq ff 69) (A23 ss id) 8 23 [.agg [.int .i64 w, .int .i64 c, .int .i64 p, .sl [.int .u64, .int .i64] ds, .sl [.int .i64, .int .u64, .int .i64, .int .i64] ss], .int .i64 id] [] (fun sv heap => Gives [(false, [.int .i64]), (false, [.bool])] [[.i (Sp.bsx ss id)], [.b (Sp.bsf ss id)]] sv heap)
def h23_0 : Int → Int → Int → List (List C) → List (List C) → List HB := fun (w c p : Int) (ds ss : List (List C)) => [HB.box [SV.int .i64 w, SV.int .i64 c, SV.int .i64 p, SV.sl [.int .u64, .int .i64] ds, SV.sl [.int .i64, .int .u64, .int .i64, .int .i64] ss] 31, HB.box [SV.fn 50 []] 97]
def m23_0 (ss : List (List C)) (x : Int × Int) : List C := (rGet ss (iWrap .i64 (iShr (iWrap .u64 (iWrap .i64 (iAdd x.1 x.2))) 1)))
def m23_1 (ss : List (List C)) (id : Int) : Prop := true = true ∧ (fun z => z = z) [SV.sl [.int .i64, .int .u64, .int .i64, .int .i64] ss, SV.int .i64 id, SV.fn 70 [SV.ref 1 0], SV.lit .i64 0, SV.blit false, SV.int .i64 (iLen ss)]
theorem e23 (w : Int) (c : Int) (p : Int) (ds : List (List C)) (ss : List (List C)) (id : Int) : B23 w c p ds ss id = (pLe (iLen ss) 9223372036854775807 → (∃ (x : Int × Int), Sp.brI ss id x.1 x.2 ∧ true = true ∧ ((IntKind.i64 = IntKind.i64 ∧ 0 = x.1) ∧ (IntKind.i64 = IntKind.i64 ∧ iLen ss = x.2) ∧ True) ∧ True) ∧ (∀ (x : Int × Int), true = true ∧ true = true) ∧ ∀ (x : Int × Int), Sp.brI ss id x.1 x.2 → InR .i64 x.1 ∧ InR .i64 x.2 ∧ True → True → (bLt x.1 x.2 = true → pSh 64 1 ∧ pIn 0 (iLen ss) (iWrap .i64 (iShr (iWrap .u64 (iWrap .i64 (iAdd x.1 x.2))) 1)) ∧ (InR .i64 (q0 (m23_0 ss x)) ∧ InR .u64 (q1 (m23_0 ss x)) ∧ InR .i64 (q2 (m23_0 ss x)) ∧ InR .i64 (q3 (m23_0 ss x)) ∧ True → True ∧ (InR .i64 (Sp.cmp (q0 (m23_0 ss x)) id) → (bLt (Sp.cmp (q0 (m23_0 ss x)) id) 0 = true → ((m23_1 ss id)) ∧ h23_0 w c p ds ss = h23_0 w c p ds ss ∧ ∃ (y : Int × Int), Sp.brI ss id y.1 y.2 ∧ true = true ∧ ((IntKind.i64 = IntKind.i64 ∧ iWrap .i64 (iAdd (iWrap .i64 (iShr (iWrap .u64 (iWrap .i64 (iAdd x.1 x.2))) 1)) 1) = y.1) ∧ (IntKind.i64 = IntKind.i64 ∧ x.2 = y.2) ∧ True) ∧ True ∧ (y.2 - y.1).toNat < (x.2 - x.1).toNat) ∧ (bLt (Sp.cmp (q0 (m23_0 ss x)) id) 0 = false → ((m23_1 ss id)) ∧ h23_0 w c p ds ss = h23_0 w c p ds ss ∧ ∃ (y : Int × Int), Sp.brI ss id y.1 y.2 ∧ true = true ∧ ((IntKind.i64 = IntKind.i64 ∧ x.1 = y.1) ∧ (IntKind.i64 = IntKind.i64 ∧ iWrap .i64 (iShr (iWrap .u64 (iWrap .i64 (iAdd x.1 x.2))) 1) = y.2) ∧ True) ∧ True ∧ (y.2 - y.1).toNat < (x.2 - x.1).toNat)))) ∧ (bLt x.1 x.2 = false → (bLt x.1 (iLen ss) = true → pIn 0 (iLen ss) x.1 ∧ (InR .i64 (q0 (rGet ss x.1)) ∧ InR .u64 (q1 (rGet ss x.1)) ∧ InR .i64 (q2 (rGet ss x.1)) ∧ InR .i64 (q3 (rGet ss x.1)) ∧ True → True ∧ (InR .i64 (Sp.cmp (q0 (rGet ss x.1)) id) → (x.1 = Sp.bsx ss id ∧ True) ∧ (bEq (Sp.cmp (q0 (rGet ss x.1)) id) 0 = Sp.bsf ss id ∧ True) ∧ True))) ∧ (bLt x.1 (iLen ss) = false → (x.1 = Sp.bsx ss id ∧ True) ∧ (false = Sp.bsf ss id ∧ True) ∧ True))) := by kernel_rfl
theorem v23 (w : Int) (c : Int) (p : Int) (ds : List (List C)) (ss : List (List C)) (id : Int) : Holds (Wfs [.agg [.int .i64 w, .int .i64 c, .int .i64 p, .sl [.int .u64, .int .i64] ds, .sl [.int .i64, .int .u64, .int .i64, .int .i64] ss], .int .i64 id] → True → B23 w c p ds ss id) := by
 refine ⟨fun hw hp => ?_⟩
 rw [e23]
 delta q0 q1 q2 q3 m23_0 m23_1
 simp only [Wfs, Wf, InR, and_true] at hw
 simp only [eq_self, true_and, and_true, true_implies, implies_true, iAdd, iSub, iMul, iLen, bEq, bNe, bLt, bLe, bNot, pIn, pLe, pNe, InR, decide_eq_true_eq, decide_eq_false_iff_not, Bool.not_eq_true', Bool.not_eq_false', decide_eq_decide]
 intro hlen
 refine ⟨⟨(0, _), Sp.br_init, rfl, rfl⟩, ?_⟩
 rintro ⟨i, j⟩ hb hb1
 simp only at hb hb1 ⊢
 have p0 := hb.1
 have pq := hb.2.1
 have ql := hb.2.2.1
 rw [Sp.mid p0 pq (by omega)]
 simp only [Sp.cmp_lt', Sp.cmp_eq']
 refine ⟨fun hpq => ?_, fun hpq => ?_⟩
 · have e := Sp.wr1 (p := (i + j) / 2) (by omega) (by omega)
   exact ⟨by simp [pSh], ⟨by omega, by omega⟩, fun _ _ => ⟨fun hl => ⟨((i + j) / 2 + 1, j), Sp.br_up hb hpq hl, ⟨e, rfl⟩, by simp only; omega⟩, fun hl => ⟨(i, (i + j) / 2), Sp.br_down hb hpq hl, ⟨rfl, rfl⟩, by simp only; omega⟩⟩⟩
 · have e := Sp.br_end hb hpq
   unfold Sp.bsf
   rw [← e]
   refine ⟨fun hl => ⟨⟨p0, hl⟩, fun _ _ => ⟨rfl, ?_⟩⟩, fun hl => ⟨rfl, ?_⟩⟩
   · rw [decide_eq_true hl, Bool.true_and]; rfl
   · rw [decide_eq_false hl]; rfl
theorem s23 : SoundCt Go.Proofs.Tryz.prog 23 ct23 :=
 contractH followsMixed (look_sound (show Tb Go.Proofs.Tryz.prog tb23 from ⟨s71, trivial⟩)) (fun ff => Nat.beq ff 69) (fun a => A23 ((cel 4 (arg 0 a)).list) ((cel 0 (arg 1 a)).int)) 8 23 ct23 rfl (by simp [ct23]) fun a => Eq.mp (by kernel_rfl) (v23 ((cel 0 (arg 0 a)).int) ((cel 1 (arg 0 a)).int) ((cel 2 (arg 0 a)).int) ((cel 3 (arg 0 a)).list) ((cel 4 (arg 0 a)).list) ((cel 0 (arg 1 a)).int))
end Go.Sx
namespace Go.Sx
def ct44 : Ct := { ps := [(true, [.int .i64, .int .i64, .int .i64, .sl [.int .u64, .int .i64], .sl [.int .i64, .int .u64, .int .i64, .int .i64]]), (false, [.int .u64])], rs := [(false, [.int .i64])], pre := fun _ => True, out := fun a => [[.i (Sp.nix (cel 3 (arg 0 a)).list (cel 0 (arg 1 a)).int)]] }
def tb44 : List (Nat × Ct) := []
def A44 (ds : List (List C)) (id : Int) : FuncId → Nat → LoopAnn := fun _ ii => bif Nat.beq ii 2 then .inv (Int) (fun z => Sp.at (Sp.isI id) ds z) (fun z => [(5, .int .i64 z)]) (fun z => []) [] [0, 1, 2, 4, 5, 10, 20] (fun z => ds.length - z.toNat) else .unroll 0
abbrev B44 (w : Int) (c : Int) (p : Int) (ds : List (List C)) (ss : List (List C)) (id : Int) : Prop := vcF Go.Proofs.Tryz.prog (look tb44) (fun _ => false) (A44 ds id) 6 44 [.agg [.int .i64 w, .int .i64 c, .int .i64 p, .sl [.int .u64, .int .i64] ds, .sl [.int .i64, .int .u64, .int .i64, .int .i64] ss], .int .u64 id] [] (fun sv heap => Gives [(false, [.int .i64])] [[.i (Sp.nix ds id)]] sv heap)
def h44_0 : Int → Int → Int → List (List C) → List (List C) → Int → List SV := fun (w c p : Int) (ds ss : List (List C)) (id : Int) => [SV.agg [SV.int .i64 w, SV.int .i64 c, SV.int .i64 p, SV.sl [.int .u64, .int .i64] ds, SV.sl [.int .i64, .int .u64, .int .i64, .int .i64] ss], SV.int .u64 id, SV.ref 0 0]
theorem e44 (w : Int) (c : Int) (p : Int) (ds : List (List C)) (ss : List (List C)) (id : Int) : B44 w c p ds ss id = ((∃ (x : Int), Sp.at (Sp.isI id) ds x ∧ true = true ∧ ((IntKind.i64 = IntKind.i64 ∧ 0 = x) ∧ True) ∧ True) ∧ (∀ (x : Int), true = true ∧ true = true) ∧ ∀ (x : Int), Sp.at (Sp.isI id) ds x → InR .i64 x ∧ True → True → pLe (iLen ds) 9223372036854775807 → (bLt x (iLen ds) = true → pIn 0 (iLen ds) x ∧ (InR .u64 (q0 (rGet ds x)) → (bEq (q0 (rGet ds x)) id = true → (x = Sp.nix ds id ∧ True) ∧ True) ∧ (bEq (q0 (rGet ds x)) id = false → InR .i64 (iAdd x 1) ∧ (true = true ∧ h44_0 w c p ds ss id = h44_0 w c p ds ss id) ∧ (fun z => z = z) [HB.box [SV.int .i64 w, SV.int .i64 c, SV.int .i64 p, SV.sl [.int .u64, .int .i64] ds, SV.sl [.int .i64, .int .u64, .int .i64, .int .i64] ss] 31] ∧ ∃ (y : Int), Sp.at (Sp.isI id) ds y ∧ true = true ∧ ((IntKind.i64 = IntKind.i64 ∧ iAdd x 1 = y) ∧ True) ∧ True ∧ ds.length - y.toNat < ds.length - x.toNat))) ∧ (bLt x (iLen ds) = false → (-1 = Sp.nix ds id ∧ True) ∧ True)) := by kernel_rfl
theorem v44 (w : Int) (c : Int) (p : Int) (ds : List (List C)) (ss : List (List C)) (id : Int) : Holds (Wfs [.agg [.int .i64 w, .int .i64 c, .int .i64 p, .sl [.int .u64, .int .i64] ds, .sl [.int .i64, .int .u64, .int .i64, .int .i64] ss], .int .u64 id] → True → B44 w c p ds ss id) := by
 refine ⟨fun hw hp => ?_⟩
 rw [e44]
 delta q0
 simp only [Wfs, Wf, InR, and_true] at hw
 simp only [eq_self, true_and, and_true, true_implies, implies_true, iAdd, iSub, iMul, iLen, bEq, bNe, bLt, bLe, bNot, pIn, pLe, pNe, InR, decide_eq_true_eq, decide_eq_false_iff_not, Bool.not_eq_true', Bool.not_eq_false', decide_eq_decide]
 refine ⟨⟨0, Sp.at_init, rfl⟩, fun x hx hx1 hlen => ⟨fun hlt => ⟨⟨hx.1, hlt⟩, fun _ => ⟨fun hh => ?_, fun hh => ⟨by omega, x + 1, Sp.at_step hx hlt (decide_eq_false hh), rfl, by have := hx.1; omega⟩⟩⟩, fun hge => ?_⟩⟩
 · exact (Sp.at_hit hx hlt (decide_eq_true hh)).symm
 · exact (Sp.at_end hx hge).symm
theorem s44 : SoundCt Go.Proofs.Tryz.prog 44 ct44 :=
 contractH followsMixed (look_sound (show Tb Go.Proofs.Tryz.prog tb44 from trivial)) (fun _ => false) (fun a => A44 ((cel 3 (arg 0 a)).list) ((cel 0 (arg 1 a)).int)) 6 44 ct44 rfl (by simp [ct44]) fun a => Eq.mp (by kernel_rfl) (v44 ((cel 0 (arg 0 a)).int) ((cel 1 (arg 0 a)).int) ((cel 2 (arg 0 a)).int) ((cel 3 (arg 0 a)).list) ((cel 4 (arg 0 a)).list) ((cel 0 (arg 1 a)).int))
end Go.Sx
namespace Go.Sx
def ct47 : Ct := { ps := [(true, [.int .i64, .int .i64, .int .i64, .sl [.int .u64, .int .i64], .sl [.int .i64, .int .u64, .int .i64, .int .i64]]), (false, [.int .i64])], rs := [(false, [.int .i64])], pre := fun _ => True, out := fun a => [[.i (Sp.nix (cel 4 (arg 0 a)).list (cel 0 (arg 1 a)).int)]] }
def tb47 : List (Nat × Ct) := []
def A47 (ss : List (List C)) (id : Int) : FuncId → Nat → LoopAnn := fun _ ii => bif Nat.beq ii 2 then .inv (Int) (fun z => Sp.at (Sp.isI id) ss z) (fun z => [(5, .int .i64 z)]) (fun z => []) [] [0, 1, 2, 4, 5, 10, 20] (fun z => ss.length - z.toNat) else .unroll 0
abbrev B47 (w : Int) (c : Int) (p : Int) (ds : List (List C)) (ss : List (List C)) (id : Int) : Prop := vcF Go.Proofs.Tryz.prog (look tb47) (fun _ => false) (A47 ss id) 6 47 [.agg [.int .i64 w, .int .i64 c, .int .i64 p, .sl [.int .u64, .int .i64] ds, .sl [.int .i64, .int .u64, .int .i64, .int .i64] ss], .int .i64 id] [] (fun sv heap => Gives [(false, [.int .i64])] [[.i (Sp.nix ss id)]] sv heap)
def h47_0 : Int → Int → Int → List (List C) → List (List C) → Int → List SV := fun (w c p : Int) (ds ss : List (List C)) (id : Int) => [SV.agg [SV.int .i64 w, SV.int .i64 c, SV.int .i64 p, SV.sl [.int .u64, .int .i64] ds, SV.sl [.int .i64, .int .u64, .int .i64, .int .i64] ss], SV.int .i64 id, SV.ref 0 0]
theorem e47 (w : Int) (c : Int) (p : Int) (ds : List (List C)) (ss : List (List C)) (id : Int) : B47 w c p ds ss id = ((∃ (x : Int), Sp.at (Sp.isI id) ss x ∧ true = true ∧ ((IntKind.i64 = IntKind.i64 ∧ 0 = x) ∧ True) ∧ True) ∧ (∀ (x : Int), true = true ∧ true = true) ∧ ∀ (x : Int), Sp.at (Sp.isI id) ss x → InR .i64 x ∧ True → True → pLe (iLen ss) 9223372036854775807 → (bLt x (iLen ss) = true → pIn 0 (iLen ss) x ∧ (InR .i64 (q0 (rGet ss x)) → (bEq (q0 (rGet ss x)) id = true → (x = Sp.nix ss id ∧ True) ∧ True) ∧ (bEq (q0 (rGet ss x)) id = false → InR .i64 (iAdd x 1) ∧ (true = true ∧ h47_0 w c p ds ss id = h47_0 w c p ds ss id) ∧ (fun z => z = z) [HB.box [SV.int .i64 w, SV.int .i64 c, SV.int .i64 p, SV.sl [.int .u64, .int .i64] ds, SV.sl [.int .i64, .int .u64, .int .i64, .int .i64] ss] 31] ∧ ∃ (y : Int), Sp.at (Sp.isI id) ss y ∧ true = true ∧ ((IntKind.i64 = IntKind.i64 ∧ iAdd x 1 = y) ∧ True) ∧ True ∧ ss.length - y.toNat < ss.length - x.toNat))) ∧ (bLt x (iLen ss) = false → (-1 = Sp.nix ss id ∧ True) ∧ True)) := by kernel_rfl
theorem v47 (w : Int) (c : Int) (p : Int) (ds : List (List C)) (ss : List (List C)) (id : Int) : Holds (Wfs [.agg [.int .i64 w, .int .i64 c, .int .i64 p, .sl [.int .u64, .int .i64] ds, .sl [.int .i64, .int .u64, .int .i64, .int .i64] ss], .int .i64 id] → True → B47 w c p ds ss id) := by
 refine ⟨fun hw hp => ?_⟩
 rw [e47]
 delta q0
 simp only [Wfs, Wf, InR, and_true] at hw
 simp only [eq_self, true_and, and_true, true_implies, implies_true, iAdd, iSub, iMul, iLen, bEq, bNe, bLt, bLe, bNot, pIn, pLe, pNe, InR, decide_eq_true_eq, decide_eq_false_iff_not, Bool.not_eq_true', Bool.not_eq_false', decide_eq_decide]
 refine ⟨⟨0, Sp.at_init, rfl⟩, fun x hx hx1 hlen => ⟨fun hlt => ⟨⟨hx.1, hlt⟩, fun _ => ⟨fun hh => ?_, fun hh => ⟨by omega, x + 1, Sp.at_step hx hlt (decide_eq_false hh), rfl, by have := hx.1; omega⟩⟩⟩, fun hge => ?_⟩⟩
 · exact (Sp.at_hit hx hlt (decide_eq_true hh)).symm
 · exact (Sp.at_end hx hge).symm
theorem s47 : SoundCt Go.Proofs.Tryz.prog 47 ct47 :=
 contractH followsMixed (look_sound (show Tb Go.Proofs.Tryz.prog tb47 from trivial)) (fun _ => false) (fun a => A47 ((cel 4 (arg 0 a)).list) ((cel 0 (arg 1 a)).int)) 6 47 ct47 rfl (by simp [ct47]) fun a => Eq.mp (by kernel_rfl) (v47 ((cel 0 (arg 0 a)).int) ((cel 1 (arg 0 a)).int) ((cel 2 (arg 0 a)).int) ((cel 3 (arg 0 a)).list) ((cel 4 (arg 0 a)).list) ((cel 0 (arg 1 a)).int))
end Go.Sx
