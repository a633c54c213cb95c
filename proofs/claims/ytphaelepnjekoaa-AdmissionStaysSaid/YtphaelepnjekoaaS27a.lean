import Derived.Test.YtphaelepnjekoaaSxUse
import Derived.Test.YtphaelepnjekoaaG27e
import Derived.KernelRfl
set_option linter.unusedVariables false
set_option linter.unusedSimpArgs false
set_option maxRecDepth 100000
set_option maxHeartbeats 4000000
namespace Go
open Go.Sx
def Sp.dokI (ds : List (List C)) (i : Int) : Bool := decide (1 ≤ Sp.c0 (rGet ds i) ∧ (i ≤ 0 ∨ Sp.c0 (rGet ds (i - 1)) < Sp.c0 (rGet ds i)) ∧ 1 ≤ Sp.c1 (rGet ds i) ∧ Sp.c1 (rGet ds i) ≤ 8)
def Sp.sokI (ds ss : List (List C)) (i : Int) : Bool := decide (1 ≤ Sp.c0 (rGet ss i) ∧ (i ≤ 0 ∨ Sp.c0 (rGet ss (i - 1)) < Sp.c0 (rGet ss i)) ∧ 1 ≤ Sp.c2 (rGet ss i) ∧ Sp.c2 (rGet ss i) ≤ 8 ∧ 0 ≤ Sp.c3 (rGet ss i) ∧ Sp.c3 (rGet ss i) ≤ 1099511627776) && Sp.has ds (Sp.c1 (rGet ss i))
def Sp.prop (w c p : Int) (ds ss : List (List C)) : Bool := decide ((1 ≤ w ∧ w ≤ 8) ∧ (0 ≤ c ∧ c ≤ 1099511627776) ∧ (16 ≤ p ∧ p ≤ 8192) ∧ ds.length ≤ 8 ∧ ss.length ≤ 24) && Sp.allI (Sp.dokI ds) ds.length && Sp.allI (Sp.sokI ds ss) ss.length
def Sp.cD (ch p : Int) : Int := bif decide ((1 ≤ ch ∧ ch ≤ 8) ∧ 16 ≤ p ∧ p ≤ 8192) then 400 + 8 * ch * p else 0
def Sp.cDe (ch p : Int) : Int := bif decide ((1 ≤ ch ∧ ch ≤ 8) ∧ 16 ≤ p ∧ p ≤ 8192) then 0 else 2
def Sp.cS (a b p : Int) : Int := bif decide ((1 ≤ a ∧ a ≤ 8) ∧ (1 ≤ b ∧ b ≤ 8) ∧ 16 ≤ p ∧ p ≤ 8192) then 300 + (4 * a + a * b + 2 * b) * p else 0
def Sp.cSe (a b p : Int) : Int := bif decide ((1 ≤ a ∧ a ≤ 8) ∧ (1 ≤ b ∧ b ≤ 8) ∧ 16 ≤ p ∧ p ≤ 8192) then 0 else 2
end Go
namespace Go
open Go.Sx
def Sp.bsr (key : Int) (xs : List (List C)) (n : Nat) (i j : Int) : Int :=
  match n with
  | 0 => i
  | k + 1 => if i < j then (if Sp.c0 (rGet xs ((i + j) / 2)) < key then Sp.bsr key xs k ((i + j) / 2 + 1) j else Sp.bsr key xs k i ((i + j) / 2)) else i
def Sp.bsx (xs : List (List C)) (key : Int) : Int := Sp.bsr key xs xs.length 0 xs.length
def Sp.bsf (xs : List (List C)) (key : Int) : Bool := decide (Sp.bsx xs key < (xs.length : Int)) && decide (Sp.c0 (rGet xs (Sp.bsx xs key)) = key)
def Sp.brI (xs : List (List C)) (key i j : Int) : Prop := 0 ≤ i ∧ i ≤ j ∧ j ≤ (xs.length : Int) ∧ ∃ n : Nat, (j - i).toNat ≤ n ∧ Sp.bsr key xs n i j = Sp.bsx xs key
end Go
namespace Go
open Go.Sx
theorem Sp.br_init {xs : List (List C)} {key : Int} : Sp.brI xs key 0 xs.length := ⟨by omega, by omega, by omega, xs.length, by omega, rfl⟩
theorem Sp.br_up {xs : List (List C)} {key i j : Int} (h : Sp.brI xs key i j) (hij : i < j) (hc : Sp.c0 (rGet xs ((i + j) / 2)) < key) : Sp.brI xs key ((i + j) / 2 + 1) j := by
  obtain ⟨h0, h1, h2, n, h3, h4⟩ := h
  refine ⟨by omega, by omega, by omega, ?_⟩
  cases n with
  | zero => omega
  | succ n =>
    refine ⟨n, by omega, ?_⟩
    rw [← h4]
    simp only [Sp.bsr, if_pos hij, if_pos hc]
theorem Sp.br_down {xs : List (List C)} {key i j : Int} (h : Sp.brI xs key i j) (hij : i < j) (hc : ¬ Sp.c0 (rGet xs ((i + j) / 2)) < key) : Sp.brI xs key i ((i + j) / 2) := by
  obtain ⟨h0, h1, h2, n, h3, h4⟩ := h
  refine ⟨by omega, by omega, by omega, ?_⟩
  cases n with
  | zero => omega
  | succ n =>
    refine ⟨n, by omega, ?_⟩
    rw [← h4]
    simp only [Sp.bsr, if_pos hij, if_neg hc]
theorem Sp.br_end {xs : List (List C)} {key i j : Int} (h : Sp.brI xs key i j) (hij : ¬ i < j) : i = Sp.bsx xs key := by
  obtain ⟨h0, h1, h2, n, h3, h4⟩ := h
  rw [← h4]
  cases n with
  | zero => rfl
  | succ n => simp only [Sp.bsr, if_neg hij]
theorem Sp.cmp_lt' {a b : Int} : Sp.cmp a b < 0 ↔ a < b := by unfold Sp.cmp; grind
theorem Sp.cmp_eq' {a b : Int} : Sp.cmp a b = 0 ↔ a = b := by unfold Sp.cmp; grind
theorem Sp.mid {p q : Int} (h0 : 0 ≤ p) (h1 : p ≤ q) (h2 : q ≤ 9223372036854775807) : iWrap IntKind.i64 (iShr (iWrap IntKind.u64 (iWrap IntKind.i64 (p + q))) 1) = (p + q) / 2 := by
  have e1 : iWrap IntKind.u64 (iWrap IntKind.i64 (p + q)) = p + q := by
    show IntKind.wrap _ (IntKind.wrap _ _) = _
    rw [IntKind.wrap_u64, IntKind.wrap_i64]; omega
  have e2 : iShr (p + q) 1 = (p + q) / 2 := by show Int.fdiv (p + q) 2 = _; rw [Int.fdiv_eq_ediv_of_nonneg _ (by omega)]
  rw [e1, e2]
  show IntKind.wrap _ _ = _
  rw [IntKind.wrap_i64]; omega
theorem Sp.wr1 {p : Int} (h0 : 0 ≤ p) (h1 : p < 9223372036854775807) : iWrap IntKind.i64 (p + 1) = p + 1 := by
  show IntKind.wrap _ _ = _
  rw [IntKind.wrap_i64]; omega
end Go
namespace Go.Sx
def ct81 : Ct := { ps := [(false, [.int .u64]), (false, [.int .u64])], rs := [(false, [.int .i64])], pre := fun _ => True, out := fun a => [[.i (Sp.cmp (cel 0 (arg 0 a)).int (cel 0 (arg 1 a)).int)]] }
def tb81 : List (Nat × Ct) := []
def A81  : FuncId → Nat → LoopAnn := fun _ _ => LoopAnn.unroll 200
abbrev B81 (a : Int) (b : Int) : Prop := vcF Go.Proofs.Try.prog (look tb81) (fun _ => false) (A81) 8 81 [.int .u64 a, .int .u64 b] [] (fun sv heap => Gives [(false, [.int .i64])] [[.i (Sp.cmp a b)]] sv heap)
theorem e81 (a : Int) (b : Int) : B81 a b = ((bNe a a = true → (bNe b b = true → (0 = Sp.cmp a b ∧ True) ∧ True) ∧ (bNe b b = false → (-1 = Sp.cmp a b ∧ True) ∧ True)) ∧ (bNe a a = false → (bNe b b = true → (1 = Sp.cmp a b ∧ True) ∧ True) ∧ (bNe b b = false → (bLt a b = true → (-1 = Sp.cmp a b ∧ True) ∧ True) ∧ (bLt a b = false → (bLt b a = true → (1 = Sp.cmp a b ∧ True) ∧ True) ∧ (bLt b a = false → (0 = Sp.cmp a b ∧ True) ∧ True))))) := by kernel_rfl
theorem v81 (a : Int) (b : Int) : Holds (Wfs [.int .u64 a, .int .u64 b] → True → B81 a b) := by
  refine ⟨fun hw hp => ?_⟩
  rw [e81]
  simp only [bLt, bNe, eq_self, and_true, Bool.not_eq_true', Bool.not_eq_false', decide_eq_true_eq, decide_eq_false_iff_not, Sp.cmp]
  grind
theorem s81 : SoundCt Go.Proofs.Try.prog 81 ct81 :=
  contractH followsMixed (look_sound (show Tb Go.Proofs.Try.prog tb81 from trivial)) (fun _ => false) (fun _ => A81) 8 81 ct81 rfl (by simp [ct81]) fun a => Eq.mp (by kernel_rfl) (v81 ((cel 0 (arg 0 a)).int) ((cel 0 (arg 1 a)).int))
end Go.Sx
namespace Go.Sx
def ct35 : Ct := { ps := [(false, [.int .i64]), (false, [.int .i64])], rs := [(false, [.int .i64]), (false, [.int .i64])], pre := fun _ => True, out := fun a => [[.i (Sp.cD (cel 0 (arg 0 a)).int (cel 0 (arg 1 a)).int)], [.i (Sp.cDe (cel 0 (arg 0 a)).int (cel 0 (arg 1 a)).int)]] }
def tb35 : List (Nat × Ct) := []
def A35  : FuncId → Nat → LoopAnn := fun _ _ => .unroll 4
abbrev B35 (ch : Int) (p : Int) : Prop := vcF Go.Proofs.Try.prog (look tb35) (fun _ => false) (A35) 6 35 [.int .i64 ch, .int .i64 p] [] (fun sv heap => Gives [(false, [.int .i64]), (false, [.int .i64])] [[.i (Sp.cD ch p)], [.i (Sp.cDe ch p)]] sv heap)
theorem e35 (ch : Int) (p : Int) : B35 ch p = (InR .i64 ch → (bLt ch 1 = false → (bLt 8 ch = true → True ∧ (0 = Sp.cD ch p ∧ True) ∧ (2 = Sp.cDe ch p ∧ True) ∧ True) ∧ (bLt 8 ch = false → True ∧ (InR .i64 p → (bLt p 16 = false → (bLt 8192 p = true → True ∧ (0 = Sp.cD ch p ∧ True) ∧ (2 = Sp.cDe ch p ∧ True) ∧ True) ∧ (bLt 8192 p = false → True ∧ InR .i64 (iMul 8 ch) ∧ InR .i64 (iMul (iMul 8 ch) p) ∧ InR .i64 (iAdd 400 (iMul (iMul 8 ch) p)) ∧ (iAdd 400 (iMul (iMul 8 ch) p) = Sp.cD ch p ∧ True) ∧ (0 = Sp.cDe ch p ∧ True) ∧ True)) ∧ (bLt p 16 = true → True ∧ (0 = Sp.cD ch p ∧ True) ∧ (2 = Sp.cDe ch p ∧ True) ∧ True)))) ∧ (bLt ch 1 = true → True ∧ (0 = Sp.cD ch p ∧ True) ∧ (2 = Sp.cDe ch p ∧ True) ∧ True)) := by kernel_rfl
theorem v35 (ch : Int) (p : Int) : Holds (Wfs [.int .i64 ch, .int .i64 p] → True → B35 ch p) := by
  refine ⟨fun hw hp => ?_⟩
  rw [e35]
  simp only [Wfs, Wf, InR, and_true] at hw
  simp only [eq_self, true_and, and_true, true_implies, implies_true, iAdd, iSub, iMul, bLt, bLe, bNot, InR, decide_eq_true_eq, decide_eq_false_iff_not, Bool.not_eq_true', Bool.not_eq_false', Sp.cD, Sp.cDe, Sp.cS, Sp.cSe]
  by_cases h : (1 ≤ ch ∧ ch ≤ 8) ∧ 16 ≤ p ∧ p ≤ 8192
  · have m0 : 0 ≤ 8 * ch * p := Int.mul_nonneg (by omega) (by omega)
    have m1 : 8 * ch * p ≤ 64 * 8192 := Int.mul_le_mul (by omega) (by omega) (by omega) (by omega)
    rw [decide_eq_true h]
    simp only [cond_true]
    repeat' (first | apply And.intro | intro _)
    all_goals omega
  · rw [decide_eq_false h]
    simp only [cond_false]
    repeat' (first | apply And.intro | intro _)
    all_goals (first | trivial | rfl | (exfalso; omega))
theorem s35 : SoundCt Go.Proofs.Try.prog 35 ct35 :=
  contractH followsMixed (look_sound (show Tb Go.Proofs.Try.prog tb35 from trivial)) (fun _ => false) (fun _ => A35) 6 35 ct35 rfl (by simp [ct35]) fun a => Eq.mp (by kernel_rfl) (v35 ((cel 0 (arg 0 a)).int) ((cel 0 (arg 1 a)).int))
end Go.Sx
namespace Go.Sx
def ct39 : Ct := { ps := [(false, [.int .i64]), (false, [.int .i64])], rs := [(false, [.int .i64]), (false, [.int .i64])], pre := fun _ => True, out := fun a => [[.i (Sp.cD (cel 0 (arg 0 a)).int (cel 0 (arg 1 a)).int)], [.i (Sp.cDe (cel 0 (arg 0 a)).int (cel 0 (arg 1 a)).int)]] }
def tb39 : List (Nat × Ct) := []
def A39  : FuncId → Nat → LoopAnn := fun _ _ => .unroll 4
abbrev B39 (ch : Int) (p : Int) : Prop := vcF Go.Proofs.Try.prog (look tb39) (fun _ => false) (A39) 6 39 [.int .i64 ch, .int .i64 p] [] (fun sv heap => Gives [(false, [.int .i64]), (false, [.int .i64])] [[.i (Sp.cD ch p)], [.i (Sp.cDe ch p)]] sv heap)
theorem e39 (ch : Int) (p : Int) : B39 ch p = ((bLe 1 ch = true → (bLe ch 8 = true → (bLe 16 p = true → True ∧ (bNot (bLe p 8192) = true → (0 = Sp.cD ch p ∧ True) ∧ (2 = Sp.cDe ch p ∧ True) ∧ True) ∧ (bNot (bLe p 8192) = false → InR .i64 (iMul 8 ch) ∧ InR .i64 (iMul (iMul 8 ch) p) ∧ InR .i64 (iAdd 400 (iMul (iMul 8 ch) p)) ∧ (iAdd 400 (iMul (iMul 8 ch) p) = Sp.cD ch p ∧ True) ∧ (0 = Sp.cDe ch p ∧ True) ∧ True)) ∧ (bLe 16 p = false → True ∧ (0 = Sp.cD ch p ∧ True) ∧ (2 = Sp.cDe ch p ∧ True) ∧ True)) ∧ (bLe ch 8 = false → True ∧ (0 = Sp.cD ch p ∧ True) ∧ (2 = Sp.cDe ch p ∧ True) ∧ True)) ∧ (bLe 1 ch = false → True ∧ (0 = Sp.cD ch p ∧ True) ∧ (2 = Sp.cDe ch p ∧ True) ∧ True)) := by kernel_rfl
theorem v39 (ch : Int) (p : Int) : Holds (Wfs [.int .i64 ch, .int .i64 p] → True → B39 ch p) := by
  refine ⟨fun hw hp => ?_⟩
  rw [e39]
  simp only [Wfs, Wf, InR, and_true] at hw
  simp only [eq_self, true_and, and_true, true_implies, implies_true, iAdd, iSub, iMul, bLt, bLe, bNot, InR, decide_eq_true_eq, decide_eq_false_iff_not, Bool.not_eq_true', Bool.not_eq_false', Sp.cD, Sp.cDe, Sp.cS, Sp.cSe]
  by_cases h : (1 ≤ ch ∧ ch ≤ 8) ∧ 16 ≤ p ∧ p ≤ 8192
  · have m0 : 0 ≤ 8 * ch * p := Int.mul_nonneg (by omega) (by omega)
    have m1 : 8 * ch * p ≤ 64 * 8192 := Int.mul_le_mul (by omega) (by omega) (by omega) (by omega)
    rw [decide_eq_true h]
    simp only [cond_true]
    repeat' (first | apply And.intro | intro _)
    all_goals omega
  · rw [decide_eq_false h]
    simp only [cond_false]
    repeat' (first | apply And.intro | intro _)
    all_goals (first | trivial | rfl | (exfalso; omega))
theorem s39 : SoundCt Go.Proofs.Try.prog 39 ct39 :=
  contractH followsMixed (look_sound (show Tb Go.Proofs.Try.prog tb39 from trivial)) (fun _ => false) (fun _ => A39) 6 39 ct39 rfl (by simp [ct39]) fun a => Eq.mp (by kernel_rfl) (v39 ((cel 0 (arg 0 a)).int) ((cel 0 (arg 1 a)).int))
end Go.Sx
namespace Go.Sx
def ct37 : Ct := { ps := [(false, [.int .i64]), (false, [.int .i64]), (false, [.int .i64])], rs := [(false, [.int .i64]), (false, [.int .i64])], pre := fun _ => True, out := fun a => [[.i (Sp.cS (cel 0 (arg 0 a)).int (cel 0 (arg 1 a)).int (cel 0 (arg 2 a)).int)], [.i (Sp.cSe (cel 0 (arg 0 a)).int (cel 0 (arg 1 a)).int (cel 0 (arg 2 a)).int)]] }
def tb37 : List (Nat × Ct) := []
def A37  : FuncId → Nat → LoopAnn := fun _ _ => .unroll 4
abbrev B37 (a : Int) (b : Int) (p : Int) : Prop := vcF Go.Proofs.Try.prog (look tb37) (fun _ => false) (A37) 6 37 [.int .i64 a, .int .i64 b, .int .i64 p] [] (fun sv heap => Gives [(false, [.int .i64]), (false, [.int .i64])] [[.i (Sp.cS a b p)], [.i (Sp.cSe a b p)]] sv heap)
theorem e37 (a : Int) (b : Int) (p : Int) : B37 a b p = (InR .i64 a → (bLt a 1 = false → (bLt 8 a = true → True ∧ (0 = Sp.cS a b p ∧ True) ∧ (2 = Sp.cSe a b p ∧ True) ∧ True) ∧ (bLt 8 a = false → InR .i64 b → (bLt b 1 = false → (bLt 8 b = true → True ∧ (0 = Sp.cS a b p ∧ True) ∧ (2 = Sp.cSe a b p ∧ True) ∧ True) ∧ (bLt 8 b = false → True ∧ (InR .i64 p → (bLt p 16 = false → (bLt 8192 p = true → True ∧ (0 = Sp.cS a b p ∧ True) ∧ (2 = Sp.cSe a b p ∧ True) ∧ True) ∧ (bLt 8192 p = false → True ∧ InR .i64 (iMul 4 a) ∧ InR .i64 (iMul a b) ∧ InR .i64 (iAdd (iMul 4 a) (iMul a b)) ∧ InR .i64 (iMul 2 b) ∧ InR .i64 (iAdd (iAdd (iMul 4 a) (iMul a b)) (iMul 2 b)) ∧ InR .i64 (iMul (iAdd (iAdd (iMul 4 a) (iMul a b)) (iMul 2 b)) p) ∧ InR .i64 (iAdd 300 (iMul (iAdd (iAdd (iMul 4 a) (iMul a b)) (iMul 2 b)) p)) ∧ (iAdd 300 (iMul (iAdd (iAdd (iMul 4 a) (iMul a b)) (iMul 2 b)) p) = Sp.cS a b p ∧ True) ∧ (0 = Sp.cSe a b p ∧ True) ∧ True)) ∧ (bLt p 16 = true → True ∧ (0 = Sp.cS a b p ∧ True) ∧ (2 = Sp.cSe a b p ∧ True) ∧ True)))) ∧ (bLt b 1 = true → True ∧ (0 = Sp.cS a b p ∧ True) ∧ (2 = Sp.cSe a b p ∧ True) ∧ True))) ∧ (bLt a 1 = true → True ∧ (0 = Sp.cS a b p ∧ True) ∧ (2 = Sp.cSe a b p ∧ True) ∧ True)) := by kernel_rfl
theorem v37 (a : Int) (b : Int) (p : Int) : Holds (Wfs [.int .i64 a, .int .i64 b, .int .i64 p] → True → B37 a b p) := by
  refine ⟨fun hw hp => ?_⟩
  rw [e37]
  simp only [Wfs, Wf, InR, and_true] at hw
  simp only [eq_self, true_and, and_true, true_implies, implies_true, iAdd, iSub, iMul, bLt, bLe, bNot, InR, decide_eq_true_eq, decide_eq_false_iff_not, Bool.not_eq_true', Bool.not_eq_false', Sp.cD, Sp.cDe, Sp.cS, Sp.cSe]
  by_cases h : (1 ≤ a ∧ a ≤ 8) ∧ (1 ≤ b ∧ b ≤ 8) ∧ 16 ≤ p ∧ p ≤ 8192
  · have n0 : 0 ≤ a * b := Int.mul_nonneg (by omega) (by omega)
    have n1 : a * b ≤ 8 * 8 := Int.mul_le_mul (by omega) (by omega) (by omega) (by omega)
    have m0 : 0 ≤ (4 * a + a * b + 2 * b) * p := Int.mul_nonneg (by omega) (by omega)
    have m1 : (4 * a + a * b + 2 * b) * p ≤ 112 * 8192 := Int.mul_le_mul (by omega) (by omega) (by omega) (by omega)
    rw [decide_eq_true h]
    simp only [cond_true]
    repeat' (first | apply And.intro | intro _)
    all_goals omega
  · rw [decide_eq_false h]
    simp only [cond_false]
    repeat' (first | apply And.intro | intro _)
    all_goals (first | trivial | rfl | (exfalso; omega))
theorem s37 : SoundCt Go.Proofs.Try.prog 37 ct37 :=
  contractH followsMixed (look_sound (show Tb Go.Proofs.Try.prog tb37 from trivial)) (fun _ => false) (fun _ => A37) 6 37 ct37 rfl (by simp [ct37]) fun a => Eq.mp (by kernel_rfl) (v37 ((cel 0 (arg 0 a)).int) ((cel 0 (arg 1 a)).int) ((cel 0 (arg 2 a)).int))
end Go.Sx
namespace Go.Sx
def ct41 : Ct := { ps := [(false, [.int .i64]), (false, [.int .i64]), (false, [.int .i64])], rs := [(false, [.int .i64]), (false, [.int .i64])], pre := fun _ => True, out := fun a => [[.i (Sp.cS (cel 0 (arg 0 a)).int (cel 0 (arg 1 a)).int (cel 0 (arg 2 a)).int)], [.i (Sp.cSe (cel 0 (arg 0 a)).int (cel 0 (arg 1 a)).int (cel 0 (arg 2 a)).int)]] }
def tb41 : List (Nat × Ct) := []
def A41  : FuncId → Nat → LoopAnn := fun _ _ => .unroll 4
abbrev B41 (a : Int) (b : Int) (p : Int) : Prop := vcF Go.Proofs.Try.prog (look tb41) (fun _ => false) (A41) 6 41 [.int .i64 a, .int .i64 b, .int .i64 p] [] (fun sv heap => Gives [(false, [.int .i64]), (false, [.int .i64])] [[.i (Sp.cS a b p)], [.i (Sp.cSe a b p)]] sv heap)
theorem e41 (a : Int) (b : Int) (p : Int) : B41 a b p = ((bLe 1 a = true → (bLe a 8 = true → (bLe 1 b = true → (bLe b 8 = true → (bLe 16 p = true → True ∧ (bNot (bLe p 8192) = true → (0 = Sp.cS a b p ∧ True) ∧ (2 = Sp.cSe a b p ∧ True) ∧ True) ∧ (bNot (bLe p 8192) = false → InR .i64 (iMul 4 a) ∧ InR .i64 (iMul a b) ∧ InR .i64 (iAdd (iMul 4 a) (iMul a b)) ∧ InR .i64 (iMul 2 b) ∧ InR .i64 (iAdd (iAdd (iMul 4 a) (iMul a b)) (iMul 2 b)) ∧ InR .i64 (iMul (iAdd (iAdd (iMul 4 a) (iMul a b)) (iMul 2 b)) p) ∧ InR .i64 (iAdd 300 (iMul (iAdd (iAdd (iMul 4 a) (iMul a b)) (iMul 2 b)) p)) ∧ (iAdd 300 (iMul (iAdd (iAdd (iMul 4 a) (iMul a b)) (iMul 2 b)) p) = Sp.cS a b p ∧ True) ∧ (0 = Sp.cSe a b p ∧ True) ∧ True)) ∧ (bLe 16 p = false → True ∧ (0 = Sp.cS a b p ∧ True) ∧ (2 = Sp.cSe a b p ∧ True) ∧ True)) ∧ (bLe b 8 = false → True ∧ (0 = Sp.cS a b p ∧ True) ∧ (2 = Sp.cSe a b p ∧ True) ∧ True)) ∧ (bLe 1 b = false → True ∧ (0 = Sp.cS a b p ∧ True) ∧ (2 = Sp.cSe a b p ∧ True) ∧ True)) ∧ (bLe a 8 = false → True ∧ (0 = Sp.cS a b p ∧ True) ∧ (2 = Sp.cSe a b p ∧ True) ∧ True)) ∧ (bLe 1 a = false → True ∧ (0 = Sp.cS a b p ∧ True) ∧ (2 = Sp.cSe a b p ∧ True) ∧ True)) := by kernel_rfl
theorem v41 (a : Int) (b : Int) (p : Int) : Holds (Wfs [.int .i64 a, .int .i64 b, .int .i64 p] → True → B41 a b p) := by
  refine ⟨fun hw hp => ?_⟩
  rw [e41]
  simp only [Wfs, Wf, InR, and_true] at hw
  simp only [eq_self, true_and, and_true, true_implies, implies_true, iAdd, iSub, iMul, bLt, bLe, bNot, InR, decide_eq_true_eq, decide_eq_false_iff_not, Bool.not_eq_true', Bool.not_eq_false', Sp.cD, Sp.cDe, Sp.cS, Sp.cSe]
  by_cases h : (1 ≤ a ∧ a ≤ 8) ∧ (1 ≤ b ∧ b ≤ 8) ∧ 16 ≤ p ∧ p ≤ 8192
  · have n0 : 0 ≤ a * b := Int.mul_nonneg (by omega) (by omega)
    have n1 : a * b ≤ 8 * 8 := Int.mul_le_mul (by omega) (by omega) (by omega) (by omega)
    have m0 : 0 ≤ (4 * a + a * b + 2 * b) * p := Int.mul_nonneg (by omega) (by omega)
    have m1 : (4 * a + a * b + 2 * b) * p ≤ 112 * 8192 := Int.mul_le_mul (by omega) (by omega) (by omega) (by omega)
    rw [decide_eq_true h]
    simp only [cond_true]
    repeat' (first | apply And.intro | intro _)
    all_goals omega
  · rw [decide_eq_false h]
    simp only [cond_false]
    repeat' (first | apply And.intro | intro _)
    all_goals (first | trivial | rfl | (exfalso; omega))
theorem s41 : SoundCt Go.Proofs.Try.prog 41 ct41 :=
  contractH followsMixed (look_sound (show Tb Go.Proofs.Try.prog tb41 from trivial)) (fun _ => false) (fun _ => A41) 6 41 ct41 rfl (by simp [ct41]) fun a => Eq.mp (by kernel_rfl) (v41 ((cel 0 (arg 0 a)).int) ((cel 0 (arg 1 a)).int) ((cel 0 (arg 2 a)).int))
end Go.Sx
namespace Go.Sx
def ct36 : Ct := { ps := [(true, [.int .i64, .int .i64, .int .i64, .sl [.int .u64, .int .i64], .sl [.int .i64, .int .u64, .int .i64, .int .i64]]), (false, [.int .u64])], rs := [(false, [.int .i64]), (false, [.bool])], pre := fun _ => True, out := fun a => [[.i (Sp.bsx (cel 3 (arg 0 a)).list (cel 0 (arg 1 a)).int)], [.b (Sp.bsf (cel 3 (arg 0 a)).list (cel 0 (arg 1 a)).int)]] }
def tb36 : List (Nat × Ct) := [(81, ct81)]
def A36 (ds : List (List C)) (id : Int) : FuncId → Nat → LoopAnn := fun ff ii => (bif Nat.beq ff 79 then .inv (Int × Int) (fun z => Sp.brI ds id z.1 z.2) (fun z => [(9, .int .i64 z.1), (10, .int .i64 z.2)]) (fun z => []) [] [0, 1, 2, 6, 7, 8, 9, 10, 11, 17, 31] (fun z => (z.2 - z.1).toNat) else .unroll 0)
abbrev B36 (w : Int) (c : Int) (p : Int) (ds : List (List C)) (ss : List (List C)) (id : Int) : Prop := vcF Go.Proofs.Try.prog (look tb36) (fun ff => Nat.beq ff 79) (A36 ds id) 8 36 [.agg [.int .i64 w, .int .i64 c, .int .i64 p, .sl [.int .u64, .int .i64] ds, .sl [.int .i64, .int .u64, .int .i64, .int .i64] ss], .int .u64 id] [] (fun sv heap => Gives [(false, [.int .i64]), (false, [.bool])] [[.i (Sp.bsx ds id)], [.b (Sp.bsf ds id)]] sv heap)
def h36_0 : Int → Int → Int → List (List C) → List (List C) → List HB := fun (w c p : Int) (ds ss : List (List C)) => [HB.box [SV.int .i64 w, SV.int .i64 c, SV.int .i64 p, SV.sl [.int .u64, .int .i64] ds, SV.sl [.int .i64, .int .u64, .int .i64, .int .i64] ss] 28, HB.box [SV.fn 64 []] 98]
theorem e36 (w : Int) (c : Int) (p : Int) (ds : List (List C)) (ss : List (List C)) (id : Int) : B36 w c p ds ss id = (pLe (iLen ds) 9223372036854775807 → (∃ (x : Int × Int), Sp.brI ds id x.1 x.2 ∧ true = true ∧ ((IntKind.i64 = IntKind.i64 ∧ 0 = x.1) ∧ (IntKind.i64 = IntKind.i64 ∧ iLen ds = x.2) ∧ True) ∧ True) ∧ (∀ (x : Int × Int), true = true ∧ true = true) ∧ ∀ (x : Int × Int), Sp.brI ds id x.1 x.2 → InR .i64 x.1 ∧ InR .i64 x.2 ∧ True → True → (bLt x.1 x.2 = true → pSh 64 1 ∧ pIn 0 (iLen ds) (iWrap .i64 (iShr (iWrap .u64 (iWrap .i64 (iAdd x.1 x.2))) 1)) ∧ (InR .u64 (q0 (rGet ds (iWrap .i64 (iShr (iWrap .u64 (iWrap .i64 (iAdd x.1 x.2))) 1)))) ∧ InR .i64 (q1 (rGet ds (iWrap .i64 (iShr (iWrap .u64 (iWrap .i64 (iAdd x.1 x.2))) 1)))) ∧ True → True ∧ (InR .i64 (Sp.cmp (q0 (rGet ds (iWrap .i64 (iShr (iWrap .u64 (iWrap .i64 (iAdd x.1 x.2))) 1)))) id) → (bLt (Sp.cmp (q0 (rGet ds (iWrap .i64 (iShr (iWrap .u64 (iWrap .i64 (iAdd x.1 x.2))) 1)))) id) 0 = true → (true = true ∧ (fun z => z = z) [SV.sl [.int .u64, .int .i64] ds, SV.int .u64 id, SV.fn 80 [SV.ref 1 0], SV.lit .i64 0, SV.blit false, SV.int .i64 (iLen ds)]) ∧ h36_0 w c p ds ss = h36_0 w c p ds ss ∧ ∃ (y : Int × Int), Sp.brI ds id y.1 y.2 ∧ true = true ∧ ((IntKind.i64 = IntKind.i64 ∧ iWrap .i64 (iAdd (iWrap .i64 (iShr (iWrap .u64 (iWrap .i64 (iAdd x.1 x.2))) 1)) 1) = y.1) ∧ (IntKind.i64 = IntKind.i64 ∧ x.2 = y.2) ∧ True) ∧ True ∧ (y.2 - y.1).toNat < (x.2 - x.1).toNat) ∧ (bLt (Sp.cmp (q0 (rGet ds (iWrap .i64 (iShr (iWrap .u64 (iWrap .i64 (iAdd x.1 x.2))) 1)))) id) 0 = false → (true = true ∧ (fun z => z = z) [SV.sl [.int .u64, .int .i64] ds, SV.int .u64 id, SV.fn 80 [SV.ref 1 0], SV.lit .i64 0, SV.blit false, SV.int .i64 (iLen ds)]) ∧ h36_0 w c p ds ss = h36_0 w c p ds ss ∧ ∃ (y : Int × Int), Sp.brI ds id y.1 y.2 ∧ true = true ∧ ((IntKind.i64 = IntKind.i64 ∧ x.1 = y.1) ∧ (IntKind.i64 = IntKind.i64 ∧ iWrap .i64 (iShr (iWrap .u64 (iWrap .i64 (iAdd x.1 x.2))) 1) = y.2) ∧ True) ∧ True ∧ (y.2 - y.1).toNat < (x.2 - x.1).toNat)))) ∧ (bLt x.1 x.2 = false → (bLt x.1 (iLen ds) = true → pIn 0 (iLen ds) x.1 ∧ (InR .u64 (q0 (rGet ds x.1)) ∧ InR .i64 (q1 (rGet ds x.1)) ∧ True → True ∧ (InR .i64 (Sp.cmp (q0 (rGet ds x.1)) id) → (x.1 = Sp.bsx ds id ∧ True) ∧ (bEq (Sp.cmp (q0 (rGet ds x.1)) id) 0 = Sp.bsf ds id ∧ True) ∧ True))) ∧ (bLt x.1 (iLen ds) = false → (x.1 = Sp.bsx ds id ∧ True) ∧ (false = Sp.bsf ds id ∧ True) ∧ True))) := by kernel_rfl
theorem v36 (w : Int) (c : Int) (p : Int) (ds : List (List C)) (ss : List (List C)) (id : Int) : Holds (Wfs [.agg [.int .i64 w, .int .i64 c, .int .i64 p, .sl [.int .u64, .int .i64] ds, .sl [.int .i64, .int .u64, .int .i64, .int .i64] ss], .int .u64 id] → True → B36 w c p ds ss id) := by
  refine ⟨fun hw hp => ?_⟩
  rw [e36]
  unfold q0 q1
  simp only [Wfs, Wf, InR, and_true] at hw
  simp only [eq_self, true_and, and_true, true_implies, implies_true, iAdd, iSub, iMul, iLen, bEq, bNe, bLt, bLe, bNot, pIn, pLe, pNe, InR, decide_eq_true_eq, decide_eq_false_iff_not, Bool.not_eq_true', Bool.not_eq_false', decide_eq_decide]
  intro hlen
  refine ⟨⟨(0, _), Sp.br_init, rfl, rfl⟩, ?_⟩
  rintro ⟨i, j⟩ hb hb1
  simp only at hb hb1 ⊢
  have p0 := hb.1
  have pq := hb.2.1
  have ql := hb.2.2.1
  rw [Sp.mid p0 pq (by omega)]
  simp only [Sp.cmp_lt', Sp.cmp_eq']
  refine ⟨fun hpq => ?_, fun hpq => ?_⟩
  · have e := Sp.wr1 (p := (i + j) / 2) (by omega) (by omega)
    exact ⟨by simp [pSh], ⟨by omega, by omega⟩, fun _ _ => ⟨fun hl => ⟨((i + j) / 2 + 1, j), Sp.br_up hb hpq hl, ⟨e, rfl⟩, by simp only; omega⟩, fun hl => ⟨(i, (i + j) / 2), Sp.br_down hb hpq hl, ⟨rfl, rfl⟩, by simp only; omega⟩⟩⟩
  · have e := Sp.br_end hb hpq
    unfold Sp.bsf
    rw [← e]
    refine ⟨fun hl => ⟨⟨p0, hl⟩, fun _ _ => ⟨rfl, ?_⟩⟩, fun hl => ⟨rfl, ?_⟩⟩
    · rw [decide_eq_true hl, Bool.true_and]; rfl
    · rw [decide_eq_false hl]; rfl
theorem s36 : SoundCt Go.Proofs.Try.prog 36 ct36 :=
  contractH followsMixed (look_sound (show Tb Go.Proofs.Try.prog tb36 from ⟨s81, trivial⟩)) (fun ff => Nat.beq ff 79) (fun a => A36 ((cel 3 (arg 0 a)).list) ((cel 0 (arg 1 a)).int)) 8 36 ct36 rfl (by simp [ct36]) fun a => Eq.mp (by kernel_rfl) (v36 ((cel 0 (arg 0 a)).int) ((cel 1 (arg 0 a)).int) ((cel 2 (arg 0 a)).int) ((cel 3 (arg 0 a)).list) ((cel 4 (arg 0 a)).list) ((cel 0 (arg 1 a)).int))
end Go.Sx
namespace Go.Sx
def ct45 : Ct := { ps := [(true, [.int .i64, .int .i64, .int .i64, .sl [.int .u64, .int .i64], .sl [.int .i64, .int .u64, .int .i64, .int .i64]]), (false, [.int .i64])], rs := [(false, [.int .i64]), (false, [.bool])], pre := fun _ => True, out := fun a => [[.i (Sp.bsx (cel 4 (arg 0 a)).list (cel 0 (arg 1 a)).int)], [.b (Sp.bsf (cel 4 (arg 0 a)).list (cel 0 (arg 1 a)).int)]] }
def tb45 : List (Nat × Ct) := [(91, ct91)]
def A45 (ss : List (List C)) (id : Int) : FuncId → Nat → LoopAnn := fun ff ii => (bif Nat.beq ff 89 then .inv (Int × Int) (fun z => Sp.brI ss id z.1 z.2) (fun z => [(9, .int .i64 z.1), (10, .int .i64 z.2)]) (fun z => []) [] [0, 1, 2, 6, 7, 8, 9, 10, 11, 17, 31] (fun z => (z.2 - z.1).toNat) else .unroll 0)
abbrev B45 (w : Int) (c : Int) (p : Int) (ds : List (List C)) (ss : List (List C)) (id : Int) : Prop := vcF Go.Proofs.Try.prog (look tb45) (fun ff => Nat.beq ff 89) (A45 ss id) 8 45 [.agg [.int .i64 w, .int .i64 c, .int .i64 p, .sl [.int .u64, .int .i64] ds, .sl [.int .i64, .int .u64, .int .i64, .int .i64] ss], .int .i64 id] [] (fun sv heap => Gives [(false, [.int .i64]), (false, [.bool])] [[.i (Sp.bsx ss id)], [.b (Sp.bsf ss id)]] sv heap)
def h45_0 : Int → Int → Int → List (List C) → List (List C) → List HB := fun (w c p : Int) (ds ss : List (List C)) => [HB.box [SV.int .i64 w, SV.int .i64 c, SV.int .i64 p, SV.sl [.int .u64, .int .i64] ds, SV.sl [.int .i64, .int .u64, .int .i64, .int .i64] ss] 28, HB.box [SV.fn 71 []] 106]
theorem e45 (w : Int) (c : Int) (p : Int) (ds : List (List C)) (ss : List (List C)) (id : Int) : B45 w c p ds ss id = (pLe (iLen ss) 9223372036854775807 → (∃ (x : Int × Int), Sp.brI ss id x.1 x.2 ∧ true = true ∧ ((IntKind.i64 = IntKind.i64 ∧ 0 = x.1) ∧ (IntKind.i64 = IntKind.i64 ∧ iLen ss = x.2) ∧ True) ∧ True) ∧ (∀ (x : Int × Int), true = true ∧ true = true) ∧ ∀ (x : Int × Int), Sp.brI ss id x.1 x.2 → InR .i64 x.1 ∧ InR .i64 x.2 ∧ True → True → (bLt x.1 x.2 = true → pSh 64 1 ∧ pIn 0 (iLen ss) (iWrap .i64 (iShr (iWrap .u64 (iWrap .i64 (iAdd x.1 x.2))) 1)) ∧ (InR .i64 (q0 (rGet ss (iWrap .i64 (iShr (iWrap .u64 (iWrap .i64 (iAdd x.1 x.2))) 1)))) ∧ InR .u64 (q1 (rGet ss (iWrap .i64 (iShr (iWrap .u64 (iWrap .i64 (iAdd x.1 x.2))) 1)))) ∧ InR .i64 (q2 (rGet ss (iWrap .i64 (iShr (iWrap .u64 (iWrap .i64 (iAdd x.1 x.2))) 1)))) ∧ InR .i64 (q3 (rGet ss (iWrap .i64 (iShr (iWrap .u64 (iWrap .i64 (iAdd x.1 x.2))) 1)))) ∧ True → True ∧ (InR .i64 (Sp.cmp (q0 (rGet ss (iWrap .i64 (iShr (iWrap .u64 (iWrap .i64 (iAdd x.1 x.2))) 1)))) id) → (bLt (Sp.cmp (q0 (rGet ss (iWrap .i64 (iShr (iWrap .u64 (iWrap .i64 (iAdd x.1 x.2))) 1)))) id) 0 = true → (true = true ∧ (fun z => z = z) [SV.sl [.int .i64, .int .u64, .int .i64, .int .i64] ss, SV.int .i64 id, SV.fn 90 [SV.ref 1 0], SV.lit .i64 0, SV.blit false, SV.int .i64 (iLen ss)]) ∧ h45_0 w c p ds ss = h45_0 w c p ds ss ∧ ∃ (y : Int × Int), Sp.brI ss id y.1 y.2 ∧ true = true ∧ ((IntKind.i64 = IntKind.i64 ∧ iWrap .i64 (iAdd (iWrap .i64 (iShr (iWrap .u64 (iWrap .i64 (iAdd x.1 x.2))) 1)) 1) = y.1) ∧ (IntKind.i64 = IntKind.i64 ∧ x.2 = y.2) ∧ True) ∧ True ∧ (y.2 - y.1).toNat < (x.2 - x.1).toNat) ∧ (bLt (Sp.cmp (q0 (rGet ss (iWrap .i64 (iShr (iWrap .u64 (iWrap .i64 (iAdd x.1 x.2))) 1)))) id) 0 = false → (true = true ∧ (fun z => z = z) [SV.sl [.int .i64, .int .u64, .int .i64, .int .i64] ss, SV.int .i64 id, SV.fn 90 [SV.ref 1 0], SV.lit .i64 0, SV.blit false, SV.int .i64 (iLen ss)]) ∧ h45_0 w c p ds ss = h45_0 w c p ds ss ∧ ∃ (y : Int × Int), Sp.brI ss id y.1 y.2 ∧ true = true ∧ ((IntKind.i64 = IntKind.i64 ∧ x.1 = y.1) ∧ (IntKind.i64 = IntKind.i64 ∧ iWrap .i64 (iShr (iWrap .u64 (iWrap .i64 (iAdd x.1 x.2))) 1) = y.2) ∧ True) ∧ True ∧ (y.2 - y.1).toNat < (x.2 - x.1).toNat)))) ∧ (bLt x.1 x.2 = false → (bLt x.1 (iLen ss) = true → pIn 0 (iLen ss) x.1 ∧ (InR .i64 (q0 (rGet ss x.1)) ∧ InR .u64 (q1 (rGet ss x.1)) ∧ InR .i64 (q2 (rGet ss x.1)) ∧ InR .i64 (q3 (rGet ss x.1)) ∧ True → True ∧ (InR .i64 (Sp.cmp (q0 (rGet ss x.1)) id) → (x.1 = Sp.bsx ss id ∧ True) ∧ (bEq (Sp.cmp (q0 (rGet ss x.1)) id) 0 = Sp.bsf ss id ∧ True) ∧ True))) ∧ (bLt x.1 (iLen ss) = false → (x.1 = Sp.bsx ss id ∧ True) ∧ (false = Sp.bsf ss id ∧ True) ∧ True))) := by kernel_rfl
theorem v45 (w : Int) (c : Int) (p : Int) (ds : List (List C)) (ss : List (List C)) (id : Int) : Holds (Wfs [.agg [.int .i64 w, .int .i64 c, .int .i64 p, .sl [.int .u64, .int .i64] ds, .sl [.int .i64, .int .u64, .int .i64, .int .i64] ss], .int .i64 id] → True → B45 w c p ds ss id) := by
  refine ⟨fun hw hp => ?_⟩
  rw [e45]
  unfold q0 q1 q2 q3
  simp only [Wfs, Wf, InR, and_true] at hw
  simp only [eq_self, true_and, and_true, true_implies, implies_true, iAdd, iSub, iMul, iLen, bEq, bNe, bLt, bLe, bNot, pIn, pLe, pNe, InR, decide_eq_true_eq, decide_eq_false_iff_not, Bool.not_eq_true', Bool.not_eq_false', decide_eq_decide]
  intro hlen
  refine ⟨⟨(0, _), Sp.br_init, rfl, rfl⟩, ?_⟩
  rintro ⟨i, j⟩ hb hb1
  simp only at hb hb1 ⊢
  have p0 := hb.1
  have pq := hb.2.1
  have ql := hb.2.2.1
  rw [Sp.mid p0 pq (by omega)]
  simp only [Sp.cmp_lt', Sp.cmp_eq']
  refine ⟨fun hpq => ?_, fun hpq => ?_⟩
  · have e := Sp.wr1 (p := (i + j) / 2) (by omega) (by omega)
    exact ⟨by simp [pSh], ⟨by omega, by omega⟩, fun _ _ => ⟨fun hl => ⟨((i + j) / 2 + 1, j), Sp.br_up hb hpq hl, ⟨e, rfl⟩, by simp only; omega⟩, fun hl => ⟨(i, (i + j) / 2), Sp.br_down hb hpq hl, ⟨rfl, rfl⟩, by simp only; omega⟩⟩⟩
  · have e := Sp.br_end hb hpq
    unfold Sp.bsf
    rw [← e]
    refine ⟨fun hl => ⟨⟨p0, hl⟩, fun _ _ => ⟨rfl, ?_⟩⟩, fun hl => ⟨rfl, ?_⟩⟩
    · rw [decide_eq_true hl, Bool.true_and]; rfl
    · rw [decide_eq_false hl]; rfl
theorem s45 : SoundCt Go.Proofs.Try.prog 45 ct45 :=
  contractH followsMixed (look_sound (show Tb Go.Proofs.Try.prog tb45 from ⟨s91, trivial⟩)) (fun ff => Nat.beq ff 89) (fun a => A45 ((cel 4 (arg 0 a)).list) ((cel 0 (arg 1 a)).int)) 8 45 ct45 rfl (by simp [ct45]) fun a => Eq.mp (by kernel_rfl) (v45 ((cel 0 (arg 0 a)).int) ((cel 1 (arg 0 a)).int) ((cel 2 (arg 0 a)).int) ((cel 3 (arg 0 a)).list) ((cel 4 (arg 0 a)).list) ((cel 0 (arg 1 a)).int))
end Go.Sx
namespace Go.Sx
def ct40 : Ct := { ps := [(true, [.int .i64, .int .i64, .int .i64, .sl [.int .u64, .int .i64], .sl [.int .i64, .int .u64, .int .i64, .int .i64]]), (false, [.int .u64])], rs := [(false, [.int .i64])], pre := fun _ => True, out := fun a => [[.i (Sp.nix (cel 3 (arg 0 a)).list (cel 0 (arg 1 a)).int)]] }
def tb40 : List (Nat × Ct) := []
def A40 (ds : List (List C)) (id : Int) : FuncId → Nat → LoopAnn := fun _ ii => bif Nat.beq ii 2 then .inv (Int) (fun z => Sp.at (Sp.isI id) ds z) (fun z => [(5, .int .i64 z)]) (fun z => []) [] [0, 1, 2, 4, 5, 10, 20] (fun z => ds.length - z.toNat) else .unroll 0
abbrev B40 (w : Int) (c : Int) (p : Int) (ds : List (List C)) (ss : List (List C)) (id : Int) : Prop := vcF Go.Proofs.Try.prog (look tb40) (fun _ => false) (A40 ds id) 6 40 [.agg [.int .i64 w, .int .i64 c, .int .i64 p, .sl [.int .u64, .int .i64] ds, .sl [.int .i64, .int .u64, .int .i64, .int .i64] ss], .int .u64 id] [] (fun sv heap => Gives [(false, [.int .i64])] [[.i (Sp.nix ds id)]] sv heap)
def h40_0 : Int → Int → Int → List (List C) → List (List C) → Int → List SV := fun (w c p : Int) (ds ss : List (List C)) (id : Int) => [SV.agg [SV.int .i64 w, SV.int .i64 c, SV.int .i64 p, SV.sl [.int .u64, .int .i64] ds, SV.sl [.int .i64, .int .u64, .int .i64, .int .i64] ss], SV.int .u64 id, SV.ref 0 0]
theorem e40 (w : Int) (c : Int) (p : Int) (ds : List (List C)) (ss : List (List C)) (id : Int) : B40 w c p ds ss id = ((∃ (x : Int), Sp.at (Sp.isI id) ds x ∧ true = true ∧ ((IntKind.i64 = IntKind.i64 ∧ 0 = x) ∧ True) ∧ True) ∧ (∀ (x : Int), true = true ∧ true = true) ∧ ∀ (x : Int), Sp.at (Sp.isI id) ds x → InR .i64 x ∧ True → True → pLe (iLen ds) 9223372036854775807 → (bLt x (iLen ds) = true → pIn 0 (iLen ds) x ∧ (InR .u64 (q0 (rGet ds x)) → (bEq (q0 (rGet ds x)) id = true → (x = Sp.nix ds id ∧ True) ∧ True) ∧ (bEq (q0 (rGet ds x)) id = false → InR .i64 (iAdd x 1) ∧ (true = true ∧ h40_0 w c p ds ss id = h40_0 w c p ds ss id) ∧ (fun z => z = z) [HB.box [SV.int .i64 w, SV.int .i64 c, SV.int .i64 p, SV.sl [.int .u64, .int .i64] ds, SV.sl [.int .i64, .int .u64, .int .i64, .int .i64] ss] 28] ∧ ∃ (y : Int), Sp.at (Sp.isI id) ds y ∧ true = true ∧ ((IntKind.i64 = IntKind.i64 ∧ iAdd x 1 = y) ∧ True) ∧ True ∧ ds.length - y.toNat < ds.length - x.toNat))) ∧ (bLt x (iLen ds) = false → (-1 = Sp.nix ds id ∧ True) ∧ True)) := by kernel_rfl
theorem v40 (w : Int) (c : Int) (p : Int) (ds : List (List C)) (ss : List (List C)) (id : Int) : Holds (Wfs [.agg [.int .i64 w, .int .i64 c, .int .i64 p, .sl [.int .u64, .int .i64] ds, .sl [.int .i64, .int .u64, .int .i64, .int .i64] ss], .int .u64 id] → True → B40 w c p ds ss id) := by
  refine ⟨fun hw hp => ?_⟩
  rw [e40]
  unfold q0
  simp only [Wfs, Wf, InR, and_true] at hw
  simp only [eq_self, true_and, and_true, true_implies, implies_true, iAdd, iSub, iMul, iLen, bEq, bNe, bLt, bLe, bNot, pIn, pLe, pNe, InR, decide_eq_true_eq, decide_eq_false_iff_not, Bool.not_eq_true', Bool.not_eq_false', decide_eq_decide]
  refine ⟨⟨0, Sp.at_init, rfl⟩, fun x hx hx1 hlen => ⟨fun hlt => ⟨⟨hx.1, hlt⟩, fun _ => ⟨fun hh => ?_, fun hh => ⟨by omega, x + 1, Sp.at_step hx hlt (decide_eq_false hh), rfl, by have := hx.1; omega⟩⟩⟩, fun hge => ?_⟩⟩
  · exact (Sp.at_hit hx hlt (decide_eq_true hh)).symm
  · exact (Sp.at_end hx hge).symm
theorem s40 : SoundCt Go.Proofs.Try.prog 40 ct40 :=
  contractH followsMixed (look_sound (show Tb Go.Proofs.Try.prog tb40 from trivial)) (fun _ => false) (fun a => A40 ((cel 3 (arg 0 a)).list) ((cel 0 (arg 1 a)).int)) 6 40 ct40 rfl (by simp [ct40]) fun a => Eq.mp (by kernel_rfl) (v40 ((cel 0 (arg 0 a)).int) ((cel 1 (arg 0 a)).int) ((cel 2 (arg 0 a)).int) ((cel 3 (arg 0 a)).list) ((cel 4 (arg 0 a)).list) ((cel 0 (arg 1 a)).int))
end Go.Sx
namespace Go.Sx
def ct58 : Ct := { ps := [(true, [.int .i64, .int .i64, .int .i64, .sl [.int .u64, .int .i64], .sl [.int .i64, .int .u64, .int .i64, .int .i64]]), (false, [.int .i64])], rs := [(false, [.int .i64])], pre := fun _ => True, out := fun a => [[.i (Sp.nix (cel 4 (arg 0 a)).list (cel 0 (arg 1 a)).int)]] }
def tb58 : List (Nat × Ct) := []
def A58 (ss : List (List C)) (id : Int) : FuncId → Nat → LoopAnn := fun _ ii => bif Nat.beq ii 2 then .inv (Int) (fun z => Sp.at (Sp.isI id) ss z) (fun z => [(5, .int .i64 z)]) (fun z => []) [] [0, 1, 2, 4, 5, 10, 20] (fun z => ss.length - z.toNat) else .unroll 0
abbrev B58 (w : Int) (c : Int) (p : Int) (ds : List (List C)) (ss : List (List C)) (id : Int) : Prop := vcF Go.Proofs.Try.prog (look tb58) (fun _ => false) (A58 ss id) 6 58 [.agg [.int .i64 w, .int .i64 c, .int .i64 p, .sl [.int .u64, .int .i64] ds, .sl [.int .i64, .int .u64, .int .i64, .int .i64] ss], .int .i64 id] [] (fun sv heap => Gives [(false, [.int .i64])] [[.i (Sp.nix ss id)]] sv heap)
def h58_0 : Int → Int → Int → List (List C) → List (List C) → Int → List SV := fun (w c p : Int) (ds ss : List (List C)) (id : Int) => [SV.agg [SV.int .i64 w, SV.int .i64 c, SV.int .i64 p, SV.sl [.int .u64, .int .i64] ds, SV.sl [.int .i64, .int .u64, .int .i64, .int .i64] ss], SV.int .i64 id, SV.ref 0 0]
theorem e58 (w : Int) (c : Int) (p : Int) (ds : List (List C)) (ss : List (List C)) (id : Int) : B58 w c p ds ss id = ((∃ (x : Int), Sp.at (Sp.isI id) ss x ∧ true = true ∧ ((IntKind.i64 = IntKind.i64 ∧ 0 = x) ∧ True) ∧ True) ∧ (∀ (x : Int), true = true ∧ true = true) ∧ ∀ (x : Int), Sp.at (Sp.isI id) ss x → InR .i64 x ∧ True → True → pLe (iLen ss) 9223372036854775807 → (bLt x (iLen ss) = true → pIn 0 (iLen ss) x ∧ (InR .i64 (q0 (rGet ss x)) → (bEq (q0 (rGet ss x)) id = true → (x = Sp.nix ss id ∧ True) ∧ True) ∧ (bEq (q0 (rGet ss x)) id = false → InR .i64 (iAdd x 1) ∧ (true = true ∧ h58_0 w c p ds ss id = h58_0 w c p ds ss id) ∧ (fun z => z = z) [HB.box [SV.int .i64 w, SV.int .i64 c, SV.int .i64 p, SV.sl [.int .u64, .int .i64] ds, SV.sl [.int .i64, .int .u64, .int .i64, .int .i64] ss] 28] ∧ ∃ (y : Int), Sp.at (Sp.isI id) ss y ∧ true = true ∧ ((IntKind.i64 = IntKind.i64 ∧ iAdd x 1 = y) ∧ True) ∧ True ∧ ss.length - y.toNat < ss.length - x.toNat))) ∧ (bLt x (iLen ss) = false → (-1 = Sp.nix ss id ∧ True) ∧ True)) := by kernel_rfl
theorem v58 (w : Int) (c : Int) (p : Int) (ds : List (List C)) (ss : List (List C)) (id : Int) : Holds (Wfs [.agg [.int .i64 w, .int .i64 c, .int .i64 p, .sl [.int .u64, .int .i64] ds, .sl [.int .i64, .int .u64, .int .i64, .int .i64] ss], .int .i64 id] → True → B58 w c p ds ss id) := by
  refine ⟨fun hw hp => ?_⟩
  rw [e58]
  unfold q0
  simp only [Wfs, Wf, InR, and_true] at hw
  simp only [eq_self, true_and, and_true, true_implies, implies_true, iAdd, iSub, iMul, iLen, bEq, bNe, bLt, bLe, bNot, pIn, pLe, pNe, InR, decide_eq_true_eq, decide_eq_false_iff_not, Bool.not_eq_true', Bool.not_eq_false', decide_eq_decide]
  refine ⟨⟨0, Sp.at_init, rfl⟩, fun x hx hx1 hlen => ⟨fun hlt => ⟨⟨hx.1, hlt⟩, fun _ => ⟨fun hh => ?_, fun hh => ⟨by omega, x + 1, Sp.at_step hx hlt (decide_eq_false hh), rfl, by have := hx.1; omega⟩⟩⟩, fun hge => ?_⟩⟩
  · exact (Sp.at_hit hx hlt (decide_eq_true hh)).symm
  · exact (Sp.at_end hx hge).symm
theorem s58 : SoundCt Go.Proofs.Try.prog 58 ct58 :=
  contractH followsMixed (look_sound (show Tb Go.Proofs.Try.prog tb58 from trivial)) (fun _ => false) (fun a => A58 ((cel 4 (arg 0 a)).list) ((cel 0 (arg 1 a)).int)) 6 58 ct58 rfl (by simp [ct58]) fun a => Eq.mp (by kernel_rfl) (v58 ((cel 0 (arg 0 a)).int) ((cel 1 (arg 0 a)).int) ((cel 2 (arg 0 a)).int) ((cel 3 (arg 0 a)).list) ((cel 4 (arg 0 a)).list) ((cel 0 (arg 1 a)).int))
end Go.Sx
