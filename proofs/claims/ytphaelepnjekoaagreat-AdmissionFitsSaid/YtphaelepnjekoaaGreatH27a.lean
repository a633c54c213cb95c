import Derived.Test.YtphaelepnjekoaaGreatSxUse
import Derived.Test.YtphaelepnjekoaaGreatProg
import Derived.KernelRfl
set_option linter.unusedVariables false
set_option linter.unusedSimpArgs false
set_option maxRecDepth 100000
namespace Go.Sx
open Go.RowKit
theorem followsMixed : Go.Proofs.Tryz.prog.follows .mixedOrders = true := by kernel_rfl
end Go.Sx
namespace Go
open Go.Sx
def Sp.c0 (x : List C) : Int := (x.headD default).int
def Sp.c1 (x : List C) : Int := (x.tail.headD default).int
def Sp.c2 (x : List C) : Int := (x.tail.tail.headD default).int
def Sp.c3 (x : List C) : Int := (x.tail.tail.tail.headD default).int
def Sp.fine (i k n o : Int) : Bool := decide (1 ≤ i ∧ i ≤ 2147483647 ∧ (k = 1 ∧ n = 0 ∧ o = 1 ∨ k = 2 ∧ n = 1 ∧ o = 0 ∨ k = 3 ∧ 1 ≤ n ∧ n ≤ 8 ∧ o = 1 ∨ k = 4 ∧ n = 1 ∧ o = 1 ∨ k = 5 ∧ n = 1 ∧ 1 ≤ o ∧ o ≤ 8))
def Sp.cmp (a b : Int) : Int := if a < b then -1 else if b < a then 1 else 0
def Sp.lcmp (a0 a1 a2 a3 b0 b1 b2 b3 : Int) : Int := if a0 < b0 then -1 else if b0 < a0 then 1 else if a1 < b1 then -1 else if b1 < a1 then 1 else if a2 < b2 then -1 else if b2 < a2 then 1 else if a3 < b3 then -1 else if b3 < a3 then 1 else 0
end Go
namespace Go.Sx
def ct94 : Ct := { ps := [(true, [.int .i64, .int .i64, .int .i64, .int .i64])], rs := [(false, [.bool])], pre := fun _ => True, out := fun a => [[.b (Sp.fine (cel 0 (arg 0 a)).int (cel 1 (arg 0 a)).int (cel 2 (arg 0 a)).int (cel 3 (arg 0 a)).int)]] }
def tb94 : List (Nat × Ct) := []
def A94  : FuncId → Nat → LoopAnn := fun _ _ => LoopAnn.unroll 200
abbrev B94 (i : Int) (k : Int) (n : Int) (o : Int) : Prop := vcF Go.Proofs.Tryz.prog (look tb94) (fun _ => false) (A94) 6 94 [.agg [.int .i64 i, .int .i64 k, .int .i64 n, .int .i64 o]] [] (fun sv heap => Gives [(false, [.bool])] [[.b (Sp.fine i k n o)]] sv heap)
def m94_0 (i : Int) (k : Int) (n : Int) (o : Int) : Prop := (false = Sp.fine i k n o ∧ True) ∧ True
theorem e94 (i : Int) (k : Int) (n : Int) (o : Int) : B94 i k n o = ((bLt i 1 = false → (bLt 2147483647 i = true → (m94_0 i k n o)) ∧ (bLt 2147483647 i = false → (bEq k 1 = true → (bEq n 0 = true → (bEq o 1 = Sp.fine i k n o ∧ True) ∧ True) ∧ (bEq n 0 = false → (m94_0 i k n o))) ∧ (bEq k 1 = false → (bEq k 2 = true → (bEq n 1 = true → (bEq o 0 = Sp.fine i k n o ∧ True) ∧ True) ∧ (bEq n 1 = false → (m94_0 i k n o))) ∧ (bEq k 2 = false → (bEq k 3 = true → (bLe 1 n = true → (bLe n 8 = true → (bEq o 1 = Sp.fine i k n o ∧ True) ∧ True) ∧ (bLe n 8 = false → (m94_0 i k n o))) ∧ (bLe 1 n = false → (m94_0 i k n o))) ∧ (bEq k 3 = false → (bEq k 4 = true → (bEq n 1 = true → (bEq o 1 = Sp.fine i k n o ∧ True) ∧ True) ∧ (bEq n 1 = false → (m94_0 i k n o))) ∧ (bEq k 4 = false → (bEq k 5 = true → (bEq n 1 = true → (bLe 1 o = true → (bLe o 8 = Sp.fine i k n o ∧ True) ∧ True) ∧ (bLe 1 o = false → (m94_0 i k n o))) ∧ (bEq n 1 = false → (m94_0 i k n o))) ∧ (bEq k 5 = false → (m94_0 i k n o)))))))) ∧ (bLt i 1 = true → (m94_0 i k n o))) := by kernel_rfl
theorem v94 (i : Int) (k : Int) (n : Int) (o : Int) : Holds (Wfs [.agg [.int .i64 i, .int .i64 k, .int .i64 n, .int .i64 o]] → True → B94 i k n o) := by
 refine ⟨fun hw hp => ?_⟩
 rw [e94]
 delta m94_0
 simp only [bLt, bLe, bEq, bNe, decide_eq_true_eq, decide_eq_false_iff_not, Sp.fine, and_true, eq_self, true_implies, Bool.not_eq_true', Bool.not_eq_false']
 repeat' (first | apply And.intro | intro _)
 all_goals (first | omega | (simp only [decide_eq_decide]; omega) | (symm; simp only [decide_eq_false_iff_not]; omega) | (symm; simp only [decide_eq_true_eq]; omega))
theorem s94 : SoundCt Go.Proofs.Tryz.prog 94 ct94 :=
 contractH followsMixed (look_sound (show Tb Go.Proofs.Tryz.prog tb94 from trivial)) (fun _ => false) (fun _ => A94) 6 94 ct94 rfl (by simp [ct94]) fun a => Eq.mp (by kernel_rfl) (v94 ((cel 0 (arg 0 a)).int) ((cel 1 (arg 0 a)).int) ((cel 2 (arg 0 a)).int) ((cel 3 (arg 0 a)).int))
end Go.Sx
namespace Go.Sx
def ct76 : Ct := { ps := [(true, [.int .i64, .int .i64, .int .i64, .int .i64])], rs := [(false, [.bool])], pre := fun _ => True, out := fun a => [[.b (Sp.fine (cel 0 (arg 0 a)).int (cel 1 (arg 0 a)).int (cel 2 (arg 0 a)).int (cel 3 (arg 0 a)).int)]] }
def tb76 : List (Nat × Ct) := []
def A76  : FuncId → Nat → LoopAnn := fun _ _ => LoopAnn.unroll 200
abbrev B76 (i : Int) (k : Int) (n : Int) (o : Int) : Prop := vcF Go.Proofs.Tryz.prog (look tb76) (fun _ => false) (A76) 6 76 [.agg [.int .i64 i, .int .i64 k, .int .i64 n, .int .i64 o]] [] (fun sv heap => Gives [(false, [.bool])] [[.b (Sp.fine i k n o)]] sv heap)
def m76_0 (i : Int) (k : Int) (n : Int) (o : Int) : Prop := (false = Sp.fine i k n o ∧ True) ∧ True
theorem e76 (i : Int) (k : Int) (n : Int) (o : Int) : B76 i k n o = ((bLt i 1 = false → (bLt 2147483647 i = true → (m76_0 i k n o)) ∧ (bLt 2147483647 i = false → (bEq k 1 = true → (bEq n 0 = true → (bEq o 1 = Sp.fine i k n o ∧ True) ∧ True) ∧ (bEq n 0 = false → (m76_0 i k n o))) ∧ (bEq k 1 = false → (bEq k 2 = true → (bEq n 1 = true → (bEq o 0 = Sp.fine i k n o ∧ True) ∧ True) ∧ (bEq n 1 = false → (m76_0 i k n o))) ∧ (bEq k 2 = false → (bEq k 3 = true → (bLe 1 n = true → (bLe n 8 = true → (bEq o 1 = Sp.fine i k n o ∧ True) ∧ True) ∧ (bLe n 8 = false → (m76_0 i k n o))) ∧ (bLe 1 n = false → (m76_0 i k n o))) ∧ (bEq k 3 = false → (bEq k 4 = true → (bEq n 1 = true → (bEq o 1 = Sp.fine i k n o ∧ True) ∧ True) ∧ (bEq n 1 = false → (m76_0 i k n o))) ∧ (bEq k 4 = false → (bEq k 5 = true → (bEq n 1 = true → (bLe 1 o = true → (bLe o 8 = Sp.fine i k n o ∧ True) ∧ True) ∧ (bLe 1 o = false → (m76_0 i k n o))) ∧ (bEq n 1 = false → (m76_0 i k n o))) ∧ (bEq k 5 = false → (m76_0 i k n o)))))))) ∧ (bLt i 1 = true → (m76_0 i k n o))) := by kernel_rfl
theorem v76 (i : Int) (k : Int) (n : Int) (o : Int) : Holds (Wfs [.agg [.int .i64 i, .int .i64 k, .int .i64 n, .int .i64 o]] → True → B76 i k n o) := by
 refine ⟨fun hw hp => ?_⟩
 rw [e76]
 delta m76_0
 simp only [bLt, bLe, bEq, bNe, decide_eq_true_eq, decide_eq_false_iff_not, Sp.fine, and_true, eq_self, true_implies, Bool.not_eq_true', Bool.not_eq_false']
 repeat' (first | apply And.intro | intro _)
 all_goals (first | omega | (simp only [decide_eq_decide]; omega) | (symm; simp only [decide_eq_false_iff_not]; omega) | (symm; simp only [decide_eq_true_eq]; omega))
theorem s76 : SoundCt Go.Proofs.Tryz.prog 76 ct76 :=
 contractH followsMixed (look_sound (show Tb Go.Proofs.Tryz.prog tb76 from trivial)) (fun _ => false) (fun _ => A76) 6 76 ct76 rfl (by simp [ct76]) fun a => Eq.mp (by kernel_rfl) (v76 ((cel 0 (arg 0 a)).int) ((cel 1 (arg 0 a)).int) ((cel 2 (arg 0 a)).int) ((cel 3 (arg 0 a)).int))
end Go.Sx
namespace Go.Sx
def ct71 : Ct := { ps := [(false, [.int .i64]), (false, [.int .i64])], rs := [(false, [.int .i64])], pre := fun _ => True, out := fun a => [[.i (Sp.cmp (cel 0 (arg 0 a)).int (cel 0 (arg 1 a)).int)]] }
def tb71 : List (Nat × Ct) := []
def A71  : FuncId → Nat → LoopAnn := fun _ _ => LoopAnn.unroll 200
abbrev B71 (a : Int) (b : Int) : Prop := vcF Go.Proofs.Tryz.prog (look tb71) (fun _ => false) (A71) 8 71 [.int .i64 a, .int .i64 b] [] (fun sv heap => Gives [(false, [.int .i64])] [[.i (Sp.cmp a b)]] sv heap)
theorem e71 (a : Int) (b : Int) : B71 a b = ((bNe a a = true → (bNe b b = true → (0 = Sp.cmp a b ∧ True) ∧ True) ∧ (bNe b b = false → (-1 = Sp.cmp a b ∧ True) ∧ True)) ∧ (bNe a a = false → (bNe b b = true → (1 = Sp.cmp a b ∧ True) ∧ True) ∧ (bNe b b = false → (bLt a b = true → (-1 = Sp.cmp a b ∧ True) ∧ True) ∧ (bLt a b = false → (bLt b a = true → (1 = Sp.cmp a b ∧ True) ∧ True) ∧ (bLt b a = false → (0 = Sp.cmp a b ∧ True) ∧ True))))) := by kernel_rfl
theorem v71 (a : Int) (b : Int) : Holds (Wfs [.int .i64 a, .int .i64 b] → True → B71 a b) := by
 refine ⟨fun hw hp => ?_⟩
 rw [e71]
 simp only [bLt, bNe, eq_self, and_true, Bool.not_eq_true', Bool.not_eq_false', decide_eq_true_eq, decide_eq_false_iff_not, Sp.cmp]
 grind
theorem s71 : SoundCt Go.Proofs.Tryz.prog 71 ct71 :=
 contractH followsMixed (look_sound (show Tb Go.Proofs.Tryz.prog tb71 from trivial)) (fun _ => false) (fun _ => A71) 8 71 ct71 rfl (by simp [ct71]) fun a => Eq.mp (by kernel_rfl) (v71 ((cel 0 (arg 0 a)).int) ((cel 0 (arg 1 a)).int))
end Go.Sx
namespace Go.Sx
def ct78 : Ct := { ps := [(true, [.int .i64, .int .i64, .int .i64, .int .i64]), (true, [.int .i64, .int .i64, .int .i64, .int .i64])], rs := [(false, [.bool])], pre := fun _ => True, out := fun a => [[.b (decide (Sp.lcmp (cel 0 (arg 0 a)).int (cel 1 (arg 0 a)).int (cel 2 (arg 0 a)).int (cel 3 (arg 0 a)).int (cel 0 (arg 1 a)).int (cel 1 (arg 1 a)).int (cel 2 (arg 1 a)).int (cel 3 (arg 1 a)).int < 0))]] }
def tb78 : List (Nat × Ct) := []
def A78  : FuncId → Nat → LoopAnn := fun _ _ => LoopAnn.unroll 200
abbrev B78 (a0 : Int) (a1 : Int) (a2 : Int) (a3 : Int) (b0 : Int) (b1 : Int) (b2 : Int) (b3 : Int) : Prop := vcF Go.Proofs.Tryz.prog (look tb78) (fun _ => false) (A78) 6 78 [.agg [.int .i64 a0, .int .i64 a1, .int .i64 a2, .int .i64 a3], .agg [.int .i64 b0, .int .i64 b1, .int .i64 b2, .int .i64 b3]] [] (fun sv heap => Gives [(false, [.bool])] [[.b (decide (Sp.lcmp a0 a1 a2 a3 b0 b1 b2 b3 < 0))]] sv heap)
theorem e78 (a0 : Int) (a1 : Int) (a2 : Int) (a3 : Int) (b0 : Int) (b1 : Int) (b2 : Int) (b3 : Int) : B78 a0 a1 a2 a3 b0 b1 b2 b3 = ((bNe a0 b0 = true → (bLt a0 b0 = decide (Sp.lcmp a0 a1 a2 a3 b0 b1 b2 b3 < 0) ∧ True) ∧ True) ∧ (bNe a0 b0 = false → (bNe a1 b1 = true → (bLt a1 b1 = decide (Sp.lcmp a0 a1 a2 a3 b0 b1 b2 b3 < 0) ∧ True) ∧ True) ∧ (bNe a1 b1 = false → (bNe a2 b2 = true → (bLt a2 b2 = decide (Sp.lcmp a0 a1 a2 a3 b0 b1 b2 b3 < 0) ∧ True) ∧ True) ∧ (bNe a2 b2 = false → (bLt a3 b3 = decide (Sp.lcmp a0 a1 a2 a3 b0 b1 b2 b3 < 0) ∧ True) ∧ True)))) := by kernel_rfl
theorem v78 (a0 : Int) (a1 : Int) (a2 : Int) (a3 : Int) (b0 : Int) (b1 : Int) (b2 : Int) (b3 : Int) : Holds (Wfs [.agg [.int .i64 a0, .int .i64 a1, .int .i64 a2, .int .i64 a3], .agg [.int .i64 b0, .int .i64 b1, .int .i64 b2, .int .i64 b3]] → True → B78 a0 a1 a2 a3 b0 b1 b2 b3) := by
 refine ⟨fun hw hp => ?_⟩
 rw [e78]
 simp only [bLt, bNe, eq_self, and_true, Bool.not_eq_true', Bool.not_eq_false', decide_eq_true_eq, decide_eq_false_iff_not, decide_eq_decide, Sp.lcmp]
 grind
theorem s78 : SoundCt Go.Proofs.Tryz.prog 78 ct78 :=
 contractH followsMixed (look_sound (show Tb Go.Proofs.Tryz.prog tb78 from trivial)) (fun _ => false) (fun _ => A78) 6 78 ct78 rfl (by simp [ct78]) fun a => Eq.mp (by kernel_rfl) (v78 ((cel 0 (arg 0 a)).int) ((cel 1 (arg 0 a)).int) ((cel 2 (arg 0 a)).int) ((cel 3 (arg 0 a)).int) ((cel 0 (arg 1 a)).int) ((cel 1 (arg 1 a)).int) ((cel 2 (arg 1 a)).int) ((cel 3 (arg 1 a)).int))
end Go.Sx
namespace Go.Sx
def ct97 : Ct := { ps := [(true, [.int .i64, .int .i64, .int .i64, .int .i64]), (true, [.int .i64, .int .i64, .int .i64, .int .i64])], rs := [(false, [.int .i64])], pre := fun _ => True, out := fun a => [[.i (Sp.lcmp (cel 0 (arg 0 a)).int (cel 1 (arg 0 a)).int (cel 2 (arg 0 a)).int (cel 3 (arg 0 a)).int (cel 0 (arg 1 a)).int (cel 1 (arg 1 a)).int (cel 2 (arg 1 a)).int (cel 3 (arg 1 a)).int)]] }
def tb97 : List (Nat × Ct) := [(71, ct71)]
def A97  : FuncId → Nat → LoopAnn := fun _ _ => LoopAnn.unroll 9
abbrev B97 (a0 : Int) (a1 : Int) (a2 : Int) (a3 : Int) (b0 : Int) (b1 : Int) (b2 : Int) (b3 : Int) : Prop := vcF Go.Proofs.Tryz.prog (look tb97) (fun _ => false) (A97) 8 97 [.agg [.int .i64 a0, .int .i64 a1, .int .i64 a2, .int .i64 a3], .agg [.int .i64 b0, .int .i64 b1, .int .i64 b2, .int .i64 b3]] [] (fun sv heap => Gives [(false, [.int .i64])] [[.i (Sp.lcmp a0 a1 a2 a3 b0 b1 b2 b3)]] sv heap)
theorem e97 (a0 : Int) (a1 : Int) (a2 : Int) (a3 : Int) (b0 : Int) (b1 : Int) (b2 : Int) (b3 : Int) : B97 a0 a1 a2 a3 b0 b1 b2 b3 = (True ∧ (InR .i64 (Sp.cmp a0 b0) → True ∧ (InR .i64 (Sp.cmp a1 b1) → True ∧ (InR .i64 (Sp.cmp a2 b2) → True ∧ (InR .i64 (Sp.cmp a3 b3) → InR .i64 (Sp.cmp a0 b0) → (bNe (Sp.cmp a0 b0) 0 = true → (Sp.cmp a0 b0 = Sp.lcmp a0 a1 a2 a3 b0 b1 b2 b3 ∧ True) ∧ True) ∧ (bNe (Sp.cmp a0 b0) 0 = false → InR .i64 (Sp.cmp a1 b1) → (bNe (Sp.cmp a1 b1) 0 = true → (Sp.cmp a1 b1 = Sp.lcmp a0 a1 a2 a3 b0 b1 b2 b3 ∧ True) ∧ True) ∧ (bNe (Sp.cmp a1 b1) 0 = false → InR .i64 (Sp.cmp a2 b2) → (bNe (Sp.cmp a2 b2) 0 = true → (Sp.cmp a2 b2 = Sp.lcmp a0 a1 a2 a3 b0 b1 b2 b3 ∧ True) ∧ True) ∧ (bNe (Sp.cmp a2 b2) 0 = false → InR .i64 (Sp.cmp a3 b3) → (bNe (Sp.cmp a3 b3) 0 = true → (Sp.cmp a3 b3 = Sp.lcmp a0 a1 a2 a3 b0 b1 b2 b3 ∧ True) ∧ True) ∧ (bNe (Sp.cmp a3 b3) 0 = false → (0 = Sp.lcmp a0 a1 a2 a3 b0 b1 b2 b3 ∧ True) ∧ True))))))))) := by kernel_rfl
theorem v97 (a0 : Int) (a1 : Int) (a2 : Int) (a3 : Int) (b0 : Int) (b1 : Int) (b2 : Int) (b3 : Int) : Holds (Wfs [.agg [.int .i64 a0, .int .i64 a1, .int .i64 a2, .int .i64 a3], .agg [.int .i64 b0, .int .i64 b1, .int .i64 b2, .int .i64 b3]] → True → B97 a0 a1 a2 a3 b0 b1 b2 b3) := by
 refine ⟨fun hw hp => ?_⟩
 rw [e97]
 simp only [bLt, bNe, eq_self, and_true, true_and, Bool.not_eq_true', Bool.not_eq_false', decide_eq_true_eq, decide_eq_false_iff_not, Sp.lcmp, Sp.cmp]
 grind
theorem s97 : SoundCt Go.Proofs.Tryz.prog 97 ct97 :=
 contractH followsMixed (look_sound (show Tb Go.Proofs.Tryz.prog tb97 from ⟨s71, trivial⟩)) (fun _ => false) (fun _ => A97) 8 97 ct97 rfl (by simp [ct97]) fun a => Eq.mp (by kernel_rfl) (v97 ((cel 0 (arg 0 a)).int) ((cel 1 (arg 0 a)).int) ((cel 2 (arg 0 a)).int) ((cel 3 (arg 0 a)).int) ((cel 0 (arg 1 a)).int) ((cel 1 (arg 1 a)).int) ((cel 2 (arg 1 a)).int) ((cel 3 (arg 1 a)).int))
end Go.Sx
namespace Go
open Go.Sx
def Sp.idx (p : List C → Bool) (xs : List (List C)) (i : Int) : Int :=
 match xs with
 | [] => -1
 | x :: r => bif p x then i else Sp.idx p r (i + 1)
def Sp.at (p : List C → Bool) (xs : List (List C)) (i : Int) : Prop := 0 ≤ i ∧ i ≤ (xs.length : Int) ∧ Sp.idx p xs 0 = Sp.idx p (xs.drop i.toNat) i
def Sp.isI (id : Int) (x : List C) : Bool := decide (Sp.c0 x = id)
def Sp.nix (ns : List (List C)) (id : Int) : Int := Sp.idx (Sp.isI id) ns 0
def Sp.nd (ns : List (List C)) (id : Int) : List C := bif decide (Sp.nix ns id < 0) then [] else rGet ns (Sp.nix ns id)
def Sp.has (l : List (List C)) (n : Int) : Bool := decide (0 ≤ Sp.nix l n)
def Sp.allI (p : Int → Bool) (n : Nat) : Bool :=
 match n with
 | 0 => true
 | k + 1 => Sp.allI p k && p (k : Int)
def Sp.ends (ns : List (List C)) (l0 l1 l2 l3 : Int) : Bool := decide (0 ≤ l1 ∧ l1 < Sp.c3 (Sp.nd ns l0) ∧ 0 ≤ l3 ∧ l3 < Sp.c2 (Sp.nd ns l2))
def Sp.clash (ns : List (List C)) (a0 a1 a2 a3 b0 b1 b2 b3 : Int) : Bool := decide (a2 = b2 ∧ a3 = b3 ∧ Sp.c1 (Sp.nd ns b2) ≠ 3 ∨ a0 = b0 ∧ a1 = b1 ∧ Sp.c1 (Sp.nd ns b0) ≠ 5 ∧ Sp.c1 (Sp.nd ns b0) ≠ 1)
def Sp.cl (ns : List (List C)) (b0 b1 b2 b3 : Int) (x : List C) : Bool := Sp.clash ns (Sp.c0 x) (Sp.c1 x) (Sp.c2 x) (Sp.c3 x) b0 b1 b2 b3
def Sp.free (ls out : List (List C)) (id : Int) : Bool := ls.all (fun l => !decide (Sp.c2 l = id) || Sp.has out (Sp.c0 l))
def Sp.rdy (ls out : List (List C)) (x : List C) : Bool := !Sp.has out (Sp.c0 x) && Sp.free ls out (Sp.c0 x)
def Sp.ordF (ns ls : List (List C)) (n : Nat) (out : List (List C)) : List (List C) :=
 match n with
 | 0 => out
 | k + 1 => bif decide (Sp.idx (Sp.rdy ls out) ns 0 < 0) then out else Sp.ordF ns ls k (out ++ [[.i (Sp.c0 (rGet ns (Sp.idx (Sp.rdy ls out) ns 0)))]])
def Sp.ord (ns ls : List (List C)) : List (List C) := Sp.ordF ns ls ns.length []
def Sp.nokI (ns : List (List C)) (i : Int) : Bool := Sp.fine (Sp.c0 (rGet ns i)) (Sp.c1 (rGet ns i)) (Sp.c2 (rGet ns i)) (Sp.c3 (rGet ns i)) && (decide (i ≤ 0) || decide (Sp.c0 (rGet ns (i - 1)) < Sp.c0 (rGet ns i)))
def Sp.lokI (ns ls : List (List C)) (i : Int) : Bool := Sp.ends ns (Sp.c0 (rGet ls i)) (Sp.c1 (rGet ls i)) (Sp.c2 (rGet ls i)) (Sp.c3 (rGet ls i)) &&
 (decide (i ≤ 0) || decide (Sp.lcmp (Sp.c0 (rGet ls (i - 1))) (Sp.c1 (rGet ls (i - 1))) (Sp.c2 (rGet ls (i - 1))) (Sp.c3 (rGet ls (i - 1))) (Sp.c0 (rGet ls i)) (Sp.c1 (rGet ls i)) (Sp.c2 (rGet ls i)) (Sp.c3 (rGet ls i)) < 0)) &&
 !decide (0 ≤ Sp.idx (Sp.cl ns (Sp.c0 (rGet ls i)) (Sp.c1 (rGet ls i)) (Sp.c2 (rGet ls i)) (Sp.c3 (rGet ls i))) (ls.take i.toNat) 0)
def Sp.vld (ns ls : List (List C)) : Bool := decide (ns.length ≤ 64 ∧ ls.length ≤ 256) && Sp.allI (Sp.nokI ns) ns.length && Sp.allI (Sp.lokI ns ls) ls.length && decide ((Sp.ord ns ls).length = ns.length)
end Go
namespace Go
open Go.Sx
theorem Sp.drop_cons {xs : List (List C)} {k : Int} (h0 : 0 ≤ k) (h1 : k < (xs.length : Int)) : xs.drop k.toNat = rGet xs k :: xs.drop (k + 1).toNat := by
 rw [List.drop_eq_getElem_cons (show k.toNat < xs.length by omega), show (k + 1).toNat = k.toNat + 1 by omega]
 congr 1
 simp [rGet, List.getD_eq_getElem?_getD, show k.toNat < xs.length by omega]
section
variable {p : List C → Bool} {xs : List (List C)} {i : Int}
theorem Sp.at_init : Sp.at p xs 0 := ⟨by omega, by omega, by simp⟩
theorem Sp.at_step (h : Sp.at p xs i) (hi : i < (xs.length : Int)) (hp : p (rGet xs i) = false) : Sp.at p xs (i + 1) := by
 obtain ⟨h0, h1, h2⟩ := h
 refine ⟨by omega, by omega, ?_⟩
 rw [h2, Sp.drop_cons h0 hi, Sp.idx, hp]; rfl
theorem Sp.at_hit (h : Sp.at p xs i) (hi : i < (xs.length : Int)) (hp : p (rGet xs i) = true) : Sp.idx p xs 0 = i := by
 obtain ⟨h0, h1, h2⟩ := h
 rw [h2, Sp.drop_cons h0 hi, Sp.idx, hp]; rfl
theorem Sp.at_end (h : Sp.at p xs i) (hi : ¬ i < (xs.length : Int)) : Sp.idx p xs 0 = -1 := by
 obtain ⟨h0, h1, h2⟩ := h
 rw [h2, List.drop_eq_nil_of_le (by omega)]; rfl
theorem Sp.idx_bd : ∀ (xs : List (List C)) (i : Int), Sp.idx p xs i = -1 ∨ i ≤ Sp.idx p xs i ∧ Sp.idx p xs i < i + (xs.length : Int)
 | [], i => .inl rfl
 | x :: r, i => by
  simp only [Sp.idx]
  cases p x
  · have := Sp.idx_bd r (i + 1)
    simp only [cond_false, List.length_cons]; omega
  · simp only [cond_true, List.length_cons]; omega
theorem Sp.idx_row : ∀ (xs : List (List C)) (i : Int), 0 ≤ i → Sp.idx p xs i = -1 ∨ p (rGet xs (Sp.idx p xs i - i)) = true
 | [], i, _ => .inl rfl
 | x :: r, i, h => by
  simp only [Sp.idx]
  cases hp : p x
  · simp only [cond_false]
    rcases Sp.idx_row r (i + 1) (by omega) with h1 | h1
    · exact .inl h1
    · rcases Sp.idx_bd (p := p) r (i + 1) with h2 | h2
      · exact .inl h2
      · right
        have e : Sp.idx p r (i + 1) - i = Sp.idx p r (i + 1) - (i + 1) + 1 := by omega
        rw [e]
        unfold rGet at h1 ⊢
        rw [show (Sp.idx p r (i + 1) - (i + 1) + 1).toNat = (Sp.idx p r (i + 1) - (i + 1)).toNat + 1 by omega]
        simpa using h1
  · right
    simp only [cond_true, rGet]
    simpa using hp
theorem Sp.idx_no : ∀ (xs : List (List C)) (i : Int), 0 ≤ i → (Sp.idx p xs i < 0 ↔ ∀ x ∈ xs, p x = false)
 | [], i, _ => by simp [Sp.idx]
 | x :: r, i, h => by
  simp only [Sp.idx]
  cases hp : p x
  · simp only [cond_false, Sp.idx_no r (i + 1) (by omega), List.mem_cons, forall_eq_or_imp, hp, true_and]
  · simp only [cond_true, List.mem_cons, forall_eq_or_imp, hp]
    constructor
    · intro h1; omega
    · rintro ⟨h1, _⟩; cases h1
theorem Sp.has_iff {l : List (List C)} {n : Int} : Sp.has l n = true ↔ ∃ x ∈ l, Sp.c0 x = n := by
 unfold Sp.has Sp.nix
 rw [decide_eq_true_eq]
 have h := Sp.idx_no (p := Sp.isI n) l 0 (by omega)
 constructor
 · intro h1
   apply Classical.byContradiction
   intro h2
   have : Sp.idx (Sp.isI n) l 0 < 0 := h.2 fun x hx => by
    unfold Sp.isI
    rw [decide_eq_false_iff_not]
    exact fun h3 => h2 ⟨x, hx, h3⟩
   omega
 · rintro ⟨x, hx, hn⟩
   apply Classical.byContradiction
   intro h2
   have := h.1 (by omega) x hx
   unfold Sp.isI at this
   rw [decide_eq_false_iff_not] at this
   exact this hn
theorem Sp.has_bool {l : List (List C)} {n : Int} {b : Bool} (h : b = true ↔ ∃ x ∈ l, Sp.c0 x = n) : b = Sp.has l n := by
 rw [Bool.eq_iff_iff, h, Sp.has_iff]
end
theorem Sp.allI_iff {p : Int → Bool} : ∀ {n : Nat}, Sp.allI p n = true ↔ ∀ k : Int, 0 ≤ k → k < n → p k = true
 | 0 => by simp [Sp.allI]; intro k h0 h1; omega
 | n + 1 => by
  simp only [Sp.allI, Bool.and_eq_true, Sp.allI_iff (n := n)]
  constructor
  · rintro ⟨h1, h2⟩ k h0 hk
    by_cases hkn : k = n
    · rw [hkn]; exact h2
    · exact h1 k h0 (by omega)
  · intro h
    exact ⟨fun k h0 hk => h k h0 (by omega), h n (by omega) (by omega)⟩
end Go
namespace Go.Sx
def ct92 : Ct := { ps := [(true, [.sl [.int .i64, .int .i64, .int .i64, .int .i64], .sl [.int .i64, .int .i64, .int .i64, .int .i64]]), (false, [.int .i64])], rs := [(true, [.int .i64, .int .i64, .int .i64, .int .i64]), (false, [.bool])], pre := fun _ => True, out := fun a => [[.i (Sp.c0 (Sp.nd (cel 0 (arg 0 a)).list (cel 0 (arg 1 a)).int)), .i (Sp.c1 (Sp.nd (cel 0 (arg 0 a)).list (cel 0 (arg 1 a)).int)), .i (Sp.c2 (Sp.nd (cel 0 (arg 0 a)).list (cel 0 (arg 1 a)).int)), .i (Sp.c3 (Sp.nd (cel 0 (arg 0 a)).list (cel 0 (arg 1 a)).int))], [.b (Sp.has (cel 0 (arg 0 a)).list (cel 0 (arg 1 a)).int)]] }
def tb92 : List (Nat × Ct) := []
def A92 (ns : List (List C)) (id : Int) : FuncId → Nat → LoopAnn := fun _ ii => bif Nat.beq ii 2 then .inv (Int) (fun z => Sp.at (Sp.isI id) ns z) (fun z => [(11, .int .i64 z)]) (fun z => []) [] [0, 1, 2, 4, 5, 7, 9, 10, 11, 12, 18] (fun z => ns.length - z.toNat) else .unroll 0
abbrev B92 (ns : List (List C)) (ls : List (List C)) (id : Int) : Prop := vcF Go.Proofs.Tryz.prog (look tb92) (fun _ => false) (A92 ns id) 6 92 [.agg [.sl [.int .i64, .int .i64, .int .i64, .int .i64] ns, .sl [.int .i64, .int .i64, .int .i64, .int .i64] ls], .int .i64 id] [] (fun sv heap => Gives [(true, [.int .i64, .int .i64, .int .i64, .int .i64]), (false, [.bool])] [[.i (Sp.c0 (Sp.nd ns id)), .i (Sp.c1 (Sp.nd ns id)), .i (Sp.c2 (Sp.nd ns id)), .i (Sp.c3 (Sp.nd ns id))], [.b (Sp.has ns id)]] sv heap)
def h92_0 : List (List C) → List (List C) → Int → List SV := fun (ns ls : List (List C)) (id : Int) => [SV.agg [SV.sl [.int .i64, .int .i64, .int .i64, .int .i64] ns, SV.sl [.int .i64, .int .i64, .int .i64, .int .i64] ls], SV.int .i64 id, SV.ref 0 0, SV.ref 1 0, SV.sl [.int .i64, .int .i64, .int .i64, .int .i64] ns, SV.int .i64 (iLen ns)]
def h92_1 : List (List C) → List (List C) → List HB := fun (ns ls : List (List C)) => [HB.box [SV.sl [.int .i64, .int .i64, .int .i64, .int .i64] ns, SV.sl [.int .i64, .int .i64, .int .i64, .int .i64] ls] 50, HB.box [SV.lit .i64 0, SV.lit .i64 0, SV.lit .i64 0, SV.lit .i64 0] 74]
theorem e92 (ns : List (List C)) (ls : List (List C)) (id : Int) : B92 ns ls id = (pLe (iLen ns) 9223372036854775807 → (∃ (x : Int), Sp.at (Sp.isI id) ns x ∧ true = true ∧ ((IntKind.i64 = IntKind.i64 ∧ 0 = x) ∧ True) ∧ True) ∧ (∀ (x : Int), true = true ∧ true = true) ∧ ∀ (x : Int), Sp.at (Sp.isI id) ns x → InR .i64 x ∧ True → True → (bLt x (iLen ns) = true → pIn 0 (iLen ns) x ∧ (InR .i64 (q0 (rGet ns x)) ∧ InR .i64 (q1 (rGet ns x)) ∧ InR .i64 (q2 (rGet ns x)) ∧ InR .i64 (q3 (rGet ns x)) ∧ True → (bEq (q0 (rGet ns x)) id = true → ((q0 (rGet ns x)) = Sp.c0 (Sp.nd ns id) ∧ (q1 (rGet ns x)) = Sp.c1 (Sp.nd ns id) ∧ (q2 (rGet ns x)) = Sp.c2 (Sp.nd ns id) ∧ (q3 (rGet ns x)) = Sp.c3 (Sp.nd ns id) ∧ True) ∧ (true = Sp.has ns id ∧ True) ∧ True) ∧ (bEq (q0 (rGet ns x)) id = false → InR .i64 (iAdd x 1) ∧ (true = true ∧ h92_0 ns ls id = h92_0 ns ls id) ∧ h92_1 ns ls = h92_1 ns ls ∧ ∃ (y : Int), Sp.at (Sp.isI id) ns y ∧ true = true ∧ ((IntKind.i64 = IntKind.i64 ∧ iAdd x 1 = y) ∧ True) ∧ True ∧ ns.length - y.toNat < ns.length - x.toNat))) ∧ (bLt x (iLen ns) = false → (0 = Sp.c0 (Sp.nd ns id) ∧ 0 = Sp.c1 (Sp.nd ns id) ∧ 0 = Sp.c2 (Sp.nd ns id) ∧ 0 = Sp.c3 (Sp.nd ns id) ∧ True) ∧ (false = Sp.has ns id ∧ True) ∧ True)) := by kernel_rfl
theorem v92 (ns : List (List C)) (ls : List (List C)) (id : Int) : Holds (Wfs [.agg [.sl [.int .i64, .int .i64, .int .i64, .int .i64] ns, .sl [.int .i64, .int .i64, .int .i64, .int .i64] ls], .int .i64 id] → True → B92 ns ls id) := by
 refine ⟨fun hw hp => ?_⟩
 rw [e92]
 delta q0 q1 q2 q3
 simp only [Wfs, Wf, InR, and_true] at hw
 simp only [eq_self, true_and, and_true, true_implies, implies_true, iAdd, iSub, iMul, iLen, bEq, bNe, bLt, bLe, bNot, pIn, pLe, pNe, InR, decide_eq_true_eq, decide_eq_false_iff_not, Bool.not_eq_true', Bool.not_eq_false', decide_eq_decide]
 intro hlen
 refine ⟨⟨0, Sp.at_init, rfl⟩, fun x hx hx1 => ⟨fun hlt => ⟨⟨hx.1, hlt⟩, fun _ => ⟨fun hh => ?_, fun hh => ⟨by omega, x + 1, Sp.at_step hx hlt (decide_eq_false hh), rfl, by have := hx.1; omega⟩⟩⟩, fun hge => ?_⟩⟩
 · have e : Sp.nix ns id = x := Sp.at_hit hx hlt (decide_eq_true hh)
   have e2 : Sp.nd ns id = rGet ns x := by unfold Sp.nd; rw [e, decide_eq_false (by have := hx.1; omega)]; rfl
   have e3 : Sp.has ns id = true := by unfold Sp.has; rw [e, decide_eq_true hx.1]
   rw [e2, e3]
   exact ⟨⟨rfl, rfl, rfl, rfl⟩, rfl⟩
 · have e : Sp.nix ns id = -1 := Sp.at_end hx hge
   have e2 : Sp.nd ns id = [] := by unfold Sp.nd; rw [e]; rfl
   have e3 : Sp.has ns id = false := by unfold Sp.has; rw [e]; rfl
   rw [e2, e3]
   exact ⟨⟨rfl, rfl, rfl, rfl⟩, rfl⟩
theorem s92 : SoundCt Go.Proofs.Tryz.prog 92 ct92 :=
 contractH followsMixed (look_sound (show Tb Go.Proofs.Tryz.prog tb92 from trivial)) (fun _ => false) (fun a => A92 ((cel 0 (arg 0 a)).list) ((cel 0 (arg 1 a)).int)) 6 92 ct92 rfl (by simp [ct92]) fun a => Eq.mp (by kernel_rfl) (v92 ((cel 0 (arg 0 a)).list) ((cel 1 (arg 0 a)).list) ((cel 0 (arg 1 a)).int))
end Go.Sx
namespace Go.Sx
def ct80 : Ct := { ps := [(false, [.sl [.int .i64]]), (false, [.int .i64])], rs := [(false, [.bool])], pre := fun _ => True, out := fun a => [[.b (Sp.has (cel 0 (arg 0 a)).list (cel 0 (arg 1 a)).int)]] }
def tb80 : List (Nat × Ct) := []
def A80 (l : List (List C)) (n : Int) : FuncId → Nat → LoopAnn := fun _ ii => bif Nat.beq ii 2 then .inv (Int) (fun z => Sp.at (Sp.isI n) l z) (fun z => [(9, .int .i64 z)]) (fun z => []) [] [0, 1, 4, 6, 7, 8, 9, 10, 15] (fun z => l.length - z.toNat) else .unroll 0
abbrev B80 (l : List (List C)) (n : Int) : Prop := vcF Go.Proofs.Tryz.prog (look tb80) (fun _ => false) (A80 l n) 6 80 [.sl [.int .i64] l, .int .i64 n] [] (fun sv heap => Gives [(false, [.bool])] [[.b (Sp.has l n)]] sv heap)
theorem e80 (l : List (List C)) (n : Int) : B80 l n = (pLe (iLen l) 9223372036854775807 → (∃ (x : Int), Sp.at (Sp.isI n) l x ∧ true = true ∧ ((IntKind.i64 = IntKind.i64 ∧ 0 = x) ∧ True) ∧ True) ∧ (∀ (x : Int), true = true ∧ true = true) ∧ ∀ (x : Int), Sp.at (Sp.isI n) l x → InR .i64 x ∧ True → True → (bLt x (iLen l) = true → pIn 0 (iLen l) x ∧ (InR .i64 (q0 (rGet l x)) → (bEq (q0 (rGet l x)) n = true → (true = Sp.has l n ∧ True) ∧ True) ∧ (bEq (q0 (rGet l x)) n = false → InR .i64 (iAdd x 1) ∧ (true = true ∧ (fun z => z = z) [SV.sl [.int .i64] l, SV.int .i64 n, SV.sl [.int .i64] l, SV.int .i64 (iLen l)]) ∧ ([] : List HB) = [] ∧ ∃ (y : Int), Sp.at (Sp.isI n) l y ∧ true = true ∧ ((IntKind.i64 = IntKind.i64 ∧ iAdd x 1 = y) ∧ True) ∧ True ∧ l.length - y.toNat < l.length - x.toNat))) ∧ (bLt x (iLen l) = false → (false = Sp.has l n ∧ True) ∧ True)) := by kernel_rfl
theorem v80 (l : List (List C)) (n : Int) : Holds (Wfs [.sl [.int .i64] l, .int .i64 n] → True → B80 l n) := by
 refine ⟨fun hw hp => ?_⟩
 rw [e80]
 delta q0
 simp only [Wfs, Wf, InR, and_true] at hw
 simp only [eq_self, true_and, and_true, true_implies, implies_true, iAdd, iSub, iMul, iLen, bEq, bNe, bLt, bLe, bNot, pIn, pLe, pNe, InR, decide_eq_true_eq, decide_eq_false_iff_not, Bool.not_eq_true', Bool.not_eq_false', decide_eq_decide]
 intro hlen
 refine ⟨⟨0, Sp.at_init, rfl⟩, fun x hx hx1 => ⟨fun hlt => ⟨⟨hx.1, hlt⟩, fun _ => ⟨fun hh => ?_, fun hh => ⟨by omega, x + 1, Sp.at_step hx hlt (decide_eq_false hh), rfl, by have := hx.1; omega⟩⟩⟩, fun hge => ?_⟩⟩
 · have e : Sp.nix l n = x := Sp.at_hit hx hlt (decide_eq_true hh)
   unfold Sp.has; rw [e, decide_eq_true hx.1]
 · have e : Sp.nix l n = -1 := Sp.at_end hx hge
   unfold Sp.has; rw [e]; rfl
theorem s80 : SoundCt Go.Proofs.Tryz.prog 80 ct80 :=
 contractH followsMixed (look_sound (show Tb Go.Proofs.Tryz.prog tb80 from trivial)) (fun _ => false) (fun a => A80 ((cel 0 (arg 0 a)).list) ((cel 0 (arg 1 a)).int)) 6 80 ct80 rfl (by simp [ct80]) fun a => Eq.mp (by kernel_rfl) (v80 ((cel 0 (arg 0 a)).list) ((cel 0 (arg 1 a)).int))
end Go.Sx
namespace Go.Sx
def ct77 : Ct := { ps := [(true, [.sl [.int .i64, .int .i64, .int .i64, .int .i64], .sl [.int .i64, .int .i64, .int .i64, .int .i64]]), (true, [.int .i64, .int .i64, .int .i64, .int .i64])], rs := [(false, [.bool])], pre := fun _ => True, out := fun a => [[.b (Sp.ends (cel 0 (arg 0 a)).list (cel 0 (arg 1 a)).int (cel 1 (arg 1 a)).int (cel 2 (arg 1 a)).int (cel 3 (arg 1 a)).int)]] }
def tb77 : List (Nat × Ct) := [(92, ct92)]
def A77  : FuncId → Nat → LoopAnn := fun _ _ => LoopAnn.unroll 200
abbrev B77 (ns : List (List C)) (ls : List (List C)) (l0 : Int) (l1 : Int) (l2 : Int) (l3 : Int) : Prop := vcF Go.Proofs.Tryz.prog (look tb77) (fun _ => false) (A77) 6 77 [.agg [.sl [.int .i64, .int .i64, .int .i64, .int .i64] ns, .sl [.int .i64, .int .i64, .int .i64, .int .i64] ls], .agg [.int .i64 l0, .int .i64 l1, .int .i64 l2, .int .i64 l3]] [] (fun sv heap => Gives [(false, [.bool])] [[.b (Sp.ends ns l0 l1 l2 l3)]] sv heap)
theorem e77 (ns : List (List C)) (ls : List (List C)) (l0 : Int) (l1 : Int) (l2 : Int) (l3 : Int) : B77 ns ls l0 l1 l2 l3 = (True ∧ ((InR .i64 (Sp.c0 (Sp.nd ns l0)) ∧ InR .i64 (Sp.c1 (Sp.nd ns l0)) ∧ InR .i64 (Sp.c2 (Sp.nd ns l0)) ∧ InR .i64 (Sp.c3 (Sp.nd ns l0)) ∧ True) ∧ True ∧ True → True ∧ ((InR .i64 (Sp.c0 (Sp.nd ns l2)) ∧ InR .i64 (Sp.c1 (Sp.nd ns l2)) ∧ InR .i64 (Sp.c2 (Sp.nd ns l2)) ∧ InR .i64 (Sp.c3 (Sp.nd ns l2)) ∧ True) ∧ True ∧ True → (Sp.has ns l0 = true → (Sp.has ns l2 = true → (bLe 0 l1 = true → (bLt l1 (Sp.c3 (Sp.nd ns l0)) = true → (bLe 0 l3 = true → (bLt l3 (Sp.c2 (Sp.nd ns l2)) = Sp.ends ns l0 l1 l2 l3 ∧ True) ∧ True) ∧ (bLe 0 l3 = false → (false = Sp.ends ns l0 l1 l2 l3 ∧ True) ∧ True)) ∧ (bLt l1 (Sp.c3 (Sp.nd ns l0)) = false → (false = Sp.ends ns l0 l1 l2 l3 ∧ True) ∧ True)) ∧ (bLe 0 l1 = false → (false = Sp.ends ns l0 l1 l2 l3 ∧ True) ∧ True)) ∧ (Sp.has ns l2 = false → (false = Sp.ends ns l0 l1 l2 l3 ∧ True) ∧ True)) ∧ (Sp.has ns l0 = false → (false = Sp.ends ns l0 l1 l2 l3 ∧ True) ∧ True)))) := by kernel_rfl
theorem v77 (ns : List (List C)) (ls : List (List C)) (l0 : Int) (l1 : Int) (l2 : Int) (l3 : Int) : Holds (Wfs [.agg [.sl [.int .i64, .int .i64, .int .i64, .int .i64] ns, .sl [.int .i64, .int .i64, .int .i64, .int .i64] ls], .agg [.int .i64 l0, .int .i64 l1, .int .i64 l2, .int .i64 l3]] → True → B77 ns ls l0 l1 l2 l3) := by
 refine ⟨fun hw hp => ?_⟩
 rw [e77]
 simp only [Wfs, Wf, InR, and_true] at hw
 simp only [eq_self, true_and, and_true, true_implies, implies_true, iAdd, iSub, iMul, iLen, bEq, bNe, bLt, bLe, bNot, pIn, pLe, pNe, InR, decide_eq_true_eq, decide_eq_false_iff_not, Bool.not_eq_true', Bool.not_eq_false', decide_eq_decide]
 have k0 : ∀ i, Sp.has ns i = false → Sp.nd ns i = [] := fun i h => by
  unfold Sp.has at h
  rw [decide_eq_false_iff_not] at h
  unfold Sp.nd
  rw [decide_eq_true (by omega)]; rfl
 have z3 : Sp.c3 [] = 0 := rfl
 have z2 : Sp.c2 [] = 0 := rfl
 have h0 := k0 l0
 have h2 := k0 l2
 unfold Sp.ends
 intro _ _
 refine ⟨fun a => ⟨fun b => ⟨fun c => ⟨fun d => ⟨fun e => ?_, fun e => ?_⟩, fun d => ?_⟩, fun c => ?_⟩, fun b => ?_⟩, fun a => ?_⟩
 · rw [decide_eq_decide]; omega
 · symm; rw [decide_eq_false_iff_not]; omega
 · symm; rw [decide_eq_false_iff_not]; omega
 · symm; rw [decide_eq_false_iff_not]; omega
 · symm; rw [decide_eq_false_iff_not, h2 b, z2]; omega
 · symm; rw [decide_eq_false_iff_not, h0 a, z3]; omega
theorem s77 : SoundCt Go.Proofs.Tryz.prog 77 ct77 :=
 contractH followsMixed (look_sound (show Tb Go.Proofs.Tryz.prog tb77 from ⟨s92, trivial⟩)) (fun _ => false) (fun _ => A77) 6 77 ct77 rfl (by simp [ct77]) fun a => Eq.mp (by kernel_rfl) (v77 ((cel 0 (arg 0 a)).list) ((cel 1 (arg 0 a)).list) ((cel 0 (arg 1 a)).int) ((cel 1 (arg 1 a)).int) ((cel 2 (arg 1 a)).int) ((cel 3 (arg 1 a)).int))
end Go.Sx
namespace Go.Sx
def ct79 : Ct := { ps := [(true, [.sl [.int .i64, .int .i64, .int .i64, .int .i64], .sl [.int .i64, .int .i64, .int .i64, .int .i64]]), (true, [.int .i64, .int .i64, .int .i64, .int .i64]), (false, [.sl [.int .i64, .int .i64, .int .i64, .int .i64]])], rs := [(false, [.bool])], pre := fun _ => True, out := fun a => [[.b (decide (0 ≤ Sp.idx (Sp.cl (cel 0 (arg 0 a)).list (cel 0 (arg 1 a)).int (cel 1 (arg 1 a)).int (cel 2 (arg 1 a)).int (cel 3 (arg 1 a)).int) (cel 0 (arg 2 a)).list 0))]] }
def tb79 : List (Nat × Ct) := [(92, ct92)]
def A79 (ns : List (List C)) (l0 : Int) (l1 : Int) (l2 : Int) (l3 : Int) (xs : List (List C)) : FuncId → Nat → LoopAnn := fun _ ii => bif Nat.beq ii 4 then .inv (Int) (fun z => Sp.at (Sp.cl ns l0 l1 l2 l3) xs z) (fun z => [(29, .int .i64 z)]) (fun z => []) [] [0, 1, 2, 3, 4, 6, 7, 9, 12, 27, 28, 29, 30, 73] (fun z => xs.length - z.toNat) else .unroll 0
abbrev B79 (ns : List (List C)) (ls : List (List C)) (l0 : Int) (l1 : Int) (l2 : Int) (l3 : Int) (xs : List (List C)) : Prop := vcF Go.Proofs.Tryz.prog (look tb79) (fun _ => false) (A79 ns l0 l1 l2 l3 xs) 6 79 [.agg [.sl [.int .i64, .int .i64, .int .i64, .int .i64] ns, .sl [.int .i64, .int .i64, .int .i64, .int .i64] ls], .agg [.int .i64 l0, .int .i64 l1, .int .i64 l2, .int .i64 l3], .sl [.int .i64, .int .i64, .int .i64, .int .i64] xs] [] (fun sv heap => Gives [(false, [.bool])] [[.b (decide (0 ≤ Sp.idx (Sp.cl ns l0 l1 l2 l3) xs 0))]] sv heap)
def h79_0 : List (List C) → List (List C) → Int → Int → Int → Int → List (List C) → List SV := fun (ns ls : List (List C)) (l0 l1 l2 l3 : Int) (xs : List (List C)) => [SV.agg [SV.sl [.int .i64, .int .i64, .int .i64, .int .i64] ns, SV.sl [.int .i64, .int .i64, .int .i64, .int .i64] ls], SV.agg [SV.int .i64 l0, SV.int .i64 l1, SV.int .i64 l2, SV.int .i64 l3], SV.sl [.int .i64, .int .i64, .int .i64, .int .i64] xs, SV.ref 0 0, SV.ref 1 0, SV.ref 2 0, SV.ref 3 0, SV.sl [.int .i64, .int .i64, .int .i64, .int .i64] xs, SV.int .i64 (iLen xs)]
def h79_1 : List (List C) → List (List C) → Int → Int → Int → Int → List HB := fun (ns ls : List (List C)) (l0 l1 l2 l3 : Int) => [HB.box [SV.sl [.int .i64, .int .i64, .int .i64, .int .i64] ns, SV.sl [.int .i64, .int .i64, .int .i64, .int .i64] ls] 50, HB.box [SV.int .i64 l0, SV.int .i64 l1, SV.int .i64 l2, SV.int .i64 l3] 76, HB.box [SV.int .i64 (Sp.c0 (Sp.nd ns l0)), SV.int .i64 (Sp.c1 (Sp.nd ns l0)), SV.int .i64 (Sp.c2 (Sp.nd ns l0)), SV.int .i64 (Sp.c3 (Sp.nd ns l0))] 74, HB.box [SV.int .i64 (Sp.c0 (Sp.nd ns l2)), SV.int .i64 (Sp.c1 (Sp.nd ns l2)), SV.int .i64 (Sp.c2 (Sp.nd ns l2)), SV.int .i64 (Sp.c3 (Sp.nd ns l2))] 74]
def m79_1 (ns : List (List C)) (ls : List (List C)) (l0 : Int) (l1 : Int) (l2 : Int) (l3 : Int) (xs : List (List C)) (x : Int) : Prop := InR .i64 (iAdd x 1) ∧ (true = true ∧ h79_0 ns ls l0 l1 l2 l3 xs = h79_0 ns ls l0 l1 l2 l3 xs) ∧ h79_1 ns ls l0 l1 l2 l3 = h79_1 ns ls l0 l1 l2 l3 ∧ ∃ (y : Int), Sp.at (Sp.cl ns l0 l1 l2 l3) xs y ∧ true = true ∧ ((IntKind.i64 = IntKind.i64 ∧ iAdd x 1 = y) ∧ True) ∧ True ∧ xs.length - y.toNat < xs.length - x.toNat
def m79_0 (ns : List (List C)) (ls : List (List C)) (l0 : Int) (l1 : Int) (l2 : Int) (l3 : Int) (xs : List (List C)) (x : Int) : Prop := (bEq (q0 (rGet xs x)) l0 = true → (bEq (q1 (rGet xs x)) l1 = true → (bNe (Sp.c1 (Sp.nd ns l0)) 5 = true → (bNe (Sp.c1 (Sp.nd ns l0)) 1 = true → (true = decide (0 ≤ Sp.idx (Sp.cl ns l0 l1 l2 l3) xs 0) ∧ True) ∧ True) ∧ (bNe (Sp.c1 (Sp.nd ns l0)) 1 = false → (m79_1 ns ls l0 l1 l2 l3 xs x))) ∧ (bNe (Sp.c1 (Sp.nd ns l0)) 5 = false → (m79_1 ns ls l0 l1 l2 l3 xs x))) ∧ (bEq (q1 (rGet xs x)) l1 = false → (m79_1 ns ls l0 l1 l2 l3 xs x))) ∧ (bEq (q0 (rGet xs x)) l0 = false → (m79_1 ns ls l0 l1 l2 l3 xs x))
theorem e79 (ns : List (List C)) (ls : List (List C)) (l0 : Int) (l1 : Int) (l2 : Int) (l3 : Int) (xs : List (List C)) : B79 ns ls l0 l1 l2 l3 xs = (True ∧ ((InR .i64 (Sp.c0 (Sp.nd ns l0)) ∧ InR .i64 (Sp.c1 (Sp.nd ns l0)) ∧ InR .i64 (Sp.c2 (Sp.nd ns l0)) ∧ InR .i64 (Sp.c3 (Sp.nd ns l0)) ∧ True) ∧ True ∧ True → True ∧ ((InR .i64 (Sp.c0 (Sp.nd ns l2)) ∧ InR .i64 (Sp.c1 (Sp.nd ns l2)) ∧ InR .i64 (Sp.c2 (Sp.nd ns l2)) ∧ InR .i64 (Sp.c3 (Sp.nd ns l2)) ∧ True) ∧ True ∧ True → pLe (iLen xs) 9223372036854775807 → (∃ (x : Int), Sp.at (Sp.cl ns l0 l1 l2 l3) xs x ∧ true = true ∧ ((IntKind.i64 = IntKind.i64 ∧ 0 = x) ∧ True) ∧ True) ∧ (∀ (x : Int), true = true ∧ true = true) ∧ ∀ (x : Int), Sp.at (Sp.cl ns l0 l1 l2 l3) xs x → InR .i64 x ∧ True → True → (bLt x (iLen xs) = true → pIn 0 (iLen xs) x ∧ (InR .i64 (q0 (rGet xs x)) ∧ InR .i64 (q1 (rGet xs x)) ∧ InR .i64 (q2 (rGet xs x)) ∧ InR .i64 (q3 (rGet xs x)) ∧ True → (bEq (q2 (rGet xs x)) l2 = true → (bEq (q3 (rGet xs x)) l3 = true → (bNe (Sp.c1 (Sp.nd ns l2)) 3 = false → (m79_0 ns ls l0 l1 l2 l3 xs x)) ∧ (bNe (Sp.c1 (Sp.nd ns l2)) 3 = true → (true = decide (0 ≤ Sp.idx (Sp.cl ns l0 l1 l2 l3) xs 0) ∧ True) ∧ True)) ∧ (bEq (q3 (rGet xs x)) l3 = false → (m79_0 ns ls l0 l1 l2 l3 xs x))) ∧ (bEq (q2 (rGet xs x)) l2 = false → (m79_0 ns ls l0 l1 l2 l3 xs x)))) ∧ (bLt x (iLen xs) = false → (false = decide (0 ≤ Sp.idx (Sp.cl ns l0 l1 l2 l3) xs 0) ∧ True) ∧ True)))) := by kernel_rfl
theorem v79 (ns : List (List C)) (ls : List (List C)) (l0 : Int) (l1 : Int) (l2 : Int) (l3 : Int) (xs : List (List C)) : Holds (Wfs [.agg [.sl [.int .i64, .int .i64, .int .i64, .int .i64] ns, .sl [.int .i64, .int .i64, .int .i64, .int .i64] ls], .agg [.int .i64 l0, .int .i64 l1, .int .i64 l2, .int .i64 l3], .sl [.int .i64, .int .i64, .int .i64, .int .i64] xs] → True → B79 ns ls l0 l1 l2 l3 xs) := by
 refine ⟨fun hw hp => ?_⟩
 rw [e79]
 delta q0 q1 q2 q3 m79_1 m79_0
 simp only [Wfs, Wf, InR, and_true] at hw
 simp only [eq_self, true_and, and_true, true_implies, implies_true, iAdd, iSub, iMul, iLen, bEq, bNe, bLt, bLe, bNot, pIn, pLe, pNe, InR, decide_eq_true_eq, decide_eq_false_iff_not, Bool.not_eq_true', Bool.not_eq_false', decide_eq_decide]
 intro _ _ hlen
 refine ⟨⟨0, Sp.at_init, rfl⟩, fun x hx hx1 => ⟨fun hlt => ⟨⟨hx.1, hlt⟩, fun _ => ?_⟩, fun hge => ?_⟩⟩
 rotate_left
 · symm; rw [decide_eq_false_iff_not, Sp.at_end hx hge]; omega
 have hc : Sp.cl ns l0 l1 l2 l3 (rGet xs x) = decide (((rGet xs x).tail.tail.headD default).int = l2 ∧ ((rGet xs x).tail.tail.tail.headD default).int = l3 ∧ Sp.c1 (Sp.nd ns l2) ≠ 3 ∨ ((rGet xs x).headD default).int = l0 ∧ ((rGet xs x).tail.headD default).int = l1 ∧ Sp.c1 (Sp.nd ns l0) ≠ 5 ∧ Sp.c1 (Sp.nd ns l0) ≠ 1) := rfl
 cases hcl : Sp.cl ns l0 l1 l2 l3 (rGet xs x)
 · have S : ∃ y, Sp.at (Sp.cl ns l0 l1 l2 l3) xs y ∧ x + 1 = y ∧ xs.length - y.toNat < xs.length - x.toNat := ⟨x + 1, Sp.at_step hx hlt hcl, rfl, by have := hx.1; omega⟩
   have S1 : -9223372036854775808 ≤ x + 1 ∧ x + 1 ≤ 9223372036854775807 := by omega
   rw [hc, decide_eq_false_iff_not] at hcl
   repeat' (first | apply And.intro | intro _)
   all_goals (first | exact S | omega)
 · have T : true = decide (0 ≤ Sp.idx (Sp.cl ns l0 l1 l2 l3) xs 0) := by rw [Sp.at_hit hx hlt hcl, decide_eq_true hx.1]
   rw [hc, decide_eq_true_eq] at hcl
   repeat' (first | apply And.intro | intro _)
   all_goals (first | exact T | (exfalso; omega))
theorem s79 : SoundCt Go.Proofs.Tryz.prog 79 ct79 :=
 contractH followsMixed (look_sound (show Tb Go.Proofs.Tryz.prog tb79 from ⟨s92, trivial⟩)) (fun _ => false) (fun a => A79 ((cel 0 (arg 0 a)).list) ((cel 0 (arg 1 a)).int) ((cel 1 (arg 1 a)).int) ((cel 2 (arg 1 a)).int) ((cel 3 (arg 1 a)).int) ((cel 0 (arg 2 a)).list)) 6 79 ct79 rfl (by simp [ct79]) fun a => Eq.mp (by kernel_rfl) (v79 ((cel 0 (arg 0 a)).list) ((cel 1 (arg 0 a)).list) ((cel 0 (arg 1 a)).int) ((cel 1 (arg 1 a)).int) ((cel 2 (arg 1 a)).int) ((cel 3 (arg 1 a)).int) ((cel 0 (arg 2 a)).list))
end Go.Sx
