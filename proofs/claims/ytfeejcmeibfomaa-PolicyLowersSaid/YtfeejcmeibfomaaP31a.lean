/- The functions of chapter 31: what they compute. -/
import Derived.Test.YtfeejcmeibfomaaSxUse
import Derived.Test.YtfeejcmeibfomaaProg
import Derived.KernelRfl
set_option linter.unusedVariables false
set_option linter.unusedSimpArgs false
set_option maxRecDepth 100000
namespace Go.Sx
open Go.RowKit
theorem followsMixed : Go.Proofs.Try.prog.follows .mixedOrders = true := by kernel_rfl
end Go.Sx

namespace Go
open Go.Sx
def Sp.md (v n : Int) : Int := v % n
def Sp.kn (l : List (List C)) (a n : Int) : Int := if a < (l.length : Int) then ((rGet l a).headD default).int % n else 0
def Sp.ka (l : List (List C)) (a : Int) : Int := if a < (l.length : Int) then a + 1 else a
end Go

namespace Go.Sx
/-! ### function 21: mill.Mod -/
def ct21 : Ct := { ps := [(false, [.int .i64]), (false, [.int .i64])], rs := [(false, [.int .i64])], pre := fun a => pLe 1 (cel 0 (arg 1 a)).int ∧ True, out := fun a => [[.i (Sp.md (cel 0 (arg 0 a)).int (cel 0 (arg 1 a)).int)]] }
def tb21 : List (Nat × Ct) := []
def A21  : FuncId → Nat → LoopAnn := fun _ _ => LoopAnn.unroll 200
abbrev B21 (v : Int) (n : Int) : Prop := vcF Go.Proofs.Try.prog (look tb21) (fun _ => false) (A21) 6 21 [.int .i64 v, .int .i64 n] [] (fun sv heap => Gives [(false, [.int .i64])] [[.i (Sp.md v n)]] sv heap)
theorem e21 (v : Int) (n : Int) : B21 v n = (pNe n 0 ∧ (bLt (iRem v n) 0 = true → InR .i64 (iAdd (iRem v n) n) ∧ (iAdd (iRem v n) n = Sp.md v n ∧ True) ∧ True) ∧ (bLt (iRem v n) 0 = false → (iRem v n = Sp.md v n ∧ True) ∧ True)) := by kernel_rfl
theorem v21 (v : Int) (n : Int) : Holds (Wfs [.int .i64 v, .int .i64 n] → pLe 1 n ∧ True → B21 v n) := by
  refine ⟨fun hw hp => ?_⟩
  rw [e21]
  have hn := hp.1
  simp only [pLe] at hn
  simp only [Wfs, Wf, InR, and_true] at hw
  have b0 := Int.emod_nonneg v (show n ≠ 0 by omega)
  have b1 := Int.emod_lt_of_pos v (show 0 < n by omega)
  have e := Int.tmod_eq_emod (a := v) (b := n)
  simp only [iRem, iAdd, bLt, pNe, InR, Sp.md, decide_eq_true_eq, decide_eq_false_iff_not, and_true]
  rw [e]
  split
  · exact ⟨by omega, fun h => by omega, fun h => by omega⟩
  · rw [show (n.natAbs : Int) = n by omega]
    exact ⟨by omega, fun h => by omega, fun h => by omega⟩
theorem s21 : SoundCt Go.Proofs.Try.prog 21 ct21 :=
  contractH followsMixed (look_sound (show Tb Go.Proofs.Try.prog tb21 from trivial)) (fun _ => false) (fun _ => A21) 6 21 ct21 rfl (by simp [ct21]) fun a => Eq.mp (by kernel_rfl) (v21 ((cel 0 (arg 0 a)).int) ((cel 0 (arg 1 a)).int))
end Go.Sx

namespace Go.Sx
/-! ### function 36: (*mill.Deck).Left -/
def ct36 : Ct := { ps := [], rs := [(false, [.bool])], pre := fun _ => True, out := fun a => [[.l (cel 0 (arg 0 a)).list, .i (cel 1 (arg 0 a)).int], [.b (decide ((cel 1 (arg 0 a)).int < ((cel 0 (arg 0 a)).list.length : Int)))]], bx := some (59, [.sl [.int .i64], .int .i64]) }
def tb36 : List (Nat × Ct) := []
def A36  : FuncId → Nat → LoopAnn := fun _ _ => LoopAnn.unroll 200
abbrev B36 (l : List (List C)) (a : Int) : Prop := vcF Go.Proofs.Try.prog (look tb36) (fun _ => false) (A36) 6 36 [.ref 0 0] [.box [.sl [.int .i64] l, .int .i64 a] 59] (fun sv heap => GivesB 59 [.sl [.int .i64], .int .i64] [(false, [.bool])] [[.l l, .i a], [.b (decide (a < (l.length : Int)))]] sv heap)
theorem e36 (l : List (List C)) (a : Int) : B36 l a = (pLe (iLen l) 9223372036854775807 → 59 = 59 ∧ (l = l ∧ a = a ∧ True) ∧ (bLt a (iLen l) = decide (a < ↑l.length) ∧ True) ∧ True) := by kernel_rfl
theorem v36 (l : List (List C)) (a : Int) : Holds (Wfs [.agg [.sl [.int .i64] l, .int .i64 a]] → True → B36 l a) := by
  refine ⟨fun hw hp => ?_⟩
  rw [e36]
  exact fun _ => ⟨rfl, ⟨rfl, rfl, trivial⟩, ⟨rfl, trivial⟩, trivial⟩
theorem s36 : SoundCt Go.Proofs.Try.prog 36 ct36 :=
  contractHB followsMixed (look_sound (show Tb Go.Proofs.Try.prog tb36 from trivial)) (fun _ => false) (fun _ => A36) 6 36 ct36 rfl (by simp [ct36]) fun a => Eq.mp (by kernel_rfl) (v36 ((cel 0 (arg 0 a)).list) ((cel 1 (arg 0 a)).int))
end Go.Sx

namespace Go.Sx
/-! ### function 22: (*mill.Deck).Next -/
def ct22 : Ct := { ps := [(false, [.int .i64])], rs := [(false, [.int .i64])], pre := fun a => pLe 0 (cel 1 (arg 0 a)).int ∧ pLe 1 (cel 0 (arg 1 a)).int, out := fun a => [[.l (cel 0 (arg 0 a)).list, .i (Sp.ka (cel 0 (arg 0 a)).list (cel 1 (arg 0 a)).int)], [.i (Sp.kn (cel 0 (arg 0 a)).list (cel 1 (arg 0 a)).int (cel 0 (arg 1 a)).int)]], bx := some (59, [.sl [.int .i64], .int .i64]) }
def tb22 : List (Nat × Ct) := [(36, ct36), (21, ct21)]
def A22  : FuncId → Nat → LoopAnn := fun _ _ => LoopAnn.unroll 200
abbrev B22 (l : List (List C)) (a : Int) (n : Int) : Prop := vcF Go.Proofs.Try.prog (look tb22) (fun _ => false) (A22) 6 22 [.ref 0 0, .int .i64 n] [.box [.sl [.int .i64] l, .int .i64 a] 59] (fun sv heap => GivesB 59 [.sl [.int .i64], .int .i64] [(false, [.int .i64])] [[.l l, .i (Sp.ka l a)], [.i (Sp.kn l a n)]] sv heap)
theorem e22 (l : List (List C)) (a : Int) (n : Int) : B22 l a n = (True ∧ (True → True ∧ (bNot (decide (a < ↑l.length)) = true → 59 = 59 ∧ (l = l ∧ a = Sp.ka l a ∧ True) ∧ (0 = Sp.kn l a n ∧ True) ∧ True) ∧ (bNot (decide (a < ↑l.length)) = false → InR .i64 (iAdd a 1) ∧ InR .i64 (iSub (iAdd a 1) 1) ∧ pIn 0 (iLen l) (iSub (iAdd a 1) 1) ∧ (InR .i64 (q0 (rGet l (iSub (iAdd a 1) 1))) → (pLe 1 n ∧ True) ∧ (InR .i64 (Sp.md (q0 (rGet l (iSub (iAdd a 1) 1))) n) → 59 = 59 ∧ (l = l ∧ iAdd a 1 = Sp.ka l a ∧ True) ∧ (Sp.md (q0 (rGet l (iSub (iAdd a 1) 1))) n = Sp.kn l a n ∧ True) ∧ True))))) := by kernel_rfl
theorem v22 (l : List (List C)) (a : Int) (n : Int) : Holds (Wfs [.agg [.sl [.int .i64] l, .int .i64 a], .int .i64 n] → pLe 0 a ∧ pLe 1 n → B22 l a n) := by
  refine ⟨fun hw hp => ?_⟩
  rw [e22]
  unfold q0
  simp only [pLe] at hp
  simp only [Wfs, Wf, InR, and_true] at hw
  simp only [iAdd, iSub, iLen, bNot, eq_self, true_and, and_true, true_implies, Bool.not_eq_true', Bool.not_eq_false', decide_eq_true_eq, decide_eq_false_iff_not, Sp.ka, Sp.kn, Sp.md, InR, pLe]
  have hm : maxLen = 9223372036854775807 := rfl
  rw [hm] at hw
  rw [show a + 1 - 1 = a by omega]
  refine ⟨fun h => ?_, fun h => ?_⟩
  · rw [if_neg h, if_neg h]; exact ⟨rfl, rfl⟩
  · rw [if_pos h, if_pos h]
    exact ⟨by omega, by omega, ⟨by omega, by omega⟩, fun _ => ⟨by omega, fun _ => ⟨rfl, rfl⟩⟩⟩
theorem s22 : SoundCt Go.Proofs.Try.prog 22 ct22 :=
  contractHB followsMixed (look_sound (show Tb Go.Proofs.Try.prog tb22 from ⟨s36, ⟨s21, trivial⟩⟩)) (fun _ => false) (fun _ => A22) 6 22 ct22 rfl (by simp [ct22]) fun a => Eq.mp (by kernel_rfl) (v22 ((cel 0 (arg 0 a)).list) ((cel 1 (arg 0 a)).int) ((cel 0 (arg 1 a)).int))
end Go.Sx

namespace Go
open Go.Sx
theorem Sp.ka_nn {l : List (List C)} {a : Int} (h : 0 ≤ a) : 0 ≤ Sp.ka l a := by unfold Sp.ka; split <;> omega
theorem Sp.kn_bd {l : List (List C)} {a n : Int} (h : 1 ≤ n) : 0 ≤ Sp.kn l a n ∧ Sp.kn l a n < n := by
  unfold Sp.kn
  split
  · exact ⟨Int.emod_nonneg _ (by omega), Int.emod_lt_of_pos _ (by omega)⟩
  · omega
end Go

namespace Go.Sx
/-! ### function 37: (*mill.Deck).Range -/
def ct37 : Ct := { ps := [(false, [.int .i64]), (false, [.int .i64])], rs := [(false, [.int .i64])], pre := fun a => pLe 0 (cel 1 (arg 0 a)).int ∧ pLe (cel 0 (arg 1 a)).int (cel 0 (arg 2 a)).int ∧ pLe (-1000000) (cel 0 (arg 1 a)).int ∧ pLe (cel 0 (arg 2 a)).int 1000000, out := fun a => [[.l (cel 0 (arg 0 a)).list, .i (Sp.ka (cel 0 (arg 0 a)).list (cel 1 (arg 0 a)).int)], [.i ((cel 0 (arg 1 a)).int + Sp.kn (cel 0 (arg 0 a)).list (cel 1 (arg 0 a)).int ((cel 0 (arg 2 a)).int - (cel 0 (arg 1 a)).int + 1))]], bx := some (59, [.sl [.int .i64], .int .i64]) }
def tb37 : List (Nat × Ct) := [(22, ct22)]
def A37  : FuncId → Nat → LoopAnn := fun _ _ => LoopAnn.unroll 200
abbrev B37 (l : List (List C)) (a : Int) (n : Int) (m : Int) : Prop := vcF Go.Proofs.Try.prog (look tb37) (fun _ => false) (A37) 6 37 [.ref 0 0, .int .i64 n, .int .i64 m] [.box [.sl [.int .i64] l, .int .i64 a] 59] (fun sv heap => GivesB 59 [.sl [.int .i64], .int .i64] [(false, [.int .i64])] [[.l l, .i (Sp.ka l a)], [.i (n + Sp.kn l a (m - n + 1))]] sv heap)
theorem e37 (l : List (List C)) (a : Int) (n : Int) (m : Int) : B37 l a n m = (InR .i64 (iSub m n) ∧ InR .i64 (iAdd (iSub m n) 1) ∧ (pLe 0 a ∧ pLe 1 (iAdd (iSub m n) 1)) ∧ (InR .i64 (Sp.kn l a (iAdd (iSub m n) 1)) → InR .i64 (iAdd n (Sp.kn l a (iAdd (iSub m n) 1))) ∧ 59 = 59 ∧ (l = l ∧ Sp.ka l a = Sp.ka l a ∧ True) ∧ (iAdd n (Sp.kn l a (iAdd (iSub m n) 1)) = n + Sp.kn l a (m - n + 1) ∧ True) ∧ True)) := by kernel_rfl
theorem v37 (l : List (List C)) (a : Int) (n : Int) (m : Int) : Holds (Wfs [.agg [.sl [.int .i64] l, .int .i64 a], .int .i64 n, .int .i64 m] → pLe 0 a ∧ pLe n m ∧ pLe (-1000000) n ∧ pLe m 1000000 → B37 l a n m) := by
  refine ⟨fun hw hp => ?_⟩
  rw [e37]
  simp only [pLe] at hp
  have b := Sp.kn_bd (l := l) (a := a) (n := m - n + 1) (by omega)
  simp only [iAdd, iSub, eq_self, true_and, and_true, true_implies, InR, pLe]
  exact ⟨by omega, by omega, ⟨by omega, by omega⟩, fun _ => by omega⟩
theorem s37 : SoundCt Go.Proofs.Try.prog 37 ct37 :=
  contractHB followsMixed (look_sound (show Tb Go.Proofs.Try.prog tb37 from ⟨s22, trivial⟩)) (fun _ => false) (fun _ => A37) 6 37 ct37 rfl (by simp [ct37]) fun a => Eq.mp (by kernel_rfl) (v37 ((cel 0 (arg 0 a)).list) ((cel 1 (arg 0 a)).int) ((cel 0 (arg 1 a)).int) ((cel 0 (arg 2 a)).int))
end Go.Sx

namespace Go
open Go.Sx
def Sp.ka2 (l : List (List C)) (a : Int) : Int := Sp.ka l (Sp.ka l a)
def Sp.ka3 (l : List (List C)) (a : Int) : Int := Sp.ka l (Sp.ka2 l a)
def Sp.ka4 (l : List (List C)) (a : Int) : Int := Sp.ka l (Sp.ka3 l a)
def Sp.ka5 (l : List (List C)) (a : Int) : Int := Sp.ka l (Sp.ka4 l a)
def Sp.gS (l : List (List C)) (a : Int) : Int := if Sp.kn l a 4 ≤ 1 then 1 + Sp.kn l (Sp.ka4 l a) 3 else 0
def Sp.gD (l : List (List C)) (a : Int) : Int := if Sp.kn l a 4 ≤ 1 then 0 else 1 + Sp.kn l (Sp.ka4 l a) 3
end Go

