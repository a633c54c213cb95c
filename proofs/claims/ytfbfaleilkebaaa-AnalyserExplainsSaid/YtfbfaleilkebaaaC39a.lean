/- The functions of chapter 39: what they compute. -/
import Derived.Test.YtfbfaleilkebaaaSxUse
import Derived.Test.YtfbfaleilkebaaaProg
import Derived.KernelRfl
set_option linter.unusedVariables false
set_option linter.unusedSimpArgs false
set_option maxRecDepth 100000
namespace Go.Sx
open Go.RowKit
theorem followsMixed : Go.Proofs.Try.prog.follows .mixedOrders = true := by kernel_rfl
end Go.Sx

namespace Go
open Go.Sx
def Sp.md (v n : Int) : Int := v % n
def Sp.kn (l : List (List C)) (a n : Int) : Int := if a < (l.length : Int) then ((rGet l a).headD default).int % n else 0
def Sp.ka (l : List (List C)) (a : Int) : Int := if a < (l.length : Int) then a + 1 else a
end Go

namespace Go.Sx
/-! ### function 23: mill.Mod -/
def ct23 : Ct := { ps := [(false, [.int .i64]), (false, [.int .i64])], rs := [(false, [.int .i64])], pre := fun a => pLe 1 (cel 0 (arg 1 a)).int ∧ True, out := fun a => [[.i (Sp.md (cel 0 (arg 0 a)).int (cel 0 (arg 1 a)).int)]] }
def tb23 : List (Nat × Ct) := []
theorem e23 (v : Int) (n : Int) : vcF Go.Proofs.Try.prog (look tb23) (fun _ => false) (fun _ _ => LoopAnn.unroll 200) 6 23 [.int .i64 v, .int .i64 n] [] (fun sv heap => Gives [(false, [.int .i64])] [[.i (Sp.md v n)]] sv heap) = (pNe n 0 ∧ (bLt (iRem v n) 0 = true → InR IntKind.i64 (iAdd (iRem v n) n) ∧ (iAdd (iRem v n) n = Sp.md v n ∧ True) ∧ True) ∧ (bLt (iRem v n) 0 = false → (iRem v n = Sp.md v n ∧ True) ∧ True)) := by kernel_rfl
theorem v23 (v : Int) (n : Int) : Holds (Wfs [.int .i64 v, .int .i64 n] → pLe 1 n ∧ True → vcF Go.Proofs.Try.prog (look tb23) (fun _ => false) (fun _ _ => LoopAnn.unroll 200) 6 23 [.int .i64 v, .int .i64 n] [] (fun sv heap => Gives [(false, [.int .i64])] [[.i (Sp.md v n)]] sv heap)) := by
  refine ⟨fun hw hp => ?_⟩
  rw [e23]
  have hn := hp.1
  simp only [pLe] at hn
  simp only [Wfs, Wf, InR, and_true] at hw
  have b0 := Int.emod_nonneg v (show n ≠ 0 by omega)
  have b1 := Int.emod_lt_of_pos v (show 0 < n by omega)
  have e := Int.tmod_eq_emod (a := v) (b := n)
  simp only [iRem, iAdd, bLt, pNe, InR, Sp.md, decide_eq_true_eq, decide_eq_false_iff_not, and_true]
  rw [e]
  split
  · exact ⟨by omega, fun h => by omega, fun h => by omega⟩
  · rw [show (n.natAbs : Int) = n by omega]
    exact ⟨by omega, fun h => by omega, fun h => by omega⟩
theorem s23 : SoundCt Go.Proofs.Try.prog 23 ct23 :=
  contractH followsMixed (look_sound (show Tb Go.Proofs.Try.prog tb23 from trivial)) (fun _ => false) (fun _ => fun _ _ => LoopAnn.unroll 200) 6 23 ct23 rfl (by simp [ct23]) fun a => Eq.mp (by kernel_rfl) (v23 ((cel 0 (arg 0 a)).int) ((cel 0 (arg 1 a)).int))
end Go.Sx

namespace Go.Sx
/-! ### function 22: (*mill.Deck).Left -/
def ct22 : Ct := { ps := [], rs := [(false, [.bool])], pre := fun _ => True, out := fun a => [[.l (cel 0 (arg 0 a)).list, .i (cel 1 (arg 0 a)).int], [.b (decide ((cel 1 (arg 0 a)).int < ((cel 0 (arg 0 a)).list.length : Int)))]], bx := some (50, [.sl [.int .i64], .int .i64]) }
def tb22 : List (Nat × Ct) := []
theorem e22 (l : List (List C)) (a : Int) : vcF Go.Proofs.Try.prog (look tb22) (fun _ => false) (fun _ _ => LoopAnn.unroll 200) 6 22 [.ref 0 0] [.box [.sl [.int .i64] l, .int .i64 a] 50] (fun sv heap => GivesB 50 [.sl [.int .i64], .int .i64] [(false, [.bool])] [[.l l, .i a], [.b (decide (a < (l.length : Int)))]] sv heap) = (pLe (iLen l) 9223372036854775807 → 50 = 50 ∧ (l = l ∧ a = a ∧ True) ∧ (bLt a (iLen l) = decide (a < ↑l.length) ∧ True) ∧ True) := by kernel_rfl
theorem v22 (l : List (List C)) (a : Int) : Holds (Wfs [.agg [.sl [.int .i64] l, .int .i64 a]] → True → vcF Go.Proofs.Try.prog (look tb22) (fun _ => false) (fun _ _ => LoopAnn.unroll 200) 6 22 [.ref 0 0] [.box [.sl [.int .i64] l, .int .i64 a] 50] (fun sv heap => GivesB 50 [.sl [.int .i64], .int .i64] [(false, [.bool])] [[.l l, .i a], [.b (decide (a < (l.length : Int)))]] sv heap)) := by
  refine ⟨fun hw hp => ?_⟩
  rw [e22]
  exact fun _ => ⟨rfl, ⟨rfl, rfl, trivial⟩, ⟨rfl, trivial⟩, trivial⟩
theorem s22 : SoundCt Go.Proofs.Try.prog 22 ct22 :=
  contractHB followsMixed (look_sound (show Tb Go.Proofs.Try.prog tb22 from trivial)) (fun _ => false) (fun _ => fun _ _ => LoopAnn.unroll 200) 6 22 ct22 rfl (by simp [ct22]) fun a => Eq.mp (by kernel_rfl) (v22 ((cel 0 (arg 0 a)).list) ((cel 1 (arg 0 a)).int))
end Go.Sx

namespace Go.Sx
/-! ### function 12: (*mill.Deck).Next -/
def ct12 : Ct := { ps := [(false, [.int .i64])], rs := [(false, [.int .i64])], pre := fun a => pLe 0 (cel 1 (arg 0 a)).int ∧ pLe 1 (cel 0 (arg 1 a)).int, out := fun a => [[.l (cel 0 (arg 0 a)).list, .i (Sp.ka (cel 0 (arg 0 a)).list (cel 1 (arg 0 a)).int)], [.i (Sp.kn (cel 0 (arg 0 a)).list (cel 1 (arg 0 a)).int (cel 0 (arg 1 a)).int)]], bx := some (50, [.sl [.int .i64], .int .i64]) }
def tb12 : List (Nat × Ct) := [(22, ct22), (23, ct23)]
theorem e12 (l : List (List C)) (a : Int) (n : Int) : vcF Go.Proofs.Try.prog (look tb12) (fun _ => false) (fun _ _ => LoopAnn.unroll 200) 6 12 [.ref 0 0, .int .i64 n] [.box [.sl [.int .i64] l, .int .i64 a] 50] (fun sv heap => GivesB 50 [.sl [.int .i64], .int .i64] [(false, [.int .i64])] [[.l l, .i (Sp.ka l a)], [.i (Sp.kn l a n)]] sv heap) = (True ∧ (True → True ∧ (bNot (decide (a < ↑l.length)) = true → 50 = 50 ∧ (l = l ∧ a = Sp.ka l a ∧ True) ∧ (0 = Sp.kn l a n ∧ True) ∧ True) ∧ (bNot (decide (a < ↑l.length)) = false → InR IntKind.i64 (iAdd a 1) ∧ InR IntKind.i64 (iSub (iAdd a 1) 1) ∧ pIn 0 (iLen l) (iSub (iAdd a 1) 1) ∧ (InR IntKind.i64 ((rGet l (iSub (iAdd a 1) 1)).headD default).int → (pLe 1 n ∧ True) ∧ (InR IntKind.i64 (Sp.md ((rGet l (iSub (iAdd a 1) 1)).headD default).int n) → 50 = 50 ∧ (l = l ∧ iAdd a 1 = Sp.ka l a ∧ True) ∧ (Sp.md ((rGet l (iSub (iAdd a 1) 1)).headD default).int n = Sp.kn l a n ∧ True) ∧ True))))) := by kernel_rfl
theorem v12 (l : List (List C)) (a : Int) (n : Int) : Holds (Wfs [.agg [.sl [.int .i64] l, .int .i64 a], .int .i64 n] → pLe 0 a ∧ pLe 1 n → vcF Go.Proofs.Try.prog (look tb12) (fun _ => false) (fun _ _ => LoopAnn.unroll 200) 6 12 [.ref 0 0, .int .i64 n] [.box [.sl [.int .i64] l, .int .i64 a] 50] (fun sv heap => GivesB 50 [.sl [.int .i64], .int .i64] [(false, [.int .i64])] [[.l l, .i (Sp.ka l a)], [.i (Sp.kn l a n)]] sv heap)) := by
  refine ⟨fun hw hp => ?_⟩
  rw [e12]
  simp only [pLe] at hp
  simp only [Wfs, Wf, InR, and_true] at hw
  simp only [iAdd, iSub, iLen, bNot, eq_self, true_and, and_true, true_implies, Bool.not_eq_true', Bool.not_eq_false', decide_eq_true_eq, decide_eq_false_iff_not, Sp.ka, Sp.kn, Sp.md, InR, pLe]
  have hm : maxLen = 9223372036854775807 := rfl
  rw [hm] at hw
  rw [show a + 1 - 1 = a by omega]
  refine ⟨fun h => ?_, fun h => ?_⟩
  · rw [if_neg h, if_neg h]; exact ⟨rfl, rfl⟩
  · rw [if_pos h, if_pos h]
    exact ⟨by omega, by omega, ⟨by omega, by omega⟩, fun _ => ⟨by omega, fun _ => ⟨rfl, rfl⟩⟩⟩
theorem s12 : SoundCt Go.Proofs.Try.prog 12 ct12 :=
  contractHB followsMixed (look_sound (show Tb Go.Proofs.Try.prog tb12 from ⟨s22, ⟨s23, trivial⟩⟩)) (fun _ => false) (fun _ => fun _ _ => LoopAnn.unroll 200) 6 12 ct12 rfl (by simp [ct12]) fun a => Eq.mp (by kernel_rfl) (v12 ((cel 0 (arg 0 a)).list) ((cel 1 (arg 0 a)).int) ((cel 0 (arg 1 a)).int))
end Go.Sx

namespace Go
open Go.Sx
theorem Sp.ka_nn {l : List (List C)} {a : Int} (h : 0 ≤ a) : 0 ≤ Sp.ka l a := by unfold Sp.ka; split <;> omega
theorem Sp.kn_bd {l : List (List C)} {a n : Int} (h : 1 ≤ n) : 0 ≤ Sp.kn l a n ∧ Sp.kn l a n < n := by
  unfold Sp.kn
  split
  · exact ⟨Int.emod_nonneg _ (by omega), Int.emod_lt_of_pos _ (by omega)⟩
  · omega
end Go

namespace Go.Sx
/-! ### function 19: (*mill.Deck).Range -/
def ct19 : Ct := { ps := [(false, [.int .i64]), (false, [.int .i64])], rs := [(false, [.int .i64])], pre := fun a => pLe 0 (cel 1 (arg 0 a)).int ∧ pLe (cel 0 (arg 1 a)).int (cel 0 (arg 2 a)).int ∧ pLe (-1000000) (cel 0 (arg 1 a)).int ∧ pLe (cel 0 (arg 2 a)).int 1000000, out := fun a => [[.l (cel 0 (arg 0 a)).list, .i (Sp.ka (cel 0 (arg 0 a)).list (cel 1 (arg 0 a)).int)], [.i ((cel 0 (arg 1 a)).int + Sp.kn (cel 0 (arg 0 a)).list (cel 1 (arg 0 a)).int ((cel 0 (arg 2 a)).int - (cel 0 (arg 1 a)).int + 1))]], bx := some (50, [.sl [.int .i64], .int .i64]) }
def tb19 : List (Nat × Ct) := [(12, ct12)]
theorem e19 (l : List (List C)) (a : Int) (n : Int) (m : Int) : vcF Go.Proofs.Try.prog (look tb19) (fun _ => false) (fun _ _ => LoopAnn.unroll 200) 6 19 [.ref 0 0, .int .i64 n, .int .i64 m] [.box [.sl [.int .i64] l, .int .i64 a] 50] (fun sv heap => GivesB 50 [.sl [.int .i64], .int .i64] [(false, [.int .i64])] [[.l l, .i (Sp.ka l a)], [.i (n + Sp.kn l a (m - n + 1))]] sv heap) = (InR IntKind.i64 (iSub m n) ∧ InR IntKind.i64 (iAdd (iSub m n) 1) ∧ (pLe 0 a ∧ pLe 1 (iAdd (iSub m n) 1)) ∧ (InR IntKind.i64 (Sp.kn l a (iAdd (iSub m n) 1)) → InR IntKind.i64 (iAdd n (Sp.kn l a (iAdd (iSub m n) 1))) ∧ 50 = 50 ∧ (l = l ∧ Sp.ka l a = Sp.ka l a ∧ True) ∧ (iAdd n (Sp.kn l a (iAdd (iSub m n) 1)) = n + Sp.kn l a (m - n + 1) ∧ True) ∧ True)) := by kernel_rfl
theorem v19 (l : List (List C)) (a : Int) (n : Int) (m : Int) : Holds (Wfs [.agg [.sl [.int .i64] l, .int .i64 a], .int .i64 n, .int .i64 m] → pLe 0 a ∧ pLe n m ∧ pLe (-1000000) n ∧ pLe m 1000000 → vcF Go.Proofs.Try.prog (look tb19) (fun _ => false) (fun _ _ => LoopAnn.unroll 200) 6 19 [.ref 0 0, .int .i64 n, .int .i64 m] [.box [.sl [.int .i64] l, .int .i64 a] 50] (fun sv heap => GivesB 50 [.sl [.int .i64], .int .i64] [(false, [.int .i64])] [[.l l, .i (Sp.ka l a)], [.i (n + Sp.kn l a (m - n + 1))]] sv heap)) := by
  refine ⟨fun hw hp => ?_⟩
  rw [e19]
  simp only [pLe] at hp
  have b := Sp.kn_bd (l := l) (a := a) (n := m - n + 1) (by omega)
  simp only [iAdd, iSub, eq_self, true_and, and_true, true_implies, InR, pLe]
  exact ⟨by omega, by omega, ⟨by omega, by omega⟩, fun _ => by omega⟩
theorem s19 : SoundCt Go.Proofs.Try.prog 19 ct19 :=
  contractHB followsMixed (look_sound (show Tb Go.Proofs.Try.prog tb19 from ⟨s12, trivial⟩)) (fun _ => false) (fun _ => fun _ _ => LoopAnn.unroll 200) 6 19 ct19 rfl (by simp [ct19]) fun a => Eq.mp (by kernel_rfl) (v19 ((cel 0 (arg 0 a)).list) ((cel 1 (arg 0 a)).int) ((cel 0 (arg 1 a)).int) ((cel 0 (arg 2 a)).int))
end Go.Sx

namespace Go
open Go.Sx
def Sp.ka2 (l : List (List C)) (a : Int) : Int := Sp.ka l (Sp.ka l a)
def Sp.ka3 (l : List (List C)) (a : Int) : Int := Sp.ka l (Sp.ka2 l a)
def Sp.ka4 (l : List (List C)) (a : Int) : Int := Sp.ka l (Sp.ka3 l a)
def Sp.ka5 (l : List (List C)) (a : Int) : Int := Sp.ka l (Sp.ka4 l a)
def Sp.gS (l : List (List C)) (a : Int) : Int := if Sp.kn l a 4 ≤ 1 then 1 + Sp.kn l (Sp.ka4 l a) 3 else 0
def Sp.gD (l : List (List C)) (a : Int) : Int := if Sp.kn l a 4 ≤ 1 then 0 else 1 + Sp.kn l (Sp.ka4 l a) 3
end Go

namespace Go.Sx
/-! ### function 11: mill.Fact -/
def ct11 : Ct := { ps := [], rs := [(true, [.int .i64, .int .i64, .int .i64, .int .u64])], pre := fun a => pLe 0 (cel 1 (arg 0 a)).int ∧ True, out := fun a => [[.l (cel 0 (arg 0 a)).list, .i (Sp.ka4 (cel 0 (arg 0 a)).list (cel 1 (arg 0 a)).int)], [.i (1 + Sp.kn (cel 0 (arg 0 a)).list (cel 1 (arg 0 a)).int 8), .i (Sp.kn (cel 0 (arg 0 a)).list (Sp.ka (cel 0 (arg 0 a)).list (cel 1 (arg 0 a)).int) 14), .i (Sp.kn (cel 0 (arg 0 a)).list (Sp.ka2 (cel 0 (arg 0 a)).list (cel 1 (arg 0 a)).int) 4), .i (Sp.kn (cel 0 (arg 0 a)).list (Sp.ka3 (cel 0 (arg 0 a)).list (cel 1 (arg 0 a)).int) 4)]], bx := some (50, [.sl [.int .i64], .int .i64]) }
def tb11 : List (Nat × Ct) := [(12, ct12), (19, ct19)]
theorem e11 (l : List (List C)) (a : Int) : vcF Go.Proofs.Try.prog (look tb11) (fun _ => false) (fun _ _ => LoopAnn.unroll 200) 6 11 [.ref 0 0] [.box [.sl [.int .i64] l, .int .i64 a] 50] (fun sv heap => GivesB 50 [.sl [.int .i64], .int .i64] [(true, [.int .i64, .int .i64, .int .i64, .int .u64])] [[.l l, .i (Sp.ka4 l a)], [.i (1 + Sp.kn l a 8), .i (Sp.kn l (Sp.ka l a) 14), .i (Sp.kn l (Sp.ka2 l a) 4), .i (Sp.kn l (Sp.ka3 l a) 4)]] sv heap) = ((pLe 0 a ∧ pLe 1 8 ∧ pLe (-1000000) 1 ∧ pLe 8 1000000) ∧ (InR IntKind.i64 (1 + Sp.kn l a (8 - 1 + 1)) → (pLe 0 (Sp.ka l a) ∧ pLe 1 14) ∧ (InR IntKind.i64 (Sp.kn l (Sp.ka l a) 14) → (pLe 0 (Sp.ka l (Sp.ka l a)) ∧ pLe 1 4) ∧ (InR IntKind.i64 (Sp.kn l (Sp.ka l (Sp.ka l a)) 4) → (pLe 0 (Sp.ka l (Sp.ka l (Sp.ka l a))) ∧ pLe 1 4) ∧ (InR IntKind.i64 (Sp.kn l (Sp.ka l (Sp.ka l (Sp.ka l a))) 4) → 50 = 50 ∧ (l = l ∧ Sp.ka l (Sp.ka l (Sp.ka l (Sp.ka l a))) = Sp.ka4 l a ∧ True) ∧ (1 + Sp.kn l a (8 - 1 + 1) = 1 + Sp.kn l a 8 ∧ Sp.kn l (Sp.ka l a) 14 = Sp.kn l (Sp.ka l a) 14 ∧ Sp.kn l (Sp.ka l (Sp.ka l a)) 4 = Sp.kn l (Sp.ka2 l a) 4 ∧ iWrap IntKind.u64 (Sp.kn l (Sp.ka l (Sp.ka l (Sp.ka l a))) 4) = Sp.kn l (Sp.ka3 l a) 4 ∧ True) ∧ True))))) := by kernel_rfl
theorem v11 (l : List (List C)) (a : Int) : Holds (Wfs [.agg [.sl [.int .i64] l, .int .i64 a]] → pLe 0 a ∧ True → vcF Go.Proofs.Try.prog (look tb11) (fun _ => false) (fun _ _ => LoopAnn.unroll 200) 6 11 [.ref 0 0] [.box [.sl [.int .i64] l, .int .i64 a] 50] (fun sv heap => GivesB 50 [.sl [.int .i64], .int .i64] [(true, [.int .i64, .int .i64, .int .i64, .int .u64])] [[.l l, .i (Sp.ka4 l a)], [.i (1 + Sp.kn l a 8), .i (Sp.kn l (Sp.ka l a) 14), .i (Sp.kn l (Sp.ka2 l a) 4), .i (Sp.kn l (Sp.ka3 l a) 4)]] sv heap)) := by
  refine ⟨fun hw hp => ?_⟩
  rw [e11]
  simp only [pLe] at hp
  have hp := hp.1
  have a1 := Sp.ka_nn (l := l) hp
  have a2 := Sp.ka_nn (l := l) a1
  have a3 := Sp.ka_nn (l := l) a2
  have a4 := Sp.ka_nn (l := l) a3
  have w64 : ∀ x : Int, 0 ≤ x → x ≤ 1000 → iWrap .u64 x = x := fun x h0 h1 => by
    show IntKind.u64.wrap x = x
    rw [IntKind.wrap_u64]; omega
  have b4 := Sp.kn_bd (l := l) (a := Sp.ka l (Sp.ka l (Sp.ka l a))) (n := 4) (by omega)
  refine ⟨by simp only [pLe]; omega, fun _ => ⟨by simp only [pLe]; omega, fun _ => ⟨by simp only [pLe]; omega, fun _ => ⟨by simp only [pLe]; omega, fun _ => ⟨rfl, ⟨rfl, rfl, trivial⟩, ⟨rfl, rfl, rfl, ?_, trivial⟩, trivial⟩⟩⟩⟩⟩
  rw [w64 _ b4.1 (by omega)]; rfl
theorem s11 : SoundCt Go.Proofs.Try.prog 11 ct11 :=
  contractHB followsMixed (look_sound (show Tb Go.Proofs.Try.prog tb11 from ⟨s12, ⟨s19, trivial⟩⟩)) (fun _ => false) (fun _ => fun _ _ => LoopAnn.unroll 200) 6 11 ct11 rfl (by simp [ct11]) fun a => Eq.mp (by kernel_rfl) (v11 ((cel 0 (arg 0 a)).list) ((cel 1 (arg 0 a)).int))
end Go.Sx

namespace Go.Sx
/-! ### function 8: mill.Glitch -/
def ct8 : Ct := { ps := [], rs := [(true, [.int .i64, .int .i64, .int .i64, .int .i64, .int .u64, .int .i64])], pre := fun a => pLe 0 (cel 1 (arg 0 a)).int ∧ True, out := fun a => [[.l (cel 0 (arg 0 a)).list, .i (Sp.ka5 (cel 0 (arg 0 a)).list (cel 1 (arg 0 a)).int)], [.i (1 + Sp.kn (cel 0 (arg 0 a)).list (cel 1 (arg 0 a)).int 4), .i (Sp.kn (cel 0 (arg 0 a)).list (Sp.ka (cel 0 (arg 0 a)).list (cel 1 (arg 0 a)).int) 12), .i (1 + Sp.kn (cel 0 (arg 0 a)).list (Sp.ka2 (cel 0 (arg 0 a)).list (cel 1 (arg 0 a)).int) 3), .i (Sp.gS (cel 0 (arg 0 a)).list (cel 1 (arg 0 a)).int), .i (Sp.gD (cel 0 (arg 0 a)).list (cel 1 (arg 0 a)).int), .i (1 + Sp.kn (cel 0 (arg 0 a)).list (Sp.ka3 (cel 0 (arg 0 a)).list (cel 1 (arg 0 a)).int) 50)]], bx := some (50, [.sl [.int .i64], .int .i64]) }
def tb8 : List (Nat × Ct) := [(12, ct12), (19, ct19)]
theorem e8 (l : List (List C)) (a : Int) : vcF Go.Proofs.Try.prog (look tb8) (fun _ => false) (fun _ _ => LoopAnn.unroll 200) 6 8 [.ref 0 0] [.box [.sl [.int .i64] l, .int .i64 a] 50] (fun sv heap => GivesB 50 [.sl [.int .i64], .int .i64] [(true, [.int .i64, .int .i64, .int .i64, .int .i64, .int .u64, .int .i64])] [[.l l, .i (Sp.ka5 l a)], [.i (1 + Sp.kn l a 4), .i (Sp.kn l (Sp.ka l a) 12), .i (1 + Sp.kn l (Sp.ka2 l a) 3), .i (Sp.gS l a), .i (Sp.gD l a), .i (1 + Sp.kn l (Sp.ka3 l a) 50)]] sv heap) = ((pLe 0 a ∧ pLe 1 4 ∧ pLe (-1000000) 1 ∧ pLe 4 1000000) ∧ (InR IntKind.i64 (1 + Sp.kn l a (4 - 1 + 1)) → (pLe 0 (Sp.ka l a) ∧ pLe 1 12) ∧ (InR IntKind.i64 (Sp.kn l (Sp.ka l a) 12) → (pLe 0 (Sp.ka l (Sp.ka l a)) ∧ pLe 1 3 ∧ pLe (-1000000) 1 ∧ pLe 3 1000000) ∧ (InR IntKind.i64 (1 + Sp.kn l (Sp.ka l (Sp.ka l a)) (3 - 1 + 1)) → (pLe 0 (Sp.ka l (Sp.ka l (Sp.ka l a))) ∧ pLe 1 50 ∧ pLe (-1000000) 1 ∧ pLe 50 1000000) ∧ (InR IntKind.i64 (1 + Sp.kn l (Sp.ka l (Sp.ka l (Sp.ka l a))) (50 - 1 + 1)) → (bLe (1 + Sp.kn l a (4 - 1 + 1)) 2 = true → (pLe 0 (Sp.ka l (Sp.ka l (Sp.ka l (Sp.ka l a)))) ∧ pLe 1 3 ∧ pLe (-1000000) 1 ∧ pLe 3 1000000) ∧ (InR IntKind.i64 (1 + Sp.kn l (Sp.ka l (Sp.ka l (Sp.ka l (Sp.ka l a)))) (3 - 1 + 1)) → 50 = 50 ∧ (l = l ∧ Sp.ka l (Sp.ka l (Sp.ka l (Sp.ka l (Sp.ka l a)))) = Sp.ka5 l a ∧ True) ∧ (1 + Sp.kn l a (4 - 1 + 1) = 1 + Sp.kn l a 4 ∧ Sp.kn l (Sp.ka l a) 12 = Sp.kn l (Sp.ka l a) 12 ∧ 1 + Sp.kn l (Sp.ka l (Sp.ka l a)) (3 - 1 + 1) = 1 + Sp.kn l (Sp.ka2 l a) 3 ∧ 1 + Sp.kn l (Sp.ka l (Sp.ka l (Sp.ka l (Sp.ka l a)))) (3 - 1 + 1) = Sp.gS l a ∧ 0 = Sp.gD l a ∧ 1 + Sp.kn l (Sp.ka l (Sp.ka l (Sp.ka l a))) (50 - 1 + 1) = 1 + Sp.kn l (Sp.ka3 l a) 50 ∧ True) ∧ True)) ∧ (bLe (1 + Sp.kn l a (4 - 1 + 1)) 2 = false → (pLe 0 (Sp.ka l (Sp.ka l (Sp.ka l (Sp.ka l a)))) ∧ pLe 1 3 ∧ pLe (-1000000) 1 ∧ pLe 3 1000000) ∧ (InR IntKind.i64 (1 + Sp.kn l (Sp.ka l (Sp.ka l (Sp.ka l (Sp.ka l a)))) (3 - 1 + 1)) → 50 = 50 ∧ (l = l ∧ Sp.ka l (Sp.ka l (Sp.ka l (Sp.ka l (Sp.ka l a)))) = Sp.ka5 l a ∧ True) ∧ (1 + Sp.kn l a (4 - 1 + 1) = 1 + Sp.kn l a 4 ∧ Sp.kn l (Sp.ka l a) 12 = Sp.kn l (Sp.ka l a) 12 ∧ 1 + Sp.kn l (Sp.ka l (Sp.ka l a)) (3 - 1 + 1) = 1 + Sp.kn l (Sp.ka2 l a) 3 ∧ 0 = Sp.gS l a ∧ iWrap IntKind.u64 (1 + Sp.kn l (Sp.ka l (Sp.ka l (Sp.ka l (Sp.ka l a)))) (3 - 1 + 1)) = Sp.gD l a ∧ 1 + Sp.kn l (Sp.ka l (Sp.ka l (Sp.ka l a))) (50 - 1 + 1) = 1 + Sp.kn l (Sp.ka3 l a) 50 ∧ True) ∧ True))))))) := by kernel_rfl
theorem v8 (l : List (List C)) (a : Int) : Holds (Wfs [.agg [.sl [.int .i64] l, .int .i64 a]] → pLe 0 a ∧ True → vcF Go.Proofs.Try.prog (look tb8) (fun _ => false) (fun _ _ => LoopAnn.unroll 200) 6 8 [.ref 0 0] [.box [.sl [.int .i64] l, .int .i64 a] 50] (fun sv heap => GivesB 50 [.sl [.int .i64], .int .i64] [(true, [.int .i64, .int .i64, .int .i64, .int .i64, .int .u64, .int .i64])] [[.l l, .i (Sp.ka5 l a)], [.i (1 + Sp.kn l a 4), .i (Sp.kn l (Sp.ka l a) 12), .i (1 + Sp.kn l (Sp.ka2 l a) 3), .i (Sp.gS l a), .i (Sp.gD l a), .i (1 + Sp.kn l (Sp.ka3 l a) 50)]] sv heap)) := by
  refine ⟨fun hw hp => ?_⟩
  rw [e8]
  simp only [pLe] at hp
  have hp := hp.1
  have a1 := Sp.ka_nn (l := l) hp
  have a2 := Sp.ka_nn (l := l) a1
  have a3 := Sp.ka_nn (l := l) a2
  have a4 := Sp.ka_nn (l := l) a3
  have w64 : ∀ x : Int, 0 ≤ x → x ≤ 1000 → iWrap .u64 x = x := fun x h0 h1 => by
    show IntKind.u64.wrap x = x
    rw [IntKind.wrap_u64]; omega
  have b4 := Sp.kn_bd (l := l) (a := Sp.ka l (Sp.ka l (Sp.ka l (Sp.ka l a)))) (n := 3 - 1 + 1) (by omega)
  have e4 : Sp.kn l a (4 - 1 + 1) = Sp.kn l a 4 := rfl
  refine ⟨by simp only [pLe]; omega, fun _ => ⟨by simp only [pLe]; omega, fun _ => ⟨by simp only [pLe]; omega, fun _ => ⟨by simp only [pLe]; omega, fun _ => ⟨fun h => ⟨by simp only [pLe]; omega, fun _ => ⟨rfl, ⟨rfl, rfl, trivial⟩, ⟨rfl, rfl, rfl, ?_, ?_, rfl, trivial⟩, trivial⟩⟩, fun h => ⟨by simp only [pLe]; omega, fun _ => ⟨rfl, ⟨rfl, rfl, trivial⟩, ⟨rfl, rfl, rfl, ?_, ?_, rfl, trivial⟩, trivial⟩⟩⟩⟩⟩⟩⟩
  all_goals simp only [bLe, decide_eq_true_eq, decide_eq_false_iff_not] at h
  · unfold Sp.gS; rw [if_pos (by omega)]; rfl
  · unfold Sp.gD; rw [if_pos (by omega)]
  · unfold Sp.gS; rw [if_neg (by omega)]
  · unfold Sp.gD; rw [if_neg (by omega), w64 _ (by omega) (by omega)]; rfl
theorem s8 : SoundCt Go.Proofs.Try.prog 8 ct8 :=
  contractHB followsMixed (look_sound (show Tb Go.Proofs.Try.prog tb8 from ⟨s12, ⟨s19, trivial⟩⟩)) (fun _ => false) (fun _ => fun _ _ => LoopAnn.unroll 200) 6 8 ct8 rfl (by simp [ct8]) fun a => Eq.mp (by kernel_rfl) (v8 ((cel 0 (arg 0 a)).list) ((cel 1 (arg 0 a)).int))
end Go.Sx

namespace Go
open Go.Sx
def Sp.gv (gk ga gq gs gd gf : Int) : Bool := decide (0 ≤ ga ∧ ga ≤ 1099511627776 ∧ 1 ≤ gq ∧ gq ≤ 4096 ∧ 1 ≤ gf ∧ gf ≤ 1099511627776 ∧ ((gk = 1 ∨ gk = 2) ∧ 1 ≤ gs ∧ gd = 0 ∨ (gk = 3 ∨ gk = 4) ∧ 1 ≤ gd ∧ gs = 0))
def Sp.rel (fk fs fd gk ga gq gs gd gf : Int) : Bool := Sp.gv gk ga gq gs gd gf && decide (fk = 8 ∨ fk = 1 ∧ gk = 1 ∧ fs = gs ∨ fk = 7 ∧ gk = 2 ∧ fs = gs ∨ fk = 2 ∧ (gk = 1 ∨ gk = 2) ∧ fs = gs ∨ fk = 3 ∧ (gk = 3 ∨ gk = 4) ∧ fd = gd)
def Sp.fat (x : List C) : Int := (x.tail.headD default).int
def Sp.fok (h gk ga gq gs gd gf : Int) (x : List C) : Bool := decide (ga - h ≤ Sp.fat x ∧ Sp.fat x ≤ ga + gq - 1) && Sp.rel (x.headD default).int (x.tail.tail.headD default).int (x.tail.tail.tail.headD default).int gk ga gq gs gd gf
def Sp.exF (ok : List C → Bool) (i e t : Int) (xs : List (List C)) : Int :=
  match xs with
  | [] => e
  | x :: r => bif ok x && decide (e < 0 ∨ Sp.fat x < t) then Sp.exF ok (i + 1) i (Sp.fat x) r else Sp.exF ok (i + 1) e t r
def Sp.hok (h gk ga gq gs gd gf : Int) : Bool := Sp.gv gk ga gq gs gd gf && decide (0 ≤ h ∧ h ≤ 1099511627776)
def Sp.exI (fl : List (List C)) (h gk ga gq gs gd gf : Int) : Int := bif Sp.hok h gk ga gq gs gd gf then Sp.exF (Sp.fok h gk ga gq gs gd gf) 0 (-1) 0 fl else -1
def Sp.exV (fl : List (List C)) (h gk ga gq gs gd gf i e : Int) : Prop :=
  0 ≤ i ∧ i ≤ (fl.length : Int) ∧ -1 ≤ e ∧ e < i ∧ Sp.exF (Sp.fok h gk ga gq gs gd gf) i e (Sp.fat (rGet fl e)) (fl.drop i.toNat) = Sp.exI fl h gk ga gq gs gd gf
end Go

namespace Go.Sx
/-! ### function 20: glitch.Valid -/
def ct20 : Ct := { ps := [(true, [.int .i64, .int .i64, .int .i64, .int .i64, .int .u64, .int .i64])], rs := [(false, [.bool])], pre := fun _ => True, out := fun a => [[.b (Sp.gv (cel 0 (arg 0 a)).int (cel 1 (arg 0 a)).int (cel 2 (arg 0 a)).int (cel 3 (arg 0 a)).int (cel 4 (arg 0 a)).int (cel 5 (arg 0 a)).int)]] }
def tb20 : List (Nat × Ct) := []
theorem e20 (gk : Int) (ga : Int) (gq : Int) (gs : Int) (gd : Int) (gf : Int) : vcF Go.Proofs.Try.prog (look tb20) (fun _ => false) (fun _ _ => LoopAnn.unroll 200) 6 20 [.agg [.int .i64 gk, .int .i64 ga, .int .i64 gq, .int .i64 gs, .int .u64 gd, .int .i64 gf]] [] (fun sv heap => Gives [(false, [.bool])] [[.b (Sp.gv gk ga gq gs gd gf)]] sv heap) = ((bLt ga 0 = false → (bLt 1099511627776 ga = false → (bLt gq 1 = false → (bLt 4096 gq = false → (bLt gf 1 = false → (bLt 1099511627776 gf = true → (false = Sp.gv gk ga gq gs gd gf ∧ True) ∧ True) ∧ (bLt 1099511627776 gf = false → (bEq gk 1 = true → (bLe 1 gs = true → (bEq gd 0 = Sp.gv gk ga gq gs gd gf ∧ True) ∧ True) ∧ (bLe 1 gs = false → (false = Sp.gv gk ga gq gs gd gf ∧ True) ∧ True)) ∧ (bEq gk 1 = false → (bEq gk 2 = true → (bLe 1 gs = true → (bEq gd 0 = Sp.gv gk ga gq gs gd gf ∧ True) ∧ True) ∧ (bLe 1 gs = false → (false = Sp.gv gk ga gq gs gd gf ∧ True) ∧ True)) ∧ (bEq gk 2 = false → (bEq gk 3 = true → (bLe 1 gd = true → (bEq gs 0 = Sp.gv gk ga gq gs gd gf ∧ True) ∧ True) ∧ (bLe 1 gd = false → (false = Sp.gv gk ga gq gs gd gf ∧ True) ∧ True)) ∧ (bEq gk 3 = false → (bEq gk 4 = true → (bLe 1 gd = true → (bEq gs 0 = Sp.gv gk ga gq gs gd gf ∧ True) ∧ True) ∧ (bLe 1 gd = false → (false = Sp.gv gk ga gq gs gd gf ∧ True) ∧ True)) ∧ (bEq gk 4 = false → (false = Sp.gv gk ga gq gs gd gf ∧ True) ∧ True)))))) ∧ (bLt gf 1 = true → (false = Sp.gv gk ga gq gs gd gf ∧ True) ∧ True)) ∧ (bLt 4096 gq = true → (false = Sp.gv gk ga gq gs gd gf ∧ True) ∧ True)) ∧ (bLt gq 1 = true → (false = Sp.gv gk ga gq gs gd gf ∧ True) ∧ True)) ∧ (bLt 1099511627776 ga = true → (false = Sp.gv gk ga gq gs gd gf ∧ True) ∧ True)) ∧ (bLt ga 0 = true → (false = Sp.gv gk ga gq gs gd gf ∧ True) ∧ True)) := by kernel_rfl
theorem v20 (gk : Int) (ga : Int) (gq : Int) (gs : Int) (gd : Int) (gf : Int) : Holds (Wfs [.agg [.int .i64 gk, .int .i64 ga, .int .i64 gq, .int .i64 gs, .int .u64 gd, .int .i64 gf]] → True → vcF Go.Proofs.Try.prog (look tb20) (fun _ => false) (fun _ _ => LoopAnn.unroll 200) 6 20 [.agg [.int .i64 gk, .int .i64 ga, .int .i64 gq, .int .i64 gs, .int .u64 gd, .int .i64 gf]] [] (fun sv heap => Gives [(false, [.bool])] [[.b (Sp.gv gk ga gq gs gd gf)]] sv heap)) := by
  refine ⟨fun hw hp => ?_⟩
  rw [e20]
  simp only [bLt, bLe, bEq, decide_eq_true_eq, decide_eq_false_iff_not, Sp.gv, and_true]
  simp only [Wfs, Wf, InR, and_true] at hw
  repeat' (first | apply And.intro | intro _)
  all_goals (first | omega | (simp only [decide_eq_decide]; omega) | (symm; simp only [decide_eq_false_iff_not]; omega) | (symm; simp only [decide_eq_true_eq]; omega))
theorem s20 : SoundCt Go.Proofs.Try.prog 20 ct20 :=
  contractH followsMixed (look_sound (show Tb Go.Proofs.Try.prog tb20 from trivial)) (fun _ => false) (fun _ => fun _ _ => LoopAnn.unroll 200) 6 20 ct20 rfl (by simp [ct20]) fun a => Eq.mp (by kernel_rfl) (v20 ((cel 0 (arg 0 a)).int) ((cel 1 (arg 0 a)).int) ((cel 2 (arg 0 a)).int) ((cel 3 (arg 0 a)).int) ((cel 4 (arg 0 a)).int) ((cel 5 (arg 0 a)).int))
end Go.Sx

namespace Go.Sx
/-! ### function 21: ref37.Valid -/
def ct21 : Ct := { ps := [(true, [.int .i64, .int .i64, .int .i64, .int .i64, .int .u64, .int .i64])], rs := [(false, [.bool])], pre := fun _ => True, out := fun a => [[.b (Sp.gv (cel 0 (arg 0 a)).int (cel 1 (arg 0 a)).int (cel 2 (arg 0 a)).int (cel 3 (arg 0 a)).int (cel 4 (arg 0 a)).int (cel 5 (arg 0 a)).int)]] }
def tb21 : List (Nat × Ct) := []
theorem e21 (gk : Int) (ga : Int) (gq : Int) (gs : Int) (gd : Int) (gf : Int) : vcF Go.Proofs.Try.prog (look tb21) (fun _ => false) (fun _ _ => LoopAnn.unroll 200) 6 21 [.agg [.int .i64 gk, .int .i64 ga, .int .i64 gq, .int .i64 gs, .int .u64 gd, .int .i64 gf]] [] (fun sv heap => Gives [(false, [.bool])] [[.b (Sp.gv gk ga gq gs gd gf)]] sv heap) = ((bLt ga 0 = false → (bLt 1099511627776 ga = false → (bLt gq 1 = false → (bLt 4096 gq = false → (bLt gf 1 = false → (bLt 1099511627776 gf = true → (false = Sp.gv gk ga gq gs gd gf ∧ True) ∧ True) ∧ (bLt 1099511627776 gf = false → (bEq gk 1 = true → (bLe 1 gs = true → (bEq gd 0 = Sp.gv gk ga gq gs gd gf ∧ True) ∧ True) ∧ (bLe 1 gs = false → (false = Sp.gv gk ga gq gs gd gf ∧ True) ∧ True)) ∧ (bEq gk 1 = false → (bEq gk 2 = true → (bLe 1 gs = true → (bEq gd 0 = Sp.gv gk ga gq gs gd gf ∧ True) ∧ True) ∧ (bLe 1 gs = false → (false = Sp.gv gk ga gq gs gd gf ∧ True) ∧ True)) ∧ (bEq gk 2 = false → (bEq gk 3 = true → (bLe 1 gd = true → (bEq gs 0 = Sp.gv gk ga gq gs gd gf ∧ True) ∧ True) ∧ (bLe 1 gd = false → (false = Sp.gv gk ga gq gs gd gf ∧ True) ∧ True)) ∧ (bEq gk 3 = false → (bEq gk 4 = true → (bLe 1 gd = true → (bEq gs 0 = Sp.gv gk ga gq gs gd gf ∧ True) ∧ True) ∧ (bLe 1 gd = false → (false = Sp.gv gk ga gq gs gd gf ∧ True) ∧ True)) ∧ (bEq gk 4 = false → (false = Sp.gv gk ga gq gs gd gf ∧ True) ∧ True)))))) ∧ (bLt gf 1 = true → (false = Sp.gv gk ga gq gs gd gf ∧ True) ∧ True)) ∧ (bLt 4096 gq = true → (false = Sp.gv gk ga gq gs gd gf ∧ True) ∧ True)) ∧ (bLt gq 1 = true → (false = Sp.gv gk ga gq gs gd gf ∧ True) ∧ True)) ∧ (bLt 1099511627776 ga = true → (false = Sp.gv gk ga gq gs gd gf ∧ True) ∧ True)) ∧ (bLt ga 0 = true → (false = Sp.gv gk ga gq gs gd gf ∧ True) ∧ True)) := by kernel_rfl
theorem v21 (gk : Int) (ga : Int) (gq : Int) (gs : Int) (gd : Int) (gf : Int) : Holds (Wfs [.agg [.int .i64 gk, .int .i64 ga, .int .i64 gq, .int .i64 gs, .int .u64 gd, .int .i64 gf]] → True → vcF Go.Proofs.Try.prog (look tb21) (fun _ => false) (fun _ _ => LoopAnn.unroll 200) 6 21 [.agg [.int .i64 gk, .int .i64 ga, .int .i64 gq, .int .i64 gs, .int .u64 gd, .int .i64 gf]] [] (fun sv heap => Gives [(false, [.bool])] [[.b (Sp.gv gk ga gq gs gd gf)]] sv heap)) := by
  refine ⟨fun hw hp => ?_⟩
  rw [e21]
  simp only [bLt, bLe, bEq, decide_eq_true_eq, decide_eq_false_iff_not, Sp.gv, and_true]
  simp only [Wfs, Wf, InR, and_true] at hw
  repeat' (first | apply And.intro | intro _)
  all_goals (first | omega | (simp only [decide_eq_decide]; omega) | (symm; simp only [decide_eq_false_iff_not]; omega) | (symm; simp only [decide_eq_true_eq]; omega))
theorem s21 : SoundCt Go.Proofs.Try.prog 21 ct21 :=
  contractH followsMixed (look_sound (show Tb Go.Proofs.Try.prog tb21 from trivial)) (fun _ => false) (fun _ => fun _ _ => LoopAnn.unroll 200) 6 21 ct21 rfl (by simp [ct21]) fun a => Eq.mp (by kernel_rfl) (v21 ((cel 0 (arg 0 a)).int) ((cel 1 (arg 0 a)).int) ((cel 2 (arg 0 a)).int) ((cel 3 (arg 0 a)).int) ((cel 4 (arg 0 a)).int) ((cel 5 (arg 0 a)).int))
end Go.Sx

namespace Go.Sx
/-! ### function 18: analyser.Relevant -/
def ct18 : Ct := { ps := [(true, [.int .i64, .int .i64, .int .i64, .int .u64]), (true, [.int .i64, .int .i64, .int .i64, .int .i64, .int .u64, .int .i64])], rs := [(false, [.bool])], pre := fun _ => True, out := fun a => [[.b (Sp.rel (cel 0 (arg 0 a)).int (cel 2 (arg 0 a)).int (cel 3 (arg 0 a)).int (cel 0 (arg 1 a)).int (cel 1 (arg 1 a)).int (cel 2 (arg 1 a)).int (cel 3 (arg 1 a)).int (cel 4 (arg 1 a)).int (cel 5 (arg 1 a)).int)]] }
def tb18 : List (Nat × Ct) := [(20, ct20)]
theorem e18 (fk : Int) (ft : Int) (fs : Int) (fd : Int) (gk : Int) (ga : Int) (gq : Int) (gs : Int) (gd : Int) (gf : Int) : vcF Go.Proofs.Try.prog (look tb18) (fun _ => false) (fun _ _ => LoopAnn.unroll 200) 6 18 [.agg [.int .i64 fk, .int .i64 ft, .int .i64 fs, .int .u64 fd], .agg [.int .i64 gk, .int .i64 ga, .int .i64 gq, .int .i64 gs, .int .u64 gd, .int .i64 gf]] [] (fun sv heap => Gives [(false, [.bool])] [[.b (Sp.rel fk fs fd gk ga gq gs gd gf)]] sv heap) = (True ∧ (True → True ∧ (bNot (Sp.gv gk ga gq gs gd gf) = true → (false = Sp.rel fk fs fd gk ga gq gs gd gf ∧ True) ∧ True) ∧ (bNot (Sp.gv gk ga gq gs gd gf) = false → (bEq fk 8 = true → (true = Sp.rel fk fs fd gk ga gq gs gd gf ∧ True) ∧ True) ∧ (bEq fk 8 = false → (bEq fk 1 = true → (bEq gk 1 = true → (bEq fs gs = Sp.rel fk fs fd gk ga gq gs gd gf ∧ True) ∧ True) ∧ (bEq gk 1 = false → (false = Sp.rel fk fs fd gk ga gq gs gd gf ∧ True) ∧ True)) ∧ (bEq fk 1 = false → (bEq fk 7 = true → (bEq gk 2 = true → (bEq fs gs = Sp.rel fk fs fd gk ga gq gs gd gf ∧ True) ∧ True) ∧ (bEq gk 2 = false → (false = Sp.rel fk fs fd gk ga gq gs gd gf ∧ True) ∧ True)) ∧ (bEq fk 7 = false → (bEq fk 2 = true → (bEq gk 1 = false → (bEq gk 2 = true → (bEq fs gs = Sp.rel fk fs fd gk ga gq gs gd gf ∧ True) ∧ True) ∧ (bEq gk 2 = false → (false = Sp.rel fk fs fd gk ga gq gs gd gf ∧ True) ∧ True)) ∧ (bEq gk 1 = true → (bEq fs gs = Sp.rel fk fs fd gk ga gq gs gd gf ∧ True) ∧ True)) ∧ (bEq fk 2 = false → (bEq fk 3 = true → (bEq gk 3 = false → (bEq gk 4 = true → (bEq fd gd = Sp.rel fk fs fd gk ga gq gs gd gf ∧ True) ∧ True) ∧ (bEq gk 4 = false → (false = Sp.rel fk fs fd gk ga gq gs gd gf ∧ True) ∧ True)) ∧ (bEq gk 3 = true → (bEq fd gd = Sp.rel fk fs fd gk ga gq gs gd gf ∧ True) ∧ True)) ∧ (bEq fk 3 = false → (false = Sp.rel fk fs fd gk ga gq gs gd gf ∧ True) ∧ True)))))))) := by kernel_rfl
theorem v18 (fk : Int) (ft : Int) (fs : Int) (fd : Int) (gk : Int) (ga : Int) (gq : Int) (gs : Int) (gd : Int) (gf : Int) : Holds (Wfs [.agg [.int .i64 fk, .int .i64 ft, .int .i64 fs, .int .u64 fd], .agg [.int .i64 gk, .int .i64 ga, .int .i64 gq, .int .i64 gs, .int .u64 gd, .int .i64 gf]] → True → vcF Go.Proofs.Try.prog (look tb18) (fun _ => false) (fun _ _ => LoopAnn.unroll 200) 6 18 [.agg [.int .i64 fk, .int .i64 ft, .int .i64 fs, .int .u64 fd], .agg [.int .i64 gk, .int .i64 ga, .int .i64 gq, .int .i64 gs, .int .u64 gd, .int .i64 gf]] [] (fun sv heap => Gives [(false, [.bool])] [[.b (Sp.rel fk fs fd gk ga gq gs gd gf)]] sv heap)) := by
  refine ⟨fun hw hp => ?_⟩
  rw [e18]
  simp only [bLt, bLe, bEq, eq_self, true_and, and_true, true_implies]
  have hv : Sp.gv gk ga gq gs gd gf = true → ((gk = 1 ∨ gk = 2) ∧ 1 ≤ gs ∧ gd = 0 ∨ (gk = 3 ∨ gk = 4) ∧ 1 ≤ gd ∧ gs = 0) := fun h => by simp only [Sp.gv, decide_eq_true_eq] at h; omega
  unfold Sp.rel
  cases hg : Sp.gv gk ga gq gs gd gf
  · simp
  · have hv := hv hg
    simp only [Bool.true_and, bNot, Bool.not_true, Bool.not_false, Bool.not_eq_true', Bool.not_eq_false', Bool.true_eq_false, Bool.false_eq_true, false_implies, true_implies, and_true, true_and, decide_eq_true_eq, decide_eq_false_iff_not]
    repeat' (first | apply And.intro | intro _)
    all_goals (first | omega | (symm; simp only [decide_eq_true_eq]; omega) | (symm; simp only [decide_eq_false_iff_not]; omega) | (simp only [decide_eq_decide]; omega))
theorem s18 : SoundCt Go.Proofs.Try.prog 18 ct18 :=
  contractH followsMixed (look_sound (show Tb Go.Proofs.Try.prog tb18 from ⟨s20, trivial⟩)) (fun _ => false) (fun _ => fun _ _ => LoopAnn.unroll 200) 6 18 ct18 rfl (by simp [ct18]) fun a => Eq.mp (by kernel_rfl) (v18 ((cel 0 (arg 0 a)).int) ((cel 1 (arg 0 a)).int) ((cel 2 (arg 0 a)).int) ((cel 3 (arg 0 a)).int) ((cel 0 (arg 1 a)).int) ((cel 1 (arg 1 a)).int) ((cel 2 (arg 1 a)).int) ((cel 3 (arg 1 a)).int) ((cel 4 (arg 1 a)).int) ((cel 5 (arg 1 a)).int))
end Go.Sx

namespace Go.Sx
/-! ### function 10: ref39.Relevant -/
def ct10 : Ct := { ps := [(true, [.int .i64, .int .i64, .int .i64, .int .u64]), (true, [.int .i64, .int .i64, .int .i64, .int .i64, .int .u64, .int .i64])], rs := [(false, [.bool])], pre := fun _ => True, out := fun a => [[.b (Sp.rel (cel 0 (arg 0 a)).int (cel 2 (arg 0 a)).int (cel 3 (arg 0 a)).int (cel 0 (arg 1 a)).int (cel 1 (arg 1 a)).int (cel 2 (arg 1 a)).int (cel 3 (arg 1 a)).int (cel 4 (arg 1 a)).int (cel 5 (arg 1 a)).int)]] }
def tb10 : List (Nat × Ct) := [(21, ct21)]
theorem e10 (fk : Int) (ft : Int) (fs : Int) (fd : Int) (gk : Int) (ga : Int) (gq : Int) (gs : Int) (gd : Int) (gf : Int) : vcF Go.Proofs.Try.prog (look tb10) (fun _ => false) (fun _ _ => LoopAnn.unroll 200) 6 10 [.agg [.int .i64 fk, .int .i64 ft, .int .i64 fs, .int .u64 fd], .agg [.int .i64 gk, .int .i64 ga, .int .i64 gq, .int .i64 gs, .int .u64 gd, .int .i64 gf]] [] (fun sv heap => Gives [(false, [.bool])] [[.b (Sp.rel fk fs fd gk ga gq gs gd gf)]] sv heap) = (True ∧ (True → True ∧ (bNot (Sp.gv gk ga gq gs gd gf) = true → (false = Sp.rel fk fs fd gk ga gq gs gd gf ∧ True) ∧ True) ∧ (bNot (Sp.gv gk ga gq gs gd gf) = false → (bEq gk 1 = false → (bEq fk 8 = true → (true = Sp.rel fk fs fd gk ga gq gs gd gf ∧ True) ∧ True) ∧ (bEq fk 8 = false → (bEq fk 1 = true → (bEq gk 1 = true → (bEq fs gs = Sp.rel fk fs fd gk ga gq gs gd gf ∧ True) ∧ True) ∧ (bEq gk 1 = false → (false = Sp.rel fk fs fd gk ga gq gs gd gf ∧ True) ∧ True)) ∧ (bEq fk 1 = false → (bEq fk 7 = true → (bEq gk 2 = true → (bEq fs gs = Sp.rel fk fs fd gk ga gq gs gd gf ∧ True) ∧ True) ∧ (bEq gk 2 = false → (false = Sp.rel fk fs fd gk ga gq gs gd gf ∧ True) ∧ True)) ∧ (bEq fk 7 = false → (bEq fk 2 = true → (bEq gk 2 = true → (bEq fs gs = Sp.rel fk fs fd gk ga gq gs gd gf ∧ True) ∧ True) ∧ (bEq gk 2 = false → (false = Sp.rel fk fs fd gk ga gq gs gd gf ∧ True) ∧ True)) ∧ (bEq fk 2 = false → (bEq fk 3 = true → True ∧ (bNot (bEq gk 2) = true → (bEq fd gd = Sp.rel fk fs fd gk ga gq gs gd gf ∧ True) ∧ True) ∧ (bNot (bEq gk 2) = false → (false = Sp.rel fk fs fd gk ga gq gs gd gf ∧ True) ∧ True)) ∧ (bEq fk 3 = false → (false = Sp.rel fk fs fd gk ga gq gs gd gf ∧ True) ∧ True)))))) ∧ (bEq gk 1 = true → (bEq fk 8 = true → (true = Sp.rel fk fs fd gk ga gq gs gd gf ∧ True) ∧ True) ∧ (bEq fk 8 = false → (bEq fk 1 = true → (bEq gk 1 = true → (bEq fs gs = Sp.rel fk fs fd gk ga gq gs gd gf ∧ True) ∧ True) ∧ (bEq gk 1 = false → (false = Sp.rel fk fs fd gk ga gq gs gd gf ∧ True) ∧ True)) ∧ (bEq fk 1 = false → (bEq fk 7 = true → (bEq gk 2 = true → (bEq fs gs = Sp.rel fk fs fd gk ga gq gs gd gf ∧ True) ∧ True) ∧ (bEq gk 2 = false → (false = Sp.rel fk fs fd gk ga gq gs gd gf ∧ True) ∧ True)) ∧ (bEq fk 7 = false → (bEq fk 2 = true → (bEq fs gs = Sp.rel fk fs fd gk ga gq gs gd gf ∧ True) ∧ True) ∧ (bEq fk 2 = false → (bEq fk 3 = true → True ∧ (false = Sp.rel fk fs fd gk ga gq gs gd gf ∧ True) ∧ True) ∧ (bEq fk 3 = false → (false = Sp.rel fk fs fd gk ga gq gs gd gf ∧ True) ∧ True))))))))) := by kernel_rfl
theorem v10 (fk : Int) (ft : Int) (fs : Int) (fd : Int) (gk : Int) (ga : Int) (gq : Int) (gs : Int) (gd : Int) (gf : Int) : Holds (Wfs [.agg [.int .i64 fk, .int .i64 ft, .int .i64 fs, .int .u64 fd], .agg [.int .i64 gk, .int .i64 ga, .int .i64 gq, .int .i64 gs, .int .u64 gd, .int .i64 gf]] → True → vcF Go.Proofs.Try.prog (look tb10) (fun _ => false) (fun _ _ => LoopAnn.unroll 200) 6 10 [.agg [.int .i64 fk, .int .i64 ft, .int .i64 fs, .int .u64 fd], .agg [.int .i64 gk, .int .i64 ga, .int .i64 gq, .int .i64 gs, .int .u64 gd, .int .i64 gf]] [] (fun sv heap => Gives [(false, [.bool])] [[.b (Sp.rel fk fs fd gk ga gq gs gd gf)]] sv heap)) := by
  refine ⟨fun hw hp => ?_⟩
  rw [e10]
  simp only [bLt, bLe, bEq, eq_self, true_and, and_true, true_implies]
  have hv : Sp.gv gk ga gq gs gd gf = true → ((gk = 1 ∨ gk = 2) ∧ 1 ≤ gs ∧ gd = 0 ∨ (gk = 3 ∨ gk = 4) ∧ 1 ≤ gd ∧ gs = 0) := fun h => by simp only [Sp.gv, decide_eq_true_eq] at h; omega
  unfold Sp.rel
  cases hg : Sp.gv gk ga gq gs gd gf
  · simp
  · have hv := hv hg
    simp only [Bool.true_and, bNot, Bool.not_true, Bool.not_false, Bool.not_eq_true', Bool.not_eq_false', Bool.true_eq_false, Bool.false_eq_true, false_implies, true_implies, and_true, true_and, decide_eq_true_eq, decide_eq_false_iff_not]
    repeat' (first | apply And.intro | intro _)
    all_goals (first | omega | (symm; simp only [decide_eq_true_eq]; omega) | (symm; simp only [decide_eq_false_iff_not]; omega) | (simp only [decide_eq_decide]; omega))
theorem s10 : SoundCt Go.Proofs.Try.prog 10 ct10 :=
  contractH followsMixed (look_sound (show Tb Go.Proofs.Try.prog tb10 from ⟨s21, trivial⟩)) (fun _ => false) (fun _ => fun _ _ => LoopAnn.unroll 200) 6 10 ct10 rfl (by simp [ct10]) fun a => Eq.mp (by kernel_rfl) (v10 ((cel 0 (arg 0 a)).int) ((cel 1 (arg 0 a)).int) ((cel 2 (arg 0 a)).int) ((cel 3 (arg 0 a)).int) ((cel 0 (arg 1 a)).int) ((cel 1 (arg 1 a)).int) ((cel 2 (arg 1 a)).int) ((cel 3 (arg 1 a)).int) ((cel 4 (arg 1 a)).int) ((cel 5 (arg 1 a)).int))
end Go.Sx

