/- Contracts and conditions, continued. -/
import Derived.Test.YtbobgakeaoigeaaSxUse
import Derived.Test.YtbobgakeaoigeaaC22g
import Derived.KernelRfl
set_option linter.unusedVariables false
set_option linter.unusedSimpArgs false
set_option maxRecDepth 100000
set_option maxHeartbeats 4000000

namespace Go
open Go.Sx
def Sp.dT (l : List (List C)) (n : Int) : List (List C) := if l = [] ∨ n ≤ 1 then l else l.drop 1
def Sp.dN (l : List (List C)) (n : Int) : Int := if l = [] ∨ n ≤ 1 then 0 else ((rGet l 0).headD default).int % n
def Sp.mnK (l : List (List C)) : Int := Sp.dN l 5 + 1
def Sp.mnI (l : List (List C)) : Int := if Sp.dN l 5 = 0 then 0 else if Sp.dN l 5 = 2 then 1 + Sp.dN (Sp.dT l 5) 3 else 1
def Sp.mnO (l : List (List C)) : Int := if Sp.dN l 5 = 1 then 0 else if Sp.dN l 5 ≤ 3 then 1 else 1 + Sp.dN (Sp.dT l 5) 3
def Sp.mnT (l : List (List C)) : List (List C) := if Sp.dN l 5 = 2 ∨ 4 ≤ Sp.dN l 5 then Sp.dT (Sp.dT l 5) 3 else Sp.dT l 5
def Sp.lkA (l : List (List C)) : Int := 1 + Sp.dN l 12
def Sp.lkB (l : List (List C)) : Int := Sp.dN (Sp.dT l 12) 2
def Sp.lkC (l : List (List C)) : Int := 1 + Sp.dN (Sp.dT (Sp.dT l 12) 2) 12
def Sp.lkD (l : List (List C)) : Int := Sp.dN (Sp.dT (Sp.dT (Sp.dT l 12) 2) 12) 2
def Sp.lkT (l : List (List C)) : List (List C) := Sp.dT (Sp.dT (Sp.dT (Sp.dT l 12) 2) 12) 2
def Sp.geI (i : Int) (x : List C) : Bool := !decide (Sp.c0 x < i)
def Sp.posN (ns : List (List C)) (i : Int) : Int := bif decide (Sp.idx (Sp.geI i) ns 0 < 0) then (ns.length : Int) else Sp.idx (Sp.geI i) ns 0
def Sp.insN (ns : List (List C)) (i k n o : Int) : List (List C) := Sp.ins ns (Sp.posN ns i) [[.i i, .i k, .i n, .i o]]
def Sp.addE (ns ls : List (List C)) (i k n o : Int) : Int := bif !Sp.vld ns ls || !Sp.fine i k n o then 1 else bif Sp.has ns i then 8 else bif decide (64 ≤ ns.length) then 3 else 0
def Sp.addN (ns ls : List (List C)) (i k n o : Int) : List (List C) := bif decide (Sp.addE ns ls i k n o = 0) then Sp.insN ns i k n o else []
def Sp.addL (ns ls : List (List C)) (i k n o : Int) : List (List C) := bif decide (Sp.addE ns ls i k n o = 0) then ls else []
def Sp.stE (k ns ls : List (List C)) : Int := Sp.addE ns ls (1 + Sp.dN k 12) (Sp.mnK (Sp.dT k 12)) (Sp.mnI (Sp.dT k 12)) (Sp.mnO (Sp.dT k 12))
def Sp.stN (k ns ls : List (List C)) : List (List C) := if Sp.stE k ns ls = 0 then Sp.addN ns ls (1 + Sp.dN k 12) (Sp.mnK (Sp.dT k 12)) (Sp.mnI (Sp.dT k 12)) (Sp.mnO (Sp.dT k 12)) else ns
def Sp.stL (k ns ls : List (List C)) : List (List C) := if Sp.stE k ns ls = 0 then Sp.addL ns ls (1 + Sp.dN k 12) (Sp.mnK (Sp.dT k 12)) (Sp.mnI (Sp.dT k 12)) (Sp.mnO (Sp.dT k 12)) else ls
def Sp.suE (k ns ls : List (List C)) : Int := Sp.conE ns ls (Sp.lkA k) (Sp.lkB k) (Sp.lkC k) (Sp.lkD k)
def Sp.suN (k ns ls : List (List C)) : List (List C) := if Sp.suE k ns ls = 0 then Sp.conN ns ls (Sp.lkA k) (Sp.lkB k) (Sp.lkC k) (Sp.lkD k) else ns
def Sp.suL (k ns ls : List (List C)) : List (List C) := if Sp.suE k ns ls = 0 then Sp.conL ns ls (Sp.lkA k) (Sp.lkB k) (Sp.lkC k) (Sp.lkD k) else ls
def Sp.gA (m : Nat) (k ns ls : List (List C)) : List (List C) × List (List C) × List (List C) :=
  match m with
  | 0 => (k, ns, ls)
  | m + 1 => Sp.gA m (Sp.mnT (Sp.dT k 12)) (Sp.stN k ns ls) (Sp.stL k ns ls)
def Sp.gB (m : Nat) (k ns ls : List (List C)) : List (List C) × List (List C) × List (List C) :=
  match m with
  | 0 => (k, ns, ls)
  | m + 1 => Sp.gB m (Sp.lkT k) (Sp.suN k ns ls) (Sp.suL k ns ls)
def Sp.mgA (l : List (List C)) (a : Int) : List (List C) × List (List C) × List (List C) := Sp.gA (Sp.dN l (a + 1)).toNat (Sp.dT l (a + 1)) [] []
def Sp.mg (l : List (List C)) (a : Int) : List (List C) × List (List C) × List (List C) := Sp.gB (Sp.dN (Sp.mgA l a).1 12).toNat (Sp.dT (Sp.mgA l a).1 12) (Sp.mgA l a).2.1 (Sp.mgA l a).2.2
def Sp.mgD (l : List (List C)) (a : Int) : List (List C) := (Sp.mg l a).1
def Sp.mgN (l : List (List C)) (a : Int) : List (List C) := (Sp.mg l a).2.1
def Sp.mgL (l : List (List C)) (a : Int) : List (List C) := (Sp.mg l a).2.2
def Sp.s300 (s : List (List C)) : List (List C) := s.take (min (s.length : Int) 300).toNat
def Sp.jA (l : List (List C)) (a n : Int) (k ns ls : List (List C)) : Prop := (0 ≤ n ∧ n ≤ 1000) ∧ Sp.gA n.toNat k ns ls = Sp.mgA l a
def Sp.jB (l : List (List C)) (a n : Int) (k ns ls : List (List C)) : Prop := (0 ≤ n ∧ n ≤ 1000) ∧ Sp.gB n.toNat k ns ls = Sp.mg l a
end Go

noncomputable section
namespace Go
open Go.Sx
variable {ns ls : List (List C)} {i k n o x : Int}
theorem Sp.dN_bd {l : List (List C)} {n : Int} (h : 1 ≤ n) : 0 ≤ Sp.dN l n ∧ Sp.dN l n < n := by
  unfold Sp.dN
  split
  · omega
  · exact ⟨Int.emod_nonneg _ (by omega), Int.emod_lt_of_pos _ (by omega)⟩
theorem Sp.posN_hit (h : Sp.at (Sp.geI i) ns x) (hx : x < (ns.length : Int)) (hc : ¬ Sp.c0 (rGet ns x) < i) : Sp.posN ns i = x := by
  have := Sp.at_hit h hx (by unfold Sp.geI; rw [decide_eq_false hc]; rfl)
  unfold Sp.posN
  rw [this, decide_eq_false (by have := h.1; omega)]; rfl
theorem Sp.posN_end (h : Sp.at (Sp.geI i) ns x) (hx : ¬ x < (ns.length : Int)) : Sp.posN ns i = x := by
  have := Sp.at_end h hx
  unfold Sp.posN
  rw [this, decide_eq_true (by omega)]
  have := h.2.1
  simp only [cond_true]; omega
theorem Sp.add1 (h : Sp.vld ns ls = false ∨ Sp.fine i k n o = false) : Sp.addE ns ls i k n o = 1 := by
  unfold Sp.addE
  rcases h with h | h <;> rw [h] <;> simp
theorem Sp.add8 (h : Sp.vld ns ls = true) (h1 : Sp.fine i k n o = true) (h2 : Sp.has ns i = true) : Sp.addE ns ls i k n o = 8 := by unfold Sp.addE; rw [h, h1, h2]; rfl
theorem Sp.add3 (h : Sp.vld ns ls = true) (h1 : Sp.fine i k n o = true) (h2 : Sp.has ns i = false) (h3 : 64 ≤ ns.length) : Sp.addE ns ls i k n o = 3 := by unfold Sp.addE; rw [h, h1, h2, decide_eq_true h3]; rfl
theorem Sp.add0 (h : Sp.vld ns ls = true) (h1 : Sp.fine i k n o = true) (h2 : Sp.has ns i = false) (h3 : ¬ 64 ≤ ns.length) : Sp.addE ns ls i k n o = 0 := by unfold Sp.addE; rw [h, h1, h2, decide_eq_false h3]; rfl
theorem Sp.add_err {e : Int} (h : Sp.addE ns ls i k n o = e) (he : e ≠ 0) : ([] = Sp.addN ns ls i k n o ∧ [] = Sp.addL ns ls i k n o) ∧ e = Sp.addE ns ls i k n o := by
  unfold Sp.addN Sp.addL
  rw [h, decide_eq_false he]
  exact ⟨⟨rfl, rfl⟩, rfl⟩
theorem Sp.add_ok (h : Sp.addE ns ls i k n o = 0) : (Sp.insN ns i k n o = Sp.addN ns ls i k n o ∧ ls = Sp.addL ns ls i k n o) ∧ 0 = Sp.addE ns ls i k n o := by
  unfold Sp.addN Sp.addL
  rw [h]
  exact ⟨⟨rfl, rfl⟩, rfl⟩
end Go

namespace Go.Sx
/-! ### function 28: (*made.Dice).Next -/
def ct28 : Ct := { ps := [(false, [.int .i64])], rs := [(false, [.int .i64])], pre := fun a => pLe 1 (cel 0 (arg 1 a)).int ∧ True, out := fun a => [[.l (Sp.dT (cel 0 (arg 0 a)).list (cel 0 (arg 1 a)).int)], [.i (Sp.dN (cel 0 (arg 0 a)).list (cel 0 (arg 1 a)).int)]], bx := some (75, [.sl [.int .u8]]) }
def tb28 : List (Nat × Ct) := []
def A28  : FuncId → Nat → LoopAnn := fun _ _ => LoopAnn.unroll 200
abbrev B28 (l : List (List C)) (n : Int) : Prop := vcF Go.Proofs.Try.prog (look tb28) (fun _ => false) (A28) 6 28 [.ref 0 0, .int .i64 n] [.box [.sl [.int .u8] l] 75] (fun sv heap => GivesB 75 [.sl [.int .u8]] [(false, [.int .i64])] [[.l (Sp.dT l n)], [.i (Sp.dN l n)]] sv heap)
theorem e28 (l : List (List C)) (n : Int) : B28 l n = (pLe (iLen l) 9223372036854775807 → (bEq (iLen l) 0 = false → (bLe n 1 = true → 75 = 75 ∧ (l = Sp.dT l n ∧ True) ∧ (0 = Sp.dN l n ∧ True) ∧ True) ∧ (bLe n 1 = false → pIn 0 (iLen l) 0 ∧ (InR .u8 ((rGet l 0).headD default).int → geB (some 1) none (iLen l) ∧ pNe n 0 ∧ 75 = 75 ∧ (cutRows l (some 1) none = Sp.dT l n ∧ True) ∧ (iRem ((rGet l 0).headD default).int n = Sp.dN l n ∧ True) ∧ True))) ∧ (bEq (iLen l) 0 = true → 75 = 75 ∧ (l = Sp.dT l n ∧ True) ∧ (0 = Sp.dN l n ∧ True) ∧ True)) := by kernel_rfl
theorem v28 (l : List (List C)) (n : Int) : Holds (Wfs [.agg [.sl [.int .u8] l], .int .i64 n] → pLe 1 n ∧ True → B28 l n) := by
  refine ⟨fun hw hp => ?_⟩
  rw [e28]
  simp only [iAdd, iSub, iMul, iLen, eq_self, true_and, and_true, true_implies, implies_true]
  intro _
  unfold Sp.dT Sp.dN
  cases l with
  | nil => simp [bEq]
  | cons x r =>
    refine ⟨fun _ => ⟨fun h => by (have h' : n ≤ 1 := by simpa [bLe] using h); (rw [if_pos (.inr h'), if_pos (.inr h')]; exact ⟨rfl, rfl⟩), fun h => ⟨by simp [pIn], fun hr => ⟨by simp [geB]; omega, by have := hp.1; simp only [pLe] at this; simp only [pNe]; omega, ?_⟩⟩⟩, fun h => by simp [bEq] at h; omega⟩
    simp only [InR] at hr
    have hn : ¬ n ≤ 1 := by simpa [bLe] using h
    rw [if_neg (by simp [hn]), if_neg (by simp [hn])]
    exact ⟨by simp [cutRows], by rw [← Int.tmod_eq_emod_of_nonneg hr.1]⟩
theorem s28 : SoundCt Go.Proofs.Try.prog 28 ct28 :=
  contractHB followsMixed (look_sound (show Tb Go.Proofs.Try.prog tb28 from trivial)) (fun _ => false) (fun _ => A28) 6 28 ct28 rfl (by simp [ct28]) fun a => Eq.mp (by kernel_rfl) (v28 ((cel 0 (arg 0 a)).list) ((cel 0 (arg 1 a)).int))
end Go.Sx

namespace Go.Sx
/-! ### function 27: made.Node -/
def ct27 : Ct := { ps := [(false, [.int .i64])], rs := [(true, [.int .i64, .int .i64, .int .i64, .int .i64])], pre := fun _ => True, out := fun a => [[.l (Sp.mnT (cel 0 (arg 0 a)).list)], [.i (cel 0 (arg 1 a)).int, .i (Sp.mnK (cel 0 (arg 0 a)).list), .i (Sp.mnI (cel 0 (arg 0 a)).list), .i (Sp.mnO (cel 0 (arg 0 a)).list)]], bx := some (75, [.sl [.int .u8]]) }
def tb27 : List (Nat × Ct) := [(28, ct28)]
def A27  : FuncId → Nat → LoopAnn := fun _ _ => LoopAnn.unroll 200
abbrev B27 (l : List (List C)) (id : Int) : Prop := vcF Go.Proofs.Try.prog (look tb27) (fun _ => false) (A27) 8 27 [.ref 0 0, .int .i64 id] [.box [.sl [.int .u8] l] 75] (fun sv heap => GivesB 75 [.sl [.int .u8]] [(true, [.int .i64, .int .i64, .int .i64, .int .i64])] [[.l (Sp.mnT l)], [.i id, .i (Sp.mnK l), .i (Sp.mnI l), .i (Sp.mnO l)]] sv heap)
theorem e27 (l : List (List C)) (id : Int) : B27 l id = ((pLe 1 5 ∧ True) ∧ (InR .i64 (Sp.dN l 5) → (bEq (Sp.dN l 5) 0 = true → 75 = 75 ∧ (Sp.dT l 5 = Sp.mnT l ∧ True) ∧ (id = id ∧ 1 = Sp.mnK l ∧ 0 = Sp.mnI l ∧ 1 = Sp.mnO l ∧ True) ∧ True) ∧ (bEq (Sp.dN l 5) 0 = false → (bEq (Sp.dN l 5) 1 = true → 75 = 75 ∧ (Sp.dT l 5 = Sp.mnT l ∧ True) ∧ (id = id ∧ 2 = Sp.mnK l ∧ 1 = Sp.mnI l ∧ 0 = Sp.mnO l ∧ True) ∧ True) ∧ (bEq (Sp.dN l 5) 1 = false → (bEq (Sp.dN l 5) 2 = true → (pLe 1 3 ∧ True) ∧ (InR .i64 (Sp.dN (Sp.dT l 5) 3) → InR .i64 (iAdd 1 (Sp.dN (Sp.dT l 5) 3)) ∧ 75 = 75 ∧ (Sp.dT (Sp.dT l 5) 3 = Sp.mnT l ∧ True) ∧ (id = id ∧ 3 = Sp.mnK l ∧ iAdd 1 (Sp.dN (Sp.dT l 5) 3) = Sp.mnI l ∧ 1 = Sp.mnO l ∧ True) ∧ True)) ∧ (bEq (Sp.dN l 5) 2 = false → (bEq (Sp.dN l 5) 3 = true → 75 = 75 ∧ (Sp.dT l 5 = Sp.mnT l ∧ True) ∧ (id = id ∧ 4 = Sp.mnK l ∧ 1 = Sp.mnI l ∧ 1 = Sp.mnO l ∧ True) ∧ True) ∧ (bEq (Sp.dN l 5) 3 = false → (pLe 1 3 ∧ True) ∧ (InR .i64 (Sp.dN (Sp.dT l 5) 3) → InR .i64 (iAdd 1 (Sp.dN (Sp.dT l 5) 3)) ∧ 75 = 75 ∧ (Sp.dT (Sp.dT l 5) 3 = Sp.mnT l ∧ True) ∧ (id = id ∧ 5 = Sp.mnK l ∧ 1 = Sp.mnI l ∧ iAdd 1 (Sp.dN (Sp.dT l 5) 3) = Sp.mnO l ∧ True) ∧ True))))))) := by kernel_rfl
theorem v27 (l : List (List C)) (id : Int) : Holds (Wfs [.agg [.sl [.int .u8] l], .int .i64 id] → True → B27 l id) := by
  refine ⟨fun hw hp => ?_⟩
  rw [e27]
  simp only [Wfs, Wf, InR, and_true] at hw
  simp only [eq_self, true_and, and_true, true_implies, implies_true, iAdd, iSub, iMul, iLen, bEq, bNe, bLt, bLe, bNot, pIn, pLe, pNe, InR, decide_eq_true_eq, decide_eq_false_iff_not, Bool.not_eq_true', Bool.not_eq_false', decide_eq_decide]
  have d5 := Sp.dN_bd (l := l) (n := 5) (by omega)
  have d3 := Sp.dN_bd (l := Sp.dT l 5) (n := 3) (by omega)
  unfold Sp.mnT Sp.mnK Sp.mnI Sp.mnO
  generalize Sp.dN l 5 = a at *
  generalize Sp.dN (Sp.dT l 5) 3 = b at *
  rcases (show a = 0 ∨ a = 1 ∨ a = 2 ∨ a = 3 ∨ a = 4 by omega) with rfl | rfl | rfl | rfl | rfl <;> simp <;> omega
theorem s27 : SoundCt Go.Proofs.Try.prog 27 ct27 :=
  contractHB followsMixed (look_sound (show Tb Go.Proofs.Try.prog tb27 from ⟨s28, trivial⟩)) (fun _ => false) (fun _ => A27) 8 27 ct27 rfl (by simp [ct27]) fun a => Eq.mp (by kernel_rfl) (v27 ((cel 0 (arg 0 a)).list) ((cel 0 (arg 1 a)).int))
end Go.Sx

namespace Go.Sx
/-! ### function 22: made.Link -/
def ct22 : Ct := { ps := [], rs := [(true, [.int .i64, .int .i64, .int .i64, .int .i64])], pre := fun _ => True, out := fun a => [[.l (Sp.lkT (cel 0 (arg 0 a)).list)], [.i (Sp.lkA (cel 0 (arg 0 a)).list), .i (Sp.lkB (cel 0 (arg 0 a)).list), .i (Sp.lkC (cel 0 (arg 0 a)).list), .i (Sp.lkD (cel 0 (arg 0 a)).list)]], bx := some (75, [.sl [.int .u8]]) }
def tb22 : List (Nat × Ct) := [(28, ct28)]
def A22  : FuncId → Nat → LoopAnn := fun _ _ => LoopAnn.unroll 200
abbrev B22 (l : List (List C)) : Prop := vcF Go.Proofs.Try.prog (look tb22) (fun _ => false) (A22) 6 22 [.ref 0 0] [.box [.sl [.int .u8] l] 75] (fun sv heap => GivesB 75 [.sl [.int .u8]] [(true, [.int .i64, .int .i64, .int .i64, .int .i64])] [[.l (Sp.lkT l)], [.i (Sp.lkA l), .i (Sp.lkB l), .i (Sp.lkC l), .i (Sp.lkD l)]] sv heap)
theorem e22 (l : List (List C)) : B22 l = ((pLe 1 12 ∧ True) ∧ (InR .i64 (Sp.dN l 12) → InR .i64 (iAdd 1 (Sp.dN l 12)) ∧ (pLe 1 2 ∧ True) ∧ (InR .i64 (Sp.dN (Sp.dT l 12) 2) → (pLe 1 12 ∧ True) ∧ (InR .i64 (Sp.dN (Sp.dT (Sp.dT l 12) 2) 12) → InR .i64 (iAdd 1 (Sp.dN (Sp.dT (Sp.dT l 12) 2) 12)) ∧ (pLe 1 2 ∧ True) ∧ (InR .i64 (Sp.dN (Sp.dT (Sp.dT (Sp.dT l 12) 2) 12) 2) → 75 = 75 ∧ (Sp.dT (Sp.dT (Sp.dT (Sp.dT l 12) 2) 12) 2 = Sp.lkT l ∧ True) ∧ (iAdd 1 (Sp.dN l 12) = Sp.lkA l ∧ Sp.dN (Sp.dT l 12) 2 = Sp.lkB l ∧ iAdd 1 (Sp.dN (Sp.dT (Sp.dT l 12) 2) 12) = Sp.lkC l ∧ Sp.dN (Sp.dT (Sp.dT (Sp.dT l 12) 2) 12) 2 = Sp.lkD l ∧ True) ∧ True))))) := by kernel_rfl
theorem v22 (l : List (List C)) : Holds (Wfs [.agg [.sl [.int .u8] l]] → True → B22 l) := by
  refine ⟨fun hw hp => ?_⟩
  rw [e22]
  simp only [Wfs, Wf, InR, and_true] at hw
  simp only [eq_self, true_and, and_true, true_implies, implies_true, iAdd, iSub, iMul, iLen, bEq, bNe, bLt, bLe, bNot, pIn, pLe, pNe, InR, decide_eq_true_eq, decide_eq_false_iff_not, Bool.not_eq_true', Bool.not_eq_false', decide_eq_decide]
  have a := Sp.dN_bd (l := l) (n := 12) (by omega)
  have c := Sp.dN_bd (l := Sp.dT (Sp.dT l 12) 2) (n := 12) (by omega)
  exact ⟨by omega, fun _ => ⟨by omega, by omega, fun _ => ⟨by omega, fun _ => ⟨by omega, by omega, fun _ => ⟨rfl, rfl, rfl, rfl, rfl⟩⟩⟩⟩⟩
theorem s22 : SoundCt Go.Proofs.Try.prog 22 ct22 :=
  contractHB followsMixed (look_sound (show Tb Go.Proofs.Try.prog tb22 from ⟨s28, trivial⟩)) (fun _ => false) (fun _ => A22) 6 22 ct22 rfl (by simp [ct22]) fun a => Eq.mp (by kernel_rfl) (v22 ((cel 0 (arg 0 a)).list))
end Go.Sx

namespace Go.Sx
/-! ### function 30: ref22.Add -/
def ct30 : Ct := { ps := [(true, [.sl [.int .i64, .int .i64, .int .i64, .int .i64], .sl [.int .i64, .int .i64, .int .i64, .int .i64]]), (true, [.int .i64, .int .i64, .int .i64, .int .i64])], rs := [(true, [.sl [.int .i64, .int .i64, .int .i64, .int .i64], .sl [.int .i64, .int .i64, .int .i64, .int .i64]]), (false, [.int .i64])], pre := fun _ => True, out := fun a => [[.l (Sp.addN (cel 0 (arg 0 a)).list (cel 1 (arg 0 a)).list (cel 0 (arg 1 a)).int (cel 1 (arg 1 a)).int (cel 2 (arg 1 a)).int (cel 3 (arg 1 a)).int), .l (Sp.addL (cel 0 (arg 0 a)).list (cel 1 (arg 0 a)).list (cel 0 (arg 1 a)).int (cel 1 (arg 1 a)).int (cel 2 (arg 1 a)).int (cel 3 (arg 1 a)).int)], [.i (Sp.addE (cel 0 (arg 0 a)).list (cel 1 (arg 0 a)).list (cel 0 (arg 1 a)).int (cel 1 (arg 1 a)).int (cel 2 (arg 1 a)).int (cel 3 (arg 1 a)).int)]] }
def tb30 : List (Nat × Ct) := [(15, ct15), (44, ct44), (59, ct59)]
def A30 (ns : List (List C)) (i : Int) : FuncId → Nat → LoopAnn := fun _ ii => bif Nat.beq ii 9 then .inv (Int) (fun z => Sp.at (Sp.geI i) ns z) (fun z => [(8, .int .i64 z)]) (fun z => []) [] [0, 1, 2, 3, 4, 5, 7, 8, 9, 17, 26, 31, 48] (fun z => ns.length - z.toNat) else .unroll 0
abbrev B30 (ns : List (List C)) (ls : List (List C)) (i : Int) (k : Int) (n : Int) (o : Int) : Prop := vcF Go.Proofs.Try.prog (look tb30) (fun _ => false) (A30 ns i) 8 30 [.agg [.sl [.int .i64, .int .i64, .int .i64, .int .i64] ns, .sl [.int .i64, .int .i64, .int .i64, .int .i64] ls], .agg [.int .i64 i, .int .i64 k, .int .i64 n, .int .i64 o]] [] (fun sv heap => Gives [(true, [.sl [.int .i64, .int .i64, .int .i64, .int .i64], .sl [.int .i64, .int .i64, .int .i64, .int .i64]]), (false, [.int .i64])] [[.l (Sp.addN ns ls i k n o), .l (Sp.addL ns ls i k n o)], [.i (Sp.addE ns ls i k n o)]] sv heap)
def h30_0 : List (List C) → List (List C) → Int → Int → Int → Int → List SV := fun (ns ls : List (List C)) (i k n o : Int) => [SV.agg [SV.sl [.int .i64, .int .i64, .int .i64, .int .i64] ns, SV.sl [.int .i64, .int .i64, .int .i64, .int .i64] ls], SV.agg [SV.int .i64 i, SV.int .i64 k, SV.int .i64 n, SV.int .i64 o], SV.ref 0 0, SV.ref 1 0, SV.ref 2 0, SV.lit .i64 0, SV.bool (Sp.has ns i), SV.undef, SV.blit false, SV.blit false, SV.blit false]
def h30_1 : List (List C) → List (List C) → Int → Int → Int → Int → List HB := fun (ns ls : List (List C)) (i k n o : Int) => [HB.box [SV.sl [.int .i64, .int .i64, .int .i64, .int .i64] ns, SV.sl [.int .i64, .int .i64, .int .i64, .int .i64] ls] 25, HB.box [SV.int .i64 i, SV.int .i64 k, SV.int .i64 n, SV.int .i64 o] 43, HB.box [SV.nils, SV.nils] 25, HB.box [SV.int .i64 (Sp.c0 (Sp.nd ns i)), SV.int .i64 (Sp.c1 (Sp.nd ns i)), SV.int .i64 (Sp.c2 (Sp.nd ns i)), SV.int .i64 (Sp.c3 (Sp.nd ns i))] 43]
theorem e30 (ns : List (List C)) (ls : List (List C)) (i : Int) (k : Int) (n : Int) (o : Int) : B30 ns ls i k n o = (True ∧ (True → True ∧ (bNot (Sp.vld ns ls) = false → True ∧ (True → True ∧ (bNot (Sp.fine i k n o) = true → ([] = Sp.addN ns ls i k n o ∧ [] = Sp.addL ns ls i k n o ∧ True) ∧ (1 = Sp.addE ns ls i k n o ∧ True) ∧ True) ∧ (bNot (Sp.fine i k n o) = false → True ∧ ((InR .i64 (Sp.c0 (Sp.nd ns i)) ∧ InR .i64 (Sp.c1 (Sp.nd ns i)) ∧ InR .i64 (Sp.c2 (Sp.nd ns i)) ∧ InR .i64 (Sp.c3 (Sp.nd ns i)) ∧ True) ∧ True ∧ True → (Sp.has ns i = true → ([] = Sp.addN ns ls i k n o ∧ [] = Sp.addL ns ls i k n o ∧ True) ∧ (8 = Sp.addE ns ls i k n o ∧ True) ∧ True) ∧ (Sp.has ns i = false → pLe (iLen ns) 9223372036854775807 → (bLe 64 (iLen ns) = true → ([] = Sp.addN ns ls i k n o ∧ [] = Sp.addL ns ls i k n o ∧ True) ∧ (3 = Sp.addE ns ls i k n o ∧ True) ∧ True) ∧ (bLe 64 (iLen ns) = false → (∃ (x : Int), Sp.at (Sp.geI i) ns x ∧ true = true ∧ ((IntKind.i64 = IntKind.i64 ∧ 0 = x) ∧ True) ∧ True) ∧ (∀ (x : Int), true = true ∧ true = true) ∧ ∀ (x : Int), Sp.at (Sp.geI i) ns x → InR .i64 x ∧ True → True → pLe (iLen ns) 9223372036854775807 → (bLt x (iLen ns) = true → pIn 0 (iLen ns) x ∧ (InR .i64 ((rGet ns x).headD default).int → (bLt ((rGet ns x).headD default).int i = true → InR .i64 (iAdd x 1) ∧ (true = true ∧ h30_0 ns ls i k n o = h30_0 ns ls i k n o) ∧ h30_1 ns ls i k n o = h30_1 ns ls i k n o ∧ ∃ (y : Int), Sp.at (Sp.geI i) ns y ∧ true = true ∧ ((IntKind.i64 = IntKind.i64 ∧ iAdd x 1 = y) ∧ True) ∧ True ∧ ns.length - y.toNat < ns.length - x.toNat) ∧ (bLt ((rGet ns x).headD default).int i = false → geB none (some x) (iLen ns) ∧ pRoom 32 (iLen (cutRows ns none (some x))) ∧ pRoom 32 (iLen (cutRows ns none (some x) ++ [[C.i i, C.i k, C.i n, C.i o]])) ∧ geB (some x) none (iLen ns) ∧ pRoom 32 (iLen (cutRows ns none (some x) ++ [[C.i i, C.i k, C.i n, C.i o]] ++ cutRows ns (some x) none)) ∧ pRoom 32 (iLen ls) ∧ (cutRows ns none (some x) ++ [[C.i i, C.i k, C.i n, C.i o]] ++ cutRows ns (some x) none = Sp.addN ns ls i k n o ∧ ls = Sp.addL ns ls i k n o ∧ True) ∧ (0 = Sp.addE ns ls i k n o ∧ True) ∧ True))) ∧ (bLt x (iLen ns) = false → geB none (some x) (iLen ns) ∧ pRoom 32 (iLen (cutRows ns none (some x))) ∧ pRoom 32 (iLen (cutRows ns none (some x) ++ [[C.i i, C.i k, C.i n, C.i o]])) ∧ geB (some x) none (iLen ns) ∧ pRoom 32 (iLen (cutRows ns none (some x) ++ [[C.i i, C.i k, C.i n, C.i o]] ++ cutRows ns (some x) none)) ∧ pRoom 32 (iLen ls) ∧ (cutRows ns none (some x) ++ [[C.i i, C.i k, C.i n, C.i o]] ++ cutRows ns (some x) none = Sp.addN ns ls i k n o ∧ ls = Sp.addL ns ls i k n o ∧ True) ∧ (0 = Sp.addE ns ls i k n o ∧ True) ∧ True))))))) ∧ (bNot (Sp.vld ns ls) = true → ([] = Sp.addN ns ls i k n o ∧ [] = Sp.addL ns ls i k n o ∧ True) ∧ (1 = Sp.addE ns ls i k n o ∧ True) ∧ True))) := by kernel_rfl
theorem v30 (ns : List (List C)) (ls : List (List C)) (i : Int) (k : Int) (n : Int) (o : Int) : Holds (Wfs [.agg [.sl [.int .i64, .int .i64, .int .i64, .int .i64] ns, .sl [.int .i64, .int .i64, .int .i64, .int .i64] ls], .agg [.int .i64 i, .int .i64 k, .int .i64 n, .int .i64 o]] → True → B30 ns ls i k n o) := by
  refine ⟨fun hw hp => ?_⟩
  rw [e30]
  simp only [Wfs, Wf, InR, and_true] at hw
  simp only [eq_self, true_and, and_true, true_implies, implies_true, iAdd, iSub, iMul, iLen, bEq, bNe, bLt, bLe, bNot, pIn, pLe, pNe, InR, decide_eq_true_eq, decide_eq_false_iff_not, Bool.not_eq_true', Bool.not_eq_false', decide_eq_decide]
  refine ⟨fun hv => ⟨fun h => Sp.add_err (Sp.add1 (.inr h)) (by omega), fun hf _ => ⟨fun h => Sp.add_err (Sp.add8 hv hf h) (by omega), fun hh _ => ⟨fun h => Sp.add_err (Sp.add3 hv hf hh (by omega)) (by omega), fun h3' => ⟨⟨0, Sp.at_init, rfl⟩, ?_⟩⟩⟩⟩, fun h => Sp.add_err (Sp.add1 (.inl h)) (by omega)⟩
  have V := Sp.vld_small hv
  have h3 : ¬ 64 ≤ ns.length := by omega
  intro x hx hx1 _
  have x0 := hx.1
  have xl := hx.2.1
  have fin : Sp.posN ns i = x → geB none (some x) (ns.length : Int) ∧ pRoom 32 ((cutRows ns none (some x)).length : Int) ∧ pRoom 32 ((cutRows ns none (some x) ++ [[C.i i, C.i k, C.i n, C.i o]]).length : Int) ∧ geB (some x) none (ns.length : Int) ∧
      pRoom 32 ((cutRows ns none (some x) ++ [[C.i i, C.i k, C.i n, C.i o]] ++ cutRows ns (some x) none).length : Int) ∧ pRoom 32 (ls.length : Int) ∧
      (cutRows ns none (some x) ++ [[C.i i, C.i k, C.i n, C.i o]] ++ cutRows ns (some x) none = Sp.addN ns ls i k n o ∧ ls = Sp.addL ns ls i k n o) ∧ 0 = Sp.addE ns ls i k n o := fun h => by
    have len1 : (cutRows ns none (some x)).length = x.toNat := by show (ns.take x.toNat).length = _; rw [List.length_take]; omega
    have len2 : (cutRows ns (some x) none).length = ns.length - x.toNat := by show (ns.drop x.toNat).length = _; rw [List.length_drop]
    have hI : cutRows ns none (some x) ++ [[C.i i, C.i k, C.i n, C.i o]] ++ cutRows ns (some x) none = Sp.insN ns i k n o := by unfold Sp.insN; rw [h]; rfl
    refine ⟨?_, ?_, ?_, ?_, ?_, ?_, ?_⟩
    · simp only [geB]; omega
    · simp only [pRoom]; omega
    · simp only [pRoom, List.length_append, List.length_singleton]; omega
    · simp only [geB]; omega
    · simp only [pRoom, List.length_append, List.length_singleton]; omega
    · simp only [pRoom]; omega
    · rw [hI]; exact Sp.add_ok (Sp.add0 hv hf hh h3)
  exact ⟨fun hlt => ⟨⟨x0, hlt⟩, fun _ => ⟨fun hl => ⟨by omega, x + 1, Sp.at_step hx hlt (by unfold Sp.geI; rw [Bool.not_eq_false', decide_eq_true_eq]; exact hl), rfl, by omega⟩, fun hl => fin (Sp.posN_hit hx hlt hl)⟩⟩, fun hge => fin (Sp.posN_end hx hge)⟩
theorem s30 : SoundCt Go.Proofs.Try.prog 30 ct30 :=
  contractH followsMixed (look_sound (show Tb Go.Proofs.Try.prog tb30 from ⟨s15, ⟨s44, ⟨s59, trivial⟩⟩⟩)) (fun _ => false) (fun a => A30 ((cel 0 (arg 0 a)).list) ((cel 0 (arg 1 a)).int)) 8 30 ct30 rfl (by simp [ct30]) fun a => Eq.mp (by kernel_rfl) (v30 ((cel 0 (arg 0 a)).list) ((cel 1 (arg 0 a)).list) ((cel 0 (arg 1 a)).int) ((cel 1 (arg 1 a)).int) ((cel 2 (arg 1 a)).int) ((cel 3 (arg 1 a)).int))
end Go.Sx

namespace Go.Sx
/-! ### function 36: made.Graph -/
def ct36 : Ct := { ps := [(false, [.int .i64])], rs := [(true, [.sl [.int .i64, .int .i64, .int .i64, .int .i64], .sl [.int .i64, .int .i64, .int .i64, .int .i64]])], pre := fun a => pLe 0 (cel 0 (arg 1 a)).int ∧ pLe (cel 0 (arg 1 a)).int 900, out := fun a => [[.l (Sp.mgD (cel 0 (arg 0 a)).list (cel 0 (arg 1 a)).int)], [.l (Sp.mgN (cel 0 (arg 0 a)).list (cel 0 (arg 1 a)).int), .l (Sp.mgL (cel 0 (arg 0 a)).list (cel 0 (arg 1 a)).int)]], bx := some (75, [.sl [.int .u8]]) }
def tb36 : List (Nat × Ct) := [(28, ct28), (27, ct27), (22, ct22), (30, ct30), (34, ct34)]
def A36 (l : List (List C)) (a : Int) : FuncId → Nat → LoopAnn := fun _ ii => bif Nat.beq ii 3 then .on (fun sv0 => match sv0.tmps.getD 0 .undef, sv0.tmps.getD 5 .undef with | .ref kk _, .ref jj _ => .inv (Int × List (List C) × List (List C) × List (List C)) (fun z => Sp.jA l a z.1 z.2.1 z.2.2.1 z.2.2.2) (fun z => [(6, .int .i64 z.1)]) (fun z => [(kk, .box [.sl [.int .u8] z.2.1] 75), (jj, .box [.sl [.int .i64, .int .i64, .int .i64, .int .i64] z.2.2.1, .sl [.int .i64, .int .i64, .int .i64, .int .i64] z.2.2.2] 25)]) [kk, jj] [0, 1, 4, 5, 6, 7, 8, 9, 10, 11, 17, 31, 36, 47] (fun z => z.1.toNat) | _, _ => .unroll 0) else bif Nat.beq ii 9 then .on (fun sv0 => match sv0.tmps.getD 0 .undef, sv0.tmps.getD 5 .undef with | .ref kk _, .ref jj _ => .inv (Int × List (List C) × List (List C) × List (List C)) (fun z => Sp.jB l a z.1 z.2.1 z.2.2.1 z.2.2.2) (fun z => [(9, .int .i64 z.1)]) (fun z => [(kk, .box [.sl [.int .u8] z.2.1] 75), (jj, .box [.sl [.int .i64, .int .i64, .int .i64, .int .i64] z.2.2.1, .sl [.int .i64, .int .i64, .int .i64, .int .i64] z.2.2.2] 25)]) [kk, jj] [0, 1, 4, 5, 6, 7, 8, 9, 10, 11, 17, 31, 36, 47] (fun z => z.1.toNat) | _, _ => .unroll 0) else .unroll 0
abbrev B36 (l : List (List C)) (a : Int) : Prop := vcF Go.Proofs.Try.prog (look tb36) (fun _ => false) (A36 l a) 8 36 [.ref 0 0, .int .i64 a] [.box [.sl [.int .u8] l] 75] (fun sv heap => GivesB 75 [.sl [.int .u8]] [(true, [.sl [.int .i64, .int .i64, .int .i64, .int .i64], .sl [.int .i64, .int .i64, .int .i64, .int .i64]])] [[.l (Sp.mgD l a)], [.l (Sp.mgN l a), .l (Sp.mgL l a)]] sv heap)
theorem e36 (l : List (List C)) (a : Int) : B36 l a = (InR .i64 (iAdd a 1) ∧ (pLe 1 (iAdd a 1) ∧ True) ∧ (InR .i64 (Sp.dN l (iAdd a 1)) → (∃ (x : Int × List (List C) × List (List C) × List (List C)), Sp.jA l a x.1 x.snd.1 x.snd.snd.1 x.snd.snd.2 ∧ true = true ∧ ((IntKind.i64 = IntKind.i64 ∧ Sp.dN l (iAdd a 1) = x.1) ∧ True) ∧ ((([Sh.int .u8] = [Sh.int .u8] ∧ Sp.dT l (iAdd a 1) = x.snd.1) ∧ True) ∧ 75 = 75) ∧ ((x.snd.snd.1 = [] ∧ x.snd.snd.2 = [] ∧ True) ∧ 25 = 25) ∧ True) ∧ (∀ (x : Int × List (List C) × List (List C) × List (List C)), true = true ∧ true = true) ∧ ∀ (x : Int × List (List C) × List (List C) × List (List C)), Sp.jA l a x.1 x.snd.1 x.snd.snd.1 x.snd.snd.2 → InR .i64 x.1 ∧ True → ((x.snd.1.length ≤ 9223372036854775807 ∧ ∀ (x_1 : List C), x_1 ∈ x.snd.1 → WfCs [.int .u8] x_1) ∧ True) ∧ ((x.snd.snd.1.length ≤ 9223372036854775807 ∧ ∀ (x_1 : List C), x_1 ∈ x.snd.snd.1 → WfCs [.int .i64, .int .i64, .int .i64, .int .i64] x_1) ∧ (x.snd.snd.2.length ≤ 9223372036854775807 ∧ ∀ (x_1 : List C), x_1 ∈ x.snd.snd.2 → WfCs [.int .i64, .int .i64, .int .i64, .int .i64] x_1) ∧ True) ∧ True → (bLt 0 x.1 = true → (pLe 1 12 ∧ True) ∧ (InR .i64 (Sp.dN x.snd.1 12) → InR .i64 (iAdd 1 (Sp.dN x.snd.1 12)) ∧ True ∧ (InR .i64 (iAdd 1 (Sp.dN x.snd.1 12)) ∧ InR .i64 (Sp.mnK (Sp.dT x.snd.1 12)) ∧ InR .i64 (Sp.mnI (Sp.dT x.snd.1 12)) ∧ InR .i64 (Sp.mnO (Sp.dT x.snd.1 12)) ∧ True → True ∧ ((((Sp.addN x.snd.snd.1 x.snd.snd.2 (iAdd 1 (Sp.dN x.snd.1 12)) (Sp.mnK (Sp.dT x.snd.1 12)) (Sp.mnI (Sp.dT x.snd.1 12)) (Sp.mnO (Sp.dT x.snd.1 12))).length ≤ 9223372036854775807 ∧ ∀ (x_1 : List C), x_1 ∈ Sp.addN x.snd.snd.1 x.snd.snd.2 (iAdd 1 (Sp.dN x.snd.1 12)) (Sp.mnK (Sp.dT x.snd.1 12)) (Sp.mnI (Sp.dT x.snd.1 12)) (Sp.mnO (Sp.dT x.snd.1 12)) → WfCs [.int .i64, .int .i64, .int .i64, .int .i64] x_1) ∧ ((Sp.addL x.snd.snd.1 x.snd.snd.2 (iAdd 1 (Sp.dN x.snd.1 12)) (Sp.mnK (Sp.dT x.snd.1 12)) (Sp.mnI (Sp.dT x.snd.1 12)) (Sp.mnO (Sp.dT x.snd.1 12))).length ≤ 9223372036854775807 ∧ ∀ (x_1 : List C), x_1 ∈ Sp.addL x.snd.snd.1 x.snd.snd.2 (iAdd 1 (Sp.dN x.snd.1 12)) (Sp.mnK (Sp.dT x.snd.1 12)) (Sp.mnI (Sp.dT x.snd.1 12)) (Sp.mnO (Sp.dT x.snd.1 12)) → WfCs [.int .i64, .int .i64, .int .i64, .int .i64] x_1) ∧ True) ∧ InR .i64 (Sp.addE x.snd.snd.1 x.snd.snd.2 (iAdd 1 (Sp.dN x.snd.1 12)) (Sp.mnK (Sp.dT x.snd.1 12)) (Sp.mnI (Sp.dT x.snd.1 12)) (Sp.mnO (Sp.dT x.snd.1 12))) ∧ True → (bEq (Sp.addE x.snd.snd.1 x.snd.snd.2 (iAdd 1 (Sp.dN x.snd.1 12)) (Sp.mnK (Sp.dT x.snd.1 12)) (Sp.mnI (Sp.dT x.snd.1 12)) (Sp.mnO (Sp.dT x.snd.1 12))) 0 = true → InR .i64 (iSub x.1 1) ∧ (true = true ∧ (fun z => z = z) [SV.ref 0 0, SV.int .i64 a, SV.ref 1 0, SV.ref 2 0, SV.undef, SV.undef, SV.undef, SV.undef, SV.undef]) ∧ [HB.gone, HB.box [SV.nils, SV.nils] 25, HB.gone] = [HB.gone, HB.box [SV.nils, SV.nils] 25, HB.gone] ∧ ∃ (y : Int × List (List C) × List (List C) × List (List C)), Sp.jA l a y.1 y.snd.1 y.snd.snd.1 y.snd.snd.2 ∧ true = true ∧ ((IntKind.i64 = IntKind.i64 ∧ iSub x.1 1 = y.1) ∧ True) ∧ (((([Sh.int .u8] = [Sh.int .u8] ∧ Sp.mnT (Sp.dT x.snd.1 12) = y.snd.1) ∧ True) ∧ 75 = 75) ∧ ((([Sh.int .i64, Sh.int .i64, Sh.int .i64, Sh.int .i64] = [Sh.int .i64, Sh.int .i64, Sh.int .i64, Sh.int .i64] ∧ Sp.addN x.snd.snd.1 x.snd.snd.2 (iAdd 1 (Sp.dN x.snd.1 12)) (Sp.mnK (Sp.dT x.snd.1 12)) (Sp.mnI (Sp.dT x.snd.1 12)) (Sp.mnO (Sp.dT x.snd.1 12)) = y.snd.snd.1) ∧ ([Sh.int .i64, Sh.int .i64, Sh.int .i64, Sh.int .i64] = [Sh.int .i64, Sh.int .i64, Sh.int .i64, Sh.int .i64] ∧ Sp.addL x.snd.snd.1 x.snd.snd.2 (iAdd 1 (Sp.dN x.snd.1 12)) (Sp.mnK (Sp.dT x.snd.1 12)) (Sp.mnI (Sp.dT x.snd.1 12)) (Sp.mnO (Sp.dT x.snd.1 12)) = y.snd.snd.2) ∧ True) ∧ 25 = 25) ∧ True) ∧ y.1.toNat < x.1.toNat) ∧ (bEq (Sp.addE x.snd.snd.1 x.snd.snd.2 (iAdd 1 (Sp.dN x.snd.1 12)) (Sp.mnK (Sp.dT x.snd.1 12)) (Sp.mnI (Sp.dT x.snd.1 12)) (Sp.mnO (Sp.dT x.snd.1 12))) 0 = false → InR .i64 (iSub x.1 1) ∧ (true = true ∧ (fun z => z = z) [SV.ref 0 0, SV.int .i64 a, SV.ref 1 0, SV.ref 2 0, SV.undef, SV.undef, SV.undef, SV.undef, SV.undef]) ∧ [HB.gone, HB.box [SV.nils, SV.nils] 25, HB.gone] = [HB.gone, HB.box [SV.nils, SV.nils] 25, HB.gone] ∧ ∃ (y : Int × List (List C) × List (List C) × List (List C)), Sp.jA l a y.1 y.snd.1 y.snd.snd.1 y.snd.snd.2 ∧ true = true ∧ ((IntKind.i64 = IntKind.i64 ∧ iSub x.1 1 = y.1) ∧ True) ∧ (((([Sh.int .u8] = [Sh.int .u8] ∧ Sp.mnT (Sp.dT x.snd.1 12) = y.snd.1) ∧ True) ∧ 75 = 75) ∧ ((([Sh.int .i64, Sh.int .i64, Sh.int .i64, Sh.int .i64] = [Sh.int .i64, Sh.int .i64, Sh.int .i64, Sh.int .i64] ∧ x.snd.snd.1 = y.snd.snd.1) ∧ ([Sh.int .i64, Sh.int .i64, Sh.int .i64, Sh.int .i64] = [Sh.int .i64, Sh.int .i64, Sh.int .i64, Sh.int .i64] ∧ x.snd.snd.2 = y.snd.snd.2) ∧ True) ∧ 25 = 25) ∧ True) ∧ y.1.toNat < x.1.toNat))))) ∧ (bLt 0 x.1 = false → (pLe 1 12 ∧ True) ∧ (InR .i64 (Sp.dN x.snd.1 12) → (∃ (x_1 : Int × List (List C) × List (List C) × List (List C)), Sp.jB l a x_1.1 x_1.snd.1 x_1.snd.snd.1 x_1.snd.snd.2 ∧ true = true ∧ ((IntKind.i64 = IntKind.i64 ∧ Sp.dN x.snd.1 12 = x_1.1) ∧ True) ∧ ((([Sh.int .u8] = [Sh.int .u8] ∧ Sp.dT x.snd.1 12 = x_1.snd.1) ∧ True) ∧ 75 = 75) ∧ ((([Sh.int .i64, Sh.int .i64, Sh.int .i64, Sh.int .i64] = [Sh.int .i64, Sh.int .i64, Sh.int .i64, Sh.int .i64] ∧ x.snd.snd.1 = x_1.snd.snd.1) ∧ ([Sh.int .i64, Sh.int .i64, Sh.int .i64, Sh.int .i64] = [Sh.int .i64, Sh.int .i64, Sh.int .i64, Sh.int .i64] ∧ x.snd.snd.2 = x_1.snd.snd.2) ∧ True) ∧ 25 = 25) ∧ True) ∧ (∀ (x : Int × List (List C) × List (List C) × List (List C)), true = true ∧ true = true) ∧ ∀ (x_1 : Int × List (List C) × List (List C) × List (List C)), Sp.jB l a x_1.1 x_1.snd.1 x_1.snd.snd.1 x_1.snd.snd.2 → InR .i64 x_1.1 ∧ True → ((x_1.snd.1.length ≤ 9223372036854775807 ∧ ∀ (x : List C), x ∈ x_1.snd.1 → WfCs [.int .u8] x) ∧ True) ∧ ((x_1.snd.snd.1.length ≤ 9223372036854775807 ∧ ∀ (x : List C), x ∈ x_1.snd.snd.1 → WfCs [.int .i64, .int .i64, .int .i64, .int .i64] x) ∧ (x_1.snd.snd.2.length ≤ 9223372036854775807 ∧ ∀ (x : List C), x ∈ x_1.snd.snd.2 → WfCs [.int .i64, .int .i64, .int .i64, .int .i64] x) ∧ True) ∧ True → (bLt 0 x_1.1 = true → True ∧ (InR .i64 (Sp.lkA x_1.snd.1) ∧ InR .i64 (Sp.lkB x_1.snd.1) ∧ InR .i64 (Sp.lkC x_1.snd.1) ∧ InR .i64 (Sp.lkD x_1.snd.1) ∧ True → True ∧ ((((Sp.conN x_1.snd.snd.1 x_1.snd.snd.2 (Sp.lkA x_1.snd.1) (Sp.lkB x_1.snd.1) (Sp.lkC x_1.snd.1) (Sp.lkD x_1.snd.1)).length ≤ 9223372036854775807 ∧ ∀ (x : List C), x ∈ Sp.conN x_1.snd.snd.1 x_1.snd.snd.2 (Sp.lkA x_1.snd.1) (Sp.lkB x_1.snd.1) (Sp.lkC x_1.snd.1) (Sp.lkD x_1.snd.1) → WfCs [.int .i64, .int .i64, .int .i64, .int .i64] x) ∧ ((Sp.conL x_1.snd.snd.1 x_1.snd.snd.2 (Sp.lkA x_1.snd.1) (Sp.lkB x_1.snd.1) (Sp.lkC x_1.snd.1) (Sp.lkD x_1.snd.1)).length ≤ 9223372036854775807 ∧ ∀ (x : List C), x ∈ Sp.conL x_1.snd.snd.1 x_1.snd.snd.2 (Sp.lkA x_1.snd.1) (Sp.lkB x_1.snd.1) (Sp.lkC x_1.snd.1) (Sp.lkD x_1.snd.1) → WfCs [.int .i64, .int .i64, .int .i64, .int .i64] x) ∧ True) ∧ InR .i64 (Sp.conE x_1.snd.snd.1 x_1.snd.snd.2 (Sp.lkA x_1.snd.1) (Sp.lkB x_1.snd.1) (Sp.lkC x_1.snd.1) (Sp.lkD x_1.snd.1)) ∧ True → (bEq (Sp.conE x_1.snd.snd.1 x_1.snd.snd.2 (Sp.lkA x_1.snd.1) (Sp.lkB x_1.snd.1) (Sp.lkC x_1.snd.1) (Sp.lkD x_1.snd.1)) 0 = true → InR .i64 (iSub x_1.1 1) ∧ (true = true ∧ (fun z => z = z) [SV.ref 0 0, SV.int .i64 a, SV.ref 1 0, SV.ref 2 0, SV.int .i64 x.1, SV.any, SV.any, SV.blit false, SV.any]) ∧ [HB.gone, HB.box [SV.nils, SV.nils] 25, HB.gone] = [HB.gone, HB.box [SV.nils, SV.nils] 25, HB.gone] ∧ ∃ (y : Int × List (List C) × List (List C) × List (List C)), Sp.jB l a y.1 y.snd.1 y.snd.snd.1 y.snd.snd.2 ∧ true = true ∧ ((IntKind.i64 = IntKind.i64 ∧ iSub x_1.1 1 = y.1) ∧ True) ∧ (((([Sh.int .u8] = [Sh.int .u8] ∧ Sp.lkT x_1.snd.1 = y.snd.1) ∧ True) ∧ 75 = 75) ∧ ((([Sh.int .i64, Sh.int .i64, Sh.int .i64, Sh.int .i64] = [Sh.int .i64, Sh.int .i64, Sh.int .i64, Sh.int .i64] ∧ Sp.conN x_1.snd.snd.1 x_1.snd.snd.2 (Sp.lkA x_1.snd.1) (Sp.lkB x_1.snd.1) (Sp.lkC x_1.snd.1) (Sp.lkD x_1.snd.1) = y.snd.snd.1) ∧ ([Sh.int .i64, Sh.int .i64, Sh.int .i64, Sh.int .i64] = [Sh.int .i64, Sh.int .i64, Sh.int .i64, Sh.int .i64] ∧ Sp.conL x_1.snd.snd.1 x_1.snd.snd.2 (Sp.lkA x_1.snd.1) (Sp.lkB x_1.snd.1) (Sp.lkC x_1.snd.1) (Sp.lkD x_1.snd.1) = y.snd.snd.2) ∧ True) ∧ 25 = 25) ∧ True) ∧ y.1.toNat < x_1.1.toNat) ∧ (bEq (Sp.conE x_1.snd.snd.1 x_1.snd.snd.2 (Sp.lkA x_1.snd.1) (Sp.lkB x_1.snd.1) (Sp.lkC x_1.snd.1) (Sp.lkD x_1.snd.1)) 0 = false → InR .i64 (iSub x_1.1 1) ∧ (true = true ∧ (fun z => z = z) [SV.ref 0 0, SV.int .i64 a, SV.ref 1 0, SV.ref 2 0, SV.int .i64 x.1, SV.any, SV.any, SV.blit false, SV.any]) ∧ [HB.gone, HB.box [SV.nils, SV.nils] 25, HB.gone] = [HB.gone, HB.box [SV.nils, SV.nils] 25, HB.gone] ∧ ∃ (y : Int × List (List C) × List (List C) × List (List C)), Sp.jB l a y.1 y.snd.1 y.snd.snd.1 y.snd.snd.2 ∧ true = true ∧ ((IntKind.i64 = IntKind.i64 ∧ iSub x_1.1 1 = y.1) ∧ True) ∧ (((([Sh.int .u8] = [Sh.int .u8] ∧ Sp.lkT x_1.snd.1 = y.snd.1) ∧ True) ∧ 75 = 75) ∧ ((([Sh.int .i64, Sh.int .i64, Sh.int .i64, Sh.int .i64] = [Sh.int .i64, Sh.int .i64, Sh.int .i64, Sh.int .i64] ∧ x_1.snd.snd.1 = y.snd.snd.1) ∧ ([Sh.int .i64, Sh.int .i64, Sh.int .i64, Sh.int .i64] = [Sh.int .i64, Sh.int .i64, Sh.int .i64, Sh.int .i64] ∧ x_1.snd.snd.2 = y.snd.snd.2) ∧ True) ∧ 25 = 25) ∧ True) ∧ y.1.toNat < x_1.1.toNat)))) ∧ (bLt 0 x_1.1 = false → 75 = 75 ∧ (x_1.snd.1 = Sp.mgD l a ∧ True) ∧ (x_1.snd.snd.1 = Sp.mgN l a ∧ x_1.snd.snd.2 = Sp.mgL l a ∧ True) ∧ True))))) := by kernel_rfl
theorem v36 (l : List (List C)) (a : Int) : Holds (Wfs [.agg [.sl [.int .u8] l], .int .i64 a] → pLe 0 a ∧ pLe a 900 → B36 l a) := by
  refine ⟨fun hw hp => ?_⟩
  rw [e36]
  simp only [Wfs, Wf, InR, and_true] at hw
  simp only [eq_self, true_and, and_true, true_implies, implies_true, iAdd, iSub, iMul, iLen, bEq, bNe, bLt, bLe, bNot, pIn, pLe, pNe, InR, decide_eq_true_eq, decide_eq_false_iff_not, Bool.not_eq_true', Bool.not_eq_false', decide_eq_decide]
  simp only [pLe] at hp
  have N0 := Sp.dN_bd (l := l) (n := a + 1) (by omega)
  refine ⟨by omega, by omega, fun _ => ⟨⟨(Sp.dN l (a + 1), Sp.dT l (a + 1), [], []), ⟨⟨by simp only; omega, by simp only; omega⟩, rfl⟩, rfl, rfl, rfl, rfl⟩, ?_⟩⟩
  rintro ⟨n, k, ns, ls⟩ ⟨⟨n0, n1⟩, hr⟩ _ _
  simp only at n0 n1 hr ⊢
  have N1 := Sp.dN_bd (l := k) (n := 12) (by omega)
  refine ⟨fun hlt => ?_, fun hge => ?_⟩
  · obtain ⟨q, hq⟩ : ∃ q : Nat, n.toNat = q + 1 := ⟨n.toNat - 1, by omega⟩
    have hq' : (n - 1).toNat = q := by omega
    rw [hq, Sp.gA] at hr
    refine ⟨by omega, fun _ => ⟨by omega, fun _ _ => ⟨fun he => ⟨by omega, (n - 1, _, _, _), ⟨⟨by simp only; omega, by simp only; omega⟩, ?_⟩, rfl, ⟨rfl, rfl, rfl⟩, by simp only; omega⟩, fun he => ⟨by omega, (n - 1, _, _, _), ⟨⟨by simp only; omega, by simp only; omega⟩, ?_⟩, rfl, ⟨rfl, rfl, rfl⟩, by simp only; omega⟩⟩⟩⟩
    · simp only [hq']
      have e : Sp.stE k ns ls = 0 := he
      unfold Sp.stN Sp.stL at hr
      rw [if_pos e, if_pos e] at hr
      exact hr
    · simp only [hq']
      have e : ¬ Sp.stE k ns ls = 0 := he
      unfold Sp.stN Sp.stL at hr
      rw [if_neg e, if_neg e] at hr
      exact hr
  · rw [show n.toNat = 0 by omega, Sp.gA] at hr
    refine ⟨by omega, fun _ => ⟨⟨(Sp.dN k 12, Sp.dT k 12, ns, ls), ⟨⟨by simp only; omega, by simp only; omega⟩, ?_⟩, rfl, rfl, rfl, rfl⟩, ?_⟩⟩
    · unfold Sp.mg
      rw [← hr]
    rintro ⟨n', k', ns', ls'⟩ ⟨⟨n0', n1'⟩, hr'⟩ _ _
    simp only at n0' n1' hr' ⊢
    refine ⟨fun hlt _ _ => ?_, fun hge' => ?_⟩
    · obtain ⟨q, hq⟩ : ∃ q : Nat, n'.toNat = q + 1 := ⟨n'.toNat - 1, by omega⟩
      have hq' : (n' - 1).toNat = q := by omega
      rw [hq, Sp.gB] at hr'
      refine ⟨fun he => ⟨by omega, (n' - 1, _, _, _), ⟨⟨by simp only; omega, by simp only; omega⟩, ?_⟩, rfl, ⟨rfl, rfl, rfl⟩, by simp only; omega⟩, fun he => ⟨by omega, (n' - 1, _, _, _), ⟨⟨by simp only; omega, by simp only; omega⟩, ?_⟩, rfl, ⟨rfl, rfl, rfl⟩, by simp only; omega⟩⟩
      · simp only [hq']
        have e : Sp.suE k' ns' ls' = 0 := he
        unfold Sp.suN Sp.suL at hr'
        rw [if_pos e, if_pos e] at hr'
        exact hr'
      · simp only [hq']
        have e : ¬ Sp.suE k' ns' ls' = 0 := he
        unfold Sp.suN Sp.suL at hr'
        rw [if_neg e, if_neg e] at hr'
        exact hr'
    · rw [show n'.toNat = 0 by omega, Sp.gB] at hr'
      unfold Sp.mgD Sp.mgN Sp.mgL
      rw [← hr']
      exact ⟨rfl, rfl, rfl⟩
theorem s36 : SoundCt Go.Proofs.Try.prog 36 ct36 :=
  contractHB followsMixed (look_sound (show Tb Go.Proofs.Try.prog tb36 from ⟨s28, ⟨s27, ⟨s22, ⟨s30, ⟨s34, trivial⟩⟩⟩⟩⟩)) (fun _ => false) (fun a => A36 ((cel 0 (arg 0 a)).list) ((cel 0 (arg 1 a)).int)) 8 36 ct36 rfl (by simp [ct36]) fun a => Eq.mp (by kernel_rfl) (v36 ((cel 0 (arg 0 a)).list) ((cel 0 (arg 1 a)).int))
end Go.Sx

namespace Go.Sx
/-! ### function 11: law22.made -/
def ct11 : Ct := { ps := [(false, [.sl [.int .u8]])], rs := [(true, [.sl [.int .i64, .int .i64, .int .i64, .int .i64], .sl [.int .i64, .int .i64, .int .i64, .int .i64]])], pre := fun _ => True, out := fun a => [[.l (Sp.mgN (Sp.s300 (cel 0 (arg 0 a)).list) 9), .l (Sp.mgL (Sp.s300 (cel 0 (arg 0 a)).list) 9)]] }
def tb11 : List (Nat × Ct) := [(36, ct36)]
def A11  : FuncId → Nat → LoopAnn := fun _ _ => LoopAnn.unroll 200
abbrev B11 (s : List (List C)) : Prop := vcF Go.Proofs.Try.prog (look tb11) (fun _ => false) (A11) 6 11 [.sl [.int .u8] s] [] (fun sv heap => Gives [(true, [.sl [.int .i64, .int .i64, .int .i64, .int .i64], .sl [.int .i64, .int .i64, .int .i64, .int .i64]])] [[.l (Sp.mgN (Sp.s300 s) 9), .l (Sp.mgL (Sp.s300 s) 9)]] sv heap)
theorem e11 (s : List (List C)) : B11 s = (pLe (iLen s) 9223372036854775807 → geB none (some (iMin (iLen s) 300)) (iLen s) ∧ (pLe 0 9 ∧ pLe 9 900) ∧ (((Sp.mgN (cutRows s none (some (iMin (iLen s) 300))) 9).length ≤ 9223372036854775807 ∧ ∀ (x : List C), x ∈ Sp.mgN (cutRows s none (some (iMin (iLen s) 300))) 9 → WfCs [.int .i64, .int .i64, .int .i64, .int .i64] x) ∧ ((Sp.mgL (cutRows s none (some (iMin (iLen s) 300))) 9).length ≤ 9223372036854775807 ∧ ∀ (x : List C), x ∈ Sp.mgL (cutRows s none (some (iMin (iLen s) 300))) 9 → WfCs [.int .i64, .int .i64, .int .i64, .int .i64] x) ∧ True → (Sp.mgN (cutRows s none (some (iMin (iLen s) 300))) 9 = Sp.mgN (Sp.s300 s) 9 ∧ Sp.mgL (cutRows s none (some (iMin (iLen s) 300))) 9 = Sp.mgL (Sp.s300 s) 9 ∧ True) ∧ True)) := by kernel_rfl
theorem v11 (s : List (List C)) : Holds (Wfs [.sl [.int .u8] s] → True → B11 s) := by
  refine ⟨fun hw hp => ?_⟩
  rw [e11]
  simp only [Wfs, Wf, InR, and_true] at hw
  simp only [eq_self, true_and, and_true, true_implies, implies_true, iAdd, iSub, iMul, iLen, bEq, bNe, bLt, bLe, bNot, pIn, pLe, pNe, InR, decide_eq_true_eq, decide_eq_false_iff_not, Bool.not_eq_true', Bool.not_eq_false', decide_eq_decide]
  have e : cutRows s none (some (iMin (s.length : Int) 300)) = Sp.s300 s := rfl
  rw [e]
  exact fun _ => ⟨by simp only [geB, iMin]; omega, by omega, fun _ => ⟨rfl, rfl⟩⟩
theorem s11 : SoundCt Go.Proofs.Try.prog 11 ct11 :=
  contractH followsMixed (look_sound (show Tb Go.Proofs.Try.prog tb11 from ⟨s36, trivial⟩)) (fun _ => false) (fun _ => A11) 6 11 ct11 rfl (by simp [ct11]) fun a => Eq.mp (by kernel_rfl) (v11 ((cel 0 (arg 0 a)).list))
end Go.Sx

