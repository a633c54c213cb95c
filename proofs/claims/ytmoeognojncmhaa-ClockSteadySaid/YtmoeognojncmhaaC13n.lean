/- Contracts and conditions, continued. -/
import Derived.Test.YtmoeognojncmhaaSxUse
import Derived.Test.YtmoeognojncmhaaC13m
import Derived.KernelRfl
set_option linter.unusedVariables false
set_option linter.unusedSimpArgs false
set_option maxRecDepth 100000
set_option maxHeartbeats 4000000

namespace Go
open Go.Sx
def Sp.dT (l : List (List C)) (n : Int) : List (List C) := if l = [] ∨ n ≤ 1 then l else l.drop 1
def Sp.dN (l : List (List C)) (n : Int) : Int := if l = [] ∨ n ≤ 1 then 0 else ((rGet l 0).headD default).int % n
def Sp.raT : List (List C) := [[C.i 1, C.i 1], [C.i 147, C.i 160], [C.i 2, C.i 1], [C.i 65537, C.i 65536], [C.i 1, C.i 3], [C.i 1024, C.i 1], [C.i 1, C.i 1024], [C.i 999, C.i 1000]]
def Sp.raN (l : List (List C)) : Int := ((rGet Sp.raT (Sp.dN l 8)).headD default).int
def Sp.raD (l : List (List C)) : Int := ((rGet Sp.raT (Sp.dN l 8)).tail.headD default).int
end Go

namespace Go
open Go.Sx Go.Proofs
theorem Sp.dN_bd {l : List (List C)} {n : Int} (h : 1 ≤ n) : 0 ≤ Sp.dN l n ∧ Sp.dN l n < n := by
  unfold Sp.dN
  split
  · omega
  · exact ⟨Int.emod_nonneg _ (by omega), Int.emod_lt_of_pos _ (by omega)⟩
theorem Sp.ra_cases (l : List (List C)) : (Sp.raN l = 1 ∧ Sp.raD l = 1) ∨ (Sp.raN l = 147 ∧ Sp.raD l = 160) ∨ (Sp.raN l = 2 ∧ Sp.raD l = 1) ∨ (Sp.raN l = 65537 ∧ Sp.raD l = 65536) ∨ (Sp.raN l = 1 ∧ Sp.raD l = 3) ∨ (Sp.raN l = 1024 ∧ Sp.raD l = 1) ∨ (Sp.raN l = 1 ∧ Sp.raD l = 1024) ∨ (Sp.raN l = 999 ∧ Sp.raD l = 1000) := by
  have := Sp.dN_bd (l := l) (n := 8) (by omega)
  unfold Sp.raN Sp.raD
  rcases (show Sp.dN l 8 = 0 ∨ Sp.dN l 8 = 1 ∨ Sp.dN l 8 = 2 ∨ Sp.dN l 8 = 3 ∨ Sp.dN l 8 = 4 ∨ Sp.dN l 8 = 5 ∨ Sp.dN l 8 = 6 ∨ Sp.dN l 8 = 7 by omega) with e | e | e | e | e | e | e | e <;> rw [e] <;> decide
theorem Sp.ra_cu (l : List (List C)) : Sp.cu (Sp.raN l) (Sp.raD l) = true := by
  rcases Sp.ra_cases l with ⟨a, b⟩ | ⟨a, b⟩ | ⟨a, b⟩ | ⟨a, b⟩ | ⟨a, b⟩ | ⟨a, b⟩ | ⟨a, b⟩ | ⟨a, b⟩ <;> rw [a, b] <;> decide +kernel
end Go

namespace Go.Sx
/-! ### function 32: (*made.Dice).Next -/
def ct32 : Ct := { ps := [(false, [.int .i64])], rs := [(false, [.int .i64])], pre := fun a => pLe 1 (cel 0 (arg 1 a)).int ∧ True, out := fun a => [[.l (Sp.dT (cel 0 (arg 0 a)).list (cel 0 (arg 1 a)).int)], [.i (Sp.dN (cel 0 (arg 0 a)).list (cel 0 (arg 1 a)).int)]], bx := some (63, [.sl [.int .u8]]) }
def tb32 : List (Nat × Ct) := []
theorem e32 (l : List (List C)) (n : Int) : vcF Go.Proofs.Try.prog (look tb32) (fun _ => false) (fun _ _ => LoopAnn.unroll 200) 6 32 [.ref 0 0, .int .i64 n] [.box [.sl [.int .u8] l] 63] (fun sv heap => GivesB 63 [.sl [.int .u8]] [(false, [.int .i64])] [[.l (Sp.dT l n)], [.i (Sp.dN l n)]] sv heap) = (pLe (iLen l) 9223372036854775807 → (bEq (iLen l) 0 = false → (bLe n 1 = true → 63 = 63 ∧ (l = Sp.dT l n ∧ True) ∧ (0 = Sp.dN l n ∧ True) ∧ True) ∧ (bLe n 1 = false → pIn 0 (iLen l) 0 ∧ (InR IntKind.u8 ((rGet l 0).headD default).int → geB (some 1) none (iLen l) ∧ pNe n 0 ∧ 63 = 63 ∧ (cutRows l (some 1) none = Sp.dT l n ∧ True) ∧ (iRem ((rGet l 0).headD default).int n = Sp.dN l n ∧ True) ∧ True))) ∧ (bEq (iLen l) 0 = true → 63 = 63 ∧ (l = Sp.dT l n ∧ True) ∧ (0 = Sp.dN l n ∧ True) ∧ True)) := by kernel_rfl
theorem v32 (l : List (List C)) (n : Int) : Holds (Wfs [.agg [.sl [.int .u8] l], .int .i64 n] → pLe 1 n ∧ True → vcF Go.Proofs.Try.prog (look tb32) (fun _ => false) (fun _ _ => LoopAnn.unroll 200) 6 32 [.ref 0 0, .int .i64 n] [.box [.sl [.int .u8] l] 63] (fun sv heap => GivesB 63 [.sl [.int .u8]] [(false, [.int .i64])] [[.l (Sp.dT l n)], [.i (Sp.dN l n)]] sv heap)) := by
  refine ⟨fun hw hp => ?_⟩
  rw [e32]
  simp only [iAdd, iSub, iMul, iLen, eq_self, true_and, and_true, true_implies, implies_true]
  intro _
  unfold Sp.dT Sp.dN
  cases l with
  | nil => simp [bEq]
  | cons x r =>
    refine ⟨fun _ => ⟨fun h => by (have h' : n ≤ 1 := by simpa [bLe] using h); (rw [if_pos (.inr h'), if_pos (.inr h')]; exact ⟨rfl, rfl⟩), fun h => ⟨by simp [pIn], fun hr => ⟨by simp [geB]; omega, by have := hp.1; simp only [pLe] at this; simp only [pNe]; omega, ?_⟩⟩⟩, fun h => by simp [bEq] at h; omega⟩
    simp only [InR] at hr
    have hn : ¬ n ≤ 1 := by simpa [bLe] using h
    rw [if_neg (by simp [hn]), if_neg (by simp [hn])]
    exact ⟨by simp [cutRows], by rw [← Int.tmod_eq_emod_of_nonneg hr.1]⟩
theorem s32 : SoundCt Go.Proofs.Try.prog 32 ct32 :=
  contractHB followsMixed (look_sound (show Tb Go.Proofs.Try.prog tb32 from trivial)) (fun _ => false) (fun _ => fun _ _ => LoopAnn.unroll 200) 6 32 ct32 rfl (by simp [ct32]) fun a => Eq.mp (by kernel_rfl) (v32 ((cel 0 (arg 0 a)).list) ((cel 0 (arg 1 a)).int))
end Go.Sx

namespace Go.Sx
/-! ### function 20: made.Rate -/
def ct20 : Ct := { ps := [], rs := [(true, [.int .i64, .int .i64])], pre := fun _ => True, out := fun a => [[.l (Sp.dT (cel 0 (arg 0 a)).list 8)], [.i (Sp.raN (cel 0 (arg 0 a)).list), .i (Sp.raD (cel 0 (arg 0 a)).list)]], bx := some (63, [.sl [.int .u8]]) }
def tb20 : List (Nat × Ct) := [(32, ct32)]
theorem e20 (l : List (List C)) : vcF Go.Proofs.Try.prog (look tb20) (fun _ => false) (fun _ _ => LoopAnn.unroll 200) 6 20 [.ref 0 0] [.box [.sl [.int .u8] l] 63] (fun sv heap => GivesB 63 [.sl [.int .u8]] [(true, [.int .i64, .int .i64])] [[.l (Sp.dT l 8)], [.i (Sp.raN l), .i (Sp.raD l)]] sv heap) = ((pLe 1 8 ∧ True) ∧ (InR IntKind.i64 (Sp.dN l 8) → pIn 0 (↑8) (Sp.dN l 8) ∧ (InR IntKind.i64 ((rGet [[C.i 1, C.i 1], [C.i 147, C.i 160], [C.i 2, C.i 1], [C.i 65537, C.i 65536], [C.i 1, C.i 3], [C.i 1024, C.i 1], [C.i 1, C.i 1024], [C.i 999, C.i 1000]] (Sp.dN l 8)).headD default).int ∧ InR IntKind.i64 ((rGet [[C.i 1, C.i 1], [C.i 147, C.i 160], [C.i 2, C.i 1], [C.i 65537, C.i 65536], [C.i 1, C.i 3], [C.i 1024, C.i 1], [C.i 1, C.i 1024], [C.i 999, C.i 1000]] (Sp.dN l 8)).tail.headD default).int ∧ True → 63 = 63 ∧ (Sp.dT l 8 = Sp.dT l 8 ∧ True) ∧ (((rGet [[C.i 1, C.i 1], [C.i 147, C.i 160], [C.i 2, C.i 1], [C.i 65537, C.i 65536], [C.i 1, C.i 3], [C.i 1024, C.i 1], [C.i 1, C.i 1024], [C.i 999, C.i 1000]] (Sp.dN l 8)).headD default).int = Sp.raN l ∧ ((rGet [[C.i 1, C.i 1], [C.i 147, C.i 160], [C.i 2, C.i 1], [C.i 65537, C.i 65536], [C.i 1, C.i 3], [C.i 1024, C.i 1], [C.i 1, C.i 1024], [C.i 999, C.i 1000]] (Sp.dN l 8)).tail.headD default).int = Sp.raD l ∧ True) ∧ True))) := by kernel_rfl
theorem v20 (l : List (List C)) : Holds (Wfs [.agg [.sl [.int .u8] l]] → True → vcF Go.Proofs.Try.prog (look tb20) (fun _ => false) (fun _ _ => LoopAnn.unroll 200) 6 20 [.ref 0 0] [.box [.sl [.int .u8] l] 63] (fun sv heap => GivesB 63 [.sl [.int .u8]] [(true, [.int .i64, .int .i64])] [[.l (Sp.dT l 8)], [.i (Sp.raN l), .i (Sp.raD l)]] sv heap)) := by
  refine ⟨fun hw hp => ?_⟩
  rw [e20]
  simp only [iAdd, iSub, iMul, iLen, eq_self, true_and, and_true, true_implies, implies_true]
  have := Sp.dN_bd (l := l) (n := 8) (by omega)
  refine ⟨by simp [pLe], fun _ => ⟨this, fun _ => ⟨rfl, rfl⟩⟩⟩
theorem s20 : SoundCt Go.Proofs.Try.prog 20 ct20 :=
  contractHB followsMixed (look_sound (show Tb Go.Proofs.Try.prog tb20 from ⟨s32, trivial⟩)) (fun _ => false) (fun _ => fun _ _ => LoopAnn.unroll 200) 6 20 ct20 rfl (by simp [ct20]) fun a => Eq.mp (by kernel_rfl) (v20 ((cel 0 (arg 0 a)).list))
end Go.Sx

namespace Go.Sx
/-! ### function 9: law13.sane -/
def ct9 : Ct := { ps := [], rs := [(false, [.bool])], pre := fun _ => True, out := fun _ => [[.b true]] }
def tb9 : List (Nat × Ct) := [(11, ct11), (15, ct15), (21, ct21), (26, ct26), (17, ct17)]
theorem e9  : vcF Go.Proofs.Try.prog (look tb9) (fun _ => false) (fun _ _ => LoopAnn.unroll 200) 6 9 [] [] (fun sv heap => Gives [(false, [.bool])] [[.b true]] sv heap) = (True ∧ ((((Sp.nwV 1 2).length ≤ 9223372036854775807 ∧ ∀ (x : List C), x ∈ Sp.nwV 1 2 → WfCs [Sh.int IntKind.i64, Sh.int IntKind.i64, Sh.int IntKind.i64] x) ∧ True) ∧ InR IntKind.i64 (Sp.nwE 1 2) ∧ True → True ∧ ((((Sp.chV (Sp.nwV 1 2) 3 1 1).length ≤ 9223372036854775807 ∧ ∀ (x : List C), x ∈ Sp.chV (Sp.nwV 1 2) 3 1 1 → WfCs [Sh.int IntKind.i64, Sh.int IntKind.i64, Sh.int IntKind.i64] x) ∧ True) ∧ InR IntKind.i64 (Sp.chE (Sp.nwV 1 2) 3 1 1) ∧ True → True ∧ (InR IntKind.i64 (Sp.poV (Sp.chV (Sp.nwV 1 2) 3 1 1) 5) ∧ InR IntKind.i64 (Sp.poE (Sp.chV (Sp.nwV 1 2) 3 1 1) 5) ∧ True → True ∧ (InR IntKind.i64 (Sp.poV (Sp.chV (Sp.nwV 1 2) 3 1 1) 3) ∧ InR IntKind.i64 (Sp.poE (Sp.chV (Sp.nwV 1 2) 3 1 1) 3) ∧ True → True ∧ (InR IntKind.i64 (Sp.toV (Sp.chV (Sp.nwV 1 2) 3 1 1) 2) ∧ InR IntKind.i64 (Sp.toE (Sp.chV (Sp.nwV 1 2) 3 1 1) 2) ∧ True → (bEq (Sp.nwE 1 2) 0 = true → (bEq (Sp.chE (Sp.nwV 1 2) 3 1 1) 0 = true → (bEq (Sp.poE (Sp.chV (Sp.nwV 1 2) 3 1 1) 5) 0 = true → (bEq (Sp.poE (Sp.chV (Sp.nwV 1 2) 3 1 1) 3) 0 = true → (bEq (Sp.toE (Sp.chV (Sp.nwV 1 2) 3 1 1) 2) 0 = true → (bEq (Sp.poV (Sp.chV (Sp.nwV 1 2) 3 1 1) 5) 3 = true → (bEq (Sp.poV (Sp.chV (Sp.nwV 1 2) 3 1 1) 3) 1 = true → (bEq (Sp.toV (Sp.chV (Sp.nwV 1 2) 3 1 1) 2) 4 = true → True ∧ (True → (Sp.cval (Sp.chV (Sp.nwV 1 2) 3 1 1) = true ∧ True) ∧ True)) ∧ (bEq (Sp.toV (Sp.chV (Sp.nwV 1 2) 3 1 1) 2) 4 = false → (false = true ∧ True) ∧ True)) ∧ (bEq (Sp.poV (Sp.chV (Sp.nwV 1 2) 3 1 1) 3) 1 = false → (false = true ∧ True) ∧ True)) ∧ (bEq (Sp.poV (Sp.chV (Sp.nwV 1 2) 3 1 1) 5) 3 = false → (false = true ∧ True) ∧ True)) ∧ (bEq (Sp.toE (Sp.chV (Sp.nwV 1 2) 3 1 1) 2) 0 = false → (false = true ∧ True) ∧ True)) ∧ (bEq (Sp.poE (Sp.chV (Sp.nwV 1 2) 3 1 1) 3) 0 = false → (false = true ∧ True) ∧ True)) ∧ (bEq (Sp.poE (Sp.chV (Sp.nwV 1 2) 3 1 1) 5) 0 = false → (false = true ∧ True) ∧ True)) ∧ (bEq (Sp.chE (Sp.nwV 1 2) 3 1 1) 0 = false → (false = true ∧ True) ∧ True)) ∧ (bEq (Sp.nwE 1 2) 0 = false → (false = true ∧ True) ∧ True))))))) := by kernel_rfl
theorem v9  : Holds (Wfs [] → True → vcF Go.Proofs.Try.prog (look tb9) (fun _ => false) (fun _ _ => LoopAnn.unroll 200) 6 9 [] [] (fun sv heap => Gives [(false, [.bool])] [[.b true]] sv heap)) := by
  refine ⟨fun hw hp => ?_⟩
  rw [e9]
  simp only [iAdd, iSub, iMul, iLen, eq_self, true_and, and_true, true_implies, implies_true]
  have e1 : Sp.nwE 1 2 = 0 := by decide +kernel
  have e0 : Sp.chV (Sp.nwV 1 2) 3 1 1 = [[C.i 0, C.i 1, C.i 2], [C.i 3, C.i 1, C.i 1]] := by rfl
  have e2 : Sp.chE (Sp.nwV 1 2) 3 1 1 = 0 := by decide +kernel
  rw [e0]
  have e3 : Sp.poE [[C.i 0, C.i 1, C.i 2], [C.i 3, C.i 1, C.i 1]] 5 = 0 := by decide +kernel
  have e4 : Sp.poE [[C.i 0, C.i 1, C.i 2], [C.i 3, C.i 1, C.i 1]] 3 = 0 := by decide +kernel
  have e5 : Sp.toE [[C.i 0, C.i 1, C.i 2], [C.i 3, C.i 1, C.i 1]] 2 = 0 := by decide +kernel
  have e6 : Sp.poV [[C.i 0, C.i 1, C.i 2], [C.i 3, C.i 1, C.i 1]] 5 = 3 := by decide +kernel
  have e7 : Sp.poV [[C.i 0, C.i 1, C.i 2], [C.i 3, C.i 1, C.i 1]] 3 = 1 := by decide +kernel
  have e8 : Sp.toV [[C.i 0, C.i 1, C.i 2], [C.i 3, C.i 1, C.i 1]] 2 = 4 := by decide +kernel
  have e9 : Sp.cval [[C.i 0, C.i 1, C.i 2], [C.i 3, C.i 1, C.i 1]] = true := by decide +kernel
  rw [e1, e2, e3, e4, e5, e6, e7, e8, e9]
  simp [bEq]
theorem s9 : SoundCt Go.Proofs.Try.prog 9 ct9 :=
  contractH followsMixed (look_sound (show Tb Go.Proofs.Try.prog tb9 from ⟨s11, ⟨s15, ⟨s21, ⟨s26, ⟨s17, trivial⟩⟩⟩⟩⟩)) (fun _ => false) (fun _ => fun _ _ => LoopAnn.unroll 200) 6 9 ct9 rfl (by simp [ct9]) fun a => Eq.mp (by kernel_rfl) (v9 )
end Go.Sx

