import Derived.Test.YtphaelepnjekoaaGreatSxUse
import Derived.Test.YtphaelepnjekoaaGreatZ27g
import Derived.KernelRfl
set_option linter.unusedVariables false
set_option linter.unusedSimpArgs false
set_option maxRecDepth 100000
set_option maxHeartbeats 4000000
namespace Go
open Go.Sx
def Sp.md (v n : Int) : Int := v % n
def Sp.kn (l : List (List C)) (a n : Int) : Int := if a < (l.length : Int) then ((rGet l a).headD default).int % n else 0
def Sp.ka (l : List (List C)) (a : Int) : Int := if a < (l.length : Int) then a + 1 else a
end Go
namespace Go.Sx
def ct22 : Ct := { ps := [(false, [.int .i64]), (false, [.int .i64])], rs := [(false, [.int .i64])], pre := fun a => pLe 1 (cel 0 (arg 1 a)).int ∧ True, out := fun a => [[.i (Sp.md (cel 0 (arg 0 a)).int (cel 0 (arg 1 a)).int)]] }
def tb22 : List (Nat × Ct) := []
def A22  : FuncId → Nat → LoopAnn := fun _ _ => LoopAnn.unroll 200
abbrev B22 (v : Int) (n : Int) : Prop := vcF Go.Proofs.Tryz.prog (look tb22) (fun _ => false) (A22) 6 22 [.int .i64 v, .int .i64 n] [] (fun sv heap => Gives [(false, [.int .i64])] [[.i (Sp.md v n)]] sv heap)
theorem e22 (v : Int) (n : Int) : B22 v n = (pNe n 0 ∧ (bLt (iRem v n) 0 = true → InR .i64 (iAdd (iRem v n) n) ∧ (iAdd (iRem v n) n = Sp.md v n ∧ True) ∧ True) ∧ (bLt (iRem v n) 0 = false → (iRem v n = Sp.md v n ∧ True) ∧ True)) := by kernel_rfl
theorem v22 (v : Int) (n : Int) : Holds (Wfs [.int .i64 v, .int .i64 n] → pLe 1 n ∧ True → B22 v n) := by
 refine ⟨fun hw hp => ?_⟩
 rw [e22]
 have hn := hp.1
 simp only [pLe] at hn
 simp only [Wfs, Wf, InR, and_true] at hw
 have b0 := Int.emod_nonneg v (show n ≠ 0 by omega)
 have b1 := Int.emod_lt_of_pos v (show 0 < n by omega)
 have e := Int.tmod_eq_emod (a := v) (b := n)
 simp only [iRem, iAdd, bLt, pNe, InR, Sp.md, decide_eq_true_eq, decide_eq_false_iff_not, and_true]
 rw [e]
 split
 · exact ⟨by omega, fun h => by omega, fun h => by omega⟩
 · rw [show (n.natAbs : Int) = n by omega]
   exact ⟨by omega, fun h => by omega, fun h => by omega⟩
theorem s22 : SoundCt Go.Proofs.Tryz.prog 22 ct22 :=
 contractH followsMixed (look_sound (show Tb Go.Proofs.Tryz.prog tb22 from trivial)) (fun _ => false) (fun _ => A22) 6 22 ct22 rfl (by simp [ct22]) fun a => Eq.mp (by kernel_rfl) (v22 ((cel 0 (arg 0 a)).int) ((cel 0 (arg 1 a)).int))
end Go.Sx
namespace Go.Sx
def ct21 : Ct := { ps := [], rs := [(false, [.bool])], pre := fun _ => True, out := fun a => [[.l (cel 0 (arg 0 a)).list, .i (cel 1 (arg 0 a)).int], [.b (decide ((cel 1 (arg 0 a)).int < ((cel 0 (arg 0 a)).list.length : Int)))]], bx := some (64, [.sl [.int .i64], .int .i64]) }
def tb21 : List (Nat × Ct) := []
def A21  : FuncId → Nat → LoopAnn := fun _ _ => LoopAnn.unroll 200
abbrev B21 (l : List (List C)) (a : Int) : Prop := vcF Go.Proofs.Tryz.prog (look tb21) (fun _ => false) (A21) 6 21 [.ref 0 0] [.box [.sl [.int .i64] l, .int .i64 a] 64] (fun sv heap => GivesB 64 [.sl [.int .i64], .int .i64] [(false, [.bool])] [[.l l, .i a], [.b (decide (a < (l.length : Int)))]] sv heap)
theorem e21 (l : List (List C)) (a : Int) : B21 l a = (pLe (iLen l) 9223372036854775807 → 64 = 64 ∧ (l = l ∧ a = a ∧ True) ∧ (bLt a (iLen l) = decide (a < ↑l.length) ∧ True) ∧ True) := by kernel_rfl
theorem v21 (l : List (List C)) (a : Int) : Holds (Wfs [.agg [.sl [.int .i64] l, .int .i64 a]] → True → B21 l a) := by
 refine ⟨fun hw hp => ?_⟩
 rw [e21]
 exact fun _ => ⟨rfl, ⟨rfl, rfl, trivial⟩, ⟨rfl, trivial⟩, trivial⟩
theorem s21 : SoundCt Go.Proofs.Tryz.prog 21 ct21 :=
 contractHB followsMixed (look_sound (show Tb Go.Proofs.Tryz.prog tb21 from trivial)) (fun _ => false) (fun _ => A21) 6 21 ct21 rfl (by simp [ct21]) fun a => Eq.mp (by kernel_rfl) (v21 ((cel 0 (arg 0 a)).list) ((cel 1 (arg 0 a)).int))
end Go.Sx
namespace Go.Sx
def ct7 : Ct := { ps := [(false, [.int .i64])], rs := [(false, [.int .i64])], pre := fun a => pLe 0 (cel 1 (arg 0 a)).int ∧ pLe 1 (cel 0 (arg 1 a)).int, out := fun a => [[.l (cel 0 (arg 0 a)).list, .i (Sp.ka (cel 0 (arg 0 a)).list (cel 1 (arg 0 a)).int)], [.i (Sp.kn (cel 0 (arg 0 a)).list (cel 1 (arg 0 a)).int (cel 0 (arg 1 a)).int)]], bx := some (64, [.sl [.int .i64], .int .i64]) }
def tb7 : List (Nat × Ct) := [(21, ct21), (22, ct22)]
def A7  : FuncId → Nat → LoopAnn := fun _ _ => LoopAnn.unroll 200
abbrev B7 (l : List (List C)) (a : Int) (n : Int) : Prop := vcF Go.Proofs.Tryz.prog (look tb7) (fun _ => false) (A7) 6 7 [.ref 0 0, .int .i64 n] [.box [.sl [.int .i64] l, .int .i64 a] 64] (fun sv heap => GivesB 64 [.sl [.int .i64], .int .i64] [(false, [.int .i64])] [[.l l, .i (Sp.ka l a)], [.i (Sp.kn l a n)]] sv heap)
theorem e7 (l : List (List C)) (a : Int) (n : Int) : B7 l a n = (True ∧ (True → True ∧ (bNot (decide (a < ↑l.length)) = true → 64 = 64 ∧ (l = l ∧ a = Sp.ka l a ∧ True) ∧ (0 = Sp.kn l a n ∧ True) ∧ True) ∧ (bNot (decide (a < ↑l.length)) = false → InR .i64 (iAdd a 1) ∧ InR .i64 (iSub (iAdd a 1) 1) ∧ pIn 0 (iLen l) (iSub (iAdd a 1) 1) ∧ (InR .i64 (q0 (rGet l (iSub (iAdd a 1) 1))) → (pLe 1 n ∧ True) ∧ (InR .i64 (Sp.md (q0 (rGet l (iSub (iAdd a 1) 1))) n) → 64 = 64 ∧ (l = l ∧ iAdd a 1 = Sp.ka l a ∧ True) ∧ (Sp.md (q0 (rGet l (iSub (iAdd a 1) 1))) n = Sp.kn l a n ∧ True) ∧ True))))) := by kernel_rfl
theorem v7 (l : List (List C)) (a : Int) (n : Int) : Holds (Wfs [.agg [.sl [.int .i64] l, .int .i64 a], .int .i64 n] → pLe 0 a ∧ pLe 1 n → B7 l a n) := by
 refine ⟨fun hw hp => ?_⟩
 rw [e7]
 delta q0
 simp only [pLe] at hp
 simp only [Wfs, Wf, InR, and_true] at hw
 simp only [iAdd, iSub, iLen, bNot, eq_self, true_and, and_true, true_implies, Bool.not_eq_true', Bool.not_eq_false', decide_eq_true_eq, decide_eq_false_iff_not, Sp.ka, Sp.kn, Sp.md, InR, pLe]
 have hm : maxLen = 9223372036854775807 := rfl
 rw [hm] at hw
 rw [show a + 1 - 1 = a by omega]
 refine ⟨fun h => ?_, fun h => ?_⟩
 · rw [if_neg h, if_neg h]; exact ⟨rfl, rfl⟩
 · rw [if_pos h, if_pos h]
   exact ⟨by omega, by omega, ⟨by omega, by omega⟩, fun _ => ⟨by omega, fun _ => ⟨rfl, rfl⟩⟩⟩
theorem s7 : SoundCt Go.Proofs.Tryz.prog 7 ct7 :=
 contractHB followsMixed (look_sound (show Tb Go.Proofs.Tryz.prog tb7 from ⟨s21, ⟨s22, trivial⟩⟩)) (fun _ => false) (fun _ => A7) 6 7 ct7 rfl (by simp [ct7]) fun a => Eq.mp (by kernel_rfl) (v7 ((cel 0 (arg 0 a)).list) ((cel 1 (arg 0 a)).int) ((cel 0 (arg 1 a)).int))
end Go.Sx
namespace Go
open Go.Sx
theorem Sp.ka_nn {l : List (List C)} {a : Int} (h : 0 ≤ a) : 0 ≤ Sp.ka l a := by unfold Sp.ka; split <;> omega
theorem Sp.kn_bd {l : List (List C)} {a n : Int} (h : 1 ≤ n) : 0 ≤ Sp.kn l a n ∧ Sp.kn l a n < n := by
 unfold Sp.kn
 split
 · exact ⟨Int.emod_nonneg _ (by omega), Int.emod_lt_of_pos _ (by omega)⟩
 · omega
end Go
namespace Go.Sx
def ct11 : Ct := { ps := [(false, [.int .i64]), (false, [.int .i64])], rs := [(false, [.int .i64])], pre := fun a => pLe 0 (cel 1 (arg 0 a)).int ∧ pLe (cel 0 (arg 1 a)).int (cel 0 (arg 2 a)).int ∧ pLe (-1000000) (cel 0 (arg 1 a)).int ∧ pLe (cel 0 (arg 2 a)).int 1000000, out := fun a => [[.l (cel 0 (arg 0 a)).list, .i (Sp.ka (cel 0 (arg 0 a)).list (cel 1 (arg 0 a)).int)], [.i ((cel 0 (arg 1 a)).int + Sp.kn (cel 0 (arg 0 a)).list (cel 1 (arg 0 a)).int ((cel 0 (arg 2 a)).int - (cel 0 (arg 1 a)).int + 1))]], bx := some (64, [.sl [.int .i64], .int .i64]) }
def tb11 : List (Nat × Ct) := [(7, ct7)]
def A11  : FuncId → Nat → LoopAnn := fun _ _ => LoopAnn.unroll 200
abbrev B11 (l : List (List C)) (a : Int) (n : Int) (m : Int) : Prop := vcF Go.Proofs.Tryz.prog (look tb11) (fun _ => false) (A11) 6 11 [.ref 0 0, .int .i64 n, .int .i64 m] [.box [.sl [.int .i64] l, .int .i64 a] 64] (fun sv heap => GivesB 64 [.sl [.int .i64], .int .i64] [(false, [.int .i64])] [[.l l, .i (Sp.ka l a)], [.i (n + Sp.kn l a (m - n + 1))]] sv heap)
theorem e11 (l : List (List C)) (a : Int) (n : Int) (m : Int) : B11 l a n m = (InR .i64 (iSub m n) ∧ InR .i64 (iAdd (iSub m n) 1) ∧ (pLe 0 a ∧ pLe 1 (iAdd (iSub m n) 1)) ∧ (InR .i64 (Sp.kn l a (iAdd (iSub m n) 1)) → InR .i64 (iAdd n (Sp.kn l a (iAdd (iSub m n) 1))) ∧ 64 = 64 ∧ (l = l ∧ Sp.ka l a = Sp.ka l a ∧ True) ∧ (iAdd n (Sp.kn l a (iAdd (iSub m n) 1)) = n + Sp.kn l a (m - n + 1) ∧ True) ∧ True)) := by kernel_rfl
theorem v11 (l : List (List C)) (a : Int) (n : Int) (m : Int) : Holds (Wfs [.agg [.sl [.int .i64] l, .int .i64 a], .int .i64 n, .int .i64 m] → pLe 0 a ∧ pLe n m ∧ pLe (-1000000) n ∧ pLe m 1000000 → B11 l a n m) := by
 refine ⟨fun hw hp => ?_⟩
 rw [e11]
 simp only [pLe] at hp
 have b := Sp.kn_bd (l := l) (a := a) (n := m - n + 1) (by omega)
 simp only [iAdd, iSub, eq_self, true_and, and_true, true_implies, InR, pLe]
 exact ⟨by omega, by omega, ⟨by omega, by omega⟩, fun _ => by omega⟩
theorem s11 : SoundCt Go.Proofs.Tryz.prog 11 ct11 :=
 contractHB followsMixed (look_sound (show Tb Go.Proofs.Tryz.prog tb11 from ⟨s7, trivial⟩)) (fun _ => false) (fun _ => A11) 6 11 ct11 rfl (by simp [ct11]) fun a => Eq.mp (by kernel_rfl) (v11 ((cel 0 (arg 0 a)).list) ((cel 1 (arg 0 a)).int) ((cel 0 (arg 1 a)).int) ((cel 0 (arg 2 a)).int))
end Go.Sx
namespace Go
open Go.Sx
def Sp.ka2 (l : List (List C)) (a : Int) : Int := Sp.ka l (Sp.ka l a)
def Sp.ka3 (l : List (List C)) (a : Int) : Int := Sp.ka l (Sp.ka2 l a)
def Sp.ka4 (l : List (List C)) (a : Int) : Int := Sp.ka l (Sp.ka3 l a)
def Sp.ka5 (l : List (List C)) (a : Int) : Int := Sp.ka l (Sp.ka4 l a)
def Sp.kW (l : List (List C)) (a : Int) : Int := 1 + Sp.kn l a 4
def Sp.kC (l : List (List C)) (a : Int) : Int := (1 + Sp.kn l (Sp.ka l a) 12) * 2000
def Sp.kP (l : List (List C)) (a : Int) : Int := Sp.c0 (rGet [[.i 16], [.i 64], [.i 128]] (Sp.kn l (Sp.ka2 l a) 3))
def Sp.s0 (l : List (List C)) (a : Int) : Int := 0 + Sp.kn l a 10
def Sp.s1 (l : List (List C)) (a : Int) : Int := 0 + Sp.kn l (Sp.ka l a) 6
def Sp.s2 (l : List (List C)) (a : Int) : Int := 0 + Sp.kn l (Sp.ka2 l a) 10
def Sp.s3 (l : List (List C)) (a : Int) : Int := Sp.kn l (Sp.ka3 l a) 60
def Sp.hoL (w c p : Int) (l : List (List C)) (n : Nat) (z : Int × List (List C)) : Int × List (List C) :=
 match n with
 | 0 => z
 | k + 1 => Sp.hoL w c p l k (Sp.ka2 l z.1, bif decide (Sp.hoE w c p z.2 [] (1 + Sp.kn l z.1 5) (1 + Sp.kn l (Sp.ka l z.1) 4) = 0) then Sp.wH z.2 (1 + Sp.kn l z.1 5) (1 + Sp.kn l (Sp.ka l z.1) 4) else z.2)
def Sp.adL (w c p : Int) (ds l : List (List C)) (n : Nat) (z : Int × List (List C)) : Int × List (List C) :=
 match n with
 | 0 => z
 | k + 1 => Sp.adL w c p ds l k (Sp.ka5 l z.1, bif decide (Sp.adE w c p ds z.2 (Sp.s0 l z.1) (Sp.s1 l z.1) (Sp.s2 l z.1) (Sp.s3 l z.1) (Sp.kn l (Sp.ka4 l z.1) 40) = 0) then Sp.wS z.2 (Sp.s0 l z.1) (Sp.s1 l z.1) (Sp.s2 l z.1) (Sp.kn l (Sp.ka4 l z.1) 40) else z.2)
def Sp.kH (l : List (List C)) (a : Int) : Int × List (List C) := Sp.hoL (Sp.kW l a) (Sp.kC l a) (Sp.kP l a) l (0 + Sp.kn l (Sp.ka3 l a) 4).toNat (Sp.ka4 l a, [])
def Sp.kB (l : List (List C)) (a : Int) : Int × List (List C) := Sp.adL (Sp.kW l a) (Sp.kC l a) (Sp.kP l a) (Sp.kH l a).2 l (0 + Sp.kn l (Sp.kH l a).1 7).toNat (Sp.ka l (Sp.kH l a).1, [])
def Sp.kD (l : List (List C)) (a : Int) : List (List C) := (Sp.kH l a).2
def Sp.kS (l : List (List C)) (a : Int) : List (List C) := (Sp.kB l a).2
def Sp.kA (l : List (List C)) (a : Int) : Int := (Sp.kB l a).1
def Sp.hoI (l : List (List C)) (a k b : Int) (ds : List (List C)) : Prop := 0 ≤ b ∧ 0 ≤ k ∧ k ≤ 3 ∧ (ds.length : Int) + k ≤ 3 ∧ Sp.hoL (Sp.kW l a) (Sp.kC l a) (Sp.kP l a) l k.toNat (b, ds) = Sp.kH l a
def Sp.adI (l : List (List C)) (a k b : Int) (ss : List (List C)) : Prop := 0 ≤ b ∧ 0 ≤ k ∧ k ≤ 6 ∧ (ss.length : Int) + k ≤ 6 ∧ Sp.adL (Sp.kW l a) (Sp.kC l a) (Sp.kP l a) (Sp.kD l a) l k.toNat (b, ss) = Sp.kB l a
end Go
namespace Go
open Go.Sx
theorem Sp.wH_len {ds : List (List C)} {id ch : Int} : (Sp.wH ds id ch).length = ds.length + 1 := by
 unfold Sp.wH Sp.lead
 simp only [List.length_append, List.length_map, List.length_take, List.length_drop, List.length_singleton]
 have := (List.takeWhile_sublist (fun x => decide (Sp.c0 x < id)) (l := ds)).length_le
 omega
theorem Sp.wS_len {ss : List (List C)} {s0 s1 s2 s3 : Int} : (Sp.wS ss s0 s1 s2 s3).length = ss.length + 1 := by
 unfold Sp.wS Sp.lead
 simp only [List.length_append, List.length_map, List.length_take, List.length_drop, List.length_singleton]
 have := (List.takeWhile_sublist (fun x => decide (Sp.c0 x < s0)) (l := ss)).length_le
 omega
theorem Sp.zI_0 {e v : Int} (h : e = 0) : Sp.zI e v = v := by subst h; rfl
theorem Sp.zL_0 {e : Int} {v : List (List C)} (h : e = 0) : Sp.zL e v = v := by subst h; rfl
theorem Sp.w64 {x : Int} (h0 : 0 ≤ x) (h1 : x ≤ 1000) : iWrap .u64 x = x := by
 show IntKind.u64.wrap x = x
 rw [IntKind.wrap_u64]; omega
theorem Sp.hoI_init {l : List (List C)} {a : Int} (h : 0 ≤ a) : Sp.hoI l a (0 + Sp.kn l (Sp.ka3 l a) 4) (Sp.ka4 l a) [] := by
 have b := Sp.kn_bd (l := l) (a := Sp.ka3 l a) (n := 4) (by omega)
 exact ⟨Sp.ka_nn (Sp.ka_nn (Sp.ka_nn (Sp.ka_nn h))), by omega, by omega, by simp only [List.length_nil]; omega, rfl⟩
theorem Sp.hoI_yes {l ds : List (List C)} {a k b : Int} (h : Sp.hoI l a k b ds) (hk : 0 < k) (he : Sp.hoE (Sp.kW l a) (Sp.kC l a) (Sp.kP l a) ds [] (1 + Sp.kn l b 5) (1 + Sp.kn l (Sp.ka l b) 4) = 0) :
 Sp.hoI l a (k - 1) (Sp.ka2 l b) (Sp.wH ds (1 + Sp.kn l b 5) (1 + Sp.kn l (Sp.ka l b) 4)) := by
 obtain ⟨h0, h1, h2, h3, h4⟩ := h
 refine ⟨Sp.ka_nn (Sp.ka_nn h0), by omega, by omega, by rw [Sp.wH_len]; omega, ?_⟩
 rw [← h4, show k.toNat = (k - 1).toNat + 1 by omega]
 simp only [Sp.hoL, he, decide_true, cond_true]
theorem Sp.hoI_no {l ds : List (List C)} {a k b : Int} (h : Sp.hoI l a k b ds) (hk : 0 < k) (he : ¬ Sp.hoE (Sp.kW l a) (Sp.kC l a) (Sp.kP l a) ds [] (1 + Sp.kn l b 5) (1 + Sp.kn l (Sp.ka l b) 4) = 0) :
 Sp.hoI l a (k - 1) (Sp.ka2 l b) ds := by
 obtain ⟨h0, h1, h2, h3, h4⟩ := h
 refine ⟨Sp.ka_nn (Sp.ka_nn h0), by omega, by omega, by omega, ?_⟩
 rw [← h4, show k.toNat = (k - 1).toNat + 1 by omega]
 simp only [Sp.hoL, decide_eq_false he, cond_false]
theorem Sp.hoI_end {l ds : List (List C)} {a k b : Int} (h : Sp.hoI l a k b ds) (hk : ¬ 0 < k) : (b, ds) = Sp.kH l a := by
 obtain ⟨h0, h1, h2, h3, h4⟩ := h
 rw [← h4, show k.toNat = 0 by omega]; rfl
theorem Sp.adI_init {l ds : List (List C)} {a b : Int} (h : 0 ≤ b) (he : (b, ds) = Sp.kH l a) : Sp.adI l a (0 + Sp.kn l b 7) (Sp.ka l b) [] := by
 have bd := Sp.kn_bd (l := l) (a := b) (n := 7) (by omega)
 refine ⟨Sp.ka_nn h, by omega, by omega, by simp only [List.length_nil]; omega, ?_⟩
 unfold Sp.kB Sp.kD
 rw [← he]
theorem Sp.adI_yes {l ss : List (List C)} {a k b : Int} (h : Sp.adI l a k b ss) (hk : 0 < k) (he : Sp.adE (Sp.kW l a) (Sp.kC l a) (Sp.kP l a) (Sp.kD l a) ss (Sp.s0 l b) (Sp.s1 l b) (Sp.s2 l b) (Sp.s3 l b) (Sp.kn l (Sp.ka4 l b) 40) = 0) :
 Sp.adI l a (k - 1) (Sp.ka5 l b) (Sp.wS ss (Sp.s0 l b) (Sp.s1 l b) (Sp.s2 l b) (Sp.kn l (Sp.ka4 l b) 40)) := by
 obtain ⟨h0, h1, h2, h3, h4⟩ := h
 refine ⟨Sp.ka_nn (Sp.ka_nn (Sp.ka_nn (Sp.ka_nn (Sp.ka_nn h0)))), by omega, by omega, by rw [Sp.wS_len]; omega, ?_⟩
 rw [← h4, show k.toNat = (k - 1).toNat + 1 by omega]
 simp only [Sp.adL, he, decide_true, cond_true]
theorem Sp.adI_no {l ss : List (List C)} {a k b : Int} (h : Sp.adI l a k b ss) (hk : 0 < k) (he : ¬ Sp.adE (Sp.kW l a) (Sp.kC l a) (Sp.kP l a) (Sp.kD l a) ss (Sp.s0 l b) (Sp.s1 l b) (Sp.s2 l b) (Sp.s3 l b) (Sp.kn l (Sp.ka4 l b) 40) = 0) :
 Sp.adI l a (k - 1) (Sp.ka5 l b) ss := by
 obtain ⟨h0, h1, h2, h3, h4⟩ := h
 refine ⟨Sp.ka_nn (Sp.ka_nn (Sp.ka_nn (Sp.ka_nn (Sp.ka_nn h0)))), by omega, by omega, by omega, ?_⟩
 rw [← h4, show k.toNat = (k - 1).toNat + 1 by omega]
 simp only [Sp.adL, decide_eq_false he, cond_false]
theorem Sp.adI_end {l ss : List (List C)} {a k b : Int} (h : Sp.adI l a k b ss) (hk : ¬ 0 < k) : (b, ss) = Sp.kB l a := by
 obtain ⟨h0, h1, h2, h3, h4⟩ := h
 rw [← h4, show k.toNat = 0 by omega]; rfl
theorem Sp.sane1 : Sp.hoE 1 2000 64 [] [] 1 2 = 0 := by kernel_rfl
theorem Sp.sane2 : Sp.inD [] 1 2 = [[.i 1, .i 2]] := rfl
theorem Sp.sane3 : Sp.adE 1 2000 64 [[.i 1, .i 2]] [] 1 1 2 10 5 = 10 := by kernel_rfl
theorem Sp.sane4 : Sp.adN 1 2000 64 [[.i 1, .i 2]] [] 1 1 2 10 5 = 2748 := by kernel_rfl
theorem Sp.sane5 : Sp.ld 1 2000 64 [[.i 1, .i 2]] [] = 1424 := by kernel_rfl
theorem Sp.sane6 : Sp.adK 1 2000 64 [[.i 1, .i 2]] [] 1 1 2 10 5 = 4 := by kernel_rfl
theorem Sp.sane7 : Sp.adH 1 2000 64 [[.i 1, .i 2]] [] 1 1 2 10 5 = 2000 := by kernel_rfl
theorem Sp.zI0 {v : Int} : Sp.zI 0 v = v := rfl
theorem Sp.zL0 {v : List (List C)} : Sp.zL 0 v = v := rfl
end Go
namespace Go.Sx
def ct9 : Ct := { ps := [], rs := [(true, [.int .i64, .int .u64, .int .i64, .int .i64])], pre := fun a => pLe 0 (cel 1 (arg 0 a)).int ∧ True, out := fun a => [[.l (cel 0 (arg 0 a)).list, .i (Sp.ka4 (cel 0 (arg 0 a)).list (cel 1 (arg 0 a)).int)], [.i (Sp.s0 (cel 0 (arg 0 a)).list (cel 1 (arg 0 a)).int), .i (Sp.s1 (cel 0 (arg 0 a)).list (cel 1 (arg 0 a)).int), .i (Sp.s2 (cel 0 (arg 0 a)).list (cel 1 (arg 0 a)).int), .i (Sp.s3 (cel 0 (arg 0 a)).list (cel 1 (arg 0 a)).int)]], bx := some (64, [.sl [.int .i64], .int .i64]) }
def tb9 : List (Nat × Ct) := [(7, ct7), (11, ct11)]
def A9  : FuncId → Nat → LoopAnn := fun _ _ => LoopAnn.unroll 200
abbrev B9 (l : List (List C)) (a : Int) : Prop := vcF Go.Proofs.Tryz.prog (look tb9) (fun _ => false) (A9) 6 9 [.ref 0 0] [.box [.sl [.int .i64] l, .int .i64 a] 64] (fun sv heap => GivesB 64 [.sl [.int .i64], .int .i64] [(true, [.int .i64, .int .u64, .int .i64, .int .i64])] [[.l l, .i (Sp.ka4 l a)], [.i (Sp.s0 l a), .i (Sp.s1 l a), .i (Sp.s2 l a), .i (Sp.s3 l a)]] sv heap)
theorem e9 (l : List (List C)) (a : Int) : B9 l a = ((pLe 0 a ∧ pLe 0 9 ∧ pLe (-1000000) 0 ∧ pLe 9 1000000) ∧ (InR .i64 (0 + Sp.kn l a (9 - 0 + 1)) → (pLe 0 (Sp.ka l a) ∧ pLe 0 5 ∧ pLe (-1000000) 0 ∧ pLe 5 1000000) ∧ (InR .i64 (0 + Sp.kn l (Sp.ka l a) (5 - 0 + 1)) → (pLe 0 (Sp.ka l (Sp.ka l a)) ∧ pLe 0 9 ∧ pLe (-1000000) 0 ∧ pLe 9 1000000) ∧ (InR .i64 (0 + Sp.kn l (Sp.ka l (Sp.ka l a)) (9 - 0 + 1)) → (pLe 0 (Sp.ka l (Sp.ka l (Sp.ka l a))) ∧ pLe 1 60) ∧ (InR .i64 (Sp.kn l (Sp.ka l (Sp.ka l (Sp.ka l a))) 60) → 64 = 64 ∧ (l = l ∧ Sp.ka l (Sp.ka l (Sp.ka l (Sp.ka l a))) = Sp.ka4 l a ∧ True) ∧ (0 + Sp.kn l a (9 - 0 + 1) = Sp.s0 l a ∧ iWrap .u64 (0 + Sp.kn l (Sp.ka l a) (5 - 0 + 1)) = Sp.s1 l a ∧ 0 + Sp.kn l (Sp.ka l (Sp.ka l a)) (9 - 0 + 1) = Sp.s2 l a ∧ Sp.kn l (Sp.ka l (Sp.ka l (Sp.ka l a))) 60 = Sp.s3 l a ∧ True) ∧ True))))) := by kernel_rfl
theorem v9 (l : List (List C)) (a : Int) : Holds (Wfs [.agg [.sl [.int .i64] l, .int .i64 a]] → pLe 0 a ∧ True → B9 l a) := by
 refine ⟨fun hw hp => ?_⟩
 rw [e9]
 simp only [Wfs, Wf, InR, and_true] at hw
 simp only [eq_self, true_and, and_true, true_implies, implies_true, iAdd, iSub, iMul, iLen, bEq, bNe, bLt, bLe, bNot, pIn, pLe, pNe, InR, decide_eq_true_eq, decide_eq_false_iff_not, Bool.not_eq_true', Bool.not_eq_false', decide_eq_decide]
 simp only [pLe] at hp
 have hp := hp.1
 have a1 := Sp.ka_nn (l := l) hp
 have a2 := Sp.ka_nn (l := l) a1
 have a3 := Sp.ka_nn (l := l) a2
 have b1 := Sp.kn_bd (l := l) (a := Sp.ka l a) (n := 6) (by omega)
 have w1 : iWrap .u64 (0 + Sp.kn l (Sp.ka l a) (5 - 0 + 1)) = Sp.s1 l a := Sp.w64 (x := 0 + Sp.kn l (Sp.ka l a) 6) (by omega) (by omega)
 rw [w1]
 exact ⟨⟨hp, by omega, by omega, by omega⟩, fun _ => ⟨⟨a1, by omega, by omega, by omega⟩, fun _ => ⟨⟨a2, by omega, by omega, by omega⟩, fun _ => ⟨⟨a3, by omega⟩, fun _ => ⟨rfl, rfl, rfl, rfl, rfl⟩⟩⟩⟩⟩
theorem s9 : SoundCt Go.Proofs.Tryz.prog 9 ct9 :=
 contractHB followsMixed (look_sound (show Tb Go.Proofs.Tryz.prog tb9 from ⟨s7, ⟨s11, trivial⟩⟩)) (fun _ => false) (fun _ => A9) 6 9 ct9 rfl (by simp [ct9]) fun a => Eq.mp (by kernel_rfl) (v9 ((cel 0 (arg 0 a)).list) ((cel 1 (arg 0 a)).int))
end Go.Sx
namespace Go.Sx
def ct6 : Ct := { ps := [], rs := [(true, [.int .i64, .int .i64, .int .i64, .sl [.int .u64, .int .i64], .sl [.int .i64, .int .u64, .int .i64, .int .i64]])], pre := fun a => pLe 0 (cel 1 (arg 0 a)).int ∧ True, out := fun a => [[.l (cel 0 (arg 0 a)).list, .i (Sp.kA (cel 0 (arg 0 a)).list (cel 1 (arg 0 a)).int)], [.i (Sp.kW (cel 0 (arg 0 a)).list (cel 1 (arg 0 a)).int), .i (Sp.kC (cel 0 (arg 0 a)).list (cel 1 (arg 0 a)).int), .i (Sp.kP (cel 0 (arg 0 a)).list (cel 1 (arg 0 a)).int), .l (Sp.kD (cel 0 (arg 0 a)).list (cel 1 (arg 0 a)).int), .l (Sp.kS (cel 0 (arg 0 a)).list (cel 1 (arg 0 a)).int)]], bx := some (64, [.sl [.int .i64], .int .i64]) }
def tb6 : List (Nat × Ct) := [(7, ct7), (11, ct11), (9, ct9), (19, ct19), (20, ct20)]
def A6 (l : List (List C)) (a : Int) : FuncId → Nat → LoopAnn := fun _ ii => bif Nat.beq ii 3 then .on (fun sv0 => match sv0.tmps.getD 0 .undef, sv0.tmps.getD 3 .undef with | .ref dk _, .ref bb _ => .inv (Int × Int × List (List C)) (fun z => Sp.hoI l a z.1 z.2.1 z.2.2) (fun z => [(4, .int .i64 z.1)]) (fun z => [(dk, .box [.sl [.int .i64] l, .int .i64 z.2.1] 64), (bb, .box [.int .i64 (Sp.kW l a), .int .i64 (Sp.kC l a), .int .i64 (Sp.kP l a), .sl [.int .u64, .int .i64] (z.2.2), .sl [.int .i64, .int .u64, .int .i64, .int .i64] ([])] 31)]) [dk, bb] [0, 2, 3, 4, 5, 6, 7, 8, 10, 26, 41, 46, 60] (fun z => z.1.toNat) | _, _ => .unroll 0) else bif Nat.beq ii 9 then .on (fun sv0 => match sv0.tmps.getD 0 .undef, sv0.tmps.getD 3 .undef with | .ref dk _, .ref bb _ => .inv (Int × Int × List (List C)) (fun z => Sp.adI l a z.1 z.2.1 z.2.2) (fun z => [(7, .int .i64 z.1)]) (fun z => [(dk, .box [.sl [.int .i64] l, .int .i64 z.2.1] 64), (bb, .box [.int .i64 (Sp.kW l a), .int .i64 (Sp.kC l a), .int .i64 (Sp.kP l a), .sl [.int .u64, .int .i64] (Sp.kD l a), .sl [.int .i64, .int .u64, .int .i64, .int .i64] (z.2.2)] 31)]) [dk, bb] [0, 2, 3, 4, 5, 6, 7, 8, 10, 26, 41, 46, 60] (fun z => z.1.toNat) | _, _ => .unroll 0) else .unroll 0
abbrev B6 (l : List (List C)) (a : Int) : Prop := vcF Go.Proofs.Tryz.prog (look tb6) (fun _ => false) (A6 l a) 8 6 [.ref 0 0] [.box [.sl [.int .i64] l, .int .i64 a] 64] (fun sv heap => GivesB 64 [.sl [.int .i64], .int .i64] [(true, [.int .i64, .int .i64, .int .i64, .sl [.int .u64, .int .i64], .sl [.int .i64, .int .u64, .int .i64, .int .i64]])] [[.l l, .i (Sp.kA l a)], [.i (Sp.kW l a), .i (Sp.kC l a), .i (Sp.kP l a), .l (Sp.kD l a), .l (Sp.kS l a)]] sv heap)
def m6_0 (l : List (List C)) (a : Int) (x_1 : Int × Int × List (List C)) : Int := (Sp.adE (Sp.kW l a) (Sp.kC l a) (Sp.kP l a) (Sp.kD l a) x_1.snd.2 (Sp.s0 l x_1.snd.1) (Sp.s1 l x_1.snd.1) (Sp.s2 l x_1.snd.1) (Sp.s3 l x_1.snd.1) (Sp.kn l (Sp.ka4 l x_1.snd.1) 40))
def m6_1 (l : List (List C)) (a : Int) (x : Int × Int × List (List C)) : Int := (Sp.hoE (Sp.kW l a) (Sp.kC l a) (Sp.kP l a) x.snd.2 [] (iWrap .u64 (1 + Sp.kn l x.snd.1 (5 - 1 + 1))) (1 + Sp.kn l (Sp.ka l x.snd.1) (4 - 1 + 1)))
def m6_2 : Prop := IntKind.i64 = IntKind.i64
def m6_3 : List Sh := [Sh.int .i64, Sh.int .u64, Sh.int .i64, Sh.int .i64]
def m6_4 : Prop := [Sh.int .u64, Sh.int .i64] = [Sh.int .u64, Sh.int .i64]
def m6_5 (l : List (List C)) : Prop := [Sh.int .i64] = [Sh.int .i64] ∧ l = l
theorem e6 (l : List (List C)) (a : Int) : B6 l a = ((pLe 0 a ∧ pLe 1 4 ∧ pLe (-1000000) 1 ∧ pLe 4 1000000) ∧ (InR .i64 (1 + Sp.kn l a (4 - 1 + 1)) → (pLe 0 (Sp.ka l a) ∧ pLe 1 12 ∧ pLe (-1000000) 1 ∧ pLe 12 1000000) ∧ (InR .i64 (1 + Sp.kn l (Sp.ka l a) (12 - 1 + 1)) → InR .i64 (iMul (1 + Sp.kn l (Sp.ka l a) (12 - 1 + 1)) 2000) ∧ (pLe 0 (Sp.ka l (Sp.ka l a)) ∧ pLe 1 3) ∧ (InR .i64 (Sp.kn l (Sp.ka l (Sp.ka l a)) 3) → pIn 0 (↑3) (Sp.kn l (Sp.ka l (Sp.ka l a)) 3) ∧ (InR .i64 (q0 (rGet [[C.i 16], [C.i 64], [C.i 128]] (Sp.kn l (Sp.ka l (Sp.ka l a)) 3))) → (pLe 0 (Sp.ka l (Sp.ka l (Sp.ka l a))) ∧ pLe 0 3 ∧ pLe (-1000000) 0 ∧ pLe 3 1000000) ∧ (InR .i64 (0 + Sp.kn l (Sp.ka l (Sp.ka l (Sp.ka l a))) (3 - 0 + 1)) → (∃ (x : Int × Int × List (List C)), Sp.hoI l a x.1 x.snd.1 x.snd.2 ∧ true = true ∧ ((m6_2 ∧ 0 + Sp.kn l (Sp.ka l (Sp.ka l (Sp.ka l a))) (3 - 0 + 1) = x.1) ∧ True) ∧ ((((m6_5 l)) ∧ (m6_2 ∧ Sp.ka l (Sp.ka l (Sp.ka l (Sp.ka l a))) = x.snd.1) ∧ True) ∧ 64 = 64) ∧ (((m6_2 ∧ 1 + Sp.kn l a (4 - 1 + 1) = Sp.kW l a) ∧ (m6_2 ∧ iMul (1 + Sp.kn l (Sp.ka l a) (12 - 1 + 1)) 2000 = Sp.kC l a) ∧ (m6_2 ∧ (q0 (rGet [[C.i 16], [C.i 64], [C.i 128]] (Sp.kn l (Sp.ka l (Sp.ka l a)) 3))) = Sp.kP l a) ∧ x.snd.2 = [] ∧ ([] : List (List C)) = [] ∧ True) ∧ 31 = 31) ∧ True) ∧ (∀ (x : Int × Int × List (List C)), true = true ∧ true = true) ∧ ∀ (x : Int × Int × List (List C)), Sp.hoI l a x.1 x.snd.1 x.snd.2 → InR .i64 x.1 ∧ True → (((WL [.int .i64] l)) ∧ InR .i64 x.snd.1 ∧ True) ∧ (InR .i64 (Sp.kW l a) ∧ InR .i64 (Sp.kC l a) ∧ InR .i64 (Sp.kP l a) ∧ ((WL [.int .u64, .int .i64] x.snd.2)) ∧ (0 ≤ 9223372036854775807 ∧ ∀ (x : List C), x ∈ [] → WfCs [.int .i64, .int .u64, .int .i64, .int .i64] x) ∧ True) ∧ True → (bLt 0 x.1 = true → (pLe 0 x.snd.1 ∧ pLe 1 5 ∧ pLe (-1000000) 1 ∧ pLe 5 1000000) ∧ (InR .i64 (1 + Sp.kn l x.snd.1 (5 - 1 + 1)) → (pLe 0 (Sp.ka l x.snd.1) ∧ pLe 1 4 ∧ pLe (-1000000) 1 ∧ pLe 4 1000000) ∧ (InR .i64 (1 + Sp.kn l (Sp.ka l x.snd.1) (4 - 1 + 1)) → True ∧ ((InR .i64 (Sp.zI (m6_1 l a x) (Sp.kW l a)) ∧ InR .i64 (Sp.zI (m6_1 l a x) (Sp.kC l a)) ∧ InR .i64 (Sp.zI (m6_1 l a x) (Sp.kP l a)) ∧ ((WL [.int .u64, .int .i64] (Sp.zL (m6_1 l a x) (Sp.wH x.snd.2 (iWrap .u64 (1 + Sp.kn l x.snd.1 (5 - 1 + 1))) (1 + Sp.kn l (Sp.ka l x.snd.1) (4 - 1 + 1)))))) ∧ ((WL [.int .i64, .int .u64, .int .i64, .int .i64] (Sp.zL (m6_1 l a x) []))) ∧ True) ∧ InR .i64 (m6_1 l a x) ∧ True → (bEq (m6_1 l a x) 0 = true → InR .i64 (iSub x.1 1) ∧ (true = true ∧ (fun z => z = z) [SV.ref 0 0, SV.ref 1 0, SV.ref 2 0, SV.undef, SV.undef, SV.undef, SV.undef, SV.undef]) ∧ (fun z => z = z) [HB.gone, HB.box [SV.lit .i64 0, SV.lit .i64 0, SV.lit .i64 0, SV.nils, SV.nils] 31, HB.gone] ∧ ∃ (y : Int × Int × List (List C)), Sp.hoI l a y.1 y.snd.1 y.snd.2 ∧ true = true ∧ ((m6_2 ∧ iSub x.1 1 = y.1) ∧ True) ∧ (((((m6_5 l)) ∧ (m6_2 ∧ Sp.ka l (Sp.ka l x.snd.1) = y.snd.1) ∧ True) ∧ 64 = 64) ∧ (((m6_2 ∧ Sp.zI (m6_1 l a x) (Sp.kW l a) = Sp.kW l a) ∧ (m6_2 ∧ Sp.zI (m6_1 l a x) (Sp.kC l a) = Sp.kC l a) ∧ (m6_2 ∧ Sp.zI (m6_1 l a x) (Sp.kP l a) = Sp.kP l a) ∧ (m6_4 ∧ Sp.zL (m6_1 l a x) (Sp.wH x.snd.2 (iWrap .u64 (1 + Sp.kn l x.snd.1 (5 - 1 + 1))) (1 + Sp.kn l (Sp.ka l x.snd.1) (4 - 1 + 1))) = y.snd.2) ∧ (m6_3 = m6_3 ∧ Sp.zL (m6_1 l a x) [] = []) ∧ True) ∧ 31 = 31) ∧ True) ∧ y.1.toNat < x.1.toNat) ∧ (bEq (m6_1 l a x) 0 = false → InR .i64 (iSub x.1 1) ∧ (true = true ∧ (fun z => z = z) [SV.ref 0 0, SV.ref 1 0, SV.ref 2 0, SV.undef, SV.undef, SV.undef, SV.undef, SV.undef]) ∧ (fun z => z = z) [HB.gone, HB.box [SV.lit .i64 0, SV.lit .i64 0, SV.lit .i64 0, SV.nils, SV.nils] 31, HB.gone] ∧ ∃ (y : Int × Int × List (List C)), Sp.hoI l a y.1 y.snd.1 y.snd.2 ∧ true = true ∧ ((m6_2 ∧ iSub x.1 1 = y.1) ∧ True) ∧ (((((m6_5 l)) ∧ (m6_2 ∧ Sp.ka l (Sp.ka l x.snd.1) = y.snd.1) ∧ True) ∧ 64 = 64) ∧ (((m6_2 ∧ Sp.kW l a = Sp.kW l a) ∧ (m6_2 ∧ Sp.kC l a = Sp.kC l a) ∧ (m6_2 ∧ Sp.kP l a = Sp.kP l a) ∧ (m6_4 ∧ x.snd.2 = y.snd.2) ∧ (m6_3 = m6_3 ∧ ([] : List (List C)) = []) ∧ True) ∧ 31 = 31) ∧ True) ∧ y.1.toNat < x.1.toNat))))) ∧ (bLt 0 x.1 = false → (pLe 0 x.snd.1 ∧ pLe 0 6 ∧ pLe (-1000000) 0 ∧ pLe 6 1000000) ∧ (InR .i64 (0 + Sp.kn l x.snd.1 (6 - 0 + 1)) → (∃ (x_1 : Int × Int × List (List C)), Sp.adI l a x_1.1 x_1.snd.1 x_1.snd.2 ∧ true = true ∧ ((m6_2 ∧ 0 + Sp.kn l x.snd.1 (6 - 0 + 1) = x_1.1) ∧ True) ∧ ((((m6_5 l)) ∧ (m6_2 ∧ Sp.ka l x.snd.1 = x_1.snd.1) ∧ True) ∧ 64 = 64) ∧ (((m6_2 ∧ Sp.kW l a = Sp.kW l a) ∧ (m6_2 ∧ Sp.kC l a = Sp.kC l a) ∧ (m6_2 ∧ Sp.kP l a = Sp.kP l a) ∧ (m6_4 ∧ x.snd.2 = Sp.kD l a) ∧ (m6_3 = m6_3 ∧ [] = x_1.snd.2) ∧ True) ∧ 31 = 31) ∧ True) ∧ (∀ (x : Int × Int × List (List C)), true = true ∧ true = true) ∧ ∀ (x_1 : Int × Int × List (List C)), Sp.adI l a x_1.1 x_1.snd.1 x_1.snd.2 → InR .i64 x_1.1 ∧ True → (((WL [.int .i64] l)) ∧ InR .i64 x_1.snd.1 ∧ True) ∧ (InR .i64 (Sp.kW l a) ∧ InR .i64 (Sp.kC l a) ∧ InR .i64 (Sp.kP l a) ∧ ((WL [.int .u64, .int .i64] (Sp.kD l a))) ∧ ((WL [.int .i64, .int .u64, .int .i64, .int .i64] x_1.snd.2)) ∧ True) ∧ True → (bLt 0 x_1.1 = true → (pLe 0 x_1.snd.1 ∧ True) ∧ (InR .i64 (Sp.s0 l x_1.snd.1) ∧ InR .u64 (Sp.s1 l x_1.snd.1) ∧ InR .i64 (Sp.s2 l x_1.snd.1) ∧ InR .i64 (Sp.s3 l x_1.snd.1) ∧ True → (pLe 0 (Sp.ka4 l x_1.snd.1) ∧ pLe 1 40) ∧ (InR .i64 (Sp.kn l (Sp.ka4 l x_1.snd.1) 40) → True ∧ ((InR .i64 (Sp.zI (m6_0 l a x_1) (Sp.kW l a)) ∧ InR .i64 (Sp.zI (m6_0 l a x_1) (Sp.kC l a)) ∧ InR .i64 (Sp.zI (m6_0 l a x_1) (Sp.kP l a)) ∧ ((WL [.int .u64, .int .i64] (Sp.zL (m6_0 l a x_1) (Sp.kD l a)))) ∧ ((WL [.int .i64, .int .u64, .int .i64, .int .i64] (Sp.zL (m6_0 l a x_1) (Sp.wS x_1.snd.2 (Sp.s0 l x_1.snd.1) (Sp.s1 l x_1.snd.1) (Sp.s2 l x_1.snd.1) (Sp.kn l (Sp.ka4 l x_1.snd.1) 40))))) ∧ True) ∧ (InR .i64 (Sp.adK (Sp.kW l a) (Sp.kC l a) (Sp.kP l a) (Sp.kD l a) x_1.snd.2 (Sp.s0 l x_1.snd.1) (Sp.s1 l x_1.snd.1) (Sp.s2 l x_1.snd.1) (Sp.s3 l x_1.snd.1) (Sp.kn l (Sp.ka4 l x_1.snd.1) 40)) ∧ InR .i64 (Sp.adN (Sp.kW l a) (Sp.kC l a) (Sp.kP l a) (Sp.kD l a) x_1.snd.2 (Sp.s0 l x_1.snd.1) (Sp.s1 l x_1.snd.1) (Sp.s2 l x_1.snd.1) (Sp.s3 l x_1.snd.1) (Sp.kn l (Sp.ka4 l x_1.snd.1) 40)) ∧ InR .i64 (Sp.adH (Sp.kW l a) (Sp.kC l a) (Sp.kP l a) (Sp.kD l a) x_1.snd.2 (Sp.s0 l x_1.snd.1) (Sp.s1 l x_1.snd.1) (Sp.s2 l x_1.snd.1) (Sp.s3 l x_1.snd.1) (Sp.kn l (Sp.ka4 l x_1.snd.1) 40)) ∧ True) ∧ InR .i64 (m6_0 l a x_1) ∧ True → (bEq (m6_0 l a x_1) 0 = true → InR .i64 (iSub x_1.1 1) ∧ (true = true ∧ (fun z => z = z) [SV.ref 0 0, SV.ref 1 0, SV.ref 2 0, SV.int .i64 x.1, SV.any, SV.any, SV.blit false, SV.any]) ∧ (fun z => z = z) [HB.gone, HB.box [SV.lit .i64 0, SV.lit .i64 0, SV.lit .i64 0, SV.nils, SV.nils] 31, HB.gone] ∧ ∃ (y : Int × Int × List (List C)), Sp.adI l a y.1 y.snd.1 y.snd.2 ∧ true = true ∧ ((m6_2 ∧ iSub x_1.1 1 = y.1) ∧ True) ∧ (((((m6_5 l)) ∧ (m6_2 ∧ Sp.ka l (Sp.ka4 l x_1.snd.1) = y.snd.1) ∧ True) ∧ 64 = 64) ∧ (((m6_2 ∧ Sp.zI (m6_0 l a x_1) (Sp.kW l a) = Sp.kW l a) ∧ (m6_2 ∧ Sp.zI (m6_0 l a x_1) (Sp.kC l a) = Sp.kC l a) ∧ (m6_2 ∧ Sp.zI (m6_0 l a x_1) (Sp.kP l a) = Sp.kP l a) ∧ (m6_4 ∧ Sp.zL (m6_0 l a x_1) (Sp.kD l a) = Sp.kD l a) ∧ (m6_3 = m6_3 ∧ Sp.zL (m6_0 l a x_1) (Sp.wS x_1.snd.2 (Sp.s0 l x_1.snd.1) (Sp.s1 l x_1.snd.1) (Sp.s2 l x_1.snd.1) (Sp.kn l (Sp.ka4 l x_1.snd.1) 40)) = y.snd.2) ∧ True) ∧ 31 = 31) ∧ True) ∧ y.1.toNat < x_1.1.toNat) ∧ (bEq (m6_0 l a x_1) 0 = false → InR .i64 (iSub x_1.1 1) ∧ (true = true ∧ (fun z => z = z) [SV.ref 0 0, SV.ref 1 0, SV.ref 2 0, SV.int .i64 x.1, SV.any, SV.any, SV.blit false, SV.any]) ∧ (fun z => z = z) [HB.gone, HB.box [SV.lit .i64 0, SV.lit .i64 0, SV.lit .i64 0, SV.nils, SV.nils] 31, HB.gone] ∧ ∃ (y : Int × Int × List (List C)), Sp.adI l a y.1 y.snd.1 y.snd.2 ∧ true = true ∧ ((m6_2 ∧ iSub x_1.1 1 = y.1) ∧ True) ∧ (((((m6_5 l)) ∧ (m6_2 ∧ Sp.ka l (Sp.ka4 l x_1.snd.1) = y.snd.1) ∧ True) ∧ 64 = 64) ∧ (((m6_2 ∧ Sp.kW l a = Sp.kW l a) ∧ (m6_2 ∧ Sp.kC l a = Sp.kC l a) ∧ (m6_2 ∧ Sp.kP l a = Sp.kP l a) ∧ (m6_4 ∧ Sp.kD l a = Sp.kD l a) ∧ (m6_3 = m6_3 ∧ x_1.snd.2 = y.snd.2) ∧ True) ∧ 31 = 31) ∧ True) ∧ y.1.toNat < x_1.1.toNat))))) ∧ (bLt 0 x_1.1 = false → 64 = 64 ∧ (l = l ∧ x_1.snd.1 = Sp.kA l a ∧ True) ∧ (Sp.kW l a = Sp.kW l a ∧ Sp.kC l a = Sp.kC l a ∧ Sp.kP l a = Sp.kP l a ∧ Sp.kD l a = Sp.kD l a ∧ x_1.snd.2 = Sp.kS l a ∧ True) ∧ True))))))))) := by kernel_rfl
theorem v6 (l : List (List C)) (a : Int) : Holds (Wfs [.agg [.sl [.int .i64] l, .int .i64 a]] → pLe 0 a ∧ True → B6 l a) := by
 refine ⟨fun hw hp => ?_⟩
 rw [e6]
 delta WL q0 m6_0 m6_1 m6_2 m6_3 m6_4 m6_5
 simp only [Wfs, Wf, InR, and_true] at hw
 simp only [eq_self, true_and, and_true, true_implies, implies_true, iAdd, iSub, iMul, iLen, bEq, bNe, bLt, bLe, bNot, pIn, pLe, pNe, InR, decide_eq_true_eq, decide_eq_false_iff_not, Bool.not_eq_true', Bool.not_eq_false', decide_eq_decide]
 simp only [pLe] at hp
 have hp := hp.1
 clear hw
 have a1 := Sp.ka_nn (l := l) hp
 have a2 := Sp.ka_nn (l := l) a1
 have a3 := Sp.ka_nn (l := l) a2
 have b1 : 0 ≤ Sp.kn l (Sp.ka l a) (12 - 1 + 1) ∧ Sp.kn l (Sp.ka l a) (12 - 1 + 1) < 12 := Sp.kn_bd (l := l) (a := Sp.ka l a) (n := 12) (by omega)
 have b2 := Sp.kn_bd (l := l) (a := Sp.ka l (Sp.ka l a)) (n := 3) (by omega)
 refine ⟨⟨hp, by omega, by omega, by omega⟩, fun _ => ⟨⟨a1, by omega, by omega, by omega⟩, fun _ => ⟨by omega, ⟨a2, by omega⟩, fun _ => ⟨⟨b2.1, b2.2⟩, fun _ => ⟨⟨a3, by omega, by omega, by omega⟩, fun _ => ⟨⟨(_, _, []), Sp.hoI_init hp, rfl, rfl, rfl, rfl, rfl, rfl⟩, ?_⟩⟩⟩⟩⟩⟩
 rintro ⟨k, b, ds⟩ hx hx1 _
 simp only at hx hx1 ⊢
 have b0 := hx.1
 have k3 := hx.2.2.1
 have i0 := Sp.kn_bd (l := l) (a := b) (n := 5) (by omega)
 have w1 : iWrap .u64 (1 + Sp.kn l b (5 - 1 + 1)) = 1 + Sp.kn l b 5 := Sp.w64 (x := 1 + Sp.kn l b 5) (by omega) (by omega)
 rw [w1]
 refine ⟨fun hk => ⟨⟨b0, by omega, by omega, by omega⟩, fun _ => ⟨⟨Sp.ka_nn b0, by omega, by omega, by omega⟩, fun _ _ => ⟨fun he => ⟨by omega, (k - 1, _, _), Sp.hoI_yes hx hk he, rfl, ⟨rfl, Sp.zI_0 he, Sp.zI_0 he, Sp.zI_0 he, Sp.zL_0 he, Sp.zL_0 he⟩, by simp only; omega⟩, fun he => ⟨by omega, (k - 1, _, _), Sp.hoI_no hx hk he, rfl, ⟨rfl, rfl⟩, by simp only; omega⟩⟩⟩⟩, fun hk => ?_⟩
 have hd := Sp.hoI_end hx hk
 have hd2 : ds = Sp.kD l a := congrArg Prod.snd hd
 refine ⟨⟨b0, by omega, by omega, by omega⟩, fun _ => ⟨⟨(_, _, []), Sp.adI_init b0 hd, rfl, rfl, hd2, rfl⟩, ?_⟩⟩
 rintro ⟨k2, b2, ss⟩ hy hy1 _
 simp only at hy hy1 ⊢
 have c0 := hy.1
 refine ⟨fun hk => ⟨c0, fun _ => ⟨⟨Sp.ka_nn (Sp.ka_nn (Sp.ka_nn (Sp.ka_nn c0))), by omega⟩, fun _ _ => ⟨fun he => ⟨by omega, (k2 - 1, _, _), Sp.adI_yes hy hk he, rfl, ⟨rfl, Sp.zI_0 he, Sp.zI_0 he, Sp.zI_0 he, Sp.zL_0 he, Sp.zL_0 he⟩, by simp only; omega⟩, fun he => ⟨by omega, (k2 - 1, _, _), Sp.adI_no hy hk he, rfl, ⟨rfl, rfl⟩, by simp only; omega⟩⟩⟩⟩, fun hk => ?_⟩
 have he := Sp.adI_end hy hk
 exact ⟨congrArg Prod.fst he, congrArg Prod.snd he⟩
theorem s6 : SoundCt Go.Proofs.Tryz.prog 6 ct6 :=
 contractHB followsMixed (look_sound (show Tb Go.Proofs.Tryz.prog tb6 from ⟨s7, ⟨s11, ⟨s9, ⟨s19, ⟨s20, trivial⟩⟩⟩⟩⟩)) (fun _ => false) (fun a => A6 ((cel 0 (arg 0 a)).list) ((cel 1 (arg 0 a)).int)) 8 6 ct6 rfl (by simp [ct6]) fun a => Eq.mp (by kernel_rfl) (v6 ((cel 0 (arg 0 a)).list) ((cel 1 (arg 0 a)).int))
end Go.Sx
namespace Go.Sx
def ct4 : Ct := { ps := [], rs := [(false, [.bool])], pre := fun _ => True, out := fun _ => [[.b true]] }
def tb4 : List (Nat × Ct) := [(17, ct17), (8, ct8), (18, ct18)]
def A4  : FuncId → Nat → LoopAnn := fun _ _ => LoopAnn.unroll 200
abbrev B4  : Prop := vcF Go.Proofs.Tryz.prog (look tb4) (fun _ => false) (A4) 6 4 [] [] (fun sv heap => Gives [(false, [.bool])] [[.b true]] sv heap)
def m4_0 : Int := (Sp.hoE 1 2000 64 [] [] 1 2)
def m4_2 : List (List C) := (Sp.zL m4_0 (Sp.inD [] 1 2))
def m4_1 : Int := (Sp.adE (Sp.zI m4_0 1) (Sp.zI m4_0 2000) (Sp.zI m4_0 64) m4_2 (Sp.zL m4_0 []) 1 1 2 10 5)
def m4_3 : Int := (Sp.ld (Sp.zI m4_0 1) (Sp.zI m4_0 2000) (Sp.zI m4_0 64) m4_2 (Sp.zL m4_0 []))
theorem e4  : B4 = (True ∧ ((InR .i64 (Sp.zI m4_0 1) ∧ InR .i64 (Sp.zI m4_0 2000) ∧ InR .i64 (Sp.zI m4_0 64) ∧ ((WL [.int .u64, .int .i64] m4_2)) ∧ ((WL [.int .i64, .int .u64, .int .i64, .int .i64] (Sp.zL m4_0 []))) ∧ True) ∧ InR .i64 m4_0 ∧ True → True ∧ ((InR .i64 (Sp.zI m4_1 (Sp.zI m4_0 1)) ∧ InR .i64 (Sp.zI m4_1 (Sp.zI m4_0 2000)) ∧ InR .i64 (Sp.zI m4_1 (Sp.zI m4_0 64)) ∧ ((WL [.int .u64, .int .i64] (Sp.zL m4_1 m4_2))) ∧ ((WL [.int .i64, .int .u64, .int .i64, .int .i64] (Sp.zL m4_1 (Sp.inS (Sp.zL m4_0 []) 1 1 2 5)))) ∧ True) ∧ (InR .i64 (Sp.adK (Sp.zI m4_0 1) (Sp.zI m4_0 2000) (Sp.zI m4_0 64) m4_2 (Sp.zL m4_0 []) 1 1 2 10 5) ∧ InR .i64 (Sp.adN (Sp.zI m4_0 1) (Sp.zI m4_0 2000) (Sp.zI m4_0 64) m4_2 (Sp.zL m4_0 []) 1 1 2 10 5) ∧ InR .i64 (Sp.adH (Sp.zI m4_0 1) (Sp.zI m4_0 2000) (Sp.zI m4_0 64) m4_2 (Sp.zL m4_0 []) 1 1 2 10 5) ∧ True) ∧ InR .i64 m4_1 ∧ True → (bEq m4_0 0 = true → True ∧ (InR .i64 m4_3 → (bEq m4_3 1424 = true → (bEq m4_1 10 = true → (bAnd (bEq (Sp.adK (Sp.zI m4_0 1) (Sp.zI m4_0 2000) (Sp.zI m4_0 64) m4_2 (Sp.zL m4_0 []) 1 1 2 10 5) 4) (bAnd (bEq (Sp.adN (Sp.zI m4_0 1) (Sp.zI m4_0 2000) (Sp.zI m4_0 64) m4_2 (Sp.zL m4_0 []) 1 1 2 10 5) 2748) (bEq (Sp.adH (Sp.zI m4_0 1) (Sp.zI m4_0 2000) (Sp.zI m4_0 64) m4_2 (Sp.zL m4_0 []) 1 1 2 10 5) 2000)) = true ∧ True) ∧ True) ∧ (bEq m4_1 10 = false → (false = true ∧ True) ∧ True)) ∧ (bEq m4_3 1424 = false → (false = true ∧ True) ∧ True))) ∧ (bEq m4_0 0 = false → (false = true ∧ True) ∧ True)))) := by kernel_rfl
theorem v4  : Holds (Wfs [] → True → B4) := by
 refine ⟨fun hw hp => ?_⟩
 rw [e4]
 delta WL m4_0 m4_2 m4_1 m4_3
 simp only [Wfs, Wf, InR, and_true] at hw
 simp only [eq_self, true_and, and_true, true_implies, implies_true, iAdd, iSub, iMul, iLen, bEq, bNe, bLt, bLe, bNot, pIn, pLe, pNe, InR, decide_eq_true_eq, decide_eq_false_iff_not, Bool.not_eq_true', Bool.not_eq_false', decide_eq_decide]
 simp only [Sp.sane1, Sp.zI0, Sp.zL0, Sp.sane2, Sp.sane3, Sp.sane4, Sp.sane5, Sp.sane6, Sp.sane7]
 exact fun _ _ => ⟨fun _ _ => ⟨fun _ => ⟨fun _ => by simp [bAnd], fun h => absurd trivial h⟩, fun h => absurd trivial h⟩, fun h => absurd trivial h⟩
theorem s4 : SoundCt Go.Proofs.Tryz.prog 4 ct4 :=
 contractH followsMixed (look_sound (show Tb Go.Proofs.Tryz.prog tb4 from ⟨s17, ⟨s8, ⟨s18, trivial⟩⟩⟩)) (fun _ => false) (fun _ => A4) 6 4 ct4 rfl (by simp [ct4]) fun a => Eq.mp (by kernel_rfl) (v4 )
end Go.Sx
