import Derived.Test.YtphaelepnjekoaaSxUse
import Derived.Test.YtphaelepnjekoaaS27g
import Derived.KernelRfl
set_option linter.unusedVariables false
set_option linter.unusedSimpArgs false
set_option maxRecDepth 100000
set_option maxHeartbeats 4000000
namespace Go
open Go.Sx
def Sp.md (v n : Int) : Int := v % n
def Sp.kn (l : List (List C)) (a n : Int) : Int := if a < (l.length : Int) then ((rGet l a).headD default).int % n else 0
def Sp.ka (l : List (List C)) (a : Int) : Int := if a < (l.length : Int) then a + 1 else a
end Go
namespace Go.Sx
def ct11 : Ct := { ps := [(false, [.int .i64]), (false, [.int .i64])], rs := [(false, [.int .i64])], pre := fun a => pLe 1 (cel 0 (arg 1 a)).int ∧ True, out := fun a => [[.i (Sp.md (cel 0 (arg 0 a)).int (cel 0 (arg 1 a)).int)]] }
def tb11 : List (Nat × Ct) := []
def A11  : FuncId → Nat → LoopAnn := fun _ _ => LoopAnn.unroll 200
abbrev B11 (v : Int) (n : Int) : Prop := vcF Go.Proofs.Try.prog (look tb11) (fun _ => false) (A11) 6 11 [.int .i64 v, .int .i64 n] [] (fun sv heap => Gives [(false, [.int .i64])] [[.i (Sp.md v n)]] sv heap)
theorem e11 (v : Int) (n : Int) : B11 v n = (pNe n 0 ∧ (bLt (iRem v n) 0 = true → InR .i64 (iAdd (iRem v n) n) ∧ (iAdd (iRem v n) n = Sp.md v n ∧ True) ∧ True) ∧ (bLt (iRem v n) 0 = false → (iRem v n = Sp.md v n ∧ True) ∧ True)) := by kernel_rfl
theorem v11 (v : Int) (n : Int) : Holds (Wfs [.int .i64 v, .int .i64 n] → pLe 1 n ∧ True → B11 v n) := by
  refine ⟨fun hw hp => ?_⟩
  rw [e11]
  have hn := hp.1
  simp only [pLe] at hn
  simp only [Wfs, Wf, InR, and_true] at hw
  have b0 := Int.emod_nonneg v (show n ≠ 0 by omega)
  have b1 := Int.emod_lt_of_pos v (show 0 < n by omega)
  have e := Int.tmod_eq_emod (a := v) (b := n)
  simp only [iRem, iAdd, bLt, pNe, InR, Sp.md, decide_eq_true_eq, decide_eq_false_iff_not, and_true]
  rw [e]
  split
  · exact ⟨by omega, fun h => by omega, fun h => by omega⟩
  · rw [show (n.natAbs : Int) = n by omega]
    exact ⟨by omega, fun h => by omega, fun h => by omega⟩
theorem s11 : SoundCt Go.Proofs.Try.prog 11 ct11 :=
  contractH followsMixed (look_sound (show Tb Go.Proofs.Try.prog tb11 from trivial)) (fun _ => false) (fun _ => A11) 6 11 ct11 rfl (by simp [ct11]) fun a => Eq.mp (by kernel_rfl) (v11 ((cel 0 (arg 0 a)).int) ((cel 0 (arg 1 a)).int))
end Go.Sx
namespace Go.Sx
def ct61 : Ct := { ps := [], rs := [(false, [.bool])], pre := fun _ => True, out := fun a => [[.l (cel 0 (arg 0 a)).list, .i (cel 1 (arg 0 a)).int], [.b (decide ((cel 1 (arg 0 a)).int < ((cel 0 (arg 0 a)).list.length : Int)))]], bx := some (68, [.sl [.int .i64], .int .i64]) }
def tb61 : List (Nat × Ct) := []
def A61  : FuncId → Nat → LoopAnn := fun _ _ => LoopAnn.unroll 200
abbrev B61 (l : List (List C)) (a : Int) : Prop := vcF Go.Proofs.Try.prog (look tb61) (fun _ => false) (A61) 6 61 [.ref 0 0] [.box [.sl [.int .i64] l, .int .i64 a] 68] (fun sv heap => GivesB 68 [.sl [.int .i64], .int .i64] [(false, [.bool])] [[.l l, .i a], [.b (decide (a < (l.length : Int)))]] sv heap)
theorem e61 (l : List (List C)) (a : Int) : B61 l a = (pLe (iLen l) 9223372036854775807 → 68 = 68 ∧ (l = l ∧ a = a ∧ True) ∧ (bLt a (iLen l) = decide (a < ↑l.length) ∧ True) ∧ True) := by kernel_rfl
theorem v61 (l : List (List C)) (a : Int) : Holds (Wfs [.agg [.sl [.int .i64] l, .int .i64 a]] → True → B61 l a) := by
  refine ⟨fun hw hp => ?_⟩
  rw [e61]
  exact fun _ => ⟨rfl, ⟨rfl, rfl, trivial⟩, ⟨rfl, trivial⟩, trivial⟩
theorem s61 : SoundCt Go.Proofs.Try.prog 61 ct61 :=
  contractHB followsMixed (look_sound (show Tb Go.Proofs.Try.prog tb61 from trivial)) (fun _ => false) (fun _ => A61) 6 61 ct61 rfl (by simp [ct61]) fun a => Eq.mp (by kernel_rfl) (v61 ((cel 0 (arg 0 a)).list) ((cel 1 (arg 0 a)).int))
end Go.Sx
namespace Go.Sx
def ct33 : Ct := { ps := [(false, [.int .i64])], rs := [(false, [.int .i64])], pre := fun a => pLe 0 (cel 1 (arg 0 a)).int ∧ pLe 1 (cel 0 (arg 1 a)).int, out := fun a => [[.l (cel 0 (arg 0 a)).list, .i (Sp.ka (cel 0 (arg 0 a)).list (cel 1 (arg 0 a)).int)], [.i (Sp.kn (cel 0 (arg 0 a)).list (cel 1 (arg 0 a)).int (cel 0 (arg 1 a)).int)]], bx := some (68, [.sl [.int .i64], .int .i64]) }
def tb33 : List (Nat × Ct) := [(61, ct61), (11, ct11)]
def A33  : FuncId → Nat → LoopAnn := fun _ _ => LoopAnn.unroll 200
abbrev B33 (l : List (List C)) (a : Int) (n : Int) : Prop := vcF Go.Proofs.Try.prog (look tb33) (fun _ => false) (A33) 6 33 [.ref 0 0, .int .i64 n] [.box [.sl [.int .i64] l, .int .i64 a] 68] (fun sv heap => GivesB 68 [.sl [.int .i64], .int .i64] [(false, [.int .i64])] [[.l l, .i (Sp.ka l a)], [.i (Sp.kn l a n)]] sv heap)
theorem e33 (l : List (List C)) (a : Int) (n : Int) : B33 l a n = (True ∧ (True → True ∧ (bNot (decide (a < ↑l.length)) = true → 68 = 68 ∧ (l = l ∧ a = Sp.ka l a ∧ True) ∧ (0 = Sp.kn l a n ∧ True) ∧ True) ∧ (bNot (decide (a < ↑l.length)) = false → InR .i64 (iAdd a 1) ∧ InR .i64 (iSub (iAdd a 1) 1) ∧ pIn 0 (iLen l) (iSub (iAdd a 1) 1) ∧ (InR .i64 (q0 (rGet l (iSub (iAdd a 1) 1))) → (pLe 1 n ∧ True) ∧ (InR .i64 (Sp.md (q0 (rGet l (iSub (iAdd a 1) 1))) n) → 68 = 68 ∧ (l = l ∧ iAdd a 1 = Sp.ka l a ∧ True) ∧ (Sp.md (q0 (rGet l (iSub (iAdd a 1) 1))) n = Sp.kn l a n ∧ True) ∧ True))))) := by kernel_rfl
theorem v33 (l : List (List C)) (a : Int) (n : Int) : Holds (Wfs [.agg [.sl [.int .i64] l, .int .i64 a], .int .i64 n] → pLe 0 a ∧ pLe 1 n → B33 l a n) := by
  refine ⟨fun hw hp => ?_⟩
  rw [e33]
  unfold q0
  simp only [pLe] at hp
  simp only [Wfs, Wf, InR, and_true] at hw
  simp only [iAdd, iSub, iLen, bNot, eq_self, true_and, and_true, true_implies, Bool.not_eq_true', Bool.not_eq_false', decide_eq_true_eq, decide_eq_false_iff_not, Sp.ka, Sp.kn, Sp.md, InR, pLe]
  have hm : maxLen = 9223372036854775807 := rfl
  rw [hm] at hw
  rw [show a + 1 - 1 = a by omega]
  refine ⟨fun h => ?_, fun h => ?_⟩
  · rw [if_neg h, if_neg h]; exact ⟨rfl, rfl⟩
  · rw [if_pos h, if_pos h]
    exact ⟨by omega, by omega, ⟨by omega, by omega⟩, fun _ => ⟨by omega, fun _ => ⟨rfl, rfl⟩⟩⟩
theorem s33 : SoundCt Go.Proofs.Try.prog 33 ct33 :=
  contractHB followsMixed (look_sound (show Tb Go.Proofs.Try.prog tb33 from ⟨s61, ⟨s11, trivial⟩⟩)) (fun _ => false) (fun _ => A33) 6 33 ct33 rfl (by simp [ct33]) fun a => Eq.mp (by kernel_rfl) (v33 ((cel 0 (arg 0 a)).list) ((cel 1 (arg 0 a)).int) ((cel 0 (arg 1 a)).int))
end Go.Sx
namespace Go
open Go.Sx
theorem Sp.ka_nn {l : List (List C)} {a : Int} (h : 0 ≤ a) : 0 ≤ Sp.ka l a := by unfold Sp.ka; split <;> omega
theorem Sp.kn_bd {l : List (List C)} {a n : Int} (h : 1 ≤ n) : 0 ≤ Sp.kn l a n ∧ Sp.kn l a n < n := by
  unfold Sp.kn
  split
  · exact ⟨Int.emod_nonneg _ (by omega), Int.emod_lt_of_pos _ (by omega)⟩
  · omega
end Go
namespace Go.Sx
def ct32 : Ct := { ps := [(false, [.int .i64]), (false, [.int .i64])], rs := [(false, [.int .i64])], pre := fun a => pLe 0 (cel 1 (arg 0 a)).int ∧ pLe (cel 0 (arg 1 a)).int (cel 0 (arg 2 a)).int ∧ pLe (-1000000) (cel 0 (arg 1 a)).int ∧ pLe (cel 0 (arg 2 a)).int 1000000, out := fun a => [[.l (cel 0 (arg 0 a)).list, .i (Sp.ka (cel 0 (arg 0 a)).list (cel 1 (arg 0 a)).int)], [.i ((cel 0 (arg 1 a)).int + Sp.kn (cel 0 (arg 0 a)).list (cel 1 (arg 0 a)).int ((cel 0 (arg 2 a)).int - (cel 0 (arg 1 a)).int + 1))]], bx := some (68, [.sl [.int .i64], .int .i64]) }
def tb32 : List (Nat × Ct) := [(33, ct33)]
def A32  : FuncId → Nat → LoopAnn := fun _ _ => LoopAnn.unroll 200
abbrev B32 (l : List (List C)) (a : Int) (n : Int) (m : Int) : Prop := vcF Go.Proofs.Try.prog (look tb32) (fun _ => false) (A32) 6 32 [.ref 0 0, .int .i64 n, .int .i64 m] [.box [.sl [.int .i64] l, .int .i64 a] 68] (fun sv heap => GivesB 68 [.sl [.int .i64], .int .i64] [(false, [.int .i64])] [[.l l, .i (Sp.ka l a)], [.i (n + Sp.kn l a (m - n + 1))]] sv heap)
theorem e32 (l : List (List C)) (a : Int) (n : Int) (m : Int) : B32 l a n m = (InR .i64 (iSub m n) ∧ InR .i64 (iAdd (iSub m n) 1) ∧ (pLe 0 a ∧ pLe 1 (iAdd (iSub m n) 1)) ∧ (InR .i64 (Sp.kn l a (iAdd (iSub m n) 1)) → InR .i64 (iAdd n (Sp.kn l a (iAdd (iSub m n) 1))) ∧ 68 = 68 ∧ (l = l ∧ Sp.ka l a = Sp.ka l a ∧ True) ∧ (iAdd n (Sp.kn l a (iAdd (iSub m n) 1)) = n + Sp.kn l a (m - n + 1) ∧ True) ∧ True)) := by kernel_rfl
theorem v32 (l : List (List C)) (a : Int) (n : Int) (m : Int) : Holds (Wfs [.agg [.sl [.int .i64] l, .int .i64 a], .int .i64 n, .int .i64 m] → pLe 0 a ∧ pLe n m ∧ pLe (-1000000) n ∧ pLe m 1000000 → B32 l a n m) := by
  refine ⟨fun hw hp => ?_⟩
  rw [e32]
  simp only [pLe] at hp
  have b := Sp.kn_bd (l := l) (a := a) (n := m - n + 1) (by omega)
  simp only [iAdd, iSub, eq_self, true_and, and_true, true_implies, InR, pLe]
  exact ⟨by omega, by omega, ⟨by omega, by omega⟩, fun _ => by omega⟩
theorem s32 : SoundCt Go.Proofs.Try.prog 32 ct32 :=
  contractHB followsMixed (look_sound (show Tb Go.Proofs.Try.prog tb32 from ⟨s33, trivial⟩)) (fun _ => false) (fun _ => A32) 6 32 ct32 rfl (by simp [ct32]) fun a => Eq.mp (by kernel_rfl) (v32 ((cel 0 (arg 0 a)).list) ((cel 1 (arg 0 a)).int) ((cel 0 (arg 1 a)).int) ((cel 0 (arg 2 a)).int))
end Go.Sx
namespace Go
open Go.Sx
def Sp.ka2 (l : List (List C)) (a : Int) : Int := Sp.ka l (Sp.ka l a)
def Sp.ka3 (l : List (List C)) (a : Int) : Int := Sp.ka l (Sp.ka2 l a)
def Sp.ka4 (l : List (List C)) (a : Int) : Int := Sp.ka l (Sp.ka3 l a)
def Sp.ka5 (l : List (List C)) (a : Int) : Int := Sp.ka l (Sp.ka4 l a)
def Sp.kW (l : List (List C)) (a : Int) : Int := 1 + Sp.kn l a 4
def Sp.kC (l : List (List C)) (a : Int) : Int := (1 + Sp.kn l (Sp.ka l a) 12) * 2000
def Sp.kP (l : List (List C)) (a : Int) : Int := Sp.c0 (rGet [[.i 16], [.i 64], [.i 128]] (Sp.kn l (Sp.ka2 l a) 3))
def Sp.s0 (l : List (List C)) (a : Int) : Int := 0 + Sp.kn l a 10
def Sp.s1 (l : List (List C)) (a : Int) : Int := 0 + Sp.kn l (Sp.ka l a) 6
def Sp.s2 (l : List (List C)) (a : Int) : Int := 0 + Sp.kn l (Sp.ka2 l a) 10
def Sp.s3 (l : List (List C)) (a : Int) : Int := Sp.kn l (Sp.ka3 l a) 60
def Sp.hoL (w c p : Int) (l : List (List C)) (n : Nat) (z : Int × List (List C)) : Int × List (List C) :=
  match n with
  | 0 => z
  | k + 1 => Sp.hoL w c p l k (Sp.ka2 l z.1, bif decide (Sp.hoE w c p z.2 [] (1 + Sp.kn l z.1 5) (1 + Sp.kn l (Sp.ka l z.1) 4) = 0) then Sp.wH z.2 (1 + Sp.kn l z.1 5) (1 + Sp.kn l (Sp.ka l z.1) 4) else z.2)
def Sp.adL (w c p : Int) (ds l : List (List C)) (n : Nat) (z : Int × List (List C)) : Int × List (List C) :=
  match n with
  | 0 => z
  | k + 1 => Sp.adL w c p ds l k (Sp.ka5 l z.1, bif decide (Sp.adE w c p ds z.2 (Sp.s0 l z.1) (Sp.s1 l z.1) (Sp.s2 l z.1) (Sp.s3 l z.1) (Sp.kn l (Sp.ka4 l z.1) 40) = 0) then Sp.wS z.2 (Sp.s0 l z.1) (Sp.s1 l z.1) (Sp.s2 l z.1) (Sp.kn l (Sp.ka4 l z.1) 40) else z.2)
def Sp.kH (l : List (List C)) (a : Int) : Int × List (List C) := Sp.hoL (Sp.kW l a) (Sp.kC l a) (Sp.kP l a) l (0 + Sp.kn l (Sp.ka3 l a) 4).toNat (Sp.ka4 l a, [])
def Sp.kB (l : List (List C)) (a : Int) : Int × List (List C) := Sp.adL (Sp.kW l a) (Sp.kC l a) (Sp.kP l a) (Sp.kH l a).2 l (0 + Sp.kn l (Sp.kH l a).1 7).toNat (Sp.ka l (Sp.kH l a).1, [])
def Sp.kD (l : List (List C)) (a : Int) : List (List C) := (Sp.kH l a).2
def Sp.kS (l : List (List C)) (a : Int) : List (List C) := (Sp.kB l a).2
def Sp.kA (l : List (List C)) (a : Int) : Int := (Sp.kB l a).1
def Sp.hoI (l : List (List C)) (a k b : Int) (ds : List (List C)) : Prop := 0 ≤ b ∧ 0 ≤ k ∧ k ≤ 3 ∧ (ds.length : Int) + k ≤ 3 ∧ Sp.hoL (Sp.kW l a) (Sp.kC l a) (Sp.kP l a) l k.toNat (b, ds) = Sp.kH l a
def Sp.adI (l : List (List C)) (a k b : Int) (ss : List (List C)) : Prop := 0 ≤ b ∧ 0 ≤ k ∧ k ≤ 6 ∧ (ss.length : Int) + k ≤ 6 ∧ Sp.adL (Sp.kW l a) (Sp.kC l a) (Sp.kP l a) (Sp.kD l a) l k.toNat (b, ss) = Sp.kB l a
def Sp.isS (s0 s1 s2 s3 : Int) (x : List C) : Bool := decide (Sp.c0 x = s0 ∧ Sp.c1 x = s1 ∧ Sp.c2 x = s2 ∧ Sp.c3 x = s3)
def Sp.sat (ss : List (List C)) (s0 s1 s2 s3 : Int) : Bool := decide (0 ≤ Sp.idx (Sp.isS s0 s1 s2 s3) ss 0)
def Sp.eq2 (xs ys : List (List C)) (k : Int) : Bool := decide (Sp.c0 (rGet xs k) = Sp.c0 (rGet ys k) ∧ Sp.c1 (rGet xs k) = Sp.c1 (rGet ys k))
def Sp.sameB (w c p : Int) (ds ss : List (List C)) (w2 c2 p2 : Int) (ds2 ss2 : List (List C)) : Bool := decide ((w = w2 ∧ c = c2 ∧ p = p2) ∧ ds.length = ds2.length ∧ ss.length = ss2.length) && Sp.allI (Sp.eq2 ds ds2) ds.length && Sp.allI (Sp.eq4 ss ss2) ss.length
end Go
namespace Go
open Go.Sx
theorem Sp.wH_len {ds : List (List C)} {id ch : Int} : (Sp.wH ds id ch).length = ds.length + 1 := by
  unfold Sp.wH Sp.lead
  simp only [List.length_append, List.length_map, List.length_take, List.length_drop, List.length_singleton]
  have := (List.takeWhile_sublist (fun x => decide (Sp.c0 x < id)) (l := ds)).length_le
  omega
theorem Sp.wS_len {ss : List (List C)} {s0 s1 s2 s3 : Int} : (Sp.wS ss s0 s1 s2 s3).length = ss.length + 1 := by
  unfold Sp.wS Sp.lead
  simp only [List.length_append, List.length_map, List.length_take, List.length_drop, List.length_singleton]
  have := (List.takeWhile_sublist (fun x => decide (Sp.c0 x < s0)) (l := ss)).length_le
  omega
theorem Sp.zI_0 {e v : Int} (h : e = 0) : Sp.zI e v = v := by subst h; rfl
theorem Sp.zL_0 {e : Int} {v : List (List C)} (h : e = 0) : Sp.zL e v = v := by subst h; rfl
theorem Sp.w64 {x : Int} (h0 : 0 ≤ x) (h1 : x ≤ 1000) : iWrap .u64 x = x := by
  show IntKind.u64.wrap x = x
  rw [IntKind.wrap_u64]; omega
theorem Sp.hoI_init {l : List (List C)} {a : Int} (h : 0 ≤ a) : Sp.hoI l a (0 + Sp.kn l (Sp.ka3 l a) 4) (Sp.ka4 l a) [] := by
  have b := Sp.kn_bd (l := l) (a := Sp.ka3 l a) (n := 4) (by omega)
  exact ⟨Sp.ka_nn (Sp.ka_nn (Sp.ka_nn (Sp.ka_nn h))), by omega, by omega, by simp only [List.length_nil]; omega, rfl⟩
theorem Sp.hoI_yes {l ds : List (List C)} {a k b : Int} (h : Sp.hoI l a k b ds) (hk : 0 < k) (he : Sp.hoE (Sp.kW l a) (Sp.kC l a) (Sp.kP l a) ds [] (1 + Sp.kn l b 5) (1 + Sp.kn l (Sp.ka l b) 4) = 0) :
    Sp.hoI l a (k - 1) (Sp.ka2 l b) (Sp.wH ds (1 + Sp.kn l b 5) (1 + Sp.kn l (Sp.ka l b) 4)) := by
  obtain ⟨h0, h1, h2, h3, h4⟩ := h
  refine ⟨Sp.ka_nn (Sp.ka_nn h0), by omega, by omega, by rw [Sp.wH_len]; omega, ?_⟩
  rw [← h4, show k.toNat = (k - 1).toNat + 1 by omega]
  simp only [Sp.hoL, he, decide_true, cond_true]
theorem Sp.hoI_no {l ds : List (List C)} {a k b : Int} (h : Sp.hoI l a k b ds) (hk : 0 < k) (he : ¬ Sp.hoE (Sp.kW l a) (Sp.kC l a) (Sp.kP l a) ds [] (1 + Sp.kn l b 5) (1 + Sp.kn l (Sp.ka l b) 4) = 0) :
    Sp.hoI l a (k - 1) (Sp.ka2 l b) ds := by
  obtain ⟨h0, h1, h2, h3, h4⟩ := h
  refine ⟨Sp.ka_nn (Sp.ka_nn h0), by omega, by omega, by omega, ?_⟩
  rw [← h4, show k.toNat = (k - 1).toNat + 1 by omega]
  simp only [Sp.hoL, decide_eq_false he, cond_false]
theorem Sp.hoI_end {l ds : List (List C)} {a k b : Int} (h : Sp.hoI l a k b ds) (hk : ¬ 0 < k) : (b, ds) = Sp.kH l a := by
  obtain ⟨h0, h1, h2, h3, h4⟩ := h
  rw [← h4, show k.toNat = 0 by omega]; rfl
theorem Sp.adI_init {l ds : List (List C)} {a b : Int} (h : 0 ≤ b) (he : (b, ds) = Sp.kH l a) : Sp.adI l a (0 + Sp.kn l b 7) (Sp.ka l b) [] := by
  have bd := Sp.kn_bd (l := l) (a := b) (n := 7) (by omega)
  refine ⟨Sp.ka_nn h, by omega, by omega, by simp only [List.length_nil]; omega, ?_⟩
  unfold Sp.kB Sp.kD
  rw [← he]
theorem Sp.adI_yes {l ss : List (List C)} {a k b : Int} (h : Sp.adI l a k b ss) (hk : 0 < k) (he : Sp.adE (Sp.kW l a) (Sp.kC l a) (Sp.kP l a) (Sp.kD l a) ss (Sp.s0 l b) (Sp.s1 l b) (Sp.s2 l b) (Sp.s3 l b) (Sp.kn l (Sp.ka4 l b) 40) = 0) :
    Sp.adI l a (k - 1) (Sp.ka5 l b) (Sp.wS ss (Sp.s0 l b) (Sp.s1 l b) (Sp.s2 l b) (Sp.kn l (Sp.ka4 l b) 40)) := by
  obtain ⟨h0, h1, h2, h3, h4⟩ := h
  refine ⟨Sp.ka_nn (Sp.ka_nn (Sp.ka_nn (Sp.ka_nn (Sp.ka_nn h0)))), by omega, by omega, by rw [Sp.wS_len]; omega, ?_⟩
  rw [← h4, show k.toNat = (k - 1).toNat + 1 by omega]
  simp only [Sp.adL, he, decide_true, cond_true]
theorem Sp.adI_no {l ss : List (List C)} {a k b : Int} (h : Sp.adI l a k b ss) (hk : 0 < k) (he : ¬ Sp.adE (Sp.kW l a) (Sp.kC l a) (Sp.kP l a) (Sp.kD l a) ss (Sp.s0 l b) (Sp.s1 l b) (Sp.s2 l b) (Sp.s3 l b) (Sp.kn l (Sp.ka4 l b) 40) = 0) :
    Sp.adI l a (k - 1) (Sp.ka5 l b) ss := by
  obtain ⟨h0, h1, h2, h3, h4⟩ := h
  refine ⟨Sp.ka_nn (Sp.ka_nn (Sp.ka_nn (Sp.ka_nn (Sp.ka_nn h0)))), by omega, by omega, by omega, ?_⟩
  rw [← h4, show k.toNat = (k - 1).toNat + 1 by omega]
  simp only [Sp.adL, decide_eq_false he, cond_false]
theorem Sp.adI_end {l ss : List (List C)} {a k b : Int} (h : Sp.adI l a k b ss) (hk : ¬ 0 < k) : (b, ss) = Sp.kB l a := by
  obtain ⟨h0, h1, h2, h3, h4⟩ := h
  rw [← h4, show k.toNat = 0 by omega]; rfl
theorem Sp.hoL_len {w c p : Int} {l : List (List C)} : ∀ (n : Nat) (z : Int × List (List C)), (Sp.hoL w c p l n z).2.length ≤ z.2.length + n
  | 0, z => Nat.le_refl _
  | n + 1, z => by
    have := Sp.hoL_len (w := w) (c := c) (p := p) (l := l) n (Sp.ka2 l z.1, bif decide (Sp.hoE w c p z.2 [] (1 + Sp.kn l z.1 5) (1 + Sp.kn l (Sp.ka l z.1) 4) = 0) then Sp.wH z.2 (1 + Sp.kn l z.1 5) (1 + Sp.kn l (Sp.ka l z.1) 4) else z.2)
    refine Nat.le_trans this ?_
    simp only
    cases decide (Sp.hoE w c p z.2 [] (1 + Sp.kn l z.1 5) (1 + Sp.kn l (Sp.ka l z.1) 4) = 0)
    · simp only [cond_false]; omega
    · simp only [cond_true, Sp.wH_len]; omega
theorem Sp.adL_len {w c p : Int} {ds l : List (List C)} : ∀ (n : Nat) (z : Int × List (List C)), (Sp.adL w c p ds l n z).2.length ≤ z.2.length + n
  | 0, z => Nat.le_refl _
  | n + 1, z => by
    have := Sp.adL_len (w := w) (c := c) (p := p) (ds := ds) (l := l) n (Sp.ka5 l z.1, bif decide (Sp.adE w c p ds z.2 (Sp.s0 l z.1) (Sp.s1 l z.1) (Sp.s2 l z.1) (Sp.s3 l z.1) (Sp.kn l (Sp.ka4 l z.1) 40) = 0) then Sp.wS z.2 (Sp.s0 l z.1) (Sp.s1 l z.1) (Sp.s2 l z.1) (Sp.kn l (Sp.ka4 l z.1) 40) else z.2)
    refine Nat.le_trans this ?_
    simp only
    cases decide (Sp.adE w c p ds z.2 (Sp.s0 l z.1) (Sp.s1 l z.1) (Sp.s2 l z.1) (Sp.s3 l z.1) (Sp.kn l (Sp.ka4 l z.1) 40) = 0)
    · simp only [cond_false]; omega
    · simp only [cond_true, Sp.wS_len]; omega
theorem Sp.kD_len {l : List (List C)} {a : Int} : (Sp.kD l a).length ≤ 3 := by
  have b := Sp.kn_bd (l := l) (a := Sp.ka3 l a) (n := 4) (by omega)
  have h := Sp.hoL_len (w := Sp.kW l a) (c := Sp.kC l a) (p := Sp.kP l a) (l := l) (0 + Sp.kn l (Sp.ka3 l a) 4).toNat (Sp.ka4 l a, [])
  simp only [List.length_nil] at h
  unfold Sp.kD Sp.kH
  omega
theorem Sp.kS_len {l : List (List C)} {a : Int} : (Sp.kS l a).length ≤ 6 := by
  have b := Sp.kn_bd (l := l) (a := (Sp.kH l a).1) (n := 7) (by omega)
  have h := Sp.adL_len (w := Sp.kW l a) (c := Sp.kC l a) (p := Sp.kP l a) (ds := (Sp.kH l a).2) (l := l) (0 + Sp.kn l (Sp.kH l a).1 7).toNat (Sp.ka l (Sp.kH l a).1, [])
  simp only [List.length_nil] at h
  unfold Sp.kS Sp.kB
  omega
theorem Sp.sane1 : Sp.hoE 1 2000 64 [] [] 1 2 = 0 := by kernel_rfl
theorem Sp.sane2 : Sp.inD [] 1 2 = [[.i 1, .i 2]] := rfl
theorem Sp.sane3 : Sp.adE 1 2000 64 [[.i 1, .i 2]] [] 1 1 2 10 5 = 10 := by kernel_rfl
theorem Sp.sane4 : Sp.adN 1 2000 64 [[.i 1, .i 2]] [] 1 1 2 10 5 = 2748 := by kernel_rfl
theorem Sp.sane5 : Sp.ld 1 2000 64 [[.i 1, .i 2]] [] = 1424 := by kernel_rfl
theorem Sp.sane6 : Sp.adK 1 2000 64 [[.i 1, .i 2]] [] 1 1 2 10 5 = 4 := by kernel_rfl
theorem Sp.sane7 : Sp.adH 1 2000 64 [[.i 1, .i 2]] [] 1 1 2 10 5 = 2000 := by kernel_rfl
theorem Sp.zI0 {v : Int} : Sp.zI 0 v = v := rfl
theorem Sp.zL0 {v : List (List C)} : Sp.zL 0 v = v := rfl
end Go
namespace Go.Sx
def ct19 : Ct := { ps := [], rs := [(true, [.int .i64, .int .u64, .int .i64, .int .i64])], pre := fun a => pLe 0 (cel 1 (arg 0 a)).int ∧ True, out := fun a => [[.l (cel 0 (arg 0 a)).list, .i (Sp.ka4 (cel 0 (arg 0 a)).list (cel 1 (arg 0 a)).int)], [.i (Sp.s0 (cel 0 (arg 0 a)).list (cel 1 (arg 0 a)).int), .i (Sp.s1 (cel 0 (arg 0 a)).list (cel 1 (arg 0 a)).int), .i (Sp.s2 (cel 0 (arg 0 a)).list (cel 1 (arg 0 a)).int), .i (Sp.s3 (cel 0 (arg 0 a)).list (cel 1 (arg 0 a)).int)]], bx := some (68, [.sl [.int .i64], .int .i64]) }
def tb19 : List (Nat × Ct) := [(33, ct33), (32, ct32)]
def A19  : FuncId → Nat → LoopAnn := fun _ _ => LoopAnn.unroll 200
abbrev B19 (l : List (List C)) (a : Int) : Prop := vcF Go.Proofs.Try.prog (look tb19) (fun _ => false) (A19) 6 19 [.ref 0 0] [.box [.sl [.int .i64] l, .int .i64 a] 68] (fun sv heap => GivesB 68 [.sl [.int .i64], .int .i64] [(true, [.int .i64, .int .u64, .int .i64, .int .i64])] [[.l l, .i (Sp.ka4 l a)], [.i (Sp.s0 l a), .i (Sp.s1 l a), .i (Sp.s2 l a), .i (Sp.s3 l a)]] sv heap)
theorem e19 (l : List (List C)) (a : Int) (Z1 : Int) (hZ1 : Z1 = Sp.ka l (Sp.ka l a)) : B19 l a = ((pLe 0 a ∧ pLe 0 9 ∧ pLe (-1000000) 0 ∧ pLe 9 1000000) ∧ (InR .i64 (0 + Sp.kn l a (9 - 0 + 1)) → (pLe 0 (Sp.ka l a) ∧ pLe 0 5 ∧ pLe (-1000000) 0 ∧ pLe 5 1000000) ∧ (InR .i64 (0 + Sp.kn l (Sp.ka l a) (5 - 0 + 1)) → (pLe 0 Z1 ∧ pLe 0 9 ∧ pLe (-1000000) 0 ∧ pLe 9 1000000) ∧ (InR .i64 (0 + Sp.kn l Z1 (9 - 0 + 1)) → (pLe 0 (Sp.ka l Z1) ∧ pLe 1 60) ∧ (InR .i64 (Sp.kn l (Sp.ka l Z1) 60) → 68 = 68 ∧ (l = l ∧ Sp.ka l (Sp.ka l Z1) = Sp.ka4 l a ∧ True) ∧ (0 + Sp.kn l a (9 - 0 + 1) = Sp.s0 l a ∧ iWrap .u64 (0 + Sp.kn l (Sp.ka l a) (5 - 0 + 1)) = Sp.s1 l a ∧ 0 + Sp.kn l Z1 (9 - 0 + 1) = Sp.s2 l a ∧ Sp.kn l (Sp.ka l Z1) 60 = Sp.s3 l a ∧ True) ∧ True))))) := by subst hZ1; kernel_rfl
theorem v19 (l : List (List C)) (a : Int) : Holds (Wfs [.agg [.sl [.int .i64] l, .int .i64 a]] → pLe 0 a ∧ True → B19 l a) := by
  refine ⟨fun hw hp => ?_⟩
  rw [e19 _ _ _ rfl]
  simp only [Wfs, Wf, InR, and_true] at hw
  simp only [eq_self, true_and, and_true, true_implies, implies_true, iAdd, iSub, iMul, iLen, bEq, bNe, bLt, bLe, bNot, pIn, pLe, pNe, InR, decide_eq_true_eq, decide_eq_false_iff_not, Bool.not_eq_true', Bool.not_eq_false', decide_eq_decide]
  simp only [pLe] at hp
  have hp := hp.1
  have a1 := Sp.ka_nn (l := l) hp
  have a2 := Sp.ka_nn (l := l) a1
  have a3 := Sp.ka_nn (l := l) a2
  have b1 := Sp.kn_bd (l := l) (a := Sp.ka l a) (n := 6) (by omega)
  have w1 : iWrap .u64 (0 + Sp.kn l (Sp.ka l a) (5 - 0 + 1)) = Sp.s1 l a := Sp.w64 (x := 0 + Sp.kn l (Sp.ka l a) 6) (by omega) (by omega)
  rw [w1]
  exact ⟨⟨hp, by omega, by omega, by omega⟩, fun _ => ⟨⟨a1, by omega, by omega, by omega⟩, fun _ => ⟨⟨a2, by omega, by omega, by omega⟩, fun _ => ⟨⟨a3, by omega⟩, fun _ => ⟨rfl, rfl, rfl, rfl, rfl⟩⟩⟩⟩⟩
theorem s19 : SoundCt Go.Proofs.Try.prog 19 ct19 :=
  contractHB followsMixed (look_sound (show Tb Go.Proofs.Try.prog tb19 from ⟨s33, ⟨s32, trivial⟩⟩)) (fun _ => false) (fun _ => A19) 6 19 ct19 rfl (by simp [ct19]) fun a => Eq.mp (by kernel_rfl) (v19 ((cel 0 (arg 0 a)).list) ((cel 1 (arg 0 a)).int))
end Go.Sx
namespace Go.Sx
def ct9 : Ct := { ps := [], rs := [(true, [.int .i64, .int .i64, .int .i64, .sl [.int .u64, .int .i64], .sl [.int .i64, .int .u64, .int .i64, .int .i64]])], pre := fun a => pLe 0 (cel 1 (arg 0 a)).int ∧ True, out := fun a => [[.l (cel 0 (arg 0 a)).list, .i (Sp.kA (cel 0 (arg 0 a)).list (cel 1 (arg 0 a)).int)], [.i (Sp.kW (cel 0 (arg 0 a)).list (cel 1 (arg 0 a)).int), .i (Sp.kC (cel 0 (arg 0 a)).list (cel 1 (arg 0 a)).int), .i (Sp.kP (cel 0 (arg 0 a)).list (cel 1 (arg 0 a)).int), .l (Sp.kD (cel 0 (arg 0 a)).list (cel 1 (arg 0 a)).int), .l (Sp.kS (cel 0 (arg 0 a)).list (cel 1 (arg 0 a)).int)]], bx := some (68, [.sl [.int .i64], .int .i64]) }
def tb9 : List (Nat × Ct) := [(33, ct33), (32, ct32), (19, ct19), (25, ct25), (28, ct28)]
def A9 (l : List (List C)) (a : Int) : FuncId → Nat → LoopAnn := fun _ ii => bif Nat.beq ii 3 then .on (fun sv0 => match sv0.tmps.getD 0 .undef, sv0.tmps.getD 3 .undef with | .ref dk _, .ref bb _ => .inv (Int × Int × List (List C)) (fun z => Sp.hoI l a z.1 z.2.1 z.2.2) (fun z => [(4, .int .i64 z.1)]) (fun z => [(dk, .box [.sl [.int .i64] l, .int .i64 z.2.1] 68), (bb, .box [.int .i64 (Sp.kW l a), .int .i64 (Sp.kC l a), .int .i64 (Sp.kP l a), .sl [.int .u64, .int .i64] (z.2.2), .sl [.int .i64, .int .u64, .int .i64, .int .i64] ([])] 28)]) [dk, bb] [0, 2, 3, 4, 5, 6, 7, 8, 10, 26, 41, 46, 60] (fun z => z.1.toNat) | _, _ => .unroll 0) else bif Nat.beq ii 9 then .on (fun sv0 => match sv0.tmps.getD 0 .undef, sv0.tmps.getD 3 .undef with | .ref dk _, .ref bb _ => .inv (Int × Int × List (List C)) (fun z => Sp.adI l a z.1 z.2.1 z.2.2) (fun z => [(7, .int .i64 z.1)]) (fun z => [(dk, .box [.sl [.int .i64] l, .int .i64 z.2.1] 68), (bb, .box [.int .i64 (Sp.kW l a), .int .i64 (Sp.kC l a), .int .i64 (Sp.kP l a), .sl [.int .u64, .int .i64] (Sp.kD l a), .sl [.int .i64, .int .u64, .int .i64, .int .i64] (z.2.2)] 28)]) [dk, bb] [0, 2, 3, 4, 5, 6, 7, 8, 10, 26, 41, 46, 60] (fun z => z.1.toNat) | _, _ => .unroll 0) else .unroll 0
abbrev B9 (l : List (List C)) (a : Int) : Prop := vcF Go.Proofs.Try.prog (look tb9) (fun _ => false) (A9 l a) 8 9 [.ref 0 0] [.box [.sl [.int .i64] l, .int .i64 a] 68] (fun sv heap => GivesB 68 [.sl [.int .i64], .int .i64] [(true, [.int .i64, .int .i64, .int .i64, .sl [.int .u64, .int .i64], .sl [.int .i64, .int .u64, .int .i64, .int .i64]])] [[.l l, .i (Sp.kA l a)], [.i (Sp.kW l a), .i (Sp.kC l a), .i (Sp.kP l a), .l (Sp.kD l a), .l (Sp.kS l a)]] sv heap)
theorem e9 (l : List (List C)) (a : Int) (Z1 : Int) (hZ1 : Z1 = Sp.kW l a) (Z2 : Int) (hZ2 : Z2 = Sp.kC l a) (Z3 : Int) (hZ3 : Z3 = Sp.kP l a) (Z4 : Int) (hZ4 : Z4 = Sp.ka l (Sp.ka l a)) (Z5 : List (List C)) (hZ5 : Z5 = Sp.kD l a) : B9 l a = ((pLe 0 a ∧ pLe 1 4 ∧ pLe (-1000000) 1 ∧ pLe 4 1000000) ∧ (InR .i64 (1 + Sp.kn l a (4 - 1 + 1)) → (pLe 0 (Sp.ka l a) ∧ pLe 1 12 ∧ pLe (-1000000) 1 ∧ pLe 12 1000000) ∧ (InR .i64 (1 + Sp.kn l (Sp.ka l a) (12 - 1 + 1)) → InR .i64 (iMul (1 + Sp.kn l (Sp.ka l a) (12 - 1 + 1)) 2000) ∧ (pLe 0 Z4 ∧ pLe 1 3) ∧ (InR .i64 (Sp.kn l Z4 3) → pIn 0 (↑3) (Sp.kn l Z4 3) ∧ (InR .i64 (q0 (rGet [[C.i 16], [C.i 64], [C.i 128]] (Sp.kn l Z4 3))) → (pLe 0 (Sp.ka l Z4) ∧ pLe 0 3 ∧ pLe (-1000000) 0 ∧ pLe 3 1000000) ∧ (InR .i64 (0 + Sp.kn l (Sp.ka l Z4) (3 - 0 + 1)) → (∃ (x : Int × Int × List (List C)), Sp.hoI l a x.1 x.snd.1 x.snd.2 ∧ true = true ∧ ((IntKind.i64 = IntKind.i64 ∧ 0 + Sp.kn l (Sp.ka l Z4) (3 - 0 + 1) = x.1) ∧ True) ∧ ((([Sh.int .i64] = [Sh.int .i64] ∧ l = l) ∧ (IntKind.i64 = IntKind.i64 ∧ Sp.ka l (Sp.ka l Z4) = x.snd.1) ∧ True) ∧ 68 = 68) ∧ (((IntKind.i64 = IntKind.i64 ∧ 1 + Sp.kn l a (4 - 1 + 1) = Sp.kW l a) ∧ (IntKind.i64 = IntKind.i64 ∧ iMul (1 + Sp.kn l (Sp.ka l a) (12 - 1 + 1)) 2000 = Sp.kC l a) ∧ (IntKind.i64 = IntKind.i64 ∧ (q0 (rGet [[C.i 16], [C.i 64], [C.i 128]] (Sp.kn l Z4 3))) = Sp.kP l a) ∧ x.snd.2 = [] ∧ ([] : List (List C)) = [] ∧ True) ∧ 28 = 28) ∧ True) ∧ (∀ (x : Int × Int × List (List C)), true = true ∧ true = true) ∧ ∀ (x : Int × Int × List (List C)), Sp.hoI l a x.1 x.snd.1 x.snd.2 → InR .i64 x.1 ∧ True → (((WL [.int .i64] l)) ∧ InR .i64 x.snd.1 ∧ True) ∧ (InR .i64 Z1 ∧ InR .i64 Z2 ∧ InR .i64 Z3 ∧ ((WL [.int .u64, .int .i64] x.snd.2)) ∧ (0 ≤ 9223372036854775807 ∧ ∀ (x : List C), x ∈ [] → WfCs [.int .i64, .int .u64, .int .i64, .int .i64] x) ∧ True) ∧ True → (bLt 0 x.1 = true → (pLe 0 x.snd.1 ∧ pLe 1 5 ∧ pLe (-1000000) 1 ∧ pLe 5 1000000) ∧ (InR .i64 (1 + Sp.kn l x.snd.1 (5 - 1 + 1)) → (pLe 0 (Sp.ka l x.snd.1) ∧ pLe 1 4 ∧ pLe (-1000000) 1 ∧ pLe 4 1000000) ∧ (InR .i64 (1 + Sp.kn l (Sp.ka l x.snd.1) (4 - 1 + 1)) → True ∧ ((InR .i64 (Sp.zI (Sp.hoE Z1 Z2 Z3 x.snd.2 [] (iWrap .u64 (1 + Sp.kn l x.snd.1 (5 - 1 + 1))) (1 + Sp.kn l (Sp.ka l x.snd.1) (4 - 1 + 1))) Z1) ∧ InR .i64 (Sp.zI (Sp.hoE Z1 Z2 Z3 x.snd.2 [] (iWrap .u64 (1 + Sp.kn l x.snd.1 (5 - 1 + 1))) (1 + Sp.kn l (Sp.ka l x.snd.1) (4 - 1 + 1))) Z2) ∧ InR .i64 (Sp.zI (Sp.hoE Z1 Z2 Z3 x.snd.2 [] (iWrap .u64 (1 + Sp.kn l x.snd.1 (5 - 1 + 1))) (1 + Sp.kn l (Sp.ka l x.snd.1) (4 - 1 + 1))) Z3) ∧ ((WL [.int .u64, .int .i64] (Sp.zL (Sp.hoE Z1 Z2 Z3 x.snd.2 [] (iWrap .u64 (1 + Sp.kn l x.snd.1 (5 - 1 + 1))) (1 + Sp.kn l (Sp.ka l x.snd.1) (4 - 1 + 1))) (Sp.wH x.snd.2 (iWrap .u64 (1 + Sp.kn l x.snd.1 (5 - 1 + 1))) (1 + Sp.kn l (Sp.ka l x.snd.1) (4 - 1 + 1)))))) ∧ ((WL [.int .i64, .int .u64, .int .i64, .int .i64] (Sp.zL (Sp.hoE Z1 Z2 Z3 x.snd.2 [] (iWrap .u64 (1 + Sp.kn l x.snd.1 (5 - 1 + 1))) (1 + Sp.kn l (Sp.ka l x.snd.1) (4 - 1 + 1))) []))) ∧ True) ∧ InR .i64 (Sp.hoE Z1 Z2 Z3 x.snd.2 [] (iWrap .u64 (1 + Sp.kn l x.snd.1 (5 - 1 + 1))) (1 + Sp.kn l (Sp.ka l x.snd.1) (4 - 1 + 1))) ∧ True → (bEq (Sp.hoE Z1 Z2 Z3 x.snd.2 [] (iWrap .u64 (1 + Sp.kn l x.snd.1 (5 - 1 + 1))) (1 + Sp.kn l (Sp.ka l x.snd.1) (4 - 1 + 1))) 0 = true → InR .i64 (iSub x.1 1) ∧ (true = true ∧ (fun z => z = z) [SV.ref 0 0, SV.ref 1 0, SV.ref 2 0, SV.undef, SV.undef, SV.undef, SV.undef, SV.undef]) ∧ (fun z => z = z) [HB.gone, HB.box [SV.lit .i64 0, SV.lit .i64 0, SV.lit .i64 0, SV.nils, SV.nils] 28, HB.gone] ∧ ∃ (y : Int × Int × List (List C)), Sp.hoI l a y.1 y.snd.1 y.snd.2 ∧ true = true ∧ ((IntKind.i64 = IntKind.i64 ∧ iSub x.1 1 = y.1) ∧ True) ∧ (((([Sh.int .i64] = [Sh.int .i64] ∧ l = l) ∧ (IntKind.i64 = IntKind.i64 ∧ Sp.ka l (Sp.ka l x.snd.1) = y.snd.1) ∧ True) ∧ 68 = 68) ∧ (((IntKind.i64 = IntKind.i64 ∧ Sp.zI (Sp.hoE Z1 Z2 Z3 x.snd.2 [] (iWrap .u64 (1 + Sp.kn l x.snd.1 (5 - 1 + 1))) (1 + Sp.kn l (Sp.ka l x.snd.1) (4 - 1 + 1))) Z1 = Sp.kW l a) ∧ (IntKind.i64 = IntKind.i64 ∧ Sp.zI (Sp.hoE Z1 Z2 Z3 x.snd.2 [] (iWrap .u64 (1 + Sp.kn l x.snd.1 (5 - 1 + 1))) (1 + Sp.kn l (Sp.ka l x.snd.1) (4 - 1 + 1))) Z2 = Sp.kC l a) ∧ (IntKind.i64 = IntKind.i64 ∧ Sp.zI (Sp.hoE Z1 Z2 Z3 x.snd.2 [] (iWrap .u64 (1 + Sp.kn l x.snd.1 (5 - 1 + 1))) (1 + Sp.kn l (Sp.ka l x.snd.1) (4 - 1 + 1))) Z3 = Sp.kP l a) ∧ ([Sh.int .u64, Sh.int .i64] = [Sh.int .u64, Sh.int .i64] ∧ Sp.zL (Sp.hoE Z1 Z2 Z3 x.snd.2 [] (iWrap .u64 (1 + Sp.kn l x.snd.1 (5 - 1 + 1))) (1 + Sp.kn l (Sp.ka l x.snd.1) (4 - 1 + 1))) (Sp.wH x.snd.2 (iWrap .u64 (1 + Sp.kn l x.snd.1 (5 - 1 + 1))) (1 + Sp.kn l (Sp.ka l x.snd.1) (4 - 1 + 1))) = y.snd.2) ∧ ([Sh.int .i64, Sh.int .u64, Sh.int .i64, Sh.int .i64] = [Sh.int .i64, Sh.int .u64, Sh.int .i64, Sh.int .i64] ∧ Sp.zL (Sp.hoE Z1 Z2 Z3 x.snd.2 [] (iWrap .u64 (1 + Sp.kn l x.snd.1 (5 - 1 + 1))) (1 + Sp.kn l (Sp.ka l x.snd.1) (4 - 1 + 1))) [] = []) ∧ True) ∧ 28 = 28) ∧ True) ∧ y.1.toNat < x.1.toNat) ∧ (bEq (Sp.hoE Z1 Z2 Z3 x.snd.2 [] (iWrap .u64 (1 + Sp.kn l x.snd.1 (5 - 1 + 1))) (1 + Sp.kn l (Sp.ka l x.snd.1) (4 - 1 + 1))) 0 = false → InR .i64 (iSub x.1 1) ∧ (true = true ∧ (fun z => z = z) [SV.ref 0 0, SV.ref 1 0, SV.ref 2 0, SV.undef, SV.undef, SV.undef, SV.undef, SV.undef]) ∧ (fun z => z = z) [HB.gone, HB.box [SV.lit .i64 0, SV.lit .i64 0, SV.lit .i64 0, SV.nils, SV.nils] 28, HB.gone] ∧ ∃ (y : Int × Int × List (List C)), Sp.hoI l a y.1 y.snd.1 y.snd.2 ∧ true = true ∧ ((IntKind.i64 = IntKind.i64 ∧ iSub x.1 1 = y.1) ∧ True) ∧ (((([Sh.int .i64] = [Sh.int .i64] ∧ l = l) ∧ (IntKind.i64 = IntKind.i64 ∧ Sp.ka l (Sp.ka l x.snd.1) = y.snd.1) ∧ True) ∧ 68 = 68) ∧ (((IntKind.i64 = IntKind.i64 ∧ Sp.kW l a = Sp.kW l a) ∧ (IntKind.i64 = IntKind.i64 ∧ Sp.kC l a = Sp.kC l a) ∧ (IntKind.i64 = IntKind.i64 ∧ Sp.kP l a = Sp.kP l a) ∧ ([Sh.int .u64, Sh.int .i64] = [Sh.int .u64, Sh.int .i64] ∧ x.snd.2 = y.snd.2) ∧ ([Sh.int .i64, Sh.int .u64, Sh.int .i64, Sh.int .i64] = [Sh.int .i64, Sh.int .u64, Sh.int .i64, Sh.int .i64] ∧ ([] : List (List C)) = []) ∧ True) ∧ 28 = 28) ∧ True) ∧ y.1.toNat < x.1.toNat))))) ∧ (bLt 0 x.1 = false → (pLe 0 x.snd.1 ∧ pLe 0 6 ∧ pLe (-1000000) 0 ∧ pLe 6 1000000) ∧ (InR .i64 (0 + Sp.kn l x.snd.1 (6 - 0 + 1)) → (∃ (x_1 : Int × Int × List (List C)), Sp.adI l a x_1.1 x_1.snd.1 x_1.snd.2 ∧ true = true ∧ ((IntKind.i64 = IntKind.i64 ∧ 0 + Sp.kn l x.snd.1 (6 - 0 + 1) = x_1.1) ∧ True) ∧ ((([Sh.int .i64] = [Sh.int .i64] ∧ l = l) ∧ (IntKind.i64 = IntKind.i64 ∧ Sp.ka l x.snd.1 = x_1.snd.1) ∧ True) ∧ 68 = 68) ∧ (((IntKind.i64 = IntKind.i64 ∧ Sp.kW l a = Sp.kW l a) ∧ (IntKind.i64 = IntKind.i64 ∧ Sp.kC l a = Sp.kC l a) ∧ (IntKind.i64 = IntKind.i64 ∧ Sp.kP l a = Sp.kP l a) ∧ ([Sh.int .u64, Sh.int .i64] = [Sh.int .u64, Sh.int .i64] ∧ x.snd.2 = Sp.kD l a) ∧ ([Sh.int .i64, Sh.int .u64, Sh.int .i64, Sh.int .i64] = [Sh.int .i64, Sh.int .u64, Sh.int .i64, Sh.int .i64] ∧ [] = x_1.snd.2) ∧ True) ∧ 28 = 28) ∧ True) ∧ (∀ (x : Int × Int × List (List C)), true = true ∧ true = true) ∧ ∀ (x_1 : Int × Int × List (List C)), Sp.adI l a x_1.1 x_1.snd.1 x_1.snd.2 → InR .i64 x_1.1 ∧ True → (((WL [.int .i64] l)) ∧ InR .i64 x_1.snd.1 ∧ True) ∧ (InR .i64 Z1 ∧ InR .i64 Z2 ∧ InR .i64 Z3 ∧ ((WL [.int .u64, .int .i64] Z5)) ∧ ((WL [.int .i64, .int .u64, .int .i64, .int .i64] x_1.snd.2)) ∧ True) ∧ True → (bLt 0 x_1.1 = true → (pLe 0 x_1.snd.1 ∧ True) ∧ (InR .i64 (Sp.s0 l x_1.snd.1) ∧ InR .u64 (Sp.s1 l x_1.snd.1) ∧ InR .i64 (Sp.s2 l x_1.snd.1) ∧ InR .i64 (Sp.s3 l x_1.snd.1) ∧ True → (pLe 0 (Sp.ka4 l x_1.snd.1) ∧ pLe 1 40) ∧ (InR .i64 (Sp.kn l (Sp.ka4 l x_1.snd.1) 40) → True ∧ ((InR .i64 (Sp.zI (Sp.adE Z1 Z2 Z3 Z5 x_1.snd.2 (Sp.s0 l x_1.snd.1) (Sp.s1 l x_1.snd.1) (Sp.s2 l x_1.snd.1) (Sp.s3 l x_1.snd.1) (Sp.kn l (Sp.ka4 l x_1.snd.1) 40)) Z1) ∧ InR .i64 (Sp.zI (Sp.adE Z1 Z2 Z3 Z5 x_1.snd.2 (Sp.s0 l x_1.snd.1) (Sp.s1 l x_1.snd.1) (Sp.s2 l x_1.snd.1) (Sp.s3 l x_1.snd.1) (Sp.kn l (Sp.ka4 l x_1.snd.1) 40)) Z2) ∧ InR .i64 (Sp.zI (Sp.adE Z1 Z2 Z3 Z5 x_1.snd.2 (Sp.s0 l x_1.snd.1) (Sp.s1 l x_1.snd.1) (Sp.s2 l x_1.snd.1) (Sp.s3 l x_1.snd.1) (Sp.kn l (Sp.ka4 l x_1.snd.1) 40)) Z3) ∧ ((WL [.int .u64, .int .i64] (Sp.zL (Sp.adE Z1 Z2 Z3 Z5 x_1.snd.2 (Sp.s0 l x_1.snd.1) (Sp.s1 l x_1.snd.1) (Sp.s2 l x_1.snd.1) (Sp.s3 l x_1.snd.1) (Sp.kn l (Sp.ka4 l x_1.snd.1) 40)) Z5))) ∧ ((WL [.int .i64, .int .u64, .int .i64, .int .i64] (Sp.zL (Sp.adE Z1 Z2 Z3 Z5 x_1.snd.2 (Sp.s0 l x_1.snd.1) (Sp.s1 l x_1.snd.1) (Sp.s2 l x_1.snd.1) (Sp.s3 l x_1.snd.1) (Sp.kn l (Sp.ka4 l x_1.snd.1) 40)) (Sp.wS x_1.snd.2 (Sp.s0 l x_1.snd.1) (Sp.s1 l x_1.snd.1) (Sp.s2 l x_1.snd.1) (Sp.kn l (Sp.ka4 l x_1.snd.1) 40))))) ∧ True) ∧ (InR .i64 (Sp.adK Z1 Z2 Z3 Z5 x_1.snd.2 (Sp.s0 l x_1.snd.1) (Sp.s1 l x_1.snd.1) (Sp.s2 l x_1.snd.1) (Sp.s3 l x_1.snd.1) (Sp.kn l (Sp.ka4 l x_1.snd.1) 40)) ∧ InR .i64 (Sp.adN Z1 Z2 Z3 Z5 x_1.snd.2 (Sp.s0 l x_1.snd.1) (Sp.s1 l x_1.snd.1) (Sp.s2 l x_1.snd.1) (Sp.s3 l x_1.snd.1) (Sp.kn l (Sp.ka4 l x_1.snd.1) 40)) ∧ InR .i64 (Sp.adH Z1 Z2 Z3 Z5 x_1.snd.2 (Sp.s0 l x_1.snd.1) (Sp.s1 l x_1.snd.1) (Sp.s2 l x_1.snd.1) (Sp.s3 l x_1.snd.1) (Sp.kn l (Sp.ka4 l x_1.snd.1) 40)) ∧ True) ∧ InR .i64 (Sp.adE Z1 Z2 Z3 Z5 x_1.snd.2 (Sp.s0 l x_1.snd.1) (Sp.s1 l x_1.snd.1) (Sp.s2 l x_1.snd.1) (Sp.s3 l x_1.snd.1) (Sp.kn l (Sp.ka4 l x_1.snd.1) 40)) ∧ True → (bEq (Sp.adE Z1 Z2 Z3 Z5 x_1.snd.2 (Sp.s0 l x_1.snd.1) (Sp.s1 l x_1.snd.1) (Sp.s2 l x_1.snd.1) (Sp.s3 l x_1.snd.1) (Sp.kn l (Sp.ka4 l x_1.snd.1) 40)) 0 = true → InR .i64 (iSub x_1.1 1) ∧ (true = true ∧ (fun z => z = z) [SV.ref 0 0, SV.ref 1 0, SV.ref 2 0, SV.int .i64 x.1, SV.any, SV.any, SV.blit false, SV.any]) ∧ (fun z => z = z) [HB.gone, HB.box [SV.lit .i64 0, SV.lit .i64 0, SV.lit .i64 0, SV.nils, SV.nils] 28, HB.gone] ∧ ∃ (y : Int × Int × List (List C)), Sp.adI l a y.1 y.snd.1 y.snd.2 ∧ true = true ∧ ((IntKind.i64 = IntKind.i64 ∧ iSub x_1.1 1 = y.1) ∧ True) ∧ (((([Sh.int .i64] = [Sh.int .i64] ∧ l = l) ∧ (IntKind.i64 = IntKind.i64 ∧ Sp.ka l (Sp.ka4 l x_1.snd.1) = y.snd.1) ∧ True) ∧ 68 = 68) ∧ (((IntKind.i64 = IntKind.i64 ∧ Sp.zI (Sp.adE Z1 Z2 Z3 Z5 x_1.snd.2 (Sp.s0 l x_1.snd.1) (Sp.s1 l x_1.snd.1) (Sp.s2 l x_1.snd.1) (Sp.s3 l x_1.snd.1) (Sp.kn l (Sp.ka4 l x_1.snd.1) 40)) Z1 = Sp.kW l a) ∧ (IntKind.i64 = IntKind.i64 ∧ Sp.zI (Sp.adE Z1 Z2 Z3 Z5 x_1.snd.2 (Sp.s0 l x_1.snd.1) (Sp.s1 l x_1.snd.1) (Sp.s2 l x_1.snd.1) (Sp.s3 l x_1.snd.1) (Sp.kn l (Sp.ka4 l x_1.snd.1) 40)) Z2 = Sp.kC l a) ∧ (IntKind.i64 = IntKind.i64 ∧ Sp.zI (Sp.adE Z1 Z2 Z3 Z5 x_1.snd.2 (Sp.s0 l x_1.snd.1) (Sp.s1 l x_1.snd.1) (Sp.s2 l x_1.snd.1) (Sp.s3 l x_1.snd.1) (Sp.kn l (Sp.ka4 l x_1.snd.1) 40)) Z3 = Sp.kP l a) ∧ ([Sh.int .u64, Sh.int .i64] = [Sh.int .u64, Sh.int .i64] ∧ Sp.zL (Sp.adE Z1 Z2 Z3 Z5 x_1.snd.2 (Sp.s0 l x_1.snd.1) (Sp.s1 l x_1.snd.1) (Sp.s2 l x_1.snd.1) (Sp.s3 l x_1.snd.1) (Sp.kn l (Sp.ka4 l x_1.snd.1) 40)) Z5 = Sp.kD l a) ∧ ([Sh.int .i64, Sh.int .u64, Sh.int .i64, Sh.int .i64] = [Sh.int .i64, Sh.int .u64, Sh.int .i64, Sh.int .i64] ∧ Sp.zL (Sp.adE Z1 Z2 Z3 Z5 x_1.snd.2 (Sp.s0 l x_1.snd.1) (Sp.s1 l x_1.snd.1) (Sp.s2 l x_1.snd.1) (Sp.s3 l x_1.snd.1) (Sp.kn l (Sp.ka4 l x_1.snd.1) 40)) (Sp.wS x_1.snd.2 (Sp.s0 l x_1.snd.1) (Sp.s1 l x_1.snd.1) (Sp.s2 l x_1.snd.1) (Sp.kn l (Sp.ka4 l x_1.snd.1) 40)) = y.snd.2) ∧ True) ∧ 28 = 28) ∧ True) ∧ y.1.toNat < x_1.1.toNat) ∧ (bEq (Sp.adE Z1 Z2 Z3 Z5 x_1.snd.2 (Sp.s0 l x_1.snd.1) (Sp.s1 l x_1.snd.1) (Sp.s2 l x_1.snd.1) (Sp.s3 l x_1.snd.1) (Sp.kn l (Sp.ka4 l x_1.snd.1) 40)) 0 = false → InR .i64 (iSub x_1.1 1) ∧ (true = true ∧ (fun z => z = z) [SV.ref 0 0, SV.ref 1 0, SV.ref 2 0, SV.int .i64 x.1, SV.any, SV.any, SV.blit false, SV.any]) ∧ (fun z => z = z) [HB.gone, HB.box [SV.lit .i64 0, SV.lit .i64 0, SV.lit .i64 0, SV.nils, SV.nils] 28, HB.gone] ∧ ∃ (y : Int × Int × List (List C)), Sp.adI l a y.1 y.snd.1 y.snd.2 ∧ true = true ∧ ((IntKind.i64 = IntKind.i64 ∧ iSub x_1.1 1 = y.1) ∧ True) ∧ (((([Sh.int .i64] = [Sh.int .i64] ∧ l = l) ∧ (IntKind.i64 = IntKind.i64 ∧ Sp.ka l (Sp.ka4 l x_1.snd.1) = y.snd.1) ∧ True) ∧ 68 = 68) ∧ (((IntKind.i64 = IntKind.i64 ∧ Sp.kW l a = Sp.kW l a) ∧ (IntKind.i64 = IntKind.i64 ∧ Sp.kC l a = Sp.kC l a) ∧ (IntKind.i64 = IntKind.i64 ∧ Sp.kP l a = Sp.kP l a) ∧ ([Sh.int .u64, Sh.int .i64] = [Sh.int .u64, Sh.int .i64] ∧ Sp.kD l a = Sp.kD l a) ∧ ([Sh.int .i64, Sh.int .u64, Sh.int .i64, Sh.int .i64] = [Sh.int .i64, Sh.int .u64, Sh.int .i64, Sh.int .i64] ∧ x_1.snd.2 = y.snd.2) ∧ True) ∧ 28 = 28) ∧ True) ∧ y.1.toNat < x_1.1.toNat))))) ∧ (bLt 0 x_1.1 = false → 68 = 68 ∧ (l = l ∧ x_1.snd.1 = Sp.kA l a ∧ True) ∧ (Sp.kW l a = Sp.kW l a ∧ Sp.kC l a = Sp.kC l a ∧ Sp.kP l a = Sp.kP l a ∧ Sp.kD l a = Sp.kD l a ∧ x_1.snd.2 = Sp.kS l a ∧ True) ∧ True))))))))) := by subst hZ5; subst hZ4; subst hZ3; subst hZ2; subst hZ1; kernel_rfl
theorem v9 (l : List (List C)) (a : Int) : Holds (Wfs [.agg [.sl [.int .i64] l, .int .i64 a]] → pLe 0 a ∧ True → B9 l a) := by
  refine ⟨fun hw hp => ?_⟩
  rw [e9 _ _ _ rfl _ rfl _ rfl _ rfl _ rfl]
  unfold WL q0
  simp only [Wfs, Wf, InR, and_true] at hw
  simp only [eq_self, true_and, and_true, true_implies, implies_true, iAdd, iSub, iMul, iLen, bEq, bNe, bLt, bLe, bNot, pIn, pLe, pNe, InR, decide_eq_true_eq, decide_eq_false_iff_not, Bool.not_eq_true', Bool.not_eq_false', decide_eq_decide]
  simp only [pLe] at hp
  have hp := hp.1
  clear hw
  have a1 := Sp.ka_nn (l := l) hp
  have a2 := Sp.ka_nn (l := l) a1
  have a3 := Sp.ka_nn (l := l) a2
  have b1 : 0 ≤ Sp.kn l (Sp.ka l a) (12 - 1 + 1) ∧ Sp.kn l (Sp.ka l a) (12 - 1 + 1) < 12 := Sp.kn_bd (l := l) (a := Sp.ka l a) (n := 12) (by omega)
  have b2 := Sp.kn_bd (l := l) (a := Sp.ka l (Sp.ka l a)) (n := 3) (by omega)
  refine ⟨⟨hp, by omega, by omega, by omega⟩, fun _ => ⟨⟨a1, by omega, by omega, by omega⟩, fun _ => ⟨by omega, ⟨a2, by omega⟩, fun _ => ⟨⟨b2.1, b2.2⟩, fun _ => ⟨⟨a3, by omega, by omega, by omega⟩, fun _ => ⟨⟨(_, _, []), Sp.hoI_init hp, rfl, rfl, rfl, rfl, rfl, rfl⟩, ?_⟩⟩⟩⟩⟩⟩
  rintro ⟨k, b, ds⟩ hx hx1 _
  simp only at hx hx1 ⊢
  have b0 := hx.1
  have k3 := hx.2.2.1
  have i0 := Sp.kn_bd (l := l) (a := b) (n := 5) (by omega)
  have w1 : iWrap .u64 (1 + Sp.kn l b (5 - 1 + 1)) = 1 + Sp.kn l b 5 := Sp.w64 (x := 1 + Sp.kn l b 5) (by omega) (by omega)
  rw [w1]
  refine ⟨fun hk => ⟨⟨b0, by omega, by omega, by omega⟩, fun _ => ⟨⟨Sp.ka_nn b0, by omega, by omega, by omega⟩, fun _ _ => ⟨fun he => ⟨by omega, (k - 1, _, _), Sp.hoI_yes hx hk he, rfl, ⟨rfl, Sp.zI_0 he, Sp.zI_0 he, Sp.zI_0 he, Sp.zL_0 he, Sp.zL_0 he⟩, by simp only; omega⟩, fun he => ⟨by omega, (k - 1, _, _), Sp.hoI_no hx hk he, rfl, ⟨rfl, rfl⟩, by simp only; omega⟩⟩⟩⟩, fun hk => ?_⟩
  have hd := Sp.hoI_end hx hk
  have hd2 : ds = Sp.kD l a := congrArg Prod.snd hd
  refine ⟨⟨b0, by omega, by omega, by omega⟩, fun _ => ⟨⟨(_, _, []), Sp.adI_init b0 hd, rfl, rfl, hd2, rfl⟩, ?_⟩⟩
  rintro ⟨k2, b2, ss⟩ hy hy1 _
  simp only at hy hy1 ⊢
  have c0 := hy.1
  refine ⟨fun hk => ⟨c0, fun _ => ⟨⟨Sp.ka_nn (Sp.ka_nn (Sp.ka_nn (Sp.ka_nn c0))), by omega⟩, fun _ _ => ⟨fun he => ⟨by omega, (k2 - 1, _, _), Sp.adI_yes hy hk he, rfl, ⟨rfl, Sp.zI_0 he, Sp.zI_0 he, Sp.zI_0 he, Sp.zL_0 he, Sp.zL_0 he⟩, by simp only; omega⟩, fun he => ⟨by omega, (k2 - 1, _, _), Sp.adI_no hy hk he, rfl, ⟨rfl, rfl⟩, by simp only; omega⟩⟩⟩⟩, fun hk => ?_⟩
  have he := Sp.adI_end hy hk
  exact ⟨congrArg Prod.fst he, congrArg Prod.snd he⟩
theorem s9 : SoundCt Go.Proofs.Try.prog 9 ct9 :=
  contractHB followsMixed (look_sound (show Tb Go.Proofs.Try.prog tb9 from ⟨s33, ⟨s32, ⟨s19, ⟨s25, ⟨s28, trivial⟩⟩⟩⟩⟩)) (fun _ => false) (fun a => A9 ((cel 0 (arg 0 a)).list) ((cel 1 (arg 0 a)).int)) 8 9 ct9 rfl (by simp [ct9]) fun a => Eq.mp (by kernel_rfl) (v9 ((cel 0 (arg 0 a)).list) ((cel 1 (arg 0 a)).int))
end Go.Sx
namespace Go.Sx
def ct21 : Ct := { ps := [(true, [.int .i64, .int .i64, .int .i64, .sl [.int .u64, .int .i64], .sl [.int .i64, .int .u64, .int .i64, .int .i64]]), (true, [.int .i64, .int .u64, .int .i64, .int .i64])], rs := [(false, [.bool])], pre := fun _ => True, out := fun a => [[.b (Sp.sat (cel 4 (arg 0 a)).list (cel 0 (arg 1 a)).int (cel 1 (arg 1 a)).int (cel 2 (arg 1 a)).int (cel 3 (arg 1 a)).int)]] }
def tb21 : List (Nat × Ct) := []
def A21 (ss : List (List C)) (s0 : Int) (s1 : Int) (s2 : Int) (s3 : Int) : FuncId → Nat → LoopAnn := fun _ ii => bif Nat.beq ii 2 then .inv (Int) (fun z => Sp.at (Sp.isS s0 s1 s2 s3) ss z) (fun z => [(10, .int .i64 z)]) (fun z => []) [] [0, 1, 2, 3, 4, 6, 8, 9, 10, 11, 16] (fun z => ss.length - z.toNat) else .unroll 0
abbrev B21 (w : Int) (c : Int) (p : Int) (ds : List (List C)) (ss : List (List C)) (s0 : Int) (s1 : Int) (s2 : Int) (s3 : Int) : Prop := vcF Go.Proofs.Try.prog (look tb21) (fun _ => false) (A21 ss s0 s1 s2 s3) 6 21 [.agg [.int .i64 w, .int .i64 c, .int .i64 p, .sl [.int .u64, .int .i64] ds, .sl [.int .i64, .int .u64, .int .i64, .int .i64] ss], .agg [.int .i64 s0, .int .u64 s1, .int .i64 s2, .int .i64 s3]] [] (fun sv heap => Gives [(false, [.bool])] [[.b (Sp.sat ss s0 s1 s2 s3)]] sv heap)
def h21_0 : Int → Int → Int → List (List C) → List (List C) → Int → Int → Int → Int → List SV := fun (w c p : Int) (ds ss : List (List C)) (s0 s1 s2 s3 : Int) => [SV.agg [SV.int .i64 w, SV.int .i64 c, SV.int .i64 p, SV.sl [.int .u64, .int .i64] ds, SV.sl [.int .i64, .int .u64, .int .i64, .int .i64] ss], SV.agg [SV.int .i64 s0, SV.int .u64 s1, SV.int .i64 s2, SV.int .i64 s3], SV.ref 0 0, SV.ref 1 0, SV.sl [.int .i64, .int .u64, .int .i64, .int .i64] ss, SV.int .i64 (iLen ss)]
def h21_1 : Int → Int → Int → List (List C) → List (List C) → Int → Int → Int → Int → List HB := fun (w c p : Int) (ds ss : List (List C)) (s0 s1 s2 s3 : Int) => [HB.box [SV.int .i64 w, SV.int .i64 c, SV.int .i64 p, SV.sl [.int .u64, .int .i64] ds, SV.sl [.int .i64, .int .u64, .int .i64, .int .i64] ss] 28, HB.box [SV.int .i64 s0, SV.int .u64 s1, SV.int .i64 s2, SV.int .i64 s3] 47]
theorem e21 (w : Int) (c : Int) (p : Int) (ds : List (List C)) (ss : List (List C)) (s0 : Int) (s1 : Int) (s2 : Int) (s3 : Int) : B21 w c p ds ss s0 s1 s2 s3 = (pLe (iLen ss) 9223372036854775807 → (∃ (x : Int), Sp.at (Sp.isS s0 s1 s2 s3) ss x ∧ true = true ∧ ((IntKind.i64 = IntKind.i64 ∧ 0 = x) ∧ True) ∧ True) ∧ (∀ (x : Int), true = true ∧ true = true) ∧ ∀ (x : Int), Sp.at (Sp.isS s0 s1 s2 s3) ss x → InR .i64 x ∧ True → True → (bLt x (iLen ss) = true → pIn 0 (iLen ss) x ∧ (InR .i64 (q0 (rGet ss x)) ∧ InR .u64 (q1 (rGet ss x)) ∧ InR .i64 (q2 (rGet ss x)) ∧ InR .i64 (q3 (rGet ss x)) ∧ True → (bAnd (bEq (q0 (rGet ss x)) s0) (bAnd (bEq (q1 (rGet ss x)) s1) (bAnd (bEq (q2 (rGet ss x)) s2) (bEq (q3 (rGet ss x)) s3))) = true → (true = Sp.sat ss s0 s1 s2 s3 ∧ True) ∧ True) ∧ (bAnd (bEq (q0 (rGet ss x)) s0) (bAnd (bEq (q1 (rGet ss x)) s1) (bAnd (bEq (q2 (rGet ss x)) s2) (bEq (q3 (rGet ss x)) s3))) = false → InR .i64 (iAdd x 1) ∧ (true = true ∧ h21_0 w c p ds ss s0 s1 s2 s3 = h21_0 w c p ds ss s0 s1 s2 s3) ∧ h21_1 w c p ds ss s0 s1 s2 s3 = h21_1 w c p ds ss s0 s1 s2 s3 ∧ ∃ (y : Int), Sp.at (Sp.isS s0 s1 s2 s3) ss y ∧ true = true ∧ ((IntKind.i64 = IntKind.i64 ∧ iAdd x 1 = y) ∧ True) ∧ True ∧ ss.length - y.toNat < ss.length - x.toNat))) ∧ (bLt x (iLen ss) = false → (false = Sp.sat ss s0 s1 s2 s3 ∧ True) ∧ True)) := by kernel_rfl
theorem v21 (w : Int) (c : Int) (p : Int) (ds : List (List C)) (ss : List (List C)) (s0 : Int) (s1 : Int) (s2 : Int) (s3 : Int) : Holds (Wfs [.agg [.int .i64 w, .int .i64 c, .int .i64 p, .sl [.int .u64, .int .i64] ds, .sl [.int .i64, .int .u64, .int .i64, .int .i64] ss], .agg [.int .i64 s0, .int .u64 s1, .int .i64 s2, .int .i64 s3]] → True → B21 w c p ds ss s0 s1 s2 s3) := by
  refine ⟨fun hw hp => ?_⟩
  rw [e21]
  unfold q0 q1 q2 q3
  simp only [Wfs, Wf, InR, and_true] at hw
  simp only [eq_self, true_and, and_true, true_implies, implies_true, iAdd, iSub, iMul, iLen, bEq, bNe, bLt, bLe, bNot, pIn, pLe, pNe, InR, decide_eq_true_eq, decide_eq_false_iff_not, Bool.not_eq_true', Bool.not_eq_false', decide_eq_decide]
  refine fun _ => ⟨⟨0, Sp.at_init, rfl⟩, fun x hx hx1 => ⟨fun hlt => ⟨⟨hx.1, hlt⟩, fun _ => ⟨fun hh => ?_, fun hh => ⟨by omega, x + 1, Sp.at_step hx hlt ?_, rfl, by have := hx.1; omega⟩⟩⟩, fun hge => ?_⟩⟩
  · simp only [bAnd, Bool.and_eq_true, decide_eq_true_eq] at hh
    unfold Sp.sat
    rw [Sp.at_hit hx hlt (decide_eq_true ⟨hh.1, hh.2.1, hh.2.2.1, hh.2.2.2⟩)]
    exact (decide_eq_true hx.1).symm
  · simp only [bAnd, Bool.and_eq_false_iff, decide_eq_false_iff_not] at hh
    unfold Sp.isS
    rw [decide_eq_false_iff_not]
    simp only [Sp.c0, Sp.c1, Sp.c2, Sp.c3]
    omega
  · unfold Sp.sat
    rw [Sp.at_end hx hge]; rfl
theorem s21 : SoundCt Go.Proofs.Try.prog 21 ct21 :=
  contractH followsMixed (look_sound (show Tb Go.Proofs.Try.prog tb21 from trivial)) (fun _ => false) (fun a => A21 ((cel 4 (arg 0 a)).list) ((cel 0 (arg 1 a)).int) ((cel 1 (arg 1 a)).int) ((cel 2 (arg 1 a)).int) ((cel 3 (arg 1 a)).int)) 6 21 ct21 rfl (by simp [ct21]) fun a => Eq.mp (by kernel_rfl) (v21 ((cel 0 (arg 0 a)).int) ((cel 1 (arg 0 a)).int) ((cel 2 (arg 0 a)).int) ((cel 3 (arg 0 a)).list) ((cel 4 (arg 0 a)).list) ((cel 0 (arg 1 a)).int) ((cel 1 (arg 1 a)).int) ((cel 2 (arg 1 a)).int) ((cel 3 (arg 1 a)).int))
end Go.Sx
namespace Go.Sx
def ct23 : Ct := { ps := [(true, [.int .i64, .int .i64, .int .i64, .sl [.int .u64, .int .i64], .sl [.int .i64, .int .u64, .int .i64, .int .i64]]), (true, [.int .i64, .int .i64, .int .i64, .sl [.int .u64, .int .i64], .sl [.int .i64, .int .u64, .int .i64, .int .i64]])], rs := [(false, [.bool])], pre := fun _ => True, out := fun a => [[.b (Sp.sameB (cel 0 (arg 0 a)).int (cel 1 (arg 0 a)).int (cel 2 (arg 0 a)).int (cel 3 (arg 0 a)).list (cel 4 (arg 0 a)).list (cel 0 (arg 1 a)).int (cel 1 (arg 1 a)).int (cel 2 (arg 1 a)).int (cel 3 (arg 1 a)).list (cel 4 (arg 1 a)).list)]] }
def tb23 : List (Nat × Ct) := []
def A23 (ds : List (List C)) (ss : List (List C)) (ds2 : List (List C)) (ss2 : List (List C)) : FuncId → Nat → LoopAnn := fun _ ii => bif Nat.beq ii 4 then .inv (Int) (fun z => Sp.aI (Sp.eq2 ds ds2) ds.length z) (fun z => [(5, .int .i64 z)]) (fun z => []) [] [0, 1, 2, 3, 4, 5, 6, 29, 34, 47, 52, 65] (fun z => ds.length - z.toNat) else bif Nat.beq ii 9 then .inv (Int) (fun z => Sp.aI (Sp.eq4 ss ss2) ss.length z) (fun z => [(6, .int .i64 z)]) (fun z => []) [] [0, 1, 2, 3, 4, 5, 6, 29, 34, 47, 52, 65] (fun z => ss.length - z.toNat) else .unroll 0
abbrev B23 (w : Int) (c : Int) (p : Int) (ds : List (List C)) (ss : List (List C)) (w2 : Int) (c2 : Int) (p2 : Int) (ds2 : List (List C)) (ss2 : List (List C)) : Prop := vcF Go.Proofs.Try.prog (look tb23) (fun _ => false) (A23 ds ss ds2 ss2) 6 23 [.agg [.int .i64 w, .int .i64 c, .int .i64 p, .sl [.int .u64, .int .i64] ds, .sl [.int .i64, .int .u64, .int .i64, .int .i64] ss], .agg [.int .i64 w2, .int .i64 c2, .int .i64 p2, .sl [.int .u64, .int .i64] ds2, .sl [.int .i64, .int .u64, .int .i64, .int .i64] ss2]] [] (fun sv heap => Gives [(false, [.bool])] [[.b (Sp.sameB w c p ds ss w2 c2 p2 ds2 ss2)]] sv heap)
def h23_0 : Int → Int → Int → List (List C) → List (List C) → Int → Int → Int → List (List C) → List (List C) → List SV := fun (w c p : Int) (ds ss : List (List C)) (w2 c2 p2 : Int) (ds2 ss2 : List (List C)) => [SV.agg [SV.int .i64 w, SV.int .i64 c, SV.int .i64 p, SV.sl [.int .u64, .int .i64] ds, SV.sl [.int .i64, .int .u64, .int .i64, .int .i64] ss], SV.agg [SV.int .i64 w2, SV.int .i64 c2, SV.int .i64 p2, SV.sl [.int .u64, .int .i64] ds2, SV.sl [.int .i64, .int .u64, .int .i64, .int .i64] ss2], SV.ref 0 0, SV.ref 1 0, SV.undef, SV.blit false, SV.undef, SV.undef]
def h23_1 : Int → Int → Int → List (List C) → List (List C) → Int → Int → Int → List (List C) → List (List C) → List HB := fun (w c p : Int) (ds ss : List (List C)) (w2 c2 p2 : Int) (ds2 ss2 : List (List C)) => [HB.box [SV.int .i64 w, SV.int .i64 c, SV.int .i64 p, SV.sl [.int .u64, .int .i64] ds, SV.sl [.int .i64, .int .u64, .int .i64, .int .i64] ss] 28, HB.box [SV.int .i64 w2, SV.int .i64 c2, SV.int .i64 p2, SV.sl [.int .u64, .int .i64] ds2, SV.sl [.int .i64, .int .u64, .int .i64, .int .i64] ss2] 28]
def h23_2 : Int → Int → Int → List (List C) → List (List C) → Int → Int → Int → List (List C) → List (List C) → Int → List SV := fun (w c p : Int) (ds ss : List (List C)) (w2 c2 p2 : Int) (ds2 ss2 : List (List C)) (x : Int) => [SV.agg [SV.int .i64 w, SV.int .i64 c, SV.int .i64 p, SV.sl [.int .u64, .int .i64] ds, SV.sl [.int .i64, .int .u64, .int .i64, .int .i64] ss], SV.agg [SV.int .i64 w2, SV.int .i64 c2, SV.int .i64 p2, SV.sl [.int .u64, .int .i64] ds2, SV.sl [.int .i64, .int .u64, .int .i64, .int .i64] ss2], SV.ref 0 0, SV.ref 1 0, SV.int .i64 x, SV.blit false, SV.blit false, SV.any]
theorem e23 (w : Int) (c : Int) (p : Int) (ds : List (List C)) (ss : List (List C)) (w2 : Int) (c2 : Int) (p2 : Int) (ds2 : List (List C)) (ss2 : List (List C)) : B23 w c p ds ss w2 c2 p2 ds2 ss2 = ((bNot (bAnd (bEq w w2) (bAnd (bEq c c2) (bEq p p2))) = false → pLe (iLen ds) 9223372036854775807 → pLe (iLen ds2) 9223372036854775807 → (bNe (iLen ds) (iLen ds2) = false → pLe (iLen ss) 9223372036854775807 → pLe (iLen ss2) 9223372036854775807 → (bNe (iLen ss) (iLen ss2) = true → (false = Sp.sameB w c p ds ss w2 c2 p2 ds2 ss2 ∧ True) ∧ True) ∧ (bNe (iLen ss) (iLen ss2) = false → (∃ (x : Int), Sp.aI (Sp.eq2 ds ds2) ds.length x ∧ true = true ∧ ((IntKind.i64 = IntKind.i64 ∧ 0 = x) ∧ True) ∧ True) ∧ (∀ (x : Int), true = true ∧ true = true) ∧ ∀ (x : Int), Sp.aI (Sp.eq2 ds ds2) ds.length x → InR .i64 x ∧ True → True → pLe (iLen ds) 9223372036854775807 → (bLt x (iLen ds) = true → pIn 0 (iLen ds) x ∧ (InR .u64 (q0 (rGet ds x)) ∧ InR .i64 (q1 (rGet ds x)) ∧ True → pIn 0 (iLen ds2) x ∧ (InR .u64 (q0 (rGet ds2 x)) ∧ InR .i64 (q1 (rGet ds2 x)) ∧ True → (bNot (bAnd (bEq (q0 (rGet ds x)) (q0 (rGet ds2 x))) (bEq (q1 (rGet ds x)) (q1 (rGet ds2 x)))) = true → (false = Sp.sameB w c p ds ss w2 c2 p2 ds2 ss2 ∧ True) ∧ True) ∧ (bNot (bAnd (bEq (q0 (rGet ds x)) (q0 (rGet ds2 x))) (bEq (q1 (rGet ds x)) (q1 (rGet ds2 x)))) = false → InR .i64 (iAdd x 1) ∧ (true = true ∧ h23_0 w c p ds ss w2 c2 p2 ds2 ss2 = h23_0 w c p ds ss w2 c2 p2 ds2 ss2) ∧ h23_1 w c p ds ss w2 c2 p2 ds2 ss2 = h23_1 w c p ds ss w2 c2 p2 ds2 ss2 ∧ ∃ (y : Int), Sp.aI (Sp.eq2 ds ds2) ds.length y ∧ true = true ∧ ((IntKind.i64 = IntKind.i64 ∧ iAdd x 1 = y) ∧ True) ∧ True ∧ ds.length - y.toNat < ds.length - x.toNat)))) ∧ (bLt x (iLen ds) = false → (∃ (x : Int), Sp.aI (Sp.eq4 ss ss2) ss.length x ∧ true = true ∧ ((IntKind.i64 = IntKind.i64 ∧ 0 = x) ∧ True) ∧ True) ∧ (∀ (x : Int), true = true ∧ true = true) ∧ ∀ (x_1 : Int), Sp.aI (Sp.eq4 ss ss2) ss.length x_1 → InR .i64 x_1 ∧ True → True → pLe (iLen ss) 9223372036854775807 → (bLt x_1 (iLen ss) = true → pIn 0 (iLen ss) x_1 ∧ (InR .i64 (q0 (rGet ss x_1)) ∧ InR .u64 (q1 (rGet ss x_1)) ∧ InR .i64 (q2 (rGet ss x_1)) ∧ InR .i64 (q3 (rGet ss x_1)) ∧ True → pIn 0 (iLen ss2) x_1 ∧ (InR .i64 (q0 (rGet ss2 x_1)) ∧ InR .u64 (q1 (rGet ss2 x_1)) ∧ InR .i64 (q2 (rGet ss2 x_1)) ∧ InR .i64 (q3 (rGet ss2 x_1)) ∧ True → (bNot (bAnd (bEq (q0 (rGet ss x_1)) (q0 (rGet ss2 x_1))) (bAnd (bEq (q1 (rGet ss x_1)) (q1 (rGet ss2 x_1))) (bAnd (bEq (q2 (rGet ss x_1)) (q2 (rGet ss2 x_1))) (bEq (q3 (rGet ss x_1)) (q3 (rGet ss2 x_1)))))) = true → (false = Sp.sameB w c p ds ss w2 c2 p2 ds2 ss2 ∧ True) ∧ True) ∧ (bNot (bAnd (bEq (q0 (rGet ss x_1)) (q0 (rGet ss2 x_1))) (bAnd (bEq (q1 (rGet ss x_1)) (q1 (rGet ss2 x_1))) (bAnd (bEq (q2 (rGet ss x_1)) (q2 (rGet ss2 x_1))) (bEq (q3 (rGet ss x_1)) (q3 (rGet ss2 x_1)))))) = false → InR .i64 (iAdd x_1 1) ∧ (true = true ∧ h23_2 w c p ds ss w2 c2 p2 ds2 ss2 x = h23_2 w c p ds ss w2 c2 p2 ds2 ss2 x) ∧ h23_1 w c p ds ss w2 c2 p2 ds2 ss2 = h23_1 w c p ds ss w2 c2 p2 ds2 ss2 ∧ ∃ (y : Int), Sp.aI (Sp.eq4 ss ss2) ss.length y ∧ true = true ∧ ((IntKind.i64 = IntKind.i64 ∧ iAdd x_1 1 = y) ∧ True) ∧ True ∧ ss.length - y.toNat < ss.length - x_1.toNat)))) ∧ (bLt x_1 (iLen ss) = false → (true = Sp.sameB w c p ds ss w2 c2 p2 ds2 ss2 ∧ True) ∧ True)))) ∧ (bNe (iLen ds) (iLen ds2) = true → (false = Sp.sameB w c p ds ss w2 c2 p2 ds2 ss2 ∧ True) ∧ True)) ∧ (bNot (bAnd (bEq w w2) (bAnd (bEq c c2) (bEq p p2))) = true → (false = Sp.sameB w c p ds ss w2 c2 p2 ds2 ss2 ∧ True) ∧ True)) := by kernel_rfl
theorem v23 (w : Int) (c : Int) (p : Int) (ds : List (List C)) (ss : List (List C)) (w2 : Int) (c2 : Int) (p2 : Int) (ds2 : List (List C)) (ss2 : List (List C)) : Holds (Wfs [.agg [.int .i64 w, .int .i64 c, .int .i64 p, .sl [.int .u64, .int .i64] ds, .sl [.int .i64, .int .u64, .int .i64, .int .i64] ss], .agg [.int .i64 w2, .int .i64 c2, .int .i64 p2, .sl [.int .u64, .int .i64] ds2, .sl [.int .i64, .int .u64, .int .i64, .int .i64] ss2]] → True → B23 w c p ds ss w2 c2 p2 ds2 ss2) := by
  refine ⟨fun hw hp => ?_⟩
  rw [e23]
  unfold q0 q1 q2 q3
  simp only [Wfs, Wf, InR, and_true] at hw
  simp only [eq_self, true_and, and_true, true_implies, implies_true, iAdd, iSub, iMul, iLen, bEq, bNe, bLt, bLe, bNot, pIn, pLe, pNe, InR, decide_eq_true_eq, decide_eq_false_iff_not, Bool.not_eq_true', Bool.not_eq_false', decide_eq_decide]
  have L : ¬ ((w = w2 ∧ c = c2 ∧ p = p2) ∧ ds.length = ds2.length ∧ ss.length = ss2.length) → false = Sp.sameB w c p ds ss w2 c2 p2 ds2 ss2 := fun h => by unfold Sp.sameB; rw [decide_eq_false h]; rfl
  have F2 : ∀ x, 0 ≤ x → x < (ds.length : Int) → Sp.eq2 ds ds2 x = false → false = Sp.sameB w c p ds ss w2 c2 p2 ds2 ss2 := fun x x0 hlt h => by unfold Sp.sameB; rw [Sp.allI_no x0 hlt h]; simp
  have F4 : ∀ x, 0 ≤ x → x < (ss.length : Int) → Sp.eq4 ss ss2 x = false → false = Sp.sameB w c p ds ss w2 c2 p2 ds2 ss2 := fun x x0 hlt h => by unfold Sp.sameB; rw [Sp.allI_no x0 hlt h]; simp
  refine ⟨fun hb h1 h2 => ⟨fun h3 h4 h5 => ⟨fun h6 => L (by omega), fun h6 => ⟨⟨0, Sp.aI_init, rfl⟩, fun x hx hx1 _ => ⟨fun hlt => ⟨⟨hx.1, hlt⟩, fun _ => ⟨⟨hx.1, by omega⟩, fun _ => ⟨fun hn => F2 x hx.1 hlt ?_, fun hn => ⟨by omega, x + 1, Sp.aI_step hx hlt ?_, rfl, by have := hx.1; omega⟩⟩⟩⟩, fun hge => ⟨⟨0, Sp.aI_init, rfl⟩, fun y hy hy1 _ => ⟨fun hlt => ⟨⟨hy.1, hlt⟩, fun _ => ⟨⟨hy.1, by omega⟩, fun _ => ⟨fun hn => F4 y hy.1 hlt ?_, fun hn => ⟨by omega, y + 1, Sp.aI_step hy hlt ?_, rfl, by have := hy.1; omega⟩⟩⟩⟩, fun hge2 => ?_⟩⟩⟩⟩⟩, fun h => L (by omega)⟩, fun hb => L ?_⟩
  · simp only [bAnd, Bool.and_eq_false_iff, decide_eq_false_iff_not] at hn
    unfold Sp.eq2; rw [decide_eq_false_iff_not]; simp only [Sp.c0, Sp.c1]; omega
  · simp only [bAnd, Bool.and_eq_true, decide_eq_true_eq] at hn
    unfold Sp.eq2; rw [decide_eq_true_eq]; simp only [Sp.c0, Sp.c1]; omega
  · simp only [bAnd, Bool.and_eq_false_iff, decide_eq_false_iff_not] at hn
    unfold Sp.eq4; rw [decide_eq_false_iff_not]; simp only [Sp.c0, Sp.c1, Sp.c2, Sp.c3]; omega
  · simp only [bAnd, Bool.and_eq_true, decide_eq_true_eq] at hn
    unfold Sp.eq4; rw [decide_eq_true_eq]; simp only [Sp.c0, Sp.c1, Sp.c2, Sp.c3]; omega
  · simp only [bAnd, Bool.and_eq_true, decide_eq_true_eq] at hb
    unfold Sp.sameB
    rw [Sp.aI_end hx hge, Sp.aI_end hy hge2, decide_eq_true (show (w = w2 ∧ c = c2 ∧ p = p2) ∧ ds.length = ds2.length ∧ ss.length = ss2.length by omega)]; rfl
  · simp only [bAnd, Bool.and_eq_false_iff, decide_eq_false_iff_not] at hb
    omega
theorem s23 : SoundCt Go.Proofs.Try.prog 23 ct23 :=
  contractH followsMixed (look_sound (show Tb Go.Proofs.Try.prog tb23 from trivial)) (fun _ => false) (fun a => A23 ((cel 3 (arg 0 a)).list) ((cel 4 (arg 0 a)).list) ((cel 3 (arg 1 a)).list) ((cel 4 (arg 1 a)).list)) 6 23 ct23 rfl (by simp [ct23]) fun a => Eq.mp (by kernel_rfl) (v23 ((cel 0 (arg 0 a)).int) ((cel 1 (arg 0 a)).int) ((cel 2 (arg 0 a)).int) ((cel 3 (arg 0 a)).list) ((cel 4 (arg 0 a)).list) ((cel 0 (arg 1 a)).int) ((cel 1 (arg 1 a)).int) ((cel 2 (arg 1 a)).int) ((cel 3 (arg 1 a)).list) ((cel 4 (arg 1 a)).list))
end Go.Sx
namespace Go.Sx
def ct7 : Ct := { ps := [], rs := [(false, [.bool])], pre := fun _ => True, out := fun _ => [[.b true]] }
def tb7 : List (Nat × Ct) := [(24, ct24), (20, ct20), (16, ct16)]
def A7  : FuncId → Nat → LoopAnn := fun _ _ => LoopAnn.unroll 200
abbrev B7  : Prop := vcF Go.Proofs.Try.prog (look tb7) (fun _ => false) (A7) 6 7 [] [] (fun sv heap => Gives [(false, [.bool])] [[.b true]] sv heap)
theorem e7  (Z1 : Int) (hZ1 : Z1 = Sp.hoE 1 2000 64 [] [] 1 2) (Z3 : List (List C)) (hZ3 : Z3 = Sp.zL Z1 (Sp.inD [] 1 2)) (Z4 : Int) (hZ4 : Z4 = Sp.zI Z1 2000) (Z5 : Int) (hZ5 : Z5 = Sp.zI Z1 64) (Z6 : List (List C)) (hZ6 : Z6 = Sp.zL Z1 []) (Z7 : Int) (hZ7 : Z7 = Sp.zI Z1 1) (Z2 : Int) (hZ2 : Z2 = Sp.adE Z7 Z4 Z5 Z3 Z6 1 1 2 10 5) : B7 = (True ∧ ((InR .i64 Z7 ∧ InR .i64 Z4 ∧ InR .i64 Z5 ∧ ((WL [.int .u64, .int .i64] Z3)) ∧ ((WL [.int .i64, .int .u64, .int .i64, .int .i64] Z6)) ∧ True) ∧ InR .i64 Z1 ∧ True → True ∧ ((InR .i64 (Sp.zI Z2 Z7) ∧ InR .i64 (Sp.zI Z2 Z4) ∧ InR .i64 (Sp.zI Z2 Z5) ∧ ((WL [.int .u64, .int .i64] (Sp.zL Z2 Z3))) ∧ ((WL [.int .i64, .int .u64, .int .i64, .int .i64] (Sp.zL Z2 (Sp.inS Z6 1 1 2 5)))) ∧ True) ∧ (InR .i64 (Sp.adK Z7 Z4 Z5 Z3 Z6 1 1 2 10 5) ∧ InR .i64 (Sp.adN Z7 Z4 Z5 Z3 Z6 1 1 2 10 5) ∧ InR .i64 (Sp.adH Z7 Z4 Z5 Z3 Z6 1 1 2 10 5) ∧ True) ∧ InR .i64 Z2 ∧ True → (bEq Z1 0 = true → True ∧ (InR .i64 (Sp.ld Z7 Z4 Z5 Z3 Z6) → (bEq (Sp.ld Z7 Z4 Z5 Z3 Z6) 1424 = true → (bEq Z2 10 = true → (bAnd (bEq (Sp.adK Z7 Z4 Z5 Z3 Z6 1 1 2 10 5) 4) (bAnd (bEq (Sp.adN Z7 Z4 Z5 Z3 Z6 1 1 2 10 5) 2748) (bEq (Sp.adH Z7 Z4 Z5 Z3 Z6 1 1 2 10 5) 2000)) = true ∧ True) ∧ True) ∧ (bEq Z2 10 = false → (false = true ∧ True) ∧ True)) ∧ (bEq (Sp.ld Z7 Z4 Z5 Z3 Z6) 1424 = false → (false = true ∧ True) ∧ True))) ∧ (bEq Z1 0 = false → (false = true ∧ True) ∧ True)))) := by subst hZ2; subst hZ7; subst hZ6; subst hZ5; subst hZ4; subst hZ3; subst hZ1; kernel_rfl
theorem v7  : Holds (Wfs [] → True → B7) := by
  refine ⟨fun hw hp => ?_⟩
  rw [e7 _ rfl _ rfl _ rfl _ rfl _ rfl _ rfl _ rfl]
  unfold WL
  simp only [Wfs, Wf, InR, and_true] at hw
  simp only [eq_self, true_and, and_true, true_implies, implies_true, iAdd, iSub, iMul, iLen, bEq, bNe, bLt, bLe, bNot, pIn, pLe, pNe, InR, decide_eq_true_eq, decide_eq_false_iff_not, Bool.not_eq_true', Bool.not_eq_false', decide_eq_decide]
  simp only [Sp.sane1, Sp.zI0, Sp.zL0, Sp.sane2, Sp.sane3, Sp.sane4, Sp.sane5, Sp.sane6, Sp.sane7]
  exact fun _ _ => ⟨fun _ _ => ⟨fun _ => ⟨fun _ => by simp [bAnd], fun h => absurd trivial h⟩, fun h => absurd trivial h⟩, fun h => absurd trivial h⟩
theorem s7 : SoundCt Go.Proofs.Try.prog 7 ct7 :=
  contractH followsMixed (look_sound (show Tb Go.Proofs.Try.prog tb7 from ⟨s24, ⟨s20, ⟨s16, trivial⟩⟩⟩)) (fun _ => false) (fun _ => A7) 6 7 ct7 rfl (by simp [ct7]) fun a => Eq.mp (by kernel_rfl) (v7 )
end Go.Sx
