import Derived.Test.YtphaelepnjekoaaGreatSxUse
import Derived.Test.YtphaelepnjekoaaGreatZ27c
import Derived.KernelRfl
set_option linter.unusedVariables false
set_option linter.unusedSimpArgs false
set_option maxRecDepth 100000
set_option maxHeartbeats 4000000
namespace Go
open Go.Sx
def Sp.bfv (xs : List (List C)) (k : Int) : Int := bif decide (k ≤ 0) then 0 else Sp.c0 (rGet xs (k - 1))
def Sp.pI (p : Int → Bool) (xs : List (List C)) (k b : Int) : Prop := Sp.aI p xs.length k ∧ b = Sp.bfv xs k
end Go
namespace Go
open Go.Sx
def Sp.asc (xs : List (List C)) : Prop := ∀ i j : Int, 0 ≤ i → i < j → j < (xs.length : Int) → Sp.c0 (rGet xs i) < Sp.c0 (rGet xs j)
theorem Sp.asc_adj {xs : List (List C)} (h : ∀ i : Int, 1 ≤ i → i < (xs.length : Int) → Sp.c0 (rGet xs (i - 1)) < Sp.c0 (rGet xs i)) : Sp.asc xs := by
 intro i j h0 hij hj
 obtain ⟨d, hd⟩ : ∃ d : Nat, j = i + 1 + d := ⟨(j - i - 1).toNat, by omega⟩
 subst hd
 induction d with
 | zero =>
  have := h (i + 1) (by omega) (by omega)
  rw [show i + 1 - 1 = i by omega] at this
  simpa using this
 | succ d ih =>
  have h1 := ih (by omega) (by omega)
  have h2 := h (i + 1 + ((d + 1 : Nat) : Int)) (by omega) (by omega)
  rw [show i + 1 + ((d + 1 : Nat) : Int) - 1 = i + 1 + (d : Int) by omega] at h2
  omega
theorem Sp.bsr_ok {xs : List (List C)} {key : Int} (ha : Sp.asc xs) : ∀ (n : Nat) (i j : Int), (j - i).toNat ≤ n → 0 ≤ i → i ≤ j → j ≤ (xs.length : Int) → (∀ k : Int, 0 ≤ k → k < i → Sp.c0 (rGet xs k) < key) → (∀ k : Int, j ≤ k → k < (xs.length : Int) → ¬ Sp.c0 (rGet xs k) < key) →
 0 ≤ Sp.bsr key xs n i j ∧ Sp.bsr key xs n i j ≤ (xs.length : Int) ∧ (∀ k : Int, 0 ≤ k → k < Sp.bsr key xs n i j → Sp.c0 (rGet xs k) < key) ∧ (∀ k : Int, Sp.bsr key xs n i j ≤ k → k < (xs.length : Int) → ¬ Sp.c0 (rGet xs k) < key)
 | 0, i, j, hn, h0, h1, h2, ha, hb => by
  have : i = j := by omega
  subst this
  exact ⟨h0, h2, ha, hb⟩
 | n + 1, i, j, hn, h0, h1, h2, h3, h4 => by
  simp only [Sp.bsr]
  by_cases hij : i < j
  · rw [if_pos hij]
    by_cases hc : Sp.c0 (rGet xs ((i + j) / 2)) < key
    · rw [if_pos hc]
      refine Sp.bsr_ok ha n _ _ (by omega) (by omega) (by omega) h2 (fun k k0 k1 => ?_) h4
      by_cases hk : k = (i + j) / 2
      · rw [hk]; exact hc
      · have := ha k ((i + j) / 2) k0 (by omega) (by omega); omega
    · rw [if_neg hc]
      refine Sp.bsr_ok ha n _ _ (by omega) h0 (by omega) (by omega) h3 fun k k0 k1 => ?_
      by_cases hk : k = (i + j) / 2
      · rw [hk]; exact hc
      · have := ha ((i + j) / 2) k (by omega) (by omega) k1; omega
  · rw [if_neg hij]
    have : i = j := by omega
    subst this
    exact ⟨h0, h2, h3, h4⟩
theorem Sp.bsx_ok {xs : List (List C)} (ha : Sp.asc xs) (key : Int) : 0 ≤ Sp.bsx xs key ∧ Sp.bsx xs key ≤ (xs.length : Int) ∧ (∀ k : Int, 0 ≤ k → k < Sp.bsx xs key → Sp.c0 (rGet xs k) < key) ∧ (∀ k : Int, Sp.bsx xs key ≤ k → k < (xs.length : Int) → ¬ Sp.c0 (rGet xs k) < key) :=
 Sp.bsr_ok ha xs.length 0 xs.length (by omega) (by omega) (by omega) (by omega) (fun k h0 h1 => by omega) fun k h0 h1 => by omega
theorem Sp.bsx_bd {xs : List (List C)} (key : Int) : 0 ≤ Sp.bsx xs key ∧ Sp.bsx xs key ≤ (xs.length : Int) := by
 have : ∀ (n : Nat) (i j : Int), 0 ≤ i → i ≤ j → i ≤ Sp.bsr key xs n i j ∧ Sp.bsr key xs n i j ≤ j := by
  intro n
  induction n with
  | zero => intro i j h0 h1; simp only [Sp.bsr]; omega
  | succ n ih =>
   intro i j h0 h1
   simp only [Sp.bsr]
   split
   · split
     · have := ih ((i + j) / 2 + 1) j (by omega) (by omega); omega
     · have := ih i ((i + j) / 2) (by omega) (by omega); omega
   · omega
 exact this xs.length 0 xs.length (by omega) (by omega)
theorem Sp.bsf_has {xs : List (List C)} (ha : Sp.asc xs) (key : Int) : Sp.bsf xs key = Sp.has xs key := by
 obtain ⟨b0, b1, b2, b3⟩ := Sp.bsx_ok ha key
 refine Sp.has_bool ?_
 unfold Sp.bsf
 rw [Bool.and_eq_true, decide_eq_true_eq, decide_eq_true_eq]
 constructor
 · rintro ⟨h1, h2⟩
   exact ⟨_, Sp.rGet_mem b0 h1, h2⟩
 · rintro ⟨x, hx, hk⟩
   obtain ⟨z, z0, z1, rfl⟩ := Sp.mem_rGet hx
   have h1 : ¬ z < Sp.bsx xs key := fun h => by have := b2 z z0 h; omega
   have h2 : Sp.bsx xs key < (xs.length : Int) := by omega
   refine ⟨h2, ?_⟩
   by_cases he : Sp.bsx xs key = z
   · rw [he]; exact hk
   · have := ha (Sp.bsx xs key) z b0 (by omega) z1
     have := b3 (Sp.bsx xs key) (by omega) h2
     omega
theorem Sp.bsx_nix {xs : List (List C)} (ha : Sp.asc xs) {key : Int} (h : Sp.has xs key = true) : Sp.bsx xs key = Sp.nix xs key := by
 obtain ⟨n0, n1, n2⟩ := Sp.nix_has h
 rw [← Sp.bsf_has ha] at h
 unfold Sp.bsf at h
 rw [Bool.and_eq_true, decide_eq_true_eq, decide_eq_true_eq] at h
 obtain ⟨b0, _⟩ := Sp.bsx_bd (xs := xs) key
 rcases Int.lt_trichotomy (Sp.bsx xs key) (Sp.nix xs key) with h1 | h1 | h1
 · have := ha _ _ b0 h1 n1; omega
 · exact h1
 · have := ha _ _ n0 h1 h.1; omega
theorem Sp.dok_asc {ds : List (List C)} (h : Sp.allI (Sp.dokI ds) ds.length = true) : Sp.asc ds := Sp.asc_adj fun i h0 h1 => by
 have := Sp.allI_iff.1 h i (by omega) h1
 unfold Sp.dokI at this
 rw [decide_eq_true_eq] at this
 omega
theorem Sp.sok_asc {ds ss : List (List C)} (h : Sp.allI (Sp.sokI ds ss) ss.length = true) : Sp.asc ss := Sp.asc_adj fun i h0 h1 => by
 have := Sp.allI_iff.1 h i (by omega) h1
 unfold Sp.sokI at this
 rw [Bool.and_eq_true, decide_eq_true_eq] at this
 omega
theorem Sp.pI_init {p : Int → Bool} {xs : List (List C)} : Sp.pI p xs 0 0 := ⟨Sp.aI_init, rfl⟩
theorem Sp.pI_step {p : Int → Bool} {xs : List (List C)} {k b : Int} (h : Sp.pI p xs k b) (hk : k < (xs.length : Int)) (hp : p k = true) : Sp.pI p xs (k + 1) (Sp.c0 (rGet xs k)) := by
 refine ⟨Sp.aI_step h.1 hk hp, ?_⟩
 have := h.1.1
 unfold Sp.bfv
 rw [decide_eq_false (by omega), cond_false, show k + 1 - 1 = k by omega]
theorem Sp.pI_dok {ds : List (List C)} {k b : Int} (h : Sp.pI (Sp.dokI ds) ds k b) : Sp.dokI ds k = decide (b < Sp.c0 (rGet ds k) ∧ 1 ≤ Sp.c1 (rGet ds k) ∧ Sp.c1 (rGet ds k) ≤ 8) := by
 obtain ⟨⟨h0, h1, h2⟩, hb⟩ := h
 unfold Sp.bfv at hb
 unfold Sp.dokI
 rw [decide_eq_decide]
 by_cases hk : k ≤ 0
 · rw [decide_eq_true hk, cond_true] at hb
   omega
 · rw [decide_eq_false hk, cond_false] at hb
   have := Sp.allI_iff.1 h2 (k - 1) (by omega) (by omega)
   unfold Sp.dokI at this
   rw [decide_eq_true_eq] at this
   omega
theorem Sp.pI_sok {ds ss : List (List C)} {k b : Int} (h : Sp.pI (Sp.sokI ds ss) ss k b) : Sp.sokI ds ss k = (decide (b < Sp.c0 (rGet ss k) ∧ 1 ≤ Sp.c2 (rGet ss k) ∧ Sp.c2 (rGet ss k) ≤ 8 ∧ 0 ≤ Sp.c3 (rGet ss k) ∧ Sp.c3 (rGet ss k) ≤ 1099511627776) && Sp.has ds (Sp.c1 (rGet ss k))) := by
 obtain ⟨⟨h0, h1, h2⟩, hb⟩ := h
 unfold Sp.bfv at hb
 unfold Sp.sokI
 congr 1
 rw [decide_eq_decide]
 by_cases hk : k ≤ 0
 · rw [decide_eq_true hk, cond_true] at hb
   omega
 · rw [decide_eq_false hk, cond_false] at hb
   have := Sp.allI_iff.1 h2 (k - 1) (by omega) (by omega)
   unfold Sp.sokI at this
   rw [Bool.and_eq_true, decide_eq_true_eq] at this
   omega
theorem Sp.prop_n {w c p : Int} {ds ss : List (List C)} (h : ¬ ((1 ≤ w ∧ w ≤ 8) ∧ (0 ≤ c ∧ c ≤ 1099511627776) ∧ (16 ≤ p ∧ p ≤ 8192) ∧ ds.length ≤ 8 ∧ ss.length ≤ 24)) : false = Sp.prop w c p ds ss := by
 unfold Sp.prop
 rw [decide_eq_false h]; rfl
theorem Sp.prop_d {w c p : Int} {ds ss : List (List C)} {i : Int} (h0 : 0 ≤ i) (h1 : i < (ds.length : Int)) (h : Sp.dokI ds i = false) : false = Sp.prop w c p ds ss := by
 unfold Sp.prop
 rw [Sp.allI_no h0 h1 h, Bool.and_false, Bool.false_and]
theorem Sp.prop_s {w c p : Int} {ds ss : List (List C)} {i : Int} (h0 : 0 ≤ i) (h1 : i < (ss.length : Int)) (h : Sp.sokI ds ss i = false) : false = Sp.prop w c p ds ss := by
 unfold Sp.prop
 rw [Sp.allI_no h0 h1 h, Bool.and_false]
theorem Sp.prop_iff {w c p : Int} {ds ss : List (List C)} : Sp.prop w c p ds ss = true ↔ ((1 ≤ w ∧ w ≤ 8) ∧ (0 ≤ c ∧ c ≤ 1099511627776) ∧ (16 ≤ p ∧ p ≤ 8192) ∧ ds.length ≤ 8 ∧ ss.length ≤ 24) ∧ Sp.allI (Sp.dokI ds) ds.length = true ∧ Sp.allI (Sp.sokI ds ss) ss.length = true := by
 unfold Sp.prop
 rw [Bool.and_eq_true, Bool.and_eq_true, decide_eq_true_eq, and_assoc]
end Go
namespace Go.Sx
def ct26 : Ct := { ps := [(false, [.int .i64]), (false, [.int .i64]), (false, [.int .i64])], rs := [(false, [.bool])], pre := fun _ => True, out := fun a => [[.b (decide ((cel 0 (arg 1 a)).int ≤ (cel 0 (arg 0 a)).int ∧ (cel 0 (arg 0 a)).int ≤ (cel 0 (arg 2 a)).int))]] }
def tb26 : List (Nat × Ct) := []
def A26  : FuncId → Nat → LoopAnn := fun _ _ => LoopAnn.unroll 200
abbrev B26 (n : Int) (l : Int) (h : Int) : Prop := vcF Go.Proofs.Tryz.prog (look tb26) (fun _ => false) (A26) 6 26 [.int .i64 n, .int .i64 l, .int .i64 h] [] (fun sv heap => Gives [(false, [.bool])] [[.b (decide (l ≤ n ∧ n ≤ h))]] sv heap)
theorem e26 (n : Int) (l : Int) (h : Int) : B26 n l h = ((bLe l n = true → (bLe n h = decide (l ≤ n ∧ n ≤ h) ∧ True) ∧ True) ∧ (bLe l n = false → (false = decide (l ≤ n ∧ n ≤ h) ∧ True) ∧ True)) := by kernel_rfl
theorem v26 (n : Int) (l : Int) (h : Int) : Holds (Wfs [.int .i64 n, .int .i64 l, .int .i64 h] → True → B26 n l h) := by
 refine ⟨fun hw hp => ?_⟩
 rw [e26]
 simp only [bLe, bLt, decide_eq_true_eq, decide_eq_false_iff_not, and_true, eq_self, true_and, true_implies]
 exact ⟨fun h => by rw [decide_eq_decide]; omega, fun h => by symm; rw [decide_eq_false_iff_not]; omega⟩
theorem s26 : SoundCt Go.Proofs.Tryz.prog 26 ct26 :=
 contractH followsMixed (look_sound (show Tb Go.Proofs.Tryz.prog tb26 from trivial)) (fun _ => false) (fun _ => A26) 6 26 ct26 rfl (by simp [ct26]) fun a => Eq.mp (by kernel_rfl) (v26 ((cel 0 (arg 0 a)).int) ((cel 0 (arg 1 a)).int) ((cel 0 (arg 2 a)).int))
end Go.Sx
namespace Go.Sx
def ct43 : Ct := { ps := [(false, [.int .i64])], rs := [(false, [.bool])], pre := fun _ => True, out := fun a => [[.b (decide (1 ≤ (cel 0 (arg 0 a)).int ∧ (cel 0 (arg 0 a)).int ≤ 8))]] }
def tb43 : List (Nat × Ct) := []
def A43  : FuncId → Nat → LoopAnn := fun _ _ => LoopAnn.unroll 200
abbrev B43 (n : Int) : Prop := vcF Go.Proofs.Tryz.prog (look tb43) (fun _ => false) (A43) 6 43 [.int .i64 n] [] (fun sv heap => Gives [(false, [.bool])] [[.b (decide (1 ≤ n ∧ n ≤ 8))]] sv heap)
theorem e43 (n : Int) : B43 n = ((bLe 1 n = true → (bLe n 8 = decide (1 ≤ n ∧ n ≤ 8) ∧ True) ∧ True) ∧ (bLe 1 n = false → (false = decide (1 ≤ n ∧ n ≤ 8) ∧ True) ∧ True)) := by kernel_rfl
theorem v43 (n : Int) : Holds (Wfs [.int .i64 n] → True → B43 n) := by
 refine ⟨fun hw hp => ?_⟩
 rw [e43]
 simp only [bLe, bLt, decide_eq_true_eq, decide_eq_false_iff_not, and_true, eq_self, true_and, true_implies]
 exact ⟨fun h => by rw [decide_eq_decide]; omega, fun h => by symm; rw [decide_eq_false_iff_not]; omega⟩
theorem s43 : SoundCt Go.Proofs.Tryz.prog 43 ct43 :=
 contractH followsMixed (look_sound (show Tb Go.Proofs.Tryz.prog tb43 from trivial)) (fun _ => false) (fun _ => A43) 6 43 ct43 rfl (by simp [ct43]) fun a => Eq.mp (by kernel_rfl) (v43 ((cel 0 (arg 0 a)).int))
end Go.Sx
namespace Go.Sx
def ct31 : Ct := { ps := [(true, [.int .i64, .int .i64, .int .i64, .sl [.int .u64, .int .i64], .sl [.int .i64, .int .u64, .int .i64, .int .i64]])], rs := [(false, [.bool])], pre := fun _ => True, out := fun a => [[.b (Sp.prop (cel 0 (arg 0 a)).int (cel 1 (arg 0 a)).int (cel 2 (arg 0 a)).int (cel 3 (arg 0 a)).list (cel 4 (arg 0 a)).list)]] }
def tb31 : List (Nat × Ct) := [(26, ct26), (24, ct24)]
def A31 (ds : List (List C)) (ss : List (List C)) : FuncId → Nat → LoopAnn := fun _ ii => bif Nat.beq ii 6 then .inv (Int × Int) (fun z => Sp.pI (Sp.dokI ds) ds z.1 z.2) (fun z => [(45, .int .i64 z.1), (4, .int .u64 z.2)]) (fun z => []) [] [0, 1, 2, 3, 4, 6, 7, 9, 11, 41, 43, 44, 45, 46, 58, 63, 64, 65, 66, 95] (fun z => ds.length - z.1.toNat) else bif Nat.beq ii 14 then .inv (Int × Int) (fun z => Sp.pI (Sp.sokI ds ss) ss z.1 z.2) (fun z => [(65, .int .i64 z.1), (7, .int .i64 z.2)]) (fun z => []) [] [0, 1, 2, 3, 4, 6, 7, 9, 11, 41, 43, 44, 45, 46, 58, 63, 64, 65, 66, 95] (fun z => ss.length - z.1.toNat) else .unroll 0
abbrev B31 (w : Int) (c : Int) (p : Int) (ds : List (List C)) (ss : List (List C)) : Prop := vcF Go.Proofs.Tryz.prog (look tb31) (fun _ => false) (A31 ds ss) 6 31 [.agg [.int .i64 w, .int .i64 c, .int .i64 p, .sl [.int .u64, .int .i64] ds, .sl [.int .i64, .int .u64, .int .i64, .int .i64] ss]] [] (fun sv heap => Gives [(false, [.bool])] [[.b (Sp.prop w c p ds ss)]] sv heap)
def h31_0 : Int → Int → Int → List (List C) → List (List C) → List SV := fun (w c p : Int) (ds ss : List (List C)) => [SV.agg [SV.int .i64 w, SV.int .i64 c, SV.int .i64 p, SV.sl [.int .u64, .int .i64] ds, SV.sl [.int .i64, .int .u64, .int .i64, .int .i64] ss], SV.ref 0 0, SV.ref 1 0, SV.undef, SV.undef, SV.undef, SV.blit false, SV.sl [.int .u64, .int .i64] ds, SV.int .i64 (iLen ds), SV.undef, SV.undef, SV.undef, SV.undef, SV.undef]
def h31_1 : Int → Int → Int → List (List C) → List (List C) → List HB := fun (w c p : Int) (ds ss : List (List C)) => [HB.box [SV.int .i64 w, SV.int .i64 c, SV.int .i64 p, SV.sl [.int .u64, .int .i64] ds, SV.sl [.int .i64, .int .u64, .int .i64, .int .i64] ss] 31, HB.box [SV.int .i64 w, SV.int .i64 c, SV.int .i64 p] 27]
def h31_2 : Int → Int → Int → List (List C) → List (List C) → Int × Int → List SV := fun (w c p : Int) (ds ss : List (List C)) (x : Int × Int) => [SV.agg [SV.int .i64 w, SV.int .i64 c, SV.int .i64 p, SV.sl [.int .u64, .int .i64] ds, SV.sl [.int .i64, .int .u64, .int .i64, .int .i64] ss], SV.ref 0 0, SV.ref 1 0, SV.int .u64 x.2, SV.any, SV.blit false, SV.sl [.int .u64, .int .i64] ds, SV.int .i64 (iLen ds), SV.int .i64 x.1, SV.blit false, SV.any, SV.sl [.int .i64, .int .u64, .int .i64, .int .i64] ss, SV.int .i64 (iLen ss)]
def m31_0 (w : Int) (c : Int) (p : Int) (ds : List (List C)) (ss : List (List C)) : Prop := (false = Sp.prop w c p ds ss ∧ True) ∧ True
theorem e31 (w : Int) (c : Int) (p : Int) (ds : List (List C)) (ss : List (List C)) : B31 w c p ds ss = (True ∧ (True → True ∧ (bNot (decide (1 ≤ w ∧ w ≤ 8)) = false → True ∧ (True → True ∧ (bNot (decide (0 ≤ c ∧ c ≤ 1099511627776)) = false → True ∧ (True → True ∧ (bNot (decide (16 ≤ p ∧ p ≤ 8192)) = false → pLe (iLen ds) 9223372036854775807 → (bLt 8 (iLen ds) = false → pLe (iLen ss) 9223372036854775807 → (bLt 24 (iLen ss) = true → (m31_0 w c p ds ss)) ∧ (bLt 24 (iLen ss) = false → pLe (iLen ds) 9223372036854775807 → (∃ (x : Int × Int), Sp.pI (Sp.dokI ds) ds x.1 x.2 ∧ true = true ∧ ((IntKind.i64 = IntKind.i64 ∧ 0 = x.1) ∧ (IntKind.u64 = IntKind.u64 ∧ 0 = x.2) ∧ True) ∧ True) ∧ (∀ (x : Int × Int), true = true ∧ true = true) ∧ ∀ (x : Int × Int), Sp.pI (Sp.dokI ds) ds x.1 x.2 → InR .i64 x.1 ∧ InR .u64 x.2 ∧ True → True → (bLt x.1 (iLen ds) = true → pIn 0 (iLen ds) x.1 ∧ (InR .u64 (q0 (rGet ds x.1)) ∧ InR .i64 (q1 (rGet ds x.1)) ∧ True → (bLe (q0 (rGet ds x.1)) x.2 = false → True ∧ (True → True ∧ (bNot (decide (1 ≤ (q1 (rGet ds x.1)) ∧ (q1 (rGet ds x.1)) ≤ 8)) = true → (m31_0 w c p ds ss)) ∧ (bNot (decide (1 ≤ (q1 (rGet ds x.1)) ∧ (q1 (rGet ds x.1)) ≤ 8)) = false → InR .i64 (iAdd x.1 1) ∧ (true = true ∧ h31_0 w c p ds ss = h31_0 w c p ds ss) ∧ h31_1 w c p ds ss = h31_1 w c p ds ss ∧ ∃ (y : Int × Int), Sp.pI (Sp.dokI ds) ds y.1 y.2 ∧ true = true ∧ ((IntKind.i64 = IntKind.i64 ∧ iAdd x.1 1 = y.1) ∧ (IntKind.u64 = IntKind.u64 ∧ (q0 (rGet ds x.1)) = y.2) ∧ True) ∧ True ∧ ds.length - y.1.toNat < ds.length - x.1.toNat))) ∧ (bLe (q0 (rGet ds x.1)) x.2 = true → (m31_0 w c p ds ss)))) ∧ (bLt x.1 (iLen ds) = false → pLe (iLen ss) 9223372036854775807 → (∃ (x : Int × Int), Sp.pI (Sp.sokI ds ss) ss x.1 x.2 ∧ true = true ∧ ((IntKind.i64 = IntKind.i64 ∧ 0 = x.1) ∧ (IntKind.i64 = IntKind.i64 ∧ 0 = x.2) ∧ True) ∧ True) ∧ (∀ (x : Int × Int), true = true ∧ true = true) ∧ ∀ (x_1 : Int × Int), Sp.pI (Sp.sokI ds ss) ss x_1.1 x_1.2 → InR .i64 x_1.1 ∧ InR .i64 x_1.2 ∧ True → True → (bLt x_1.1 (iLen ss) = true → pIn 0 (iLen ss) x_1.1 ∧ (InR .i64 (q0 (rGet ss x_1.1)) ∧ InR .u64 (q1 (rGet ss x_1.1)) ∧ InR .i64 (q2 (rGet ss x_1.1)) ∧ InR .i64 (q3 (rGet ss x_1.1)) ∧ True → True ∧ (InR .i64 (Sp.bsx ds (q1 (rGet ss x_1.1))) ∧ True ∧ True → True ∧ (bNot (Sp.bsf ds (q1 (rGet ss x_1.1))) = false → (bLe (q0 (rGet ss x_1.1)) x_1.2 = false → True ∧ (True → True ∧ (bNot (decide (1 ≤ (q2 (rGet ss x_1.1)) ∧ (q2 (rGet ss x_1.1)) ≤ 8)) = false → True ∧ (True → True ∧ (bNot (decide (0 ≤ (q3 (rGet ss x_1.1)) ∧ (q3 (rGet ss x_1.1)) ≤ 1099511627776)) = true → (m31_0 w c p ds ss)) ∧ (bNot (decide (0 ≤ (q3 (rGet ss x_1.1)) ∧ (q3 (rGet ss x_1.1)) ≤ 1099511627776)) = false → InR .i64 (iAdd x_1.1 1) ∧ (true = true ∧ h31_2 w c p ds ss x = h31_2 w c p ds ss x) ∧ h31_1 w c p ds ss = h31_1 w c p ds ss ∧ ∃ (y : Int × Int), Sp.pI (Sp.sokI ds ss) ss y.1 y.2 ∧ true = true ∧ ((IntKind.i64 = IntKind.i64 ∧ iAdd x_1.1 1 = y.1) ∧ (IntKind.i64 = IntKind.i64 ∧ (q0 (rGet ss x_1.1)) = y.2) ∧ True) ∧ True ∧ ss.length - y.1.toNat < ss.length - x_1.1.toNat))) ∧ (bNot (decide (1 ≤ (q2 (rGet ss x_1.1)) ∧ (q2 (rGet ss x_1.1)) ≤ 8)) = true → (m31_0 w c p ds ss)))) ∧ (bLe (q0 (rGet ss x_1.1)) x_1.2 = true → (m31_0 w c p ds ss))) ∧ (bNot (Sp.bsf ds (q1 (rGet ss x_1.1))) = true → (m31_0 w c p ds ss))))) ∧ (bLt x_1.1 (iLen ss) = false → (true = Sp.prop w c p ds ss ∧ True) ∧ True)))) ∧ (bLt 8 (iLen ds) = true → (m31_0 w c p ds ss))) ∧ (bNot (decide (16 ≤ p ∧ p ≤ 8192)) = true → (m31_0 w c p ds ss)))) ∧ (bNot (decide (0 ≤ c ∧ c ≤ 1099511627776)) = true → (m31_0 w c p ds ss)))) ∧ (bNot (decide (1 ≤ w ∧ w ≤ 8)) = true → (m31_0 w c p ds ss)))) := by kernel_rfl
theorem v31 (w : Int) (c : Int) (p : Int) (ds : List (List C)) (ss : List (List C)) : Holds (Wfs [.agg [.int .i64 w, .int .i64 c, .int .i64 p, .sl [.int .u64, .int .i64] ds, .sl [.int .i64, .int .u64, .int .i64, .int .i64] ss]] → True → B31 w c p ds ss) := by
 refine ⟨fun hw hp => ?_⟩
 rw [e31]
 delta q0 q1 q2 q3 m31_0
 simp only [Wfs, Wf, InR, and_true] at hw
 simp only [eq_self, true_and, and_true, true_implies, implies_true, iAdd, iSub, iMul, iLen, bEq, bNe, bLt, bLe, bNot, pIn, pLe, pNe, InR, decide_eq_true_eq, decide_eq_false_iff_not, Bool.not_eq_true', Bool.not_eq_false', decide_eq_decide]
 have N := Sp.prop_n (w := w) (c := c) (p := p) (ds := ds) (ss := ss)
 refine ⟨fun a1 => ⟨fun a2 => ⟨fun a3 _ => ⟨fun a4 _ => ⟨fun a5 => N (by omega), fun a5 _ => ⟨⟨(0, 0), Sp.pI_init, rfl, rfl⟩, ?_⟩⟩, fun a4 => N (by omega)⟩, fun a3 => N (by omega)⟩, fun a2 => N (by omega)⟩, fun a1 => N (by omega)⟩
 rintro ⟨k, b⟩ hk hk1
 simp only at hk hk1 ⊢
 have k0 := hk.1.1
 refine ⟨fun hlt => ?_, fun hge _ => ⟨⟨(0, 0), Sp.pI_init, rfl, rfl⟩, ?_⟩⟩
 · have e := Sp.pI_dok hk
   have e0 : Sp.c0 (rGet ds k) = ((rGet ds k).headD default).int := rfl
   have e1 : Sp.c1 (rGet ds k) = ((rGet ds k).tail.headD default).int := rfl
   have F : ¬ (b < Sp.c0 (rGet ds k) ∧ 1 ≤ Sp.c1 (rGet ds k) ∧ Sp.c1 (rGet ds k) ≤ 8) → false = Sp.prop w c p ds ss := fun h => Sp.prop_d k0 hlt (by rw [e]; exact decide_eq_false h)
   refine ⟨⟨k0, hlt⟩, fun _ => ⟨fun h1 => ⟨fun h2 => F (by omega), fun h2 => ⟨by omega, (k + 1, _), Sp.pI_step hk hlt (by rw [e, decide_eq_true_eq]; omega), ⟨rfl, rfl⟩, by simp only; omega⟩⟩, fun h1 => F (by omega)⟩⟩
 · have hD := Sp.aI_end hk.1 hge
   have hA := Sp.dok_asc hD
   rintro ⟨j, b2⟩ hj hj1
   simp only at hj hj1 ⊢
   have j0 := hj.1.1
   refine ⟨fun hlt => ?_, fun hge2 => ?_⟩
   · have e := Sp.pI_sok hj
     have e0 : Sp.c0 (rGet ss j) = ((rGet ss j).headD default).int := rfl
     have e1 : Sp.c1 (rGet ss j) = ((rGet ss j).tail.headD default).int := rfl
     have e2 : Sp.c2 (rGet ss j) = ((rGet ss j).tail.tail.headD default).int := rfl
     have e3 : Sp.c3 (rGet ss j) = ((rGet ss j).tail.tail.tail.headD default).int := rfl
     have F : ¬ (b2 < Sp.c0 (rGet ss j) ∧ 1 ≤ Sp.c2 (rGet ss j) ∧ Sp.c2 (rGet ss j) ≤ 8 ∧ 0 ≤ Sp.c3 (rGet ss j) ∧ Sp.c3 (rGet ss j) ≤ 1099511627776) → false = Sp.prop w c p ds ss := fun h => Sp.prop_s j0 hlt (by rw [e, decide_eq_false h]; rfl)
     rw [Sp.bsf_has hA]
     refine ⟨⟨j0, hlt⟩, fun _ _ => ⟨fun hh => ⟨fun h1 => ⟨fun h2 => ⟨fun h3 => F (by omega), fun h3 => ⟨by omega, (j + 1, _), Sp.pI_step hj hlt ?_, ⟨rfl, rfl⟩, by simp only; omega⟩⟩, fun h2 => F (by omega)⟩, fun h1 => F (by omega)⟩, fun hh => Sp.prop_s j0 hlt ?_⟩⟩
     · rw [e, e1, hh, Bool.and_true, decide_eq_true_eq]; omega
     · rw [e, e1, hh, Bool.and_false]
   · exact (Sp.prop_iff.2 ⟨by omega, hD, Sp.aI_end hj.1 hge2⟩).symm
theorem s31 : SoundCt Go.Proofs.Tryz.prog 31 ct31 :=
 contractH followsMixed (look_sound (show Tb Go.Proofs.Tryz.prog tb31 from ⟨s26, ⟨s24, trivial⟩⟩)) (fun _ => false) (fun a => A31 ((cel 3 (arg 0 a)).list) ((cel 4 (arg 0 a)).list)) 6 31 ct31 rfl (by simp [ct31]) fun a => Eq.mp (by kernel_rfl) (v31 ((cel 0 (arg 0 a)).int) ((cel 1 (arg 0 a)).int) ((cel 2 (arg 0 a)).int) ((cel 3 (arg 0 a)).list) ((cel 4 (arg 0 a)).list))
end Go.Sx
namespace Go.Sx
def ct66 : Ct := { ps := [(true, [.int .i64, .int .i64, .int .i64, .sl [.int .u64, .int .i64], .sl [.int .i64, .int .u64, .int .i64, .int .i64]])], rs := [(false, [.bool])], pre := fun _ => True, out := fun a => [[.b (Sp.prop (cel 0 (arg 0 a)).int (cel 1 (arg 0 a)).int (cel 2 (arg 0 a)).int (cel 3 (arg 0 a)).list (cel 4 (arg 0 a)).list)]] }
def tb66 : List (Nat × Ct) := [(43, ct43), (44, ct44)]
def A66 (ds : List (List C)) (ss : List (List C)) : FuncId → Nat → LoopAnn := fun _ ii => bif Nat.beq ii 5 then .inv (Int) (fun z => Sp.aI (Sp.dokI ds) ds.length z) (fun z => [(4, .int .i64 z)]) (fun z => []) [] [0, 1, 2, 3, 4, 5, 6, 7, 49, 54, 86, 91, 140] (fun z => ds.length - z.toNat) else bif Nat.beq ii 11 then .inv (Int) (fun z => Sp.aI (Sp.sokI ds ss) ss.length z) (fun z => [(6, .int .i64 z)]) (fun z => []) [] [0, 1, 2, 3, 4, 5, 6, 7, 49, 54, 86, 91, 140] (fun z => ss.length - z.toNat) else .unroll 0
abbrev B66 (w : Int) (c : Int) (p : Int) (ds : List (List C)) (ss : List (List C)) : Prop := vcF Go.Proofs.Tryz.prog (look tb66) (fun _ => false) (A66 ds ss) 6 66 [.agg [.int .i64 w, .int .i64 c, .int .i64 p, .sl [.int .u64, .int .i64] ds, .sl [.int .i64, .int .u64, .int .i64, .int .i64] ss]] [] (fun sv heap => Gives [(false, [.bool])] [[.b (Sp.prop w c p ds ss)]] sv heap)
def h66_0 : Int → Int → Int → List (List C) → List (List C) → List SV := fun (w c p : Int) (ds ss : List (List C)) => [SV.agg [SV.int .i64 w, SV.int .i64 c, SV.int .i64 p, SV.sl [.int .u64, .int .i64] ds, SV.sl [.int .i64, .int .u64, .int .i64, .int .i64] ss], SV.ref 0 0, SV.ref 1 0, SV.undef, SV.undef, SV.blit false, SV.undef, SV.undef]
def h66_1 : Int → Int → Int → List (List C) → List (List C) → List HB := fun (w c p : Int) (ds ss : List (List C)) => [HB.box [SV.int .i64 w, SV.int .i64 c, SV.int .i64 p, SV.sl [.int .u64, .int .i64] ds, SV.sl [.int .i64, .int .u64, .int .i64, .int .i64] ss] 31, HB.box [SV.int .i64 w, SV.int .i64 c, SV.int .i64 p] 27]
def h66_2 : Int → Int → Int → List (List C) → List (List C) → Int → List SV := fun (w c p : Int) (ds ss : List (List C)) (x : Int) => [SV.agg [SV.int .i64 w, SV.int .i64 c, SV.int .i64 p, SV.sl [.int .u64, .int .i64] ds, SV.sl [.int .i64, .int .u64, .int .i64, .int .i64] ss], SV.ref 0 0, SV.ref 1 0, SV.int .i64 x, SV.any, SV.blit false, SV.blit false, SV.any]
def m66_0 (w : Int) (c : Int) (p : Int) (ds : List (List C)) (ss : List (List C)) (x : Int) (x_1 : Int) : Prop := True ∧ (True → True ∧ (bNot (decide (1 ≤ (q2 (rGet ss x_1)) ∧ (q2 (rGet ss x_1)) ≤ 8)) = false → (bLt (q3 (rGet ss x_1)) 0 = false → (bLt 1099511627776 (q3 (rGet ss x_1)) = false → True ∧ (InR .i64 (Sp.nix ds (q1 (rGet ss x_1))) → (bLt (Sp.nix ds (q1 (rGet ss x_1))) 0 = true → (false = Sp.prop w c p ds ss ∧ True) ∧ True) ∧ (bLt (Sp.nix ds (q1 (rGet ss x_1))) 0 = false → InR .i64 (iAdd x_1 1) ∧ (true = true ∧ h66_2 w c p ds ss x = h66_2 w c p ds ss x) ∧ h66_1 w c p ds ss = h66_1 w c p ds ss ∧ ∃ (y : Int), Sp.aI (Sp.sokI ds ss) ss.length y ∧ true = true ∧ ((IntKind.i64 = IntKind.i64 ∧ iAdd x_1 1 = y) ∧ True) ∧ True ∧ ss.length - y.toNat < ss.length - x_1.toNat))) ∧ (bLt 1099511627776 (q3 (rGet ss x_1)) = true → (false = Sp.prop w c p ds ss ∧ True) ∧ True)) ∧ (bLt (q3 (rGet ss x_1)) 0 = true → (false = Sp.prop w c p ds ss ∧ True) ∧ True)) ∧ (bNot (decide (1 ≤ (q2 (rGet ss x_1)) ∧ (q2 (rGet ss x_1)) ≤ 8)) = true → (false = Sp.prop w c p ds ss ∧ True) ∧ True))
def m66_1 (w : Int) (c : Int) (p : Int) (ds : List (List C)) (ss : List (List C)) : Prop := (false = Sp.prop w c p ds ss ∧ True) ∧ True
def m66_2 (w : Int) (c : Int) (p : Int) (ds : List (List C)) (ss : List (List C)) (x : Int) : Prop := True ∧ (True → True ∧ (bNot (decide (1 ≤ (q1 (rGet ds x)) ∧ (q1 (rGet ds x)) ≤ 8)) = true → (m66_1 w c p ds ss)) ∧ (bNot (decide (1 ≤ (q1 (rGet ds x)) ∧ (q1 (rGet ds x)) ≤ 8)) = false → InR .i64 (iAdd x 1) ∧ (true = true ∧ h66_0 w c p ds ss = h66_0 w c p ds ss) ∧ h66_1 w c p ds ss = h66_1 w c p ds ss ∧ ∃ (y : Int), Sp.aI (Sp.dokI ds) ds.length y ∧ true = true ∧ ((IntKind.i64 = IntKind.i64 ∧ iAdd x 1 = y) ∧ True) ∧ True ∧ ds.length - y.toNat < ds.length - x.toNat))
theorem e66 (w : Int) (c : Int) (p : Int) (ds : List (List C)) (ss : List (List C)) : B66 w c p ds ss = ((bLt w 1 = false → (bLt 8 w = false → (bLt c 0 = false → (bLt 1099511627776 c = false → (bLt p 16 = false → (bLt 8192 p = false → pLe (iLen ds) 9223372036854775807 → (bLt 8 (iLen ds) = false → pLe (iLen ss) 9223372036854775807 → (bLt 24 (iLen ss) = true → (m66_1 w c p ds ss)) ∧ (bLt 24 (iLen ss) = false → (∃ (x : Int), Sp.aI (Sp.dokI ds) ds.length x ∧ true = true ∧ ((IntKind.i64 = IntKind.i64 ∧ 0 = x) ∧ True) ∧ True) ∧ (∀ (x : Int), true = true ∧ true = true) ∧ ∀ (x : Int), Sp.aI (Sp.dokI ds) ds.length x → InR .i64 x ∧ True → True → pLe (iLen ds) 9223372036854775807 → (bLt x (iLen ds) = true → pIn 0 (iLen ds) x ∧ (InR .u64 (q0 (rGet ds x)) ∧ InR .i64 (q1 (rGet ds x)) ∧ True → (bLt (q0 (rGet ds x)) 1 = false → (bLt 0 x = true → InR .i64 (iSub x 1) ∧ pIn 0 (iLen ds) (iSub x 1) ∧ (InR .u64 (q0 (rGet ds (iSub x 1))) → (bLe (q0 (rGet ds x)) (q0 (rGet ds (iSub x 1))) = false → (m66_2 w c p ds ss x)) ∧ (bLe (q0 (rGet ds x)) (q0 (rGet ds (iSub x 1))) = true → (m66_1 w c p ds ss)))) ∧ (bLt 0 x = false → (m66_2 w c p ds ss x))) ∧ (bLt (q0 (rGet ds x)) 1 = true → (m66_1 w c p ds ss)))) ∧ (bLt x (iLen ds) = false → (∃ (x : Int), Sp.aI (Sp.sokI ds ss) ss.length x ∧ true = true ∧ ((IntKind.i64 = IntKind.i64 ∧ 0 = x) ∧ True) ∧ True) ∧ (∀ (x : Int), true = true ∧ true = true) ∧ ∀ (x_1 : Int), Sp.aI (Sp.sokI ds ss) ss.length x_1 → InR .i64 x_1 ∧ True → True → pLe (iLen ss) 9223372036854775807 → (bLt x_1 (iLen ss) = true → pIn 0 (iLen ss) x_1 ∧ (InR .i64 (q0 (rGet ss x_1)) ∧ InR .u64 (q1 (rGet ss x_1)) ∧ InR .i64 (q2 (rGet ss x_1)) ∧ InR .i64 (q3 (rGet ss x_1)) ∧ True → (bLt (q0 (rGet ss x_1)) 1 = false → (bLt 0 x_1 = true → InR .i64 (iSub x_1 1) ∧ pIn 0 (iLen ss) (iSub x_1 1) ∧ (InR .i64 (q0 (rGet ss (iSub x_1 1))) → (bLe (q0 (rGet ss x_1)) (q0 (rGet ss (iSub x_1 1))) = false → (m66_0 w c p ds ss x x_1)) ∧ (bLe (q0 (rGet ss x_1)) (q0 (rGet ss (iSub x_1 1))) = true → (m66_1 w c p ds ss)))) ∧ (bLt 0 x_1 = false → (m66_0 w c p ds ss x x_1))) ∧ (bLt (q0 (rGet ss x_1)) 1 = true → (m66_1 w c p ds ss)))) ∧ (bLt x_1 (iLen ss) = false → (true = Sp.prop w c p ds ss ∧ True) ∧ True)))) ∧ (bLt 8 (iLen ds) = true → (m66_1 w c p ds ss))) ∧ (bLt 8192 p = true → (m66_1 w c p ds ss))) ∧ (bLt p 16 = true → (m66_1 w c p ds ss))) ∧ (bLt 1099511627776 c = true → (m66_1 w c p ds ss))) ∧ (bLt c 0 = true → (m66_1 w c p ds ss))) ∧ (bLt 8 w = true → (m66_1 w c p ds ss))) ∧ (bLt w 1 = true → (m66_1 w c p ds ss))) := by kernel_rfl
theorem v66 (w : Int) (c : Int) (p : Int) (ds : List (List C)) (ss : List (List C)) : Holds (Wfs [.agg [.int .i64 w, .int .i64 c, .int .i64 p, .sl [.int .u64, .int .i64] ds, .sl [.int .i64, .int .u64, .int .i64, .int .i64] ss]] → True → B66 w c p ds ss) := by
 refine ⟨fun hw hp => ?_⟩
 rw [e66]
 delta q0 q1 q2 q3 m66_0 m66_1 m66_2
 simp only [Wfs, Wf, InR, and_true] at hw
 simp only [eq_self, true_and, and_true, true_implies, implies_true, iAdd, iSub, iMul, iLen, bEq, bNe, bLt, bLe, bNot, pIn, pLe, pNe, InR, decide_eq_true_eq, decide_eq_false_iff_not, Bool.not_eq_true', Bool.not_eq_false', decide_eq_decide]
 have N := Sp.prop_n (w := w) (c := c) (p := p) (ds := ds) (ss := ss)
 refine ⟨fun a1 => ⟨fun a2 => ⟨fun a3 => ⟨fun a4 => ⟨fun a5 => ⟨fun a6 _ => ⟨fun a7 _ => ⟨fun a8 => N (by omega), fun a8 => ⟨⟨0, Sp.aI_init, rfl⟩, ?_⟩⟩, fun a => N (by omega)⟩, fun a => N (by omega)⟩, fun a => N (by omega)⟩, fun a => N (by omega)⟩, fun a => N (by omega)⟩, fun a => N (by omega)⟩, fun a => N (by omega)⟩
 intro k hk hk1 _
 have k0 := hk.1
 refine ⟨fun hlt => ?_, fun hge => ⟨⟨0, Sp.aI_init, rfl⟩, ?_⟩⟩
 · have e0 : Sp.c0 (rGet ds k) = ((rGet ds k).headD default).int := rfl
   have e1 : Sp.c1 (rGet ds k) = ((rGet ds k).tail.headD default).int := rfl
   have e2 : Sp.c0 (rGet ds (k - 1)) = ((rGet ds (k - 1)).headD default).int := rfl
   have F : ¬ (1 ≤ Sp.c0 (rGet ds k) ∧ (k ≤ 0 ∨ Sp.c0 (rGet ds (k - 1)) < Sp.c0 (rGet ds k)) ∧ 1 ≤ Sp.c1 (rGet ds k) ∧ Sp.c1 (rGet ds k) ≤ 8) → false = Sp.prop w c p ds ss := fun h => Sp.prop_d k0 hlt (decide_eq_false h)
   have T : (1 ≤ Sp.c0 (rGet ds k) ∧ (k ≤ 0 ∨ Sp.c0 (rGet ds (k - 1)) < Sp.c0 (rGet ds k)) ∧ 1 ≤ Sp.c1 (rGet ds k) ∧ Sp.c1 (rGet ds k) ≤ 8) → ∃ y, Sp.aI (Sp.dokI ds) ds.length y ∧ k + 1 = y ∧ ds.length - y.toNat < ds.length - k.toNat := fun h => ⟨k + 1, Sp.aI_step hk hlt (decide_eq_true h), rfl, by omega⟩
   refine ⟨⟨k0, hlt⟩, fun _ => ⟨fun h1 => ⟨fun h2 => ⟨by omega, ⟨by omega, by omega⟩, fun _ => ⟨fun h3 => ⟨fun h4 => F (by omega), fun h4 => ⟨by omega, T (by omega)⟩⟩, fun h3 => F (by omega)⟩⟩, fun h2 => ⟨fun h4 => F (by omega), fun h4 => ⟨by omega, T (by omega)⟩⟩⟩, fun h1 => F (by omega)⟩⟩
 · have hD := Sp.aI_end hk hge
   intro j hj hj1 _
   have j0 := hj.1
   refine ⟨fun hlt => ?_, fun hge2 => ?_⟩
   · have e0 : Sp.c0 (rGet ss j) = ((rGet ss j).headD default).int := rfl
     have e1 : Sp.c1 (rGet ss j) = ((rGet ss j).tail.headD default).int := rfl
     have e2 : Sp.c2 (rGet ss j) = ((rGet ss j).tail.tail.headD default).int := rfl
     have e3 : Sp.c3 (rGet ss j) = ((rGet ss j).tail.tail.tail.headD default).int := rfl
     have e4 : Sp.c0 (rGet ss (j - 1)) = ((rGet ss (j - 1)).headD default).int := rfl
     have F : ¬ (1 ≤ Sp.c0 (rGet ss j) ∧ (j ≤ 0 ∨ Sp.c0 (rGet ss (j - 1)) < Sp.c0 (rGet ss j)) ∧ 1 ≤ Sp.c2 (rGet ss j) ∧ Sp.c2 (rGet ss j) ≤ 8 ∧ 0 ≤ Sp.c3 (rGet ss j) ∧ Sp.c3 (rGet ss j) ≤ 1099511627776) → false = Sp.prop w c p ds ss := fun h => Sp.prop_s j0 hlt (by unfold Sp.sokI; rw [decide_eq_false h]; rfl)
     have L : (1 ≤ Sp.c0 (rGet ss j) ∧ (j ≤ 0 ∨ Sp.c0 (rGet ss (j - 1)) < Sp.c0 (rGet ss j)) ∧ 1 ≤ Sp.c2 (rGet ss j) ∧ Sp.c2 (rGet ss j) ≤ 8 ∧ 0 ≤ Sp.c3 (rGet ss j) ∧ Sp.c3 (rGet ss j) ≤ 1099511627776) → (Sp.nix ds ((rGet ss j).tail.headD default).int < 0 → false = Sp.prop w c p ds ss) ∧ (¬ Sp.nix ds ((rGet ss j).tail.headD default).int < 0 → (-9223372036854775808 ≤ j + 1 ∧ j + 1 ≤ 9223372036854775807) ∧ ∃ y, Sp.aI (Sp.sokI ds ss) ss.length y ∧ j + 1 = y ∧ ss.length - y.toNat < ss.length - j.toNat) := fun h =>
      ⟨fun hn => Sp.prop_s j0 hlt (by unfold Sp.sokI Sp.has; rw [e1, decide_eq_false (show ¬ 0 ≤ Sp.nix ds ((rGet ss j).tail.headD default).int by omega), Bool.and_false]), fun hn => ⟨by omega, j + 1, Sp.aI_step hj hlt (by unfold Sp.sokI Sp.has; rw [decide_eq_true h, e1, decide_eq_true (show 0 ≤ Sp.nix ds ((rGet ss j).tail.headD default).int by omega)]; rfl), rfl, by omega⟩⟩
     refine ⟨⟨j0, hlt⟩, fun _ => ⟨fun h1 => ⟨fun h2 => ⟨by omega, ⟨by omega, by omega⟩, fun _ => ⟨fun h3 => ⟨fun h4 => ⟨fun h5 => ⟨fun h6 _ => L (by omega), fun h6 => F (by omega)⟩, fun h5 => F (by omega)⟩, fun h4 => F (by omega)⟩, fun h3 => F (by omega)⟩⟩, fun h2 => ⟨fun h4 => ⟨fun h5 => ⟨fun h6 _ => L (by omega), fun h6 => F (by omega)⟩, fun h5 => F (by omega)⟩, fun h4 => F (by omega)⟩⟩, fun h1 => F (by omega)⟩⟩
   · exact (Sp.prop_iff.2 ⟨by omega, hD, Sp.aI_end hj hge2⟩).symm
theorem s66 : SoundCt Go.Proofs.Tryz.prog 66 ct66 :=
 contractH followsMixed (look_sound (show Tb Go.Proofs.Tryz.prog tb66 from ⟨s43, ⟨s44, trivial⟩⟩)) (fun _ => false) (fun a => A66 ((cel 3 (arg 0 a)).list) ((cel 4 (arg 0 a)).list)) 6 66 ct66 rfl (by simp [ct66]) fun a => Eq.mp (by kernel_rfl) (v66 ((cel 0 (arg 0 a)).int) ((cel 1 (arg 0 a)).int) ((cel 2 (arg 0 a)).int) ((cel 3 (arg 0 a)).list) ((cel 4 (arg 0 a)).list))
end Go.Sx
