import Derived.Test.YtphaelepnjekoaaGreatSxUse
import Derived.Test.YtphaelepnjekoaaGreatZ27x
import Derived.KernelRfl
set_option linter.unusedVariables false
set_option linter.unusedSimpArgs false
set_option maxRecDepth 100000
set_option maxHeartbeats 4000000
namespace Go
open Go.Sx
section
variable {w c p s0 s1 s2 s3 n id ch dv : Int} {ds ss ds' ss' : List (List C)}
theorem Sp.ad_bval (h : Sp.adE w c p ds ss s0 s1 s2 s3 n = 0) : Sp.bval w c p ds (Sp.inS ss s0 s1 s2 n) = true ∧ Sp.asc ss := by
 by_cases h1 : Sp.bval w c p ds ss = true
 case neg => rw [Sp.ad1 (Sp.allB h1)] at h; omega
 by_cases h2 : Sp.adB s0 s2 s3 n
 · rw [Sp.ad2 h1 h2] at h; omega
 by_cases h3 : Sp.has ss s0 = true
 · rw [Sp.ad8 h1 h2 h3] at h; omega
 by_cases h4 : Sp.has ds s1 = true
 case neg => rw [Sp.ad7 h1 h2 (Sp.allB h3) (Sp.allB h4)] at h; omega
 rw [Sp.adx h1 h2 (Sp.allB h3) h4] at h
 by_cases h5 : 24 ≤ ss.length
 · rw [decide_eq_true h5, cond_true] at h; omega
 rw [decide_eq_false h5, cond_false] at h
 by_cases hn : s3 < n
 · rw [decide_eq_true hn, cond_true] at h; omega
 rw [decide_eq_false hn, cond_false] at h
 by_cases h6 : c < Sp.ld w c p ds (Sp.inS ss s0 s1 s2 n)
 · rw [decide_eq_true h6, cond_true] at h; omega
 refine ⟨?_, (Sp.bval_asc h1).2⟩
 unfold Sp.bval
 unfold Sp.adB at h2
 rw [Sp.ins_prop (Sp.bval_prop h1) (by unfold Sp.adB; omega) (Sp.allB h3) h4 h5, decide_eq_true (by omega)]; rfl
theorem Sp.le_bval (h : Sp.leE w c p ds ss id = 0) : Sp.bval w c p ds (Sp.del ss (Sp.bsx ss id) (Sp.bsx ss id + 1)) = true := by
 unfold Sp.leE at h
 cases h1 : Sp.bval w c p ds ss with
 | false => rw [h1] at h; cases h
 | true =>
  cases h2 : Sp.has ss id with
  | false => rw [h1, h2] at h; cases h
  | true =>
   have hx := Sp.bsx_nix (Sp.bval_asc h1).2 h2
   obtain ⟨n0, n1, _⟩ := Sp.nix_has h2
   rw [hx]
   exact Sp.bval_del h1 n0 n1
theorem Sp.mo_bval (h : Sp.moE w c p ds ss id dv = 0) : Sp.bval w c p ds (Sp.mvS ss id dv) = true := by
 unfold Sp.moE at h
 cases h1 : Sp.bval w c p ds ss with
 | false => rw [h1] at h; cases h
 | true =>
  cases h2 : Sp.has ss id with
  | false => rw [h1, h2] at h; cases h
  | true =>
   cases h3 : Sp.has ds dv with
   | false => rw [h1, h2, h3] at h; cases h
   | true =>
    by_cases h4 : c < Sp.ld w c p ds (Sp.mvS ss id dv)
    · rw [h1, h2, h3, decide_eq_true h4] at h; cases h
    obtain ⟨n0, n1, _⟩ := Sp.nix_has h2
    obtain ⟨a, b, d⟩ := Sp.prop_iff.1 (Sp.bval_prop h1)
    have ln : (Sp.mvS ss id dv).length = ss.length := List.length_set ..
    have g : ∀ k : Int, 0 ≤ k → rGet (Sp.mvS ss id dv) k = if Sp.nix ss id = k then [.i (Sp.c0 (rGet ss (Sp.nix ss id))), .i dv, .i (Sp.c2 (rGet ss (Sp.nix ss id))), .i (Sp.c3 (rGet ss (Sp.nix ss id)))] else rGet ss k := fun k k0 => by
     unfold Sp.mvS rSet rGet
     rw [List.getD_eq_getElem?_getD, List.getElem?_set]
     by_cases e : Sp.nix ss id = k
     · rw [if_pos (by omega), if_pos (by omega), if_pos e]; rfl
     · rw [if_neg (by omega), if_neg e, ← List.getD_eq_getElem?_getD]
    have g0 : ∀ k : Int, 0 ≤ k → Sp.c0 (rGet (Sp.mvS ss id dv) k) = Sp.c0 (rGet ss k) := fun k k0 => by
     rw [g k k0]
     split
     · rename_i e; rw [e]; rfl
     · rfl
    unfold Sp.bval
    rw [decide_eq_true (by omega), Bool.and_true]
    refine Sp.prop_iff.2 ⟨by omega, b, Sp.allI_all fun k k0 k1 => ?_⟩
    rw [ln] at k1
    have hk := Sp.allI_iff.1 d k k0 k1
    unfold Sp.sokI at hk ⊢
    rw [Bool.and_eq_true, decide_eq_true_eq] at hk ⊢
    have e1 : k ≤ 0 ∨ Sp.c0 (rGet (Sp.mvS ss id dv) (k - 1)) < Sp.c0 (rGet (Sp.mvS ss id dv) k) := by
     rcases hk.1.2.1 with h | h
     · exact .inl h
     · by_cases k2 : k ≤ 0
       · exact .inl k2
       · rw [g0 k k0, g0 (k - 1) (by omega)]; exact .inr h
    by_cases e : Sp.nix ss id = k
    · have gk := g k k0
      rw [if_pos e, e] at gk
      rw [gk] at e1 ⊢
      exact ⟨⟨hk.1.1, e1, hk.1.2.2⟩, h3⟩
    · have gk := g k k0
      rw [if_neg e] at gk
      rw [gk] at e1 ⊢
      exact ⟨⟨hk.1.1, e1, hk.1.2.2⟩, hk.2⟩
theorem Sp.bval_m (h1 : ds.map Sp.r2 = ds'.map Sp.r2) (h2 : ss.map Sp.r4 = ss'.map Sp.r4) : Sp.bval w c p ds ss = Sp.bval w c p ds' ss' := by
 unfold Sp.bval
 rw [Sp.ld_eq h1 h2, ← Sp.prop_m (ds := ds) (ss := ss), h1, h2, Sp.prop_m]
theorem Sp.ho_bval (h : Sp.hoE w c p ds [] id ch = 0) (hi : 0 ≤ id) : Sp.bval w c p (Sp.inD ds id ch) [] = true ∧ Sp.asc ds := by
 unfold Sp.hoE at h
 cases h1 : Sp.bval w c p ds [] with
 | false => rw [h1] at h; cases h
 | true =>
  by_cases h2 : id = 0 ∨ ¬ (1 ≤ ch ∧ ch ≤ 8)
  · rw [h1, decide_eq_true h2] at h; cases h
  cases h3 : Sp.has ds id with
  | true => rw [h1, decide_eq_false h2, h3] at h; cases h
  | false =>
   by_cases h4 : 8 ≤ ds.length
   · rw [h1, decide_eq_false h2, h3, decide_eq_true h4] at h; cases h
   by_cases h5 : c < Sp.ld w c p (Sp.inD ds id ch) []
   · rw [h1, decide_eq_false h2, h3, decide_eq_false h4, decide_eq_true h5] at h; cases h
   obtain ⟨a, b, d⟩ := Sp.prop_iff.1 (Sp.bval_prop h1)
   have ha := (Sp.bval_asc h1).1
   refine ⟨?_, ha⟩
   obtain ⟨k0, k1, k2, k3⟩ := Sp.bsx_ok ha id
   have ln : (Sp.inD ds id ch).length = ds.length + 1 := Sp.ins_len
   have g : ∀ m : Int, 0 ≤ m → rGet (Sp.inD ds id ch) m = if m < Sp.bsx ds id then rGet ds m else if m = Sp.bsx ds id then [.i id, .i ch] else rGet ds (m - 1) := fun m m0 => Sp.get_ins k0 k1 m0
   unfold Sp.bval
   rw [decide_eq_true (by omega), Bool.and_true]
   refine Sp.prop_iff.2 ⟨by omega, Sp.allI_all fun k g0 g1 => ?_, d⟩
   rw [ln] at g1
   have key : ∀ m : Int, 0 ≤ m → m < (ds.length : Int) → 1 ≤ Sp.c0 (rGet ds m) ∧ 1 ≤ Sp.c1 (rGet ds m) ∧ Sp.c1 (rGet ds m) ≤ 8 := fun m m0 m1 => by
    have := Sp.allI_iff.1 b m m0 m1
    unfold Sp.dokI at this
    rw [decide_eq_true_eq] at this
    exact ⟨this.1, this.2.2⟩
   have i0 : Sp.c0 [C.i id, .i ch] = id := rfl
   have i1 : Sp.c1 [C.i id, .i ch] = ch := rfl
   have ord : k ≤ 0 ∨ Sp.c0 (rGet (Sp.inD ds id ch) (k - 1)) < Sp.c0 (rGet (Sp.inD ds id ch) k) := by
    by_cases ek : k ≤ 0
    · exact .inl ek
    refine .inr ?_
    rw [g k g0, g (k - 1) (by omega)]
    by_cases e1 : k < Sp.bsx ds id
    · rw [if_pos e1, if_pos (by omega)]; exact ha (k - 1) k (by omega) (by omega) (by omega)
    · rw [if_neg e1]
      by_cases e2 : k = Sp.bsx ds id
      · rw [if_pos e2, if_pos (by omega), i0]; exact k2 (k - 1) (by omega) (by omega)
      · rw [if_neg e2, if_neg (by omega)]
        by_cases e3 : k - 1 = Sp.bsx ds id
        · rw [if_pos e3, i0]
          have h6 := k3 (k - 1) (by omega) (by omega)
          have h7 := Sp.has_no h3 (k := k - 1) (by omega) (by omega)
          omega
        · rw [if_neg e3]; exact ha (k - 1 - 1) (k - 1) (by omega) (by omega) (by omega)
   unfold Sp.dokI
   rw [decide_eq_true_eq]
   have gk := g k g0
   by_cases e1 : k < Sp.bsx ds id
   · rw [if_pos e1] at gk
     have := key k g0 (by omega)
     rw [gk] at ord ⊢
     exact ⟨this.1, ord, this.2⟩
   · rw [if_neg e1] at gk
     by_cases e2 : k = Sp.bsx ds id
     · rw [if_pos e2] at gk
       rw [gk] at ord ⊢
       rw [i0, i1]
       rw [i0] at ord
       exact ⟨by omega, ord, by omega⟩
     · rw [if_neg e2] at gk
       have := key (k - 1) (by omega) (by omega)
       rw [gk] at ord ⊢
       exact ⟨this.1, ord, this.2⟩
theorem Sp.hoL_bval {l : List (List C)} : ∀ (k : Nat) (z : Int × List (List C)), Sp.bval w c p z.2 [] = true → Sp.bval w c p (Sp.hoL w c p l k z).2 [] = true
 | 0, _, h => h
 | k + 1, z, h => by
  rw [Sp.hoL]
  refine Sp.hoL_bval k _ ?_
  simp only
  have b := Sp.kn_bd (l := l) (a := z.1) (n := 5) (by omega)
  by_cases he : Sp.hoE w c p z.2 [] (1 + Sp.kn l z.1 5) (1 + Sp.kn l (Sp.ka l z.1) 4) = 0
  · rw [decide_eq_true he, cond_true]
    obtain ⟨h1, h2⟩ := Sp.ho_bval he (by omega)
    rw [Sp.bval_m (Sp.inD_m h2) rfl]; exact h1
  · rw [decide_eq_false he, cond_false]; exact h
theorem Sp.adL_bval {l : List (List C)} : ∀ (k : Nat) (z : Int × List (List C)), Sp.bval w c p ds z.2 = true → Sp.bval w c p ds (Sp.adL w c p ds l k z).2 = true
 | 0, _, h => h
 | k + 1, z, h => by
  rw [Sp.adL]
  refine Sp.adL_bval k _ ?_
  simp only
  by_cases he : Sp.adE w c p ds z.2 (Sp.s0 l z.1) (Sp.s1 l z.1) (Sp.s2 l z.1) (Sp.s3 l z.1) (Sp.kn l (Sp.ka4 l z.1) 40) = 0
  · rw [decide_eq_true he, cond_true]
    obtain ⟨h1, h2⟩ := Sp.ad_bval he
    rw [Sp.bval_m rfl (Sp.inS_m h2)]; exact h1
  · rw [decide_eq_false he, cond_false]; exact h
theorem Sp.empty_bval (h1 : 1 ≤ w ∧ w ≤ 8) (h2 : 0 ≤ c ∧ c ≤ 1099511627776) (h3 : 16 ≤ p ∧ p ≤ 8192) : Sp.bval w c p [] [] = true := by
 have hp : Sp.prop w c p [] [] = true := Sp.prop_iff.2 ⟨⟨h1, h2, h3, by simp, by simp⟩, rfl, rfl⟩
 have hl : Sp.ld w c p [] [] = 0 := by
  rw [Sp.ld_eqn hp]
  have e1 : Sp.bN w c p [] [] = [] := by unfold Sp.bN; rw [hp]; rfl
  have e2 : Sp.bC w c p [] [] = [] := by unfold Sp.bC; rw [hp]; rfl
  rw [e1, e2, show Sp.sum [] = 0 from rfl, show Sp.critR [] (Sp.bL w c p [] []) [] = 0 from rfl, Int.mul_zero, Int.add_zero]; exact Int.zero_tdiv w
 unfold Sp.bval
 rw [hp, hl, decide_eq_true h2.1]; rfl
theorem Sp.k_bval {l : List (List C)} {a : Int} : Sp.bval (Sp.kW l a) (Sp.kC l a) (Sp.kP l a) (Sp.kD l a) (Sp.kS l a) = true := by
 have b4 := Sp.kn_bd (l := l) (a := a) (n := 4) (by omega)
 have b12 := Sp.kn_bd (l := l) (a := Sp.ka l a) (n := 12) (by omega)
 have b3 := Sp.kn_bd (l := l) (a := Sp.ka2 l a) (n := 3) (by omega)
 have hP : 16 ≤ Sp.kP l a ∧ Sp.kP l a ≤ 8192 := by
  unfold Sp.kP
  rcases (show Sp.kn l (Sp.ka2 l a) 3 = 0 ∨ Sp.kn l (Sp.ka2 l a) 3 = 1 ∨ Sp.kn l (Sp.ka2 l a) 3 = 2 by omega) with e | e | e <;> rw [e] <;> exact ⟨by decide, by decide⟩
 have h0 : Sp.bval (Sp.kW l a) (Sp.kC l a) (Sp.kP l a) [] [] = true := Sp.empty_bval (by unfold Sp.kW; omega) (by unfold Sp.kC; omega) hP
 have h1 : Sp.bval (Sp.kW l a) (Sp.kC l a) (Sp.kP l a) (Sp.kD l a) [] = true := Sp.hoL_bval _ (Sp.ka4 l a, []) h0
 exact Sp.adL_bval _ (Sp.ka l (Sp.kH l a).1, []) h1
theorem Sp.bk_fits (h : Sp.bval w c p ds ss = true) : Sp.cplK (Sp.bN w c p ds ss) (Sp.bL w c p ds ss) (Sp.bC w c p ds ss) w = 0 ∧ ((Sp.cplE (Sp.bN w c p ds ss) (Sp.bL w c p ds ss) (Sp.bC w c p ds ss) w).length : Int) = 2 * (ds.length : Int) + (ss.length : Int) ∧ Sp.spn (Sp.cplE (Sp.bN w c p ds ss) (Sp.bL w c p ds ss) (Sp.bC w c p ds ss) w) ≤ c := by
 have hp := Sp.bval_prop h
 obtain ⟨_, _, _, h4⟩ := Sp.ld_prb hp
 obtain ⟨e1, e2⟩ := Sp.cplE_ok h4
 obtain ⟨f1, f2⟩ := Sp.cpl_fits h4
 have hl := Sp.ld_eqn hp
 obtain ⟨⟨hw, hc, _⟩, _⟩ := Sp.prop_iff.1 hp
 have hle : Sp.ld w c p ds ss ≤ c := by
  unfold Sp.bval at h
  rw [Bool.and_eq_true, decide_eq_true_eq] at h
  exact h.2
 rw [e1, e2]
 refine ⟨rfl, ?_, ?_⟩
 · rw [f1]
   unfold Sp.bN
   rw [hp]
   simp only [cond_true, List.length_append, Sp.gN1_len, Sp.gN2_len]; omega
 · refine Sp.spn_acc _ _ _ hc.1 fun s hs => ?_
   have h5 := f2 s hs
   rw [hl] at hle
   generalize Sp.sum (Sp.bC w c p ds ss) + (w - 1) * Sp.critR (Sp.bN w c p ds ss) (Sp.bL w c p ds ss) (Sp.bC w c p ds ss) = X at *
   by_cases hx : 0 ≤ X
   · rw [Int.tdiv_eq_ediv_of_nonneg hx] at hle
     have h6 : Sp.c3 s ≤ X / w := (Int.le_ediv_iff_mul_le (by omega)).2 (by rw [Int.mul_comm]; exact h5)
     omega
   · by_cases h7 : Sp.c3 s ≤ 0
     · omega
     · have := Int.mul_le_mul_of_nonneg_left (show 0 ≤ Sp.c3 s by omega) (show 0 ≤ w by omega)
       omega
end
end Go
namespace Go
open Go.Sx
def Sp.ftJ (a w c p : Int) (ds ss : List (List C)) : Prop := 0 ≤ a ∧ Sp.bval w c p ds ss = true
def Sp.ftI (k a w c p : Int) (ds ss : List (List C)) : Prop := 0 ≤ k ∧ k ≤ 6 ∧ Sp.ftJ a w c p ds ss
end Go
namespace Go
open Go.Sx
section
variable {a w c p s0 s1 s2 s3 n id dv e : Int} {ds ss xs : List (List C)}
theorem Sp.ft_z (he : e = 0) (h : Sp.bval w c p ds xs = true) : Sp.bval (Sp.zI e w) (Sp.zI e c) (Sp.zI e p) (Sp.zL e ds) (Sp.zL e xs) = true := by subst he; exact h
theorem Sp.ft_ad (h : Sp.adE w c p ds ss s0 s1 s2 s3 n = 0) (ha : 0 ≤ a) : Sp.ftJ a (Sp.zI (Sp.adE w c p ds ss s0 s1 s2 s3 n) w) (Sp.zI (Sp.adE w c p ds ss s0 s1 s2 s3 n) c) (Sp.zI (Sp.adE w c p ds ss s0 s1 s2 s3 n) p) (Sp.zL (Sp.adE w c p ds ss s0 s1 s2 s3 n) ds) (Sp.zL (Sp.adE w c p ds ss s0 s1 s2 s3 n) (Sp.inS ss s0 s1 s2 n)) := ⟨ha, Sp.ft_z h (Sp.ad_bval h).1⟩
theorem Sp.ft_le (h : Sp.leE w c p ds ss id = 0) (ha : 0 ≤ a) : Sp.ftJ a (Sp.zI (Sp.leE w c p ds ss id) w) (Sp.zI (Sp.leE w c p ds ss id) c) (Sp.zI (Sp.leE w c p ds ss id) p) (Sp.zL (Sp.leE w c p ds ss id) ds) (Sp.zL (Sp.leE w c p ds ss id) (Sp.del ss (Sp.bsx ss id) (Sp.bsx ss id + 1))) := ⟨ha, Sp.ft_z h (Sp.le_bval h)⟩
theorem Sp.ft_mo (h : Sp.moE w c p ds ss id dv = 0) (ha : 0 ≤ a) : Sp.ftJ a (Sp.zI (Sp.moE w c p ds ss id dv) w) (Sp.zI (Sp.moE w c p ds ss id dv) c) (Sp.zI (Sp.moE w c p ds ss id dv) p) (Sp.zL (Sp.moE w c p ds ss id dv) ds) (Sp.zL (Sp.moE w c p ds ss id dv) (Sp.mvS ss id dv)) := ⟨ha, Sp.ft_z h (Sp.mo_bval h)⟩
end
end Go
namespace Go.Sx
def tb3 : List (Nat × Ct) := [(4, ct4), (6, ct6), (9, ct9), (7, ct7), (11, ct11), (8, ct8), (10, ct10), (12, ct12), (13, ct13), (15, ct15), (14, ct14), (16, ct16)]
def A3 (m : List (List C)) : FuncId → Nat → LoopAnn := fun _ ii => bif Nat.beq ii 6 then .on (fun sv0 => match sv0.tmps.getD 5 .undef, sv0.tmps.getD 6 .undef with | .ref dk _, .ref bb _ => .inv (Int × Int × Int × Int × Int × List (List C) × List (List C)) (fun z => Sp.ftI z.1 z.2.1 z.2.2.1 z.2.2.2.1 z.2.2.2.2.1 z.2.2.2.2.2.1 z.2.2.2.2.2.2) (fun z => [(7, .int .i64 z.1)]) (fun z => [(dk, .box [.sl [.int .i64] m, .int .i64 z.2.1] 64), (bb, .box [.int .i64 z.2.2.1, .int .i64 z.2.2.2.1, .int .i64 z.2.2.2.2.1, .sl [.int .u64, .int .i64] z.2.2.2.2.2.1, .sl [.int .i64, .int .u64, .int .i64, .int .i64] z.2.2.2.2.2.2] 31)]) [dk, bb] [0, 1, 4, 5, 6, 7, 8, 9, 10, 11, 12, 13, 15, 22, 27, 38, 51, 61, 104] (fun z => (6 - z.1).toNat) | _, _ => .unroll 0) else bif Nat.beq ii 1000018 then .on (fun sv0 => match sv0.tmps.getD 5 .undef, sv0.tmps.getD 6 .undef with | .ref dk _, .ref bb _ => .cut (Int × Int × Int × Int × List (List C) × List (List C)) (fun z => Sp.ftJ z.1 z.2.1 z.2.2.1 z.2.2.2.1 z.2.2.2.2.1 z.2.2.2.2.2) (fun _ => []) (fun z => [(dk, .box [.sl [.int .i64] m, .int .i64 z.1] 64), (bb, .box [.int .i64 z.2.1, .int .i64 z.2.2.1, .int .i64 z.2.2.2.1, .sl [.int .u64, .int .i64] z.2.2.2.2.1, .sl [.int .i64, .int .u64, .int .i64, .int .i64] z.2.2.2.2.2] 31)]) [dk, bb] [0, 1, 4, 5, 6, 7, 8, 9, 10, 11, 12, 13, 15, 22, 27, 38, 51, 61, 104] | _, _ => .unroll 0) else .unroll 0
abbrev B3 (l : List (List C)) (m : List (List C)) : Prop := vcF Go.Proofs.Tryz.prog (look tb3) (fun _ => false) (A3 m) 8 3 [.sl [.int .i64] l, .sl [.int .i64] m] [] (fun sv _ => isTrue sv)
def h3_0 : List (List C) → List (List C) → Int × Int × Int × Int × Int × List (List C) × List (List C) → List SV := fun (l m : List (List C)) (x : Int × Int × Int × Int × Int × List (List C) × List (List C)) => [SV.sl [.int .i64] l, SV.sl [.int .i64] m, SV.any, SV.ref 0 0, SV.ref 2 0, SV.int .i64 x.1, SV.ref 3 0, SV.int .i64 (Sp.adE x.snd.snd.1 x.snd.snd.snd.1 x.snd.snd.snd.snd.1 x.snd.snd.snd.snd.snd.1 x.snd.snd.snd.snd.snd.2 (Sp.s0 m (Sp.ka m x.snd.1)) (Sp.s1 m (Sp.ka m x.snd.1)) (Sp.s2 m (Sp.ka m x.snd.1)) (Sp.s3 m (Sp.ka m x.snd.1)) (Sp.kn m (Sp.ka4 m (Sp.ka m x.snd.1)) 60)), SV.any, SV.any, SV.any, SV.any, SV.blit false, SV.blit true, SV.int .i64 (Sp.kn m x.snd.1 4), SV.blit true, SV.any, SV.any]
def h3_1 : List (List C) → List (List C) → Int × Int × Int × Int × Int × List (List C) × List (List C) → List HB := fun (l m : List (List C)) (x : Int × Int × Int × Int × Int × List (List C) × List (List C)) => [HB.gone, HB.box [SV.sl [.int .i64] l, SV.int .i64 (Sp.kA l 0)] 64, HB.gone, HB.box [SV.int .i64 (Sp.zI (Sp.adE x.snd.snd.1 x.snd.snd.snd.1 x.snd.snd.snd.snd.1 x.snd.snd.snd.snd.snd.1 x.snd.snd.snd.snd.snd.2 (Sp.s0 m (Sp.ka m x.snd.1)) (Sp.s1 m (Sp.ka m x.snd.1)) (Sp.s2 m (Sp.ka m x.snd.1)) (Sp.s3 m (Sp.ka m x.snd.1)) (Sp.kn m (Sp.ka4 m (Sp.ka m x.snd.1)) 60)) x.snd.snd.1), SV.int .i64 (Sp.zI (Sp.adE x.snd.snd.1 x.snd.snd.snd.1 x.snd.snd.snd.snd.1 x.snd.snd.snd.snd.snd.1 x.snd.snd.snd.snd.snd.2 (Sp.s0 m (Sp.ka m x.snd.1)) (Sp.s1 m (Sp.ka m x.snd.1)) (Sp.s2 m (Sp.ka m x.snd.1)) (Sp.s3 m (Sp.ka m x.snd.1)) (Sp.kn m (Sp.ka4 m (Sp.ka m x.snd.1)) 60)) x.snd.snd.snd.1), SV.int .i64 (Sp.zI (Sp.adE x.snd.snd.1 x.snd.snd.snd.1 x.snd.snd.snd.snd.1 x.snd.snd.snd.snd.snd.1 x.snd.snd.snd.snd.snd.2 (Sp.s0 m (Sp.ka m x.snd.1)) (Sp.s1 m (Sp.ka m x.snd.1)) (Sp.s2 m (Sp.ka m x.snd.1)) (Sp.s3 m (Sp.ka m x.snd.1)) (Sp.kn m (Sp.ka4 m (Sp.ka m x.snd.1)) 60)) x.snd.snd.snd.snd.1), SV.sl [.int .u64, .int .i64] (Sp.zL (Sp.adE x.snd.snd.1 x.snd.snd.snd.1 x.snd.snd.snd.snd.1 x.snd.snd.snd.snd.snd.1 x.snd.snd.snd.snd.snd.2 (Sp.s0 m (Sp.ka m x.snd.1)) (Sp.s1 m (Sp.ka m x.snd.1)) (Sp.s2 m (Sp.ka m x.snd.1)) (Sp.s3 m (Sp.ka m x.snd.1)) (Sp.kn m (Sp.ka4 m (Sp.ka m x.snd.1)) 60)) x.snd.snd.snd.snd.snd.1), SV.sl [.int .i64, .int .u64, .int .i64, .int .i64] (Sp.zL (Sp.adE x.snd.snd.1 x.snd.snd.snd.1 x.snd.snd.snd.snd.1 x.snd.snd.snd.snd.snd.1 x.snd.snd.snd.snd.snd.2 (Sp.s0 m (Sp.ka m x.snd.1)) (Sp.s1 m (Sp.ka m x.snd.1)) (Sp.s2 m (Sp.ka m x.snd.1)) (Sp.s3 m (Sp.ka m x.snd.1)) (Sp.kn m (Sp.ka4 m (Sp.ka m x.snd.1)) 60)) (Sp.inS x.snd.snd.snd.snd.snd.2 (Sp.s0 m (Sp.ka m x.snd.1)) (Sp.s1 m (Sp.ka m x.snd.1)) (Sp.s2 m (Sp.ka m x.snd.1)) (Sp.kn m (Sp.ka4 m (Sp.ka m x.snd.1)) 60)))] 31]
def h3_2 : List (List C) → List (List C) → Int × Int × Int × Int × Int × List (List C) × List (List C) → List SV := fun (l m : List (List C)) (x : Int × Int × Int × Int × Int × List (List C) × List (List C)) => [SV.sl [.int .i64] l, SV.sl [.int .i64] m, SV.any, SV.ref 0 0, SV.ref 2 0, SV.int .i64 x.1, SV.ref 3 0, SV.int .i64 (Sp.leE x.snd.snd.1 x.snd.snd.snd.1 x.snd.snd.snd.snd.1 x.snd.snd.snd.snd.snd.1 x.snd.snd.snd.snd.snd.2 (1 + Sp.kn m (Sp.ka m x.snd.1) (8 - 1 + 1))), SV.any, SV.any, SV.any, SV.any, SV.blit false, SV.blit true, SV.int .i64 (Sp.kn m x.snd.1 4), SV.blit false, SV.blit true, SV.any]
def h3_3 : List (List C) → List (List C) → Int × Int × Int × Int × Int × List (List C) × List (List C) → List HB := fun (l m : List (List C)) (x : Int × Int × Int × Int × Int × List (List C) × List (List C)) => [HB.gone, HB.box [SV.sl [.int .i64] l, SV.int .i64 (Sp.kA l 0)] 64, HB.gone, HB.box [SV.int .i64 (Sp.zI (Sp.leE x.snd.snd.1 x.snd.snd.snd.1 x.snd.snd.snd.snd.1 x.snd.snd.snd.snd.snd.1 x.snd.snd.snd.snd.snd.2 (1 + Sp.kn m (Sp.ka m x.snd.1) (8 - 1 + 1))) x.snd.snd.1), SV.int .i64 (Sp.zI (Sp.leE x.snd.snd.1 x.snd.snd.snd.1 x.snd.snd.snd.snd.1 x.snd.snd.snd.snd.snd.1 x.snd.snd.snd.snd.snd.2 (1 + Sp.kn m (Sp.ka m x.snd.1) (8 - 1 + 1))) x.snd.snd.snd.1), SV.int .i64 (Sp.zI (Sp.leE x.snd.snd.1 x.snd.snd.snd.1 x.snd.snd.snd.snd.1 x.snd.snd.snd.snd.snd.1 x.snd.snd.snd.snd.snd.2 (1 + Sp.kn m (Sp.ka m x.snd.1) (8 - 1 + 1))) x.snd.snd.snd.snd.1), SV.sl [.int .u64, .int .i64] (Sp.zL (Sp.leE x.snd.snd.1 x.snd.snd.snd.1 x.snd.snd.snd.snd.1 x.snd.snd.snd.snd.snd.1 x.snd.snd.snd.snd.snd.2 (1 + Sp.kn m (Sp.ka m x.snd.1) (8 - 1 + 1))) x.snd.snd.snd.snd.snd.1), SV.sl [.int .i64, .int .u64, .int .i64, .int .i64] (Sp.zL (Sp.leE x.snd.snd.1 x.snd.snd.snd.1 x.snd.snd.snd.snd.1 x.snd.snd.snd.snd.snd.1 x.snd.snd.snd.snd.snd.2 (1 + Sp.kn m (Sp.ka m x.snd.1) (8 - 1 + 1))) (Sp.del x.snd.snd.snd.snd.snd.2 (Sp.bsx x.snd.snd.snd.snd.snd.2 (1 + Sp.kn m (Sp.ka m x.snd.1) (8 - 1 + 1))) (Sp.bsx x.snd.snd.snd.snd.snd.2 (1 + Sp.kn m (Sp.ka m x.snd.1) (8 - 1 + 1)) + 1)))] 31]
def h3_4 : List (List C) → List (List C) → Int × Int × Int × Int × Int × List (List C) × List (List C) → List SV := fun (l m : List (List C)) (x : Int × Int × Int × Int × Int × List (List C) × List (List C)) => [SV.sl [.int .i64] l, SV.sl [.int .i64] m, SV.any, SV.ref 0 0, SV.ref 2 0, SV.int .i64 x.1, SV.ref 3 0, SV.int .i64 (Sp.moE x.snd.snd.1 x.snd.snd.snd.1 x.snd.snd.snd.snd.1 x.snd.snd.snd.snd.snd.1 x.snd.snd.snd.snd.snd.2 (1 + Sp.kn m (Sp.ka m x.snd.1) (8 - 1 + 1)) (iWrap .u64 (1 + Sp.kn m (Sp.ka m (Sp.ka m x.snd.1)) (5 - 1 + 1)))), SV.any, SV.any, SV.any, SV.any, SV.blit false, SV.blit true, SV.int .i64 (Sp.kn m x.snd.1 4), SV.blit false, SV.blit false, SV.any]
def h3_5 : List (List C) → List (List C) → Int × Int × Int × Int × Int × List (List C) × List (List C) → List HB := fun (l m : List (List C)) (x : Int × Int × Int × Int × Int × List (List C) × List (List C)) => [HB.gone, HB.box [SV.sl [.int .i64] l, SV.int .i64 (Sp.kA l 0)] 64, HB.gone, HB.box [SV.int .i64 (Sp.zI (Sp.moE x.snd.snd.1 x.snd.snd.snd.1 x.snd.snd.snd.snd.1 x.snd.snd.snd.snd.snd.1 x.snd.snd.snd.snd.snd.2 (1 + Sp.kn m (Sp.ka m x.snd.1) (8 - 1 + 1)) (iWrap .u64 (1 + Sp.kn m (Sp.ka m (Sp.ka m x.snd.1)) (5 - 1 + 1)))) x.snd.snd.1), SV.int .i64 (Sp.zI (Sp.moE x.snd.snd.1 x.snd.snd.snd.1 x.snd.snd.snd.snd.1 x.snd.snd.snd.snd.snd.1 x.snd.snd.snd.snd.snd.2 (1 + Sp.kn m (Sp.ka m x.snd.1) (8 - 1 + 1)) (iWrap .u64 (1 + Sp.kn m (Sp.ka m (Sp.ka m x.snd.1)) (5 - 1 + 1)))) x.snd.snd.snd.1), SV.int .i64 (Sp.zI (Sp.moE x.snd.snd.1 x.snd.snd.snd.1 x.snd.snd.snd.snd.1 x.snd.snd.snd.snd.snd.1 x.snd.snd.snd.snd.snd.2 (1 + Sp.kn m (Sp.ka m x.snd.1) (8 - 1 + 1)) (iWrap .u64 (1 + Sp.kn m (Sp.ka m (Sp.ka m x.snd.1)) (5 - 1 + 1)))) x.snd.snd.snd.snd.1), SV.sl [.int .u64, .int .i64] (Sp.zL (Sp.moE x.snd.snd.1 x.snd.snd.snd.1 x.snd.snd.snd.snd.1 x.snd.snd.snd.snd.snd.1 x.snd.snd.snd.snd.snd.2 (1 + Sp.kn m (Sp.ka m x.snd.1) (8 - 1 + 1)) (iWrap .u64 (1 + Sp.kn m (Sp.ka m (Sp.ka m x.snd.1)) (5 - 1 + 1)))) x.snd.snd.snd.snd.snd.1), SV.sl [.int .i64, .int .u64, .int .i64, .int .i64] (Sp.zL (Sp.moE x.snd.snd.1 x.snd.snd.snd.1 x.snd.snd.snd.snd.1 x.snd.snd.snd.snd.snd.1 x.snd.snd.snd.snd.snd.2 (1 + Sp.kn m (Sp.ka m x.snd.1) (8 - 1 + 1)) (iWrap .u64 (1 + Sp.kn m (Sp.ka m (Sp.ka m x.snd.1)) (5 - 1 + 1)))) (Sp.mvS x.snd.snd.snd.snd.snd.2 (1 + Sp.kn m (Sp.ka m x.snd.1) (8 - 1 + 1)) (iWrap .u64 (1 + Sp.kn m (Sp.ka m (Sp.ka m x.snd.1)) (5 - 1 + 1)))))] 31]
def m3_2 (m : List (List C)) (x : Int × Int × Int × Int × Int × List (List C) × List (List C)) : Int := (Sp.moE x.snd.snd.1 x.snd.snd.snd.1 x.snd.snd.snd.snd.1 x.snd.snd.snd.snd.snd.1 x.snd.snd.snd.snd.snd.2 (1 + Sp.kn m (Sp.ka m x.snd.1) (8 - 1 + 1)) (iWrap .u64 (1 + Sp.kn m (Sp.ka m (Sp.ka m x.snd.1)) (5 - 1 + 1))))
def m3_4 (x_1 : Int × Int × Int × Int × List (List C) × List (List C)) : List (List C) := (Sp.cplE (Sp.bN x_1.snd.1 x_1.snd.snd.1 x_1.snd.snd.snd.1 x_1.snd.snd.snd.snd.1 x_1.snd.snd.snd.snd.2) (Sp.bL x_1.snd.1 x_1.snd.snd.1 x_1.snd.snd.snd.1 x_1.snd.snd.snd.snd.1 x_1.snd.snd.snd.snd.2) (Sp.bC x_1.snd.1 x_1.snd.snd.1 x_1.snd.snd.snd.1 x_1.snd.snd.snd.snd.1 x_1.snd.snd.snd.snd.2) x_1.snd.1)
def m3_5 (m : List (List C)) (x : Int × Int × Int × Int × Int × List (List C) × List (List C)) : Int := (Sp.leE x.snd.snd.1 x.snd.snd.snd.1 x.snd.snd.snd.snd.1 x.snd.snd.snd.snd.snd.1 x.snd.snd.snd.snd.snd.2 (1 + Sp.kn m (Sp.ka m x.snd.1) (8 - 1 + 1)))
def m3_8 : Prop := [Sh.int .i64, Sh.int .u64, Sh.int .i64, Sh.int .i64] = [Sh.int .i64, Sh.int .u64, Sh.int .i64, Sh.int .i64]
def m3_9 : Prop := IntKind.i64 = IntKind.i64
def m3_10 (x_1 : Int × Int × Int × Int × List (List C) × List (List C)) : Int := (Sp.cplK (Sp.bN x_1.snd.1 x_1.snd.snd.1 x_1.snd.snd.snd.1 x_1.snd.snd.snd.snd.1 x_1.snd.snd.snd.snd.2) (Sp.bL x_1.snd.1 x_1.snd.snd.1 x_1.snd.snd.snd.1 x_1.snd.snd.snd.snd.1 x_1.snd.snd.snd.snd.2) (Sp.bC x_1.snd.1 x_1.snd.snd.1 x_1.snd.snd.snd.1 x_1.snd.snd.snd.snd.1 x_1.snd.snd.snd.snd.2) x_1.snd.1)
def m3_12 : Prop := [Sh.int .u64, Sh.int .i64] = [Sh.int .u64, Sh.int .i64]
def m3_13 : List Sh := [.int .i64, .int .u64, .int .i64, .int .i64]
def m3_14 (m : List (List C)) : Prop := [Sh.int .i64] = [Sh.int .i64] ∧ m = m
def m3_0 (l : List (List C)) (m : List (List C)) (x : Int × Int × Int × Int × Int × List (List C) × List (List C)) (x_1 : Int × Int × Int × Int × List (List C) × List (List C)) : Prop := Sp.ftJ x_1.1 x_1.snd.1 x_1.snd.snd.1 x_1.snd.snd.snd.1 x_1.snd.snd.snd.snd.1 x_1.snd.snd.snd.snd.2 → True → (((WL [.int .i64] m)) ∧ InR .i64 x_1.1 ∧ True) ∧ (InR .i64 x_1.snd.1 ∧ InR .i64 x_1.snd.snd.1 ∧ InR .i64 x_1.snd.snd.snd.1 ∧ ((WL [.int .u64, .int .i64] x_1.snd.snd.snd.snd.1)) ∧ ((WL m3_13 x_1.snd.snd.snd.snd.2)) ∧ True) ∧ True → True ∧ ((((WL [.int .i64, .int .i64, .int .i64, .int .i64] (Sp.bN x_1.snd.1 x_1.snd.snd.1 x_1.snd.snd.snd.1 x_1.snd.snd.snd.snd.1 x_1.snd.snd.snd.snd.2))) ∧ ((WL [.int .i64, .int .i64, .int .i64, .int .i64] (Sp.bL x_1.snd.1 x_1.snd.snd.1 x_1.snd.snd.snd.1 x_1.snd.snd.snd.snd.1 x_1.snd.snd.snd.snd.2))) ∧ True) ∧ ((WL [.int .i64] (Sp.bC x_1.snd.1 x_1.snd.snd.1 x_1.snd.snd.snd.1 x_1.snd.snd.snd.snd.1 x_1.snd.snd.snd.snd.2))) ∧ True → True ∧ (((WL [.int .i64, .int .i64, .int .i64, .int .i64] (m3_4 x_1))) ∧ InR .i64 (m3_10 x_1) ∧ True → (bNe (m3_10 x_1) 0 = false → True ∧ (True → True ∧ (bNot (Sp.bval x_1.snd.1 x_1.snd.snd.1 x_1.snd.snd.snd.1 x_1.snd.snd.snd.snd.1 x_1.snd.snd.snd.snd.2) = false → True ∧ (InR .i64 (Sp.spn (m3_4 x_1)) → (bLt x_1.snd.snd.1 (Sp.spn (m3_4 x_1)) = false → pLe (iLen (m3_4 x_1)) 9223372036854775807 → pLe (iLen x_1.snd.snd.snd.snd.1) 9223372036854775807 → InR .i64 (iMul 2 (iLen x_1.snd.snd.snd.snd.1)) ∧ (pLe (iLen x_1.snd.snd.snd.snd.2) 9223372036854775807 → InR .i64 (iAdd (iMul 2 (iLen x_1.snd.snd.snd.snd.1)) (iLen x_1.snd.snd.snd.snd.2)) ∧ (bNe (iLen (m3_4 x_1)) (iAdd (iMul 2 (iLen x_1.snd.snd.snd.snd.1)) (iLen x_1.snd.snd.snd.snd.2)) = true → false = true) ∧ (bNe (iLen (m3_4 x_1)) (iAdd (iMul 2 (iLen x_1.snd.snd.snd.snd.1)) (iLen x_1.snd.snd.snd.snd.2)) = false → InR .i64 (iAdd x.1 1) ∧ (true = true ∧ (fun z => z = z) [SV.sl [.int .i64] l, SV.sl [.int .i64] m, SV.ref 0 0, SV.ref 2 0, SV.blit false]) ∧ (fun z => z = z) [HB.gone, HB.box [SV.sl [.int .i64] l, SV.int .i64 (Sp.kA l 0)] 64, HB.gone] ∧ ∃ (y : Int × Int × Int × Int × Int × List (List C) × List (List C)), Sp.ftI y.1 y.snd.1 y.snd.snd.1 y.snd.snd.snd.1 y.snd.snd.snd.snd.1 y.snd.snd.snd.snd.snd.1 y.snd.snd.snd.snd.snd.2 ∧ true = true ∧ ((m3_9 ∧ iAdd x.1 1 = y.1) ∧ True) ∧ (((((m3_14 m)) ∧ (m3_9 ∧ x_1.1 = y.snd.1) ∧ True) ∧ 64 = 64) ∧ (((m3_9 ∧ x_1.snd.1 = y.snd.snd.1) ∧ (m3_9 ∧ x_1.snd.snd.1 = y.snd.snd.snd.1) ∧ (m3_9 ∧ x_1.snd.snd.snd.1 = y.snd.snd.snd.snd.1) ∧ (m3_12 ∧ x_1.snd.snd.snd.snd.1 = y.snd.snd.snd.snd.snd.1) ∧ (m3_8 ∧ x_1.snd.snd.snd.snd.2 = y.snd.snd.snd.snd.snd.2) ∧ True) ∧ 31 = 31) ∧ True) ∧ (6 - y.1).toNat < (6 - x.1).toNat))) ∧ (bLt x_1.snd.snd.1 (Sp.spn (m3_4 x_1)) = true → false = true))) ∧ (bNot (Sp.bval x_1.snd.1 x_1.snd.snd.1 x_1.snd.snd.snd.1 x_1.snd.snd.snd.snd.1 x_1.snd.snd.snd.snd.2) = true → false = true))) ∧ (bNe (m3_10 x_1) 0 = true → false = true)))
def m3_15 (x : Int × Int × Int × Int × Int × List (List C) × List (List C)) (y : Int × Int × Int × Int × List (List C) × List (List C)) : Prop := (((m3_9 ∧ x.snd.snd.1 = y.snd.1) ∧ (m3_9 ∧ x.snd.snd.snd.1 = y.snd.snd.1) ∧ (m3_9 ∧ x.snd.snd.snd.snd.1 = y.snd.snd.snd.1) ∧ (m3_12 ∧ x.snd.snd.snd.snd.snd.1 = y.snd.snd.snd.snd.1) ∧ (m3_8 ∧ x.snd.snd.snd.snd.snd.2 = y.snd.snd.snd.snd.2) ∧ True) ∧ 31 = 31) ∧ True
def m3_6 (x : Int × Int × Int × Int × Int × List (List C) × List (List C)) (y : Int × Int × Int × Int × List (List C) × List (List C)) : Prop := (m3_15 x y)
def m3_16 (m : List (List C)) (x : Int × Int × Int × Int × Int × List (List C) × List (List C)) : Int := (Sp.kn m (Sp.ka4 m (Sp.ka m x.snd.1)) 60)
def m3_1 (m : List (List C)) (x : Int × Int × Int × Int × Int × List (List C) × List (List C)) : Int := (Sp.adE x.snd.snd.1 x.snd.snd.snd.1 x.snd.snd.snd.snd.1 x.snd.snd.snd.snd.snd.1 x.snd.snd.snd.snd.snd.2 (Sp.s0 m (Sp.ka m x.snd.1)) (Sp.s1 m (Sp.ka m x.snd.1)) (Sp.s2 m (Sp.ka m x.snd.1)) (Sp.s3 m (Sp.ka m x.snd.1)) (m3_16 m x))
def m3_3 (l : List (List C)) (m : List (List C)) (x : Int × Int × Int × Int × Int × List (List C) × List (List C)) : Prop := ((bEq (m3_1 m x) 0 = true → (true = true ∧ h3_0 l m x = h3_0 l m x) ∧ h3_1 l m x = h3_1 l m x ∧ ∃ (y : Int × Int × Int × Int × List (List C) × List (List C)), Sp.ftJ y.1 y.snd.1 y.snd.snd.1 y.snd.snd.snd.1 y.snd.snd.snd.snd.1 y.snd.snd.snd.snd.2 ∧ true = true ∧ True ∧ ((((m3_14 m)) ∧ (m3_9 ∧ Sp.ka m (Sp.ka4 m (Sp.ka m x.snd.1)) = y.1) ∧ True) ∧ 64 = 64) ∧ (((m3_9 ∧ Sp.zI (m3_1 m x) x.snd.snd.1 = y.snd.1) ∧ (m3_9 ∧ Sp.zI (m3_1 m x) x.snd.snd.snd.1 = y.snd.snd.1) ∧ (m3_9 ∧ Sp.zI (m3_1 m x) x.snd.snd.snd.snd.1 = y.snd.snd.snd.1) ∧ (m3_12 ∧ Sp.zL (m3_1 m x) x.snd.snd.snd.snd.snd.1 = y.snd.snd.snd.snd.1) ∧ (m3_8 ∧ Sp.zL (m3_1 m x) (Sp.inS x.snd.snd.snd.snd.snd.2 (Sp.s0 m (Sp.ka m x.snd.1)) (Sp.s1 m (Sp.ka m x.snd.1)) (Sp.s2 m (Sp.ka m x.snd.1)) (m3_16 m x)) = y.snd.snd.snd.snd.2) ∧ True) ∧ 31 = 31) ∧ True) ∧ (bEq (m3_1 m x) 0 = false → (true = true ∧ h3_0 l m x = h3_0 l m x) ∧ h3_1 l m x = h3_1 l m x ∧ ∃ (y : Int × Int × Int × Int × List (List C) × List (List C)), Sp.ftJ y.1 y.snd.1 y.snd.snd.1 y.snd.snd.snd.1 y.snd.snd.snd.snd.1 y.snd.snd.snd.snd.2 ∧ true = true ∧ True ∧ ((((m3_14 m)) ∧ (m3_9 ∧ Sp.ka m (Sp.ka4 m (Sp.ka m x.snd.1)) = y.1) ∧ True) ∧ 64 = 64) ∧ (m3_15 x y))) ∧ ∀ (x_1 : Int × Int × Int × Int × List (List C) × List (List C)), (m3_0 l m x x_1)
def m3_7 (m : List (List C)) (x : Int × Int × Int × Int × Int × List (List C) × List (List C)) : Prop := InR .i64 (Sp.adK x.snd.snd.1 x.snd.snd.snd.1 x.snd.snd.snd.snd.1 x.snd.snd.snd.snd.snd.1 x.snd.snd.snd.snd.snd.2 (Sp.s0 m (Sp.ka m x.snd.1)) (Sp.s1 m (Sp.ka m x.snd.1)) (Sp.s2 m (Sp.ka m x.snd.1)) (Sp.s3 m (Sp.ka m x.snd.1)) (m3_16 m x)) ∧ InR .i64 (Sp.adN x.snd.snd.1 x.snd.snd.snd.1 x.snd.snd.snd.snd.1 x.snd.snd.snd.snd.snd.1 x.snd.snd.snd.snd.snd.2 (Sp.s0 m (Sp.ka m x.snd.1)) (Sp.s1 m (Sp.ka m x.snd.1)) (Sp.s2 m (Sp.ka m x.snd.1)) (Sp.s3 m (Sp.ka m x.snd.1)) (m3_16 m x)) ∧ InR .i64 (Sp.adH x.snd.snd.1 x.snd.snd.snd.1 x.snd.snd.snd.snd.1 x.snd.snd.snd.snd.snd.1 x.snd.snd.snd.snd.snd.2 (Sp.s0 m (Sp.ka m x.snd.1)) (Sp.s1 m (Sp.ka m x.snd.1)) (Sp.s2 m (Sp.ka m x.snd.1)) (Sp.s3 m (Sp.ka m x.snd.1)) (m3_16 m x)) ∧ True
def m3_11 (m : List (List C)) (x : Int × Int × Int × Int × Int × List (List C) × List (List C)) : Prop := InR .i64 (Sp.zI (m3_1 m x) x.snd.snd.1) ∧ InR .i64 (Sp.zI (m3_1 m x) x.snd.snd.snd.1) ∧ InR .i64 (Sp.zI (m3_1 m x) x.snd.snd.snd.snd.1) ∧ ((WL [.int .u64, .int .i64] (Sp.zL (m3_1 m x) x.snd.snd.snd.snd.snd.1))) ∧ ((WL [.int .i64, .int .u64, .int .i64, .int .i64] (Sp.zL (m3_1 m x) (Sp.inS x.snd.snd.snd.snd.snd.2 (Sp.s0 m (Sp.ka m x.snd.1)) (Sp.s1 m (Sp.ka m x.snd.1)) (Sp.s2 m (Sp.ka m x.snd.1)) (m3_16 m x))))) ∧ True
theorem e3 (l : List (List C)) (m : List (List C)) : B3 l m = (True ∧ (True → True ∧ (bNot true = true → false = true) ∧ (bNot true = false → (pLe 0 0 ∧ True) ∧ (InR .i64 (Sp.kW l 0) ∧ InR .i64 (Sp.kC l 0) ∧ InR .i64 (Sp.kP l 0) ∧ ((WL [.int .u64, .int .i64] (Sp.kD l 0))) ∧ ((WL m3_13 (Sp.kS l 0))) ∧ True → (∃ (x : Int × Int × Int × Int × Int × List (List C) × List (List C)), Sp.ftI x.1 x.snd.1 x.snd.snd.1 x.snd.snd.snd.1 x.snd.snd.snd.snd.1 x.snd.snd.snd.snd.snd.1 x.snd.snd.snd.snd.snd.2 ∧ true = true ∧ ((m3_9 ∧ 0 = x.1) ∧ True) ∧ ((((m3_14 m)) ∧ (m3_9 ∧ 0 = x.snd.1) ∧ True) ∧ 64 = 64) ∧ (((m3_9 ∧ Sp.kW l 0 = x.snd.snd.1) ∧ (m3_9 ∧ Sp.kC l 0 = x.snd.snd.snd.1) ∧ (m3_9 ∧ Sp.kP l 0 = x.snd.snd.snd.snd.1) ∧ (m3_12 ∧ Sp.kD l 0 = x.snd.snd.snd.snd.snd.1) ∧ (m3_8 ∧ Sp.kS l 0 = x.snd.snd.snd.snd.snd.2) ∧ True) ∧ 31 = 31) ∧ True) ∧ (∀ (x : Int × Int × Int × Int × Int × List (List C) × List (List C)), true = true ∧ true = true) ∧ ∀ (x : Int × Int × Int × Int × Int × List (List C) × List (List C)), Sp.ftI x.1 x.snd.1 x.snd.snd.1 x.snd.snd.snd.1 x.snd.snd.snd.snd.1 x.snd.snd.snd.snd.snd.1 x.snd.snd.snd.snd.snd.2 → InR .i64 x.1 ∧ True → (((WL [.int .i64] m)) ∧ InR .i64 x.snd.1 ∧ True) ∧ (InR .i64 x.snd.snd.1 ∧ InR .i64 x.snd.snd.snd.1 ∧ InR .i64 x.snd.snd.snd.snd.1 ∧ ((WL [.int .u64, .int .i64] x.snd.snd.snd.snd.snd.1)) ∧ ((WL m3_13 x.snd.snd.snd.snd.snd.2)) ∧ True) ∧ True → (bLt x.1 6 = true → (pLe 0 x.snd.1 ∧ pLe 1 4) ∧ (InR .i64 (Sp.kn m x.snd.1 4) → (bEq (Sp.kn m x.snd.1 4) 0 = true → (pLe 0 (Sp.ka m x.snd.1) ∧ True) ∧ (InR .i64 (Sp.s0 m (Sp.ka m x.snd.1)) ∧ InR .u64 (Sp.s1 m (Sp.ka m x.snd.1)) ∧ InR .i64 (Sp.s2 m (Sp.ka m x.snd.1)) ∧ InR .i64 (Sp.s3 m (Sp.ka m x.snd.1)) ∧ True → (pLe 0 (Sp.ka4 m (Sp.ka m x.snd.1)) ∧ pLe 1 60) ∧ (InR .i64 (m3_16 m x) → True ∧ (((m3_11 m x)) ∧ ((m3_7 m x)) ∧ InR .i64 (m3_1 m x) ∧ True → (∀ (x : Int × Int × Int × Int × List (List C) × List (List C)), true = true ∧ true = true) ∧ (m3_3 l m x))))) ∧ (bEq (Sp.kn m x.snd.1 4) 0 = false → (bEq (Sp.kn m x.snd.1 4) 1 = true → (pLe 0 (Sp.ka m x.snd.1) ∧ True) ∧ (InR .i64 (Sp.s0 m (Sp.ka m x.snd.1)) ∧ InR .u64 (Sp.s1 m (Sp.ka m x.snd.1)) ∧ InR .i64 (Sp.s2 m (Sp.ka m x.snd.1)) ∧ InR .i64 (Sp.s3 m (Sp.ka m x.snd.1)) ∧ True → (pLe 0 (Sp.ka4 m (Sp.ka m x.snd.1)) ∧ pLe 1 60) ∧ (InR .i64 (m3_16 m x) → True ∧ (((m3_11 m x)) ∧ ((m3_7 m x)) ∧ InR .i64 (m3_1 m x) ∧ True → (∀ (x : Int × Int × Int × Int × List (List C) × List (List C)), true = true ∧ true = true) ∧ (m3_3 l m x))))) ∧ (bEq (Sp.kn m x.snd.1 4) 1 = false → (bEq (Sp.kn m x.snd.1 4) 2 = true → (pLe 0 (Sp.ka m x.snd.1) ∧ pLe 1 8 ∧ pLe (-1000000) 1 ∧ pLe 8 1000000) ∧ (InR .i64 (1 + Sp.kn m (Sp.ka m x.snd.1) (8 - 1 + 1)) → True ∧ ((InR .i64 (Sp.zI (m3_5 m x) x.snd.snd.1) ∧ InR .i64 (Sp.zI (m3_5 m x) x.snd.snd.snd.1) ∧ InR .i64 (Sp.zI (m3_5 m x) x.snd.snd.snd.snd.1) ∧ ((WL [.int .u64, .int .i64] (Sp.zL (m3_5 m x) x.snd.snd.snd.snd.snd.1))) ∧ ((WL m3_13 (Sp.zL (m3_5 m x) (Sp.del x.snd.snd.snd.snd.snd.2 (Sp.bsx x.snd.snd.snd.snd.snd.2 (1 + Sp.kn m (Sp.ka m x.snd.1) (8 - 1 + 1))) (Sp.bsx x.snd.snd.snd.snd.snd.2 (1 + Sp.kn m (Sp.ka m x.snd.1) (8 - 1 + 1)) + 1))))) ∧ True) ∧ InR .i64 (m3_5 m x) ∧ True → (∀ (x : Int × Int × Int × Int × List (List C) × List (List C)), true = true ∧ true = true) ∧ ((bEq (m3_5 m x) 0 = true → (true = true ∧ h3_2 l m x = h3_2 l m x) ∧ h3_3 l m x = h3_3 l m x ∧ ∃ (y : Int × Int × Int × Int × List (List C) × List (List C)), Sp.ftJ y.1 y.snd.1 y.snd.snd.1 y.snd.snd.snd.1 y.snd.snd.snd.snd.1 y.snd.snd.snd.snd.2 ∧ true = true ∧ True ∧ ((((m3_14 m)) ∧ (m3_9 ∧ Sp.ka m (Sp.ka m x.snd.1) = y.1) ∧ True) ∧ 64 = 64) ∧ (((m3_9 ∧ Sp.zI (m3_5 m x) x.snd.snd.1 = y.snd.1) ∧ (m3_9 ∧ Sp.zI (m3_5 m x) x.snd.snd.snd.1 = y.snd.snd.1) ∧ (m3_9 ∧ Sp.zI (m3_5 m x) x.snd.snd.snd.snd.1 = y.snd.snd.snd.1) ∧ (m3_12 ∧ Sp.zL (m3_5 m x) x.snd.snd.snd.snd.snd.1 = y.snd.snd.snd.snd.1) ∧ (m3_8 ∧ Sp.zL (m3_5 m x) (Sp.del x.snd.snd.snd.snd.snd.2 (Sp.bsx x.snd.snd.snd.snd.snd.2 (1 + Sp.kn m (Sp.ka m x.snd.1) (8 - 1 + 1))) (Sp.bsx x.snd.snd.snd.snd.snd.2 (1 + Sp.kn m (Sp.ka m x.snd.1) (8 - 1 + 1)) + 1)) = y.snd.snd.snd.snd.2) ∧ True) ∧ 31 = 31) ∧ True) ∧ (bEq (m3_5 m x) 0 = false → (true = true ∧ h3_2 l m x = h3_2 l m x) ∧ h3_3 l m x = h3_3 l m x ∧ ∃ (y : Int × Int × Int × Int × List (List C) × List (List C)), Sp.ftJ y.1 y.snd.1 y.snd.snd.1 y.snd.snd.snd.1 y.snd.snd.snd.snd.1 y.snd.snd.snd.snd.2 ∧ true = true ∧ True ∧ ((((m3_14 m)) ∧ (m3_9 ∧ Sp.ka m (Sp.ka m x.snd.1) = y.1) ∧ True) ∧ 64 = 64) ∧ (m3_6 x y))) ∧ ∀ (x_1 : Int × Int × Int × Int × List (List C) × List (List C)), (m3_0 l m x x_1)))) ∧ (bEq (Sp.kn m x.snd.1 4) 2 = false → (pLe 0 (Sp.ka m x.snd.1) ∧ pLe 1 8 ∧ pLe (-1000000) 1 ∧ pLe 8 1000000) ∧ (InR .i64 (1 + Sp.kn m (Sp.ka m x.snd.1) (8 - 1 + 1)) → (pLe 0 (Sp.ka m (Sp.ka m x.snd.1)) ∧ pLe 1 5 ∧ pLe (-1000000) 1 ∧ pLe 5 1000000) ∧ (InR .i64 (1 + Sp.kn m (Sp.ka m (Sp.ka m x.snd.1)) (5 - 1 + 1)) → True ∧ ((InR .i64 (Sp.zI (m3_2 m x) x.snd.snd.1) ∧ InR .i64 (Sp.zI (m3_2 m x) x.snd.snd.snd.1) ∧ InR .i64 (Sp.zI (m3_2 m x) x.snd.snd.snd.snd.1) ∧ ((WL [.int .u64, .int .i64] (Sp.zL (m3_2 m x) x.snd.snd.snd.snd.snd.1))) ∧ ((WL m3_13 (Sp.zL (m3_2 m x) (Sp.mvS x.snd.snd.snd.snd.snd.2 (1 + Sp.kn m (Sp.ka m x.snd.1) (8 - 1 + 1)) (iWrap .u64 (1 + Sp.kn m (Sp.ka m (Sp.ka m x.snd.1)) (5 - 1 + 1))))))) ∧ True) ∧ InR .i64 (m3_2 m x) ∧ True → (∀ (x : Int × Int × Int × Int × List (List C) × List (List C)), true = true ∧ true = true) ∧ ((bEq (m3_2 m x) 0 = true → (true = true ∧ h3_4 l m x = h3_4 l m x) ∧ h3_5 l m x = h3_5 l m x ∧ ∃ (y : Int × Int × Int × Int × List (List C) × List (List C)), Sp.ftJ y.1 y.snd.1 y.snd.snd.1 y.snd.snd.snd.1 y.snd.snd.snd.snd.1 y.snd.snd.snd.snd.2 ∧ true = true ∧ True ∧ ((((m3_14 m)) ∧ (m3_9 ∧ Sp.ka m (Sp.ka m (Sp.ka m x.snd.1)) = y.1) ∧ True) ∧ 64 = 64) ∧ (((m3_9 ∧ Sp.zI (m3_2 m x) x.snd.snd.1 = y.snd.1) ∧ (m3_9 ∧ Sp.zI (m3_2 m x) x.snd.snd.snd.1 = y.snd.snd.1) ∧ (m3_9 ∧ Sp.zI (m3_2 m x) x.snd.snd.snd.snd.1 = y.snd.snd.snd.1) ∧ (m3_12 ∧ Sp.zL (m3_2 m x) x.snd.snd.snd.snd.snd.1 = y.snd.snd.snd.snd.1) ∧ (m3_8 ∧ Sp.zL (m3_2 m x) (Sp.mvS x.snd.snd.snd.snd.snd.2 (1 + Sp.kn m (Sp.ka m x.snd.1) (8 - 1 + 1)) (iWrap .u64 (1 + Sp.kn m (Sp.ka m (Sp.ka m x.snd.1)) (5 - 1 + 1)))) = y.snd.snd.snd.snd.2) ∧ True) ∧ 31 = 31) ∧ True) ∧ (bEq (m3_2 m x) 0 = false → (true = true ∧ h3_4 l m x = h3_4 l m x) ∧ h3_5 l m x = h3_5 l m x ∧ ∃ (y : Int × Int × Int × Int × List (List C) × List (List C)), Sp.ftJ y.1 y.snd.1 y.snd.snd.1 y.snd.snd.snd.1 y.snd.snd.snd.snd.1 y.snd.snd.snd.snd.2 ∧ true = true ∧ True ∧ ((((m3_14 m)) ∧ (m3_9 ∧ Sp.ka m (Sp.ka m (Sp.ka m x.snd.1)) = y.1) ∧ True) ∧ 64 = 64) ∧ (m3_6 x y))) ∧ ∀ (x_1 : Int × Int × Int × Int × List (List C) × List (List C)), (m3_0 l m x x_1))))))))) ∧ (bLt x.1 6 = false → true = true))))) := by kernel_rfl
theorem v3 (l : List (List C)) (m : List (List C)) : Holds (Wfs [.sl [.int .i64] l, .sl [.int .i64] m] → True → B3 l m) := by
 refine ⟨fun hw hp => ?_⟩
 rw [e3]
 delta WL m3_2 m3_4 m3_5 m3_8 m3_9 m3_10 m3_12 m3_13 m3_14 m3_0 m3_15 m3_6 m3_16 m3_1 m3_3 m3_7 m3_11
 simp only [Wfs, Wf, InR, and_true] at hw
 simp only [eq_self, true_and, and_true, true_implies, implies_true, iAdd, iSub, iMul, iLen, bEq, bNe, bLt, bLe, bNot, pIn, pLe, pNe, InR, decide_eq_true_eq, decide_eq_false_iff_not, Bool.not_eq_true', Bool.not_eq_false', decide_eq_decide]
 clear hw hp
 have hk := Sp.k_bval (l := l) (a := 0)
 repeat' (first | exact trivial | apply And.intro | (refine fun (z : Int × Int × Int × Int × Int × List (List C) × List (List C)) (hx : Sp.ftI _ _ _ _ _ _ _) => ?_; obtain ⟨k, a, w, c, p, ds, ss⟩ := z; simp only at hx ⊢; obtain ⟨k0, k6, a0, hb⟩ := hx; have a1 := Sp.ka_nn (l := m) a0; have a2 := Sp.ka_nn (l := m) a1; have a3 := Sp.ka_nn (l := m) a2; have a4 := Sp.ka_nn (l := m) a3; have a5 := Sp.ka_nn (l := m) a4; have a6 := Sp.ka_nn (l := m) a5) | (refine fun (z : Int × Int × Int × Int × List (List C) × List (List C)) (hx : Sp.ftJ _ _ _ _ _ _) => ?_; obtain ⟨a', w', c', p', ds', ss'⟩ := z; simp only at hx ⊢; obtain ⟨a0', hb'⟩ := hx; obtain ⟨e1, e2, e3⟩ := Sp.bk_fits hb'; have e4 := Sp.bval_len hb') | intro _)
 all_goals (first | assumption | omega | (refine (?_ : false = true); simp_all; done) | skip)
 all_goals first
  | exact ⟨(0, 0, _, _, _, _, _), ⟨by simp only; omega, by simp only; omega, by simp only; omega, hk⟩, rfl, rfl, rfl, rfl, rfl, rfl, rfl⟩
  | exact ⟨(k + 1, _, _, _, _, _, _), ⟨by simp only; omega, by simp only; omega, a0', hb'⟩, rfl, ⟨rfl, rfl, rfl, rfl, rfl, rfl⟩, by simp only; omega⟩
  | exact ⟨(_, _, _, _, _, _), ⟨(by first | assumption | exact Sp.ka_nn (by assumption)), hb⟩, rfl, rfl, rfl, rfl, rfl, rfl⟩
  | exact ⟨(_, _, _, _, _, _), Sp.ft_ad (by assumption) (by first | assumption | exact Sp.ka_nn (by assumption)), rfl, rfl, rfl, rfl, rfl, rfl⟩
  | exact ⟨(_, _, _, _, _, _), Sp.ft_le (by assumption) (by first | assumption | exact Sp.ka_nn (by assumption)), rfl, rfl, rfl, rfl, rfl, rfl⟩
  | exact ⟨(_, _, _, _, _, _), Sp.ft_mo (by assumption) (by first | assumption | exact Sp.ka_nn (by assumption)), rfl, rfl, rfl, rfl, rfl, rfl⟩
end Go.Sx
