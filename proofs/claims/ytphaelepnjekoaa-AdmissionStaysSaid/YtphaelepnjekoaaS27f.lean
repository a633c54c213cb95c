import Derived.Test.YtphaelepnjekoaaSxUse
import Derived.Test.YtphaelepnjekoaaS27e
import Derived.Test.YtphaelepnjekoaaT27v
import Derived.KernelRfl
set_option linter.unusedVariables false
set_option linter.unusedSimpArgs false
set_option maxRecDepth 100000
set_option maxHeartbeats 4000000
namespace Go
open Go.Sx
def Sp.ld (w c p : Int) (ds ss : List (List C)) : Int := Sp.bnd (Sp.bN w c p ds ss) (Sp.bL w c p ds ss) (Sp.bC w c p ds ss) w
def Sp.bval (w c p : Int) (ds ss : List (List C)) : Bool := Sp.prop w c p ds ss && decide (Sp.ld w c p ds ss ≤ c)
def Sp.inD (ds : List (List C)) (id ch : Int) : List (List C) := Sp.ins ds (Sp.bsx ds id) [[.i id, .i ch]]
def Sp.inS (ss : List (List C)) (s0 s1 s2 s3 : Int) : List (List C) := Sp.ins ss (Sp.bsx ss s0) [[.i s0, .i s1, .i s2, .i s3]]
def Sp.hoE (w c p : Int) (ds ss : List (List C)) (id ch : Int) : Int :=
  bif !Sp.bval w c p ds ss then 1 else bif decide (id = 0 ∨ ¬ (1 ≤ ch ∧ ch ≤ 8)) then 2 else bif Sp.has ds id then 8 else bif decide (8 ≤ ds.length) then 3 else bif decide (c < Sp.ld w c p (Sp.inD ds id ch) ss) then 10 else 0
def Sp.isD (id : Int) (x : List C) : Bool := decide (Sp.c1 x = id)
def Sp.drE (w c p : Int) (ds ss : List (List C)) (id : Int) : Int :=
  bif !Sp.bval w c p ds ss then 1 else bif !Sp.has ds id then 7 else bif decide (0 ≤ Sp.idx (Sp.isD id) ss 0) then 9 else 0
def Sp.adE (w c p : Int) (ds ss : List (List C)) (s0 s1 s2 s3 n : Int) : Int :=
  bif !Sp.bval w c p ds ss then 1 else bif decide (s0 < 1 ∨ ¬ (1 ≤ s2 ∧ s2 ≤ 8) ∨ ¬ (0 ≤ s3 ∧ s3 ≤ 1099511627776) ∨ ¬ (0 ≤ n ∧ n ≤ 1099511627776)) then 2 else bif Sp.has ss s0 then 8 else bif !Sp.has ds s1 then 7 else
  bif decide (24 ≤ ss.length) then 10 else bif decide (s3 < n) then 10 else bif decide (c < Sp.ld w c p ds (Sp.inS ss s0 s1 s2 n)) then 10 else 0
def Sp.adK (w c p : Int) (ds ss : List (List C)) (s0 s1 s2 s3 n : Int) : Int :=
  bif decide (Sp.adE w c p ds ss s0 s1 s2 s3 n = 7) then 1 else bif decide (Sp.adE w c p ds ss s0 s1 s2 s3 n = 10) then (bif decide (24 ≤ ss.length) then 2 else bif decide (s3 < n) then 3 else 4) else 0
def Sp.adN (w c p : Int) (ds ss : List (List C)) (s0 s1 s2 s3 n : Int) : Int :=
  bif decide (Sp.adE w c p ds ss s0 s1 s2 s3 n = 10) then (bif decide (24 ≤ ss.length) then ss.length + 1 else bif decide (s3 < n) then n else Sp.ld w c p ds (Sp.inS ss s0 s1 s2 n)) else 0
def Sp.adH (w c p : Int) (ds ss : List (List C)) (s0 s1 s2 s3 n : Int) : Int :=
  bif decide (Sp.adE w c p ds ss s0 s1 s2 s3 n = 10) then (bif decide (24 ≤ ss.length) then 24 else bif decide (s3 < n) then s3 else c) else 0
def Sp.leE (w c p : Int) (ds ss : List (List C)) (id : Int) : Int := bif !Sp.bval w c p ds ss then 1 else bif !Sp.has ss id then 7 else 0
def Sp.mvS (ss : List (List C)) (id dv : Int) : List (List C) := rSet ss (Sp.nix ss id) [.i (Sp.c0 (rGet ss (Sp.nix ss id))), .i dv, .i (Sp.c2 (rGet ss (Sp.nix ss id))), .i (Sp.c3 (rGet ss (Sp.nix ss id)))]
def Sp.moE (w c p : Int) (ds ss : List (List C)) (id dv : Int) : Int :=
  bif !Sp.bval w c p ds ss then 1 else bif !(Sp.has ss id && Sp.has ds dv) then 7 else bif decide (c < Sp.ld w c p ds (Sp.mvS ss id dv)) then 10 else 0
def Sp.zI (e v : Int) : Int := bif decide (e = 0) then v else 0
def Sp.zL (e : Int) (l : List (List C)) : List (List C) := bif decide (e = 0) then l else []
end Go
namespace Go
open Go.Sx
theorem Sp.ld_no {w c p : Int} {ds ss : List (List C)} (h : Sp.prop w c p ds ss = false) : 0 = Sp.ld w c p ds ss := by
  unfold Sp.ld Sp.bN Sp.bL Sp.bC
  rw [h]
  simp only [cond_false]
  unfold Sp.bnd
  cases Sp.prb [] [] [] w
  · rfl
  · have e1 : Sp.sum [] = 0 := rfl
    have e2 : Sp.critP [] [] [] = 0 := rfl
    rw [e1, e2]
    simp
theorem Sp.bval_prop {w c p : Int} {ds ss : List (List C)} (h : Sp.bval w c p ds ss = true) : Sp.prop w c p ds ss = true := by
  unfold Sp.bval at h
  rw [Bool.and_eq_true] at h; exact h.1
theorem Sp.bval_len {w c p : Int} {ds ss : List (List C)} (h : Sp.bval w c p ds ss = true) : ds.length ≤ 8 ∧ ss.length ≤ 24 := by
  have := (Sp.prop_iff.1 (Sp.bval_prop h)).1
  omega
theorem Sp.bval_asc {w c p : Int} {ds ss : List (List C)} (h : Sp.bval w c p ds ss = true) : Sp.asc ds ∧ Sp.asc ss := by
  obtain ⟨_, h1, h2⟩ := Sp.prop_iff.1 (Sp.bval_prop h)
  exact ⟨Sp.dok_asc h1, Sp.sok_asc h2⟩
theorem Sp.bk_err {e k w c p : Int} {ds ss : List (List C)} (h : e = k) (hk : k ≠ 0) : (0 = Sp.zI e w ∧ 0 = Sp.zI e c ∧ 0 = Sp.zI e p ∧ [] = Sp.zL e ds ∧ [] = Sp.zL e ss) ∧ k = e := by
  subst h
  unfold Sp.zI Sp.zL
  rw [decide_eq_false hk]
  exact ⟨⟨rfl, rfl, rfl, rfl, rfl⟩, rfl⟩
theorem Sp.bk_ok {e w c p : Int} {ds ss : List (List C)} (h : e = 0) : (w = Sp.zI e w ∧ c = Sp.zI e c ∧ p = Sp.zI e p ∧ ds = Sp.zL e ds ∧ ss = Sp.zL e ss) ∧ 0 = e := by
  subst h
  exact ⟨⟨rfl, rfl, rfl, rfl, rfl⟩, rfl⟩
section
variable {w c p : Int} {ds ss : List (List C)}
theorem Sp.ho1 {id ch : Int} (h : Sp.bval w c p ds ss = false) : Sp.hoE w c p ds ss id ch = 1 := by unfold Sp.hoE; rw [h]; rfl
theorem Sp.ho2 {id ch : Int} (h : Sp.bval w c p ds ss = true) (h2 : id = 0 ∨ ¬ (1 ≤ ch ∧ ch ≤ 8)) : Sp.hoE w c p ds ss id ch = 2 := by unfold Sp.hoE; rw [h, decide_eq_true h2]; rfl
theorem Sp.ho8 {id ch : Int} (h : Sp.bval w c p ds ss = true) (h2 : ¬ (id = 0 ∨ ¬ (1 ≤ ch ∧ ch ≤ 8))) (h3 : Sp.has ds id = true) : Sp.hoE w c p ds ss id ch = 8 := by unfold Sp.hoE; rw [h, decide_eq_false h2, h3]; rfl
theorem Sp.ho3 {id ch : Int} (h : Sp.bval w c p ds ss = true) (h2 : ¬ (id = 0 ∨ ¬ (1 ≤ ch ∧ ch ≤ 8))) (h3 : Sp.has ds id = false) (h4 : 8 ≤ ds.length) : Sp.hoE w c p ds ss id ch = 3 := by unfold Sp.hoE; rw [h, decide_eq_false h2, h3, decide_eq_true h4]; rfl
theorem Sp.ho10 {id ch : Int} (h : Sp.bval w c p ds ss = true) (h2 : ¬ (id = 0 ∨ ¬ (1 ≤ ch ∧ ch ≤ 8))) (h3 : Sp.has ds id = false) (h4 : ¬ 8 ≤ ds.length) (h5 : c < Sp.ld w c p (Sp.inD ds id ch) ss) : Sp.hoE w c p ds ss id ch = 10 := by unfold Sp.hoE; rw [h, decide_eq_false h2, h3, decide_eq_false h4, decide_eq_true h5]; rfl
theorem Sp.ho0 {id ch : Int} (h : Sp.bval w c p ds ss = true) (h2 : ¬ (id = 0 ∨ ¬ (1 ≤ ch ∧ ch ≤ 8))) (h3 : Sp.has ds id = false) (h4 : ¬ 8 ≤ ds.length) (h5 : ¬ c < Sp.ld w c p (Sp.inD ds id ch) ss) : Sp.hoE w c p ds ss id ch = 0 := by unfold Sp.hoE; rw [h, decide_eq_false h2, h3, decide_eq_false h4, decide_eq_false h5]; rfl
theorem Sp.dr1 {id : Int} (h : Sp.bval w c p ds ss = false) : Sp.drE w c p ds ss id = 1 := by unfold Sp.drE; rw [h]; rfl
theorem Sp.dr7 {id : Int} (h : Sp.bval w c p ds ss = true) (h2 : Sp.has ds id = false) : Sp.drE w c p ds ss id = 7 := by unfold Sp.drE; rw [h, h2]; rfl
theorem Sp.dr9 {id : Int} (h : Sp.bval w c p ds ss = true) (h2 : Sp.has ds id = true) (h3 : 0 ≤ Sp.idx (Sp.isD id) ss 0) : Sp.drE w c p ds ss id = 9 := by unfold Sp.drE; rw [h, h2, decide_eq_true h3]; rfl
theorem Sp.dr0 {id : Int} (h : Sp.bval w c p ds ss = true) (h2 : Sp.has ds id = true) (h3 : ¬ 0 ≤ Sp.idx (Sp.isD id) ss 0) : Sp.drE w c p ds ss id = 0 := by unfold Sp.drE; rw [h, h2, decide_eq_false h3]; rfl
theorem Sp.le1 {id : Int} (h : Sp.bval w c p ds ss = false) : Sp.leE w c p ds ss id = 1 := by unfold Sp.leE; rw [h]; rfl
theorem Sp.le7 {id : Int} (h : Sp.bval w c p ds ss = true) (h2 : Sp.has ss id = false) : Sp.leE w c p ds ss id = 7 := by unfold Sp.leE; rw [h, h2]; rfl
theorem Sp.le0 {id : Int} (h : Sp.bval w c p ds ss = true) (h2 : Sp.has ss id = true) : Sp.leE w c p ds ss id = 0 := by unfold Sp.leE; rw [h, h2]; rfl
theorem Sp.mo1 {id dv : Int} (h : Sp.bval w c p ds ss = false) : Sp.moE w c p ds ss id dv = 1 := by unfold Sp.moE; rw [h]; rfl
theorem Sp.mo7 {id dv : Int} (h : Sp.bval w c p ds ss = true) (h2 : Sp.has ss id = false ∨ Sp.has ds dv = false) : Sp.moE w c p ds ss id dv = 7 := by
  unfold Sp.moE
  have : (Sp.has ss id && Sp.has ds dv) = false := by rcases h2 with h2 | h2 <;> simp [h2]
  rw [h, this]; rfl
theorem Sp.mo10 {id dv : Int} (h : Sp.bval w c p ds ss = true) (h2 : Sp.has ss id = true) (h3 : Sp.has ds dv = true) (h4 : c < Sp.ld w c p ds (Sp.mvS ss id dv)) : Sp.moE w c p ds ss id dv = 10 := by unfold Sp.moE; rw [h, h2, h3, decide_eq_true h4]; rfl
theorem Sp.mo0 {id dv : Int} (h : Sp.bval w c p ds ss = true) (h2 : Sp.has ss id = true) (h3 : Sp.has ds dv = true) (h4 : ¬ c < Sp.ld w c p ds (Sp.mvS ss id dv)) : Sp.moE w c p ds ss id dv = 0 := by unfold Sp.moE; rw [h, h2, h3, decide_eq_false h4]; rfl
end
section
variable {w c p s0 s1 s2 s3 n : Int} {ds ss : List (List C)}
abbrev Sp.adB (s0 s2 s3 n : Int) : Prop := s0 < 1 ∨ ¬ (1 ≤ s2 ∧ s2 ≤ 8) ∨ ¬ (0 ≤ s3 ∧ s3 ≤ 1099511627776) ∨ ¬ (0 ≤ n ∧ n ≤ 1099511627776)
theorem Sp.ad1 (h : Sp.bval w c p ds ss = false) : Sp.adE w c p ds ss s0 s1 s2 s3 n = 1 := by unfold Sp.adE; rw [h]; rfl
theorem Sp.ad2 (h : Sp.bval w c p ds ss = true) (h2 : Sp.adB s0 s2 s3 n) : Sp.adE w c p ds ss s0 s1 s2 s3 n = 2 := by unfold Sp.adE; rw [h, decide_eq_true h2]; rfl
theorem Sp.ad8 (h : Sp.bval w c p ds ss = true) (h2 : ¬ Sp.adB s0 s2 s3 n) (h3 : Sp.has ss s0 = true) : Sp.adE w c p ds ss s0 s1 s2 s3 n = 8 := by unfold Sp.adE; rw [h, decide_eq_false h2, h3]; rfl
theorem Sp.ad7 (h : Sp.bval w c p ds ss = true) (h2 : ¬ Sp.adB s0 s2 s3 n) (h3 : Sp.has ss s0 = false) (h4 : Sp.has ds s1 = false) : Sp.adE w c p ds ss s0 s1 s2 s3 n = 7 := by unfold Sp.adE; rw [h, decide_eq_false h2, h3, h4]; rfl
theorem Sp.adx (h : Sp.bval w c p ds ss = true) (h2 : ¬ Sp.adB s0 s2 s3 n) (h3 : Sp.has ss s0 = false) (h4 : Sp.has ds s1 = true) : Sp.adE w c p ds ss s0 s1 s2 s3 n = bif decide (24 ≤ ss.length) then 10 else bif decide (s3 < n) then 10 else bif decide (c < Sp.ld w c p ds (Sp.inS ss s0 s1 s2 n)) then 10 else 0 := by
  unfold Sp.adE; rw [h, decide_eq_false h2, h3, h4]; rfl
theorem Sp.ad_e {k : Int} {ss2 : List (List C)} (h : Sp.adE w c p ds ss s0 s1 s2 s3 n = k) (h0 : k ≠ 0) (h7 : k ≠ 7) (h10 : k ≠ 10) : (0 = Sp.zI (Sp.adE w c p ds ss s0 s1 s2 s3 n) w ∧ 0 = Sp.zI (Sp.adE w c p ds ss s0 s1 s2 s3 n) c ∧ 0 = Sp.zI (Sp.adE w c p ds ss s0 s1 s2 s3 n) p ∧ [] = Sp.zL (Sp.adE w c p ds ss s0 s1 s2 s3 n) ds ∧ [] = Sp.zL (Sp.adE w c p ds ss s0 s1 s2 s3 n) ss2) ∧
    (0 = Sp.adK w c p ds ss s0 s1 s2 s3 n ∧ 0 = Sp.adN w c p ds ss s0 s1 s2 s3 n ∧ 0 = Sp.adH w c p ds ss s0 s1 s2 s3 n) ∧ k = Sp.adE w c p ds ss s0 s1 s2 s3 n := by
  refine ⟨(Sp.bk_err h h0).1, ⟨?_, ?_, ?_⟩, h.symm⟩
  · unfold Sp.adK; rw [h, decide_eq_false h7, decide_eq_false h10]; rfl
  · unfold Sp.adN; rw [h, decide_eq_false h10]; rfl
  · unfold Sp.adH; rw [h, decide_eq_false h10]; rfl
theorem Sp.ad_e7 {ss2 : List (List C)} (h : Sp.adE w c p ds ss s0 s1 s2 s3 n = 7) : (0 = Sp.zI (Sp.adE w c p ds ss s0 s1 s2 s3 n) w ∧ 0 = Sp.zI (Sp.adE w c p ds ss s0 s1 s2 s3 n) c ∧ 0 = Sp.zI (Sp.adE w c p ds ss s0 s1 s2 s3 n) p ∧ [] = Sp.zL (Sp.adE w c p ds ss s0 s1 s2 s3 n) ds ∧ [] = Sp.zL (Sp.adE w c p ds ss s0 s1 s2 s3 n) ss2) ∧
    (1 = Sp.adK w c p ds ss s0 s1 s2 s3 n ∧ 0 = Sp.adN w c p ds ss s0 s1 s2 s3 n ∧ 0 = Sp.adH w c p ds ss s0 s1 s2 s3 n) ∧ 7 = Sp.adE w c p ds ss s0 s1 s2 s3 n := by
  refine ⟨(Sp.bk_err h (by omega)).1, ⟨?_, ?_, ?_⟩, h.symm⟩
  · unfold Sp.adK; rw [h]; rfl
  · unfold Sp.adN; rw [h]; rfl
  · unfold Sp.adH; rw [h]; rfl
theorem Sp.ad_e10 {ss2 : List (List C)} (h : Sp.adE w c p ds ss s0 s1 s2 s3 n = 10) : (0 = Sp.zI (Sp.adE w c p ds ss s0 s1 s2 s3 n) w ∧ 0 = Sp.zI (Sp.adE w c p ds ss s0 s1 s2 s3 n) c ∧ 0 = Sp.zI (Sp.adE w c p ds ss s0 s1 s2 s3 n) p ∧ [] = Sp.zL (Sp.adE w c p ds ss s0 s1 s2 s3 n) ds ∧ [] = Sp.zL (Sp.adE w c p ds ss s0 s1 s2 s3 n) ss2) ∧
    ((bif decide (24 ≤ ss.length) then 2 else bif decide (s3 < n) then 3 else 4) = Sp.adK w c p ds ss s0 s1 s2 s3 n ∧ (bif decide (24 ≤ ss.length) then (ss.length : Int) + 1 else bif decide (s3 < n) then n else Sp.ld w c p ds (Sp.inS ss s0 s1 s2 n)) = Sp.adN w c p ds ss s0 s1 s2 s3 n ∧
      (bif decide (24 ≤ ss.length) then 24 else bif decide (s3 < n) then s3 else c) = Sp.adH w c p ds ss s0 s1 s2 s3 n) ∧ 10 = Sp.adE w c p ds ss s0 s1 s2 s3 n := by
  refine ⟨(Sp.bk_err h (by omega)).1, ⟨?_, ?_, ?_⟩, h.symm⟩
  · unfold Sp.adK; rw [h]; rfl
  · unfold Sp.adN; rw [h]; rfl
  · unfold Sp.adH; rw [h]; rfl
theorem Sp.ad_e0 {ss2 : List (List C)} (h : Sp.adE w c p ds ss s0 s1 s2 s3 n = 0) : (w = Sp.zI (Sp.adE w c p ds ss s0 s1 s2 s3 n) w ∧ c = Sp.zI (Sp.adE w c p ds ss s0 s1 s2 s3 n) c ∧ p = Sp.zI (Sp.adE w c p ds ss s0 s1 s2 s3 n) p ∧ ds = Sp.zL (Sp.adE w c p ds ss s0 s1 s2 s3 n) ds ∧ ss2 = Sp.zL (Sp.adE w c p ds ss s0 s1 s2 s3 n) ss2) ∧
    (0 = Sp.adK w c p ds ss s0 s1 s2 s3 n ∧ 0 = Sp.adN w c p ds ss s0 s1 s2 s3 n ∧ 0 = Sp.adH w c p ds ss s0 s1 s2 s3 n) ∧ 0 = Sp.adE w c p ds ss s0 s1 s2 s3 n := by
  refine ⟨(Sp.bk_ok h).1, ⟨?_, ?_, ?_⟩, h.symm⟩
  · unfold Sp.adK; rw [h]; rfl
  · unfold Sp.adN; rw [h]; rfl
  · unfold Sp.adH; rw [h]; rfl
end
end Go
namespace Go.Sx
def ct16 : Ct := { ps := [(true, [.int .i64, .int .i64, .int .i64, .sl [.int .u64, .int .i64], .sl [.int .i64, .int .u64, .int .i64, .int .i64]])], rs := [(false, [.int .i64])], pre := fun _ => True, out := fun a => [[.i (Sp.ld (cel 0 (arg 0 a)).int (cel 1 (arg 0 a)).int (cel 2 (arg 0 a)).int (cel 3 (arg 0 a)).list (cel 4 (arg 0 a)).list)]] }
def tb16 : List (Nat × Ct) := [(12, ct12), (42, ct42)]
def A16  : FuncId → Nat → LoopAnn := fun _ _ => LoopAnn.unroll 200
abbrev B16 (w : Int) (c : Int) (p : Int) (ds : List (List C)) (ss : List (List C)) : Prop := vcF Go.Proofs.Try.prog (look tb16) (fun _ => false) (A16) 6 16 [.agg [.int .i64 w, .int .i64 c, .int .i64 p, .sl [.int .u64, .int .i64] ds, .sl [.int .i64, .int .u64, .int .i64, .int .i64] ss]] [] (fun sv heap => Gives [(false, [.int .i64])] [[.i (Sp.ld w c p ds ss)]] sv heap)
theorem e16 (w : Int) (c : Int) (p : Int) (ds : List (List C)) (ss : List (List C)) : B16 w c p ds ss = (True ∧ ((((WL [.int .i64, .int .i64, .int .i64, .int .i64] (Sp.bN w c p ds ss))) ∧ ((WL [.int .i64, .int .i64, .int .i64, .int .i64] (Sp.bL w c p ds ss))) ∧ True) ∧ ((WL [.int .i64] (Sp.bC w c p ds ss))) ∧ True → True ∧ (InR .i64 (Sp.bnd (Sp.bN w c p ds ss) (Sp.bL w c p ds ss) (Sp.bC w c p ds ss) w) → (Sp.bnd (Sp.bN w c p ds ss) (Sp.bL w c p ds ss) (Sp.bC w c p ds ss) w = Sp.ld w c p ds ss ∧ True) ∧ True))) := by kernel_rfl
theorem v16 (w : Int) (c : Int) (p : Int) (ds : List (List C)) (ss : List (List C)) : Holds (Wfs [.agg [.int .i64 w, .int .i64 c, .int .i64 p, .sl [.int .u64, .int .i64] ds, .sl [.int .i64, .int .u64, .int .i64, .int .i64] ss]] → True → B16 w c p ds ss) := by
  refine ⟨fun hw hp => ?_⟩
  rw [e16]
  unfold WL
  simp only [Wfs, Wf, InR, and_true] at hw
  simp only [eq_self, true_and, and_true, true_implies, implies_true, iAdd, iSub, iMul, iLen, bEq, bNe, bLt, bLe, bNot, pIn, pLe, pNe, InR, decide_eq_true_eq, decide_eq_false_iff_not, Bool.not_eq_true', Bool.not_eq_false', decide_eq_decide]
  exact fun _ _ => rfl
theorem s16 : SoundCt Go.Proofs.Try.prog 16 ct16 :=
  contractH followsMixed (look_sound (show Tb Go.Proofs.Try.prog tb16 from ⟨s12, ⟨s42, trivial⟩⟩)) (fun _ => false) (fun _ => A16) 6 16 ct16 rfl (by simp [ct16]) fun a => Eq.mp (by kernel_rfl) (v16 ((cel 0 (arg 0 a)).int) ((cel 1 (arg 0 a)).int) ((cel 2 (arg 0 a)).int) ((cel 3 (arg 0 a)).list) ((cel 4 (arg 0 a)).list))
end Go.Sx
namespace Go.Sx
def ct17 : Ct := { ps := [(true, [.int .i64, .int .i64, .int .i64, .sl [.int .u64, .int .i64], .sl [.int .i64, .int .u64, .int .i64, .int .i64]])], rs := [(false, [.int .i64])], pre := fun _ => True, out := fun a => [[.i (Sp.ld (cel 0 (arg 0 a)).int (cel 1 (arg 0 a)).int (cel 2 (arg 0 a)).int (cel 3 (arg 0 a)).list (cel 4 (arg 0 a)).list)]] }
def tb17 : List (Nat × Ct) := [(38, ct38), (13, ct13), (43, ct43)]
def A17  : FuncId → Nat → LoopAnn := fun _ _ => LoopAnn.unroll 200
abbrev B17 (w : Int) (c : Int) (p : Int) (ds : List (List C)) (ss : List (List C)) : Prop := vcF Go.Proofs.Try.prog (look tb17) (fun _ => false) (A17) 6 17 [.agg [.int .i64 w, .int .i64 c, .int .i64 p, .sl [.int .u64, .int .i64] ds, .sl [.int .i64, .int .u64, .int .i64, .int .i64] ss]] [] (fun sv heap => Gives [(false, [.int .i64])] [[.i (Sp.ld w c p ds ss)]] sv heap)
theorem e17 (w : Int) (c : Int) (p : Int) (ds : List (List C)) (ss : List (List C)) : B17 w c p ds ss = (True ∧ (True → True ∧ (bNot (Sp.prop w c p ds ss) = true → (0 = Sp.ld w c p ds ss ∧ True) ∧ True) ∧ (bNot (Sp.prop w c p ds ss) = false → True ∧ ((((WL [.int .i64, .int .i64, .int .i64, .int .i64] (Sp.bN w c p ds ss))) ∧ ((WL [.int .i64, .int .i64, .int .i64, .int .i64] (Sp.bL w c p ds ss))) ∧ True) ∧ ((WL [.int .i64] (Sp.bC w c p ds ss))) ∧ True → True ∧ (InR .i64 (Sp.bnd (Sp.bN w c p ds ss) (Sp.bL w c p ds ss) (Sp.bC w c p ds ss) w) → (Sp.bnd (Sp.bN w c p ds ss) (Sp.bL w c p ds ss) (Sp.bC w c p ds ss) w = Sp.ld w c p ds ss ∧ True) ∧ True))))) := by kernel_rfl
theorem v17 (w : Int) (c : Int) (p : Int) (ds : List (List C)) (ss : List (List C)) : Holds (Wfs [.agg [.int .i64 w, .int .i64 c, .int .i64 p, .sl [.int .u64, .int .i64] ds, .sl [.int .i64, .int .u64, .int .i64, .int .i64] ss]] → True → B17 w c p ds ss) := by
  refine ⟨fun hw hp => ?_⟩
  rw [e17]
  unfold WL
  simp only [Wfs, Wf, InR, and_true] at hw
  simp only [eq_self, true_and, and_true, true_implies, implies_true, iAdd, iSub, iMul, iLen, bEq, bNe, bLt, bLe, bNot, pIn, pLe, pNe, InR, decide_eq_true_eq, decide_eq_false_iff_not, Bool.not_eq_true', Bool.not_eq_false', decide_eq_decide]
  exact ⟨fun h => Sp.ld_no h, fun _ _ _ => rfl⟩
theorem s17 : SoundCt Go.Proofs.Try.prog 17 ct17 :=
  contractH followsMixed (look_sound (show Tb Go.Proofs.Try.prog tb17 from ⟨s38, ⟨s13, ⟨s43, trivial⟩⟩⟩)) (fun _ => false) (fun _ => A17) 6 17 ct17 rfl (by simp [ct17]) fun a => Eq.mp (by kernel_rfl) (v17 ((cel 0 (arg 0 a)).int) ((cel 1 (arg 0 a)).int) ((cel 2 (arg 0 a)).int) ((cel 3 (arg 0 a)).list) ((cel 4 (arg 0 a)).list))
end Go.Sx
namespace Go.Sx
def ct14 : Ct := { ps := [(true, [.int .i64, .int .i64, .int .i64, .sl [.int .u64, .int .i64], .sl [.int .i64, .int .u64, .int .i64, .int .i64]])], rs := [(false, [.bool])], pre := fun _ => True, out := fun a => [[.b (Sp.bval (cel 0 (arg 0 a)).int (cel 1 (arg 0 a)).int (cel 2 (arg 0 a)).int (cel 3 (arg 0 a)).list (cel 4 (arg 0 a)).list)]] }
def tb14 : List (Nat × Ct) := [(34, ct34), (16, ct16)]
def A14  : FuncId → Nat → LoopAnn := fun _ _ => LoopAnn.unroll 200
abbrev B14 (w : Int) (c : Int) (p : Int) (ds : List (List C)) (ss : List (List C)) : Prop := vcF Go.Proofs.Try.prog (look tb14) (fun _ => false) (A14) 6 14 [.agg [.int .i64 w, .int .i64 c, .int .i64 p, .sl [.int .u64, .int .i64] ds, .sl [.int .i64, .int .u64, .int .i64, .int .i64] ss]] [] (fun sv heap => Gives [(false, [.bool])] [[.b (Sp.bval w c p ds ss)]] sv heap)
theorem e14 (w : Int) (c : Int) (p : Int) (ds : List (List C)) (ss : List (List C)) : B14 w c p ds ss = (True ∧ (True → (Sp.prop w c p ds ss = true → True ∧ (InR .i64 (Sp.ld w c p ds ss) → (bLe (Sp.ld w c p ds ss) c = Sp.bval w c p ds ss ∧ True) ∧ True)) ∧ (Sp.prop w c p ds ss = false → (false = Sp.bval w c p ds ss ∧ True) ∧ True))) := by kernel_rfl
theorem v14 (w : Int) (c : Int) (p : Int) (ds : List (List C)) (ss : List (List C)) : Holds (Wfs [.agg [.int .i64 w, .int .i64 c, .int .i64 p, .sl [.int .u64, .int .i64] ds, .sl [.int .i64, .int .u64, .int .i64, .int .i64] ss]] → True → B14 w c p ds ss) := by
  refine ⟨fun hw hp => ?_⟩
  rw [e14]
  simp only [Wfs, Wf, InR, and_true] at hw
  simp only [eq_self, true_and, and_true, true_implies, implies_true, iAdd, iSub, iMul, iLen, bEq, bNe, bLt, bLe, bNot, pIn, pLe, pNe, InR, decide_eq_true_eq, decide_eq_false_iff_not, Bool.not_eq_true', Bool.not_eq_false', decide_eq_decide]
  unfold Sp.bval
  exact ⟨fun h _ => by rw [h, Bool.true_and], fun h => by rw [h]; rfl⟩
theorem s14 : SoundCt Go.Proofs.Try.prog 14 ct14 :=
  contractH followsMixed (look_sound (show Tb Go.Proofs.Try.prog tb14 from ⟨s34, ⟨s16, trivial⟩⟩)) (fun _ => false) (fun _ => A14) 6 14 ct14 rfl (by simp [ct14]) fun a => Eq.mp (by kernel_rfl) (v14 ((cel 0 (arg 0 a)).int) ((cel 1 (arg 0 a)).int) ((cel 2 (arg 0 a)).int) ((cel 3 (arg 0 a)).list) ((cel 4 (arg 0 a)).list))
end Go.Sx
namespace Go.Sx
def ct15 : Ct := { ps := [(true, [.int .i64, .int .i64, .int .i64, .sl [.int .u64, .int .i64], .sl [.int .i64, .int .u64, .int .i64, .int .i64]])], rs := [(false, [.bool])], pre := fun _ => True, out := fun a => [[.b (Sp.bval (cel 0 (arg 0 a)).int (cel 1 (arg 0 a)).int (cel 2 (arg 0 a)).int (cel 3 (arg 0 a)).list (cel 4 (arg 0 a)).list)]] }
def tb15 : List (Nat × Ct) := [(38, ct38), (17, ct17)]
def A15  : FuncId → Nat → LoopAnn := fun _ _ => LoopAnn.unroll 200
abbrev B15 (w : Int) (c : Int) (p : Int) (ds : List (List C)) (ss : List (List C)) : Prop := vcF Go.Proofs.Try.prog (look tb15) (fun _ => false) (A15) 6 15 [.agg [.int .i64 w, .int .i64 c, .int .i64 p, .sl [.int .u64, .int .i64] ds, .sl [.int .i64, .int .u64, .int .i64, .int .i64] ss]] [] (fun sv heap => Gives [(false, [.bool])] [[.b (Sp.bval w c p ds ss)]] sv heap)
theorem e15 (w : Int) (c : Int) (p : Int) (ds : List (List C)) (ss : List (List C)) : B15 w c p ds ss = (True ∧ (True → (Sp.prop w c p ds ss = true → True ∧ (InR .i64 (Sp.ld w c p ds ss) → (bLe (Sp.ld w c p ds ss) c = Sp.bval w c p ds ss ∧ True) ∧ True)) ∧ (Sp.prop w c p ds ss = false → (false = Sp.bval w c p ds ss ∧ True) ∧ True))) := by kernel_rfl
theorem v15 (w : Int) (c : Int) (p : Int) (ds : List (List C)) (ss : List (List C)) : Holds (Wfs [.agg [.int .i64 w, .int .i64 c, .int .i64 p, .sl [.int .u64, .int .i64] ds, .sl [.int .i64, .int .u64, .int .i64, .int .i64] ss]] → True → B15 w c p ds ss) := by
  refine ⟨fun hw hp => ?_⟩
  rw [e15]
  simp only [Wfs, Wf, InR, and_true] at hw
  simp only [eq_self, true_and, and_true, true_implies, implies_true, iAdd, iSub, iMul, iLen, bEq, bNe, bLt, bLe, bNot, pIn, pLe, pNe, InR, decide_eq_true_eq, decide_eq_false_iff_not, Bool.not_eq_true', Bool.not_eq_false', decide_eq_decide]
  unfold Sp.bval
  exact ⟨fun h _ => by rw [h, Bool.true_and], fun h => by rw [h]; rfl⟩
theorem s15 : SoundCt Go.Proofs.Try.prog 15 ct15 :=
  contractH followsMixed (look_sound (show Tb Go.Proofs.Try.prog tb15 from ⟨s38, ⟨s17, trivial⟩⟩)) (fun _ => false) (fun _ => A15) 6 15 ct15 rfl (by simp [ct15]) fun a => Eq.mp (by kernel_rfl) (v15 ((cel 0 (arg 0 a)).int) ((cel 1 (arg 0 a)).int) ((cel 2 (arg 0 a)).int) ((cel 3 (arg 0 a)).list) ((cel 4 (arg 0 a)).list))
end Go.Sx
namespace Go.Sx
def ct24 : Ct := { ps := [(true, [.int .i64, .int .i64, .int .i64, .sl [.int .u64, .int .i64], .sl [.int .i64, .int .u64, .int .i64, .int .i64]]), (true, [.int .u64, .int .i64])], rs := [(true, [.int .i64, .int .i64, .int .i64, .sl [.int .u64, .int .i64], .sl [.int .i64, .int .u64, .int .i64, .int .i64]]), (false, [.int .i64])], pre := fun _ => True, out := fun a => [[.i (Sp.zI (Sp.hoE (cel 0 (arg 0 a)).int (cel 1 (arg 0 a)).int (cel 2 (arg 0 a)).int (cel 3 (arg 0 a)).list (cel 4 (arg 0 a)).list (cel 0 (arg 1 a)).int (cel 1 (arg 1 a)).int) (cel 0 (arg 0 a)).int), .i (Sp.zI (Sp.hoE (cel 0 (arg 0 a)).int (cel 1 (arg 0 a)).int (cel 2 (arg 0 a)).int (cel 3 (arg 0 a)).list (cel 4 (arg 0 a)).list (cel 0 (arg 1 a)).int (cel 1 (arg 1 a)).int) (cel 1 (arg 0 a)).int), .i (Sp.zI (Sp.hoE (cel 0 (arg 0 a)).int (cel 1 (arg 0 a)).int (cel 2 (arg 0 a)).int (cel 3 (arg 0 a)).list (cel 4 (arg 0 a)).list (cel 0 (arg 1 a)).int (cel 1 (arg 1 a)).int) (cel 2 (arg 0 a)).int), .l (Sp.zL (Sp.hoE (cel 0 (arg 0 a)).int (cel 1 (arg 0 a)).int (cel 2 (arg 0 a)).int (cel 3 (arg 0 a)).list (cel 4 (arg 0 a)).list (cel 0 (arg 1 a)).int (cel 1 (arg 1 a)).int) (Sp.inD (cel 3 (arg 0 a)).list (cel 0 (arg 1 a)).int (cel 1 (arg 1 a)).int)), .l (Sp.zL (Sp.hoE (cel 0 (arg 0 a)).int (cel 1 (arg 0 a)).int (cel 2 (arg 0 a)).int (cel 3 (arg 0 a)).list (cel 4 (arg 0 a)).list (cel 0 (arg 1 a)).int (cel 1 (arg 1 a)).int) ((cel 4 (arg 0 a)).list))], [.i (Sp.hoE (cel 0 (arg 0 a)).int (cel 1 (arg 0 a)).int (cel 2 (arg 0 a)).int (cel 3 (arg 0 a)).list (cel 4 (arg 0 a)).list (cel 0 (arg 1 a)).int (cel 1 (arg 1 a)).int)]] }
def tb24 : List (Nat × Ct) := [(36, ct36), (14, ct14), (47, ct47), (16, ct16), (72, ct72), (73, ct73), (52, ct52)]
def A24  : FuncId → Nat → LoopAnn := fun _ _ => LoopAnn.unroll 200
abbrev B24 (w : Int) (c : Int) (p : Int) (ds : List (List C)) (ss : List (List C)) (id : Int) (ch : Int) : Prop := vcF Go.Proofs.Try.prog (look tb24) (fun _ => false) (A24) 6 24 [.agg [.int .i64 w, .int .i64 c, .int .i64 p, .sl [.int .u64, .int .i64] ds, .sl [.int .i64, .int .u64, .int .i64, .int .i64] ss], .agg [.int .u64 id, .int .i64 ch]] [] (fun sv heap => Gives [(true, [.int .i64, .int .i64, .int .i64, .sl [.int .u64, .int .i64], .sl [.int .i64, .int .u64, .int .i64, .int .i64]]), (false, [.int .i64])] [[.i (Sp.zI (Sp.hoE w c p ds ss id ch) w), .i (Sp.zI (Sp.hoE w c p ds ss id ch) c), .i (Sp.zI (Sp.hoE w c p ds ss id ch) p), .l (Sp.zL (Sp.hoE w c p ds ss id ch) (Sp.inD ds id ch)), .l (Sp.zL (Sp.hoE w c p ds ss id ch) (ss))], [.i (Sp.hoE w c p ds ss id ch)]] sv heap)
theorem e24 (w : Int) (c : Int) (p : Int) (ds : List (List C)) (ss : List (List C)) (id : Int) (ch : Int) (Z1 : Int) (hZ1 : Z1 = Sp.hoE w c p ds ss id ch) : B24 w c p ds ss id ch = (True ∧ (InR .i64 (Sp.bsx ds id) ∧ True ∧ True → True ∧ (True → True ∧ (bNot (Sp.bval w c p ds ss) = true → (0 = Sp.zI Z1 w ∧ 0 = Sp.zI Z1 c ∧ 0 = Sp.zI Z1 p ∧ [] = Sp.zL Z1 (Sp.inD ds id ch) ∧ [] = Sp.zL Z1 ss ∧ True) ∧ (1 = Sp.hoE w c p ds ss id ch ∧ True) ∧ True) ∧ (bNot (Sp.bval w c p ds ss) = false → (bEq id 0 = false → True ∧ (True → True ∧ (bNot (decide (1 ≤ ch ∧ ch ≤ 8)) = true → (0 = Sp.zI Z1 w ∧ 0 = Sp.zI Z1 c ∧ 0 = Sp.zI Z1 p ∧ [] = Sp.zL Z1 (Sp.inD ds id ch) ∧ [] = Sp.zL Z1 ss ∧ True) ∧ (2 = Sp.hoE w c p ds ss id ch ∧ True) ∧ True) ∧ (bNot (decide (1 ≤ ch ∧ ch ≤ 8)) = false → (Sp.bsf ds id = true → (0 = Sp.zI Z1 w ∧ 0 = Sp.zI Z1 c ∧ 0 = Sp.zI Z1 p ∧ [] = Sp.zL Z1 (Sp.inD ds id ch) ∧ [] = Sp.zL Z1 ss ∧ True) ∧ (8 = Sp.hoE w c p ds ss id ch ∧ True) ∧ True) ∧ (Sp.bsf ds id = false → pLe (iLen ds) 9223372036854775807 → (bLe 8 (iLen ds) = true → (0 = Sp.zI Z1 w ∧ 0 = Sp.zI Z1 c ∧ 0 = Sp.zI Z1 p ∧ [] = Sp.zL Z1 (Sp.inD ds id ch) ∧ [] = Sp.zL Z1 ss ∧ True) ∧ (3 = Sp.hoE w c p ds ss id ch ∧ True) ∧ True) ∧ (bLe 8 (iLen ds) = false → pLe (↑ds.length) 1000000 ∧ pLe (↑ss.length) 1000000 ∧ ((pLe 0 (Sp.bsx ds id) ∧ pLe (Sp.bsx ds id) ↑ds.length) ∧ 1 = 1 ∧ pLe (↑ds.length) 999999) ∧ True ∧ (InR .i64 (Sp.ld w c p (Sp.ins ds (Sp.bsx ds id) [[C.i id, C.i ch]]) ss) → (bLt c (Sp.ld w c p (Sp.ins ds (Sp.bsx ds id) [[C.i id, C.i ch]]) ss) = true → (0 = Sp.zI Z1 w ∧ 0 = Sp.zI Z1 c ∧ 0 = Sp.zI Z1 p ∧ [] = Sp.zL Z1 (Sp.inD ds id ch) ∧ [] = Sp.zL Z1 ss ∧ True) ∧ (10 = Sp.hoE w c p ds ss id ch ∧ True) ∧ True) ∧ (bLt c (Sp.ld w c p (Sp.ins ds (Sp.bsx ds id) [[C.i id, C.i ch]]) ss) = false → (w = Sp.zI Z1 w ∧ c = Sp.zI Z1 c ∧ p = Sp.zI Z1 p ∧ Sp.ins ds (Sp.bsx ds id) [[C.i id, C.i ch]] = Sp.zL Z1 (Sp.inD ds id ch) ∧ ss = Sp.zL Z1 ss ∧ True) ∧ (0 = Sp.hoE w c p ds ss id ch ∧ True) ∧ True))))))) ∧ (bEq id 0 = true → (0 = Sp.zI Z1 w ∧ 0 = Sp.zI Z1 c ∧ 0 = Sp.zI Z1 p ∧ [] = Sp.zL Z1 (Sp.inD ds id ch) ∧ [] = Sp.zL Z1 ss ∧ True) ∧ (2 = Sp.hoE w c p ds ss id ch ∧ True) ∧ True))))) := by subst hZ1; kernel_rfl
theorem v24 (w : Int) (c : Int) (p : Int) (ds : List (List C)) (ss : List (List C)) (id : Int) (ch : Int) : Holds (Wfs [.agg [.int .i64 w, .int .i64 c, .int .i64 p, .sl [.int .u64, .int .i64] ds, .sl [.int .i64, .int .u64, .int .i64, .int .i64] ss], .agg [.int .u64 id, .int .i64 ch]] → True → B24 w c p ds ss id ch) := by
  refine ⟨fun hw hp => ?_⟩
  rw [e24 _ _ _ _ _ _ _ _ rfl]
  simp only [Wfs, Wf, InR, and_true] at hw
  simp only [eq_self, true_and, and_true, true_implies, implies_true, iAdd, iSub, iMul, iLen, bEq, bNe, bLt, bLe, bNot, pIn, pLe, pNe, InR, decide_eq_true_eq, decide_eq_false_iff_not, Bool.not_eq_true', Bool.not_eq_false', decide_eq_decide]
  intro _
  refine ⟨fun h => Sp.bk_err (Sp.ho1 h) (by omega), fun hv => ⟨fun hi => ⟨fun hc => Sp.bk_err (Sp.ho2 hv (.inr hc)) (by omega), fun hc => ?_⟩, fun hi => Sp.bk_err (Sp.ho2 hv (.inl hi)) (by omega)⟩⟩
  have h2 : ¬ (id = 0 ∨ ¬ (1 ≤ ch ∧ ch ≤ 8)) := fun h => h.elim hi fun h => h hc
  have hA := Sp.bval_asc hv
  have hl := Sp.bval_len hv
  have hb := Sp.bsx_bd (xs := ds) id
  rw [Sp.bsf_has hA.1]
  refine ⟨fun h3 => Sp.bk_err (Sp.ho8 hv h2 h3) (by omega), fun h3 _ => ⟨fun h4 => Sp.bk_err (Sp.ho3 hv h2 h3 (by omega)) (by omega), fun h4 => ⟨by omega, by omega, ⟨⟨hb.1, hb.2⟩, by omega⟩, fun _ => ⟨fun h5 => Sp.bk_err (Sp.ho10 hv h2 h3 (by omega) h5) (by omega), fun h5 => Sp.bk_ok (Sp.ho0 hv h2 h3 (by omega) h5)⟩⟩⟩⟩
theorem s24 : SoundCt Go.Proofs.Try.prog 24 ct24 :=
  contractH followsMixed (look_sound (show Tb Go.Proofs.Try.prog tb24 from ⟨s36, ⟨s14, ⟨s47, ⟨s16, ⟨s72, ⟨s73, ⟨s52, trivial⟩⟩⟩⟩⟩⟩⟩)) (fun _ => false) (fun _ => A24) 6 24 ct24 rfl (by simp [ct24]) fun a => Eq.mp (by kernel_rfl) (v24 ((cel 0 (arg 0 a)).int) ((cel 1 (arg 0 a)).int) ((cel 2 (arg 0 a)).int) ((cel 3 (arg 0 a)).list) ((cel 4 (arg 0 a)).list) ((cel 0 (arg 1 a)).int) ((cel 1 (arg 1 a)).int))
end Go.Sx
namespace Go.Sx
def ct26 : Ct := { ps := [(true, [.int .i64, .int .i64, .int .i64, .sl [.int .u64, .int .i64], .sl [.int .i64, .int .u64, .int .i64, .int .i64]]), (false, [.int .u64])], rs := [(true, [.int .i64, .int .i64, .int .i64, .sl [.int .u64, .int .i64], .sl [.int .i64, .int .u64, .int .i64, .int .i64]]), (false, [.int .i64])], pre := fun _ => True, out := fun a => [[.i (Sp.zI (Sp.drE (cel 0 (arg 0 a)).int (cel 1 (arg 0 a)).int (cel 2 (arg 0 a)).int (cel 3 (arg 0 a)).list (cel 4 (arg 0 a)).list (cel 0 (arg 1 a)).int) (cel 0 (arg 0 a)).int), .i (Sp.zI (Sp.drE (cel 0 (arg 0 a)).int (cel 1 (arg 0 a)).int (cel 2 (arg 0 a)).int (cel 3 (arg 0 a)).list (cel 4 (arg 0 a)).list (cel 0 (arg 1 a)).int) (cel 1 (arg 0 a)).int), .i (Sp.zI (Sp.drE (cel 0 (arg 0 a)).int (cel 1 (arg 0 a)).int (cel 2 (arg 0 a)).int (cel 3 (arg 0 a)).list (cel 4 (arg 0 a)).list (cel 0 (arg 1 a)).int) (cel 2 (arg 0 a)).int), .l (Sp.zL (Sp.drE (cel 0 (arg 0 a)).int (cel 1 (arg 0 a)).int (cel 2 (arg 0 a)).int (cel 3 (arg 0 a)).list (cel 4 (arg 0 a)).list (cel 0 (arg 1 a)).int) (Sp.del (cel 3 (arg 0 a)).list (Sp.bsx (cel 3 (arg 0 a)).list (cel 0 (arg 1 a)).int) (Sp.bsx (cel 3 (arg 0 a)).list (cel 0 (arg 1 a)).int + 1))), .l (Sp.zL (Sp.drE (cel 0 (arg 0 a)).int (cel 1 (arg 0 a)).int (cel 2 (arg 0 a)).int (cel 3 (arg 0 a)).list (cel 4 (arg 0 a)).list (cel 0 (arg 1 a)).int) ((cel 4 (arg 0 a)).list))], [.i (Sp.drE (cel 0 (arg 0 a)).int (cel 1 (arg 0 a)).int (cel 2 (arg 0 a)).int (cel 3 (arg 0 a)).list (cel 4 (arg 0 a)).list (cel 0 (arg 1 a)).int)]] }
def tb26 : List (Nat × Ct) := [(36, ct36), (14, ct14), (72, ct72), (73, ct73), (57, ct57)]
def A26 (ss : List (List C)) (id : Int) : FuncId → Nat → LoopAnn := fun ff ii => bif Nat.beq ff 78 then .inv (Int) (fun z => Sp.at (Sp.isD id) ss z) (fun z => [(8, .int .i64 z)]) (fun z => []) [] [0, 1, 4, 5, 7, 8, 9, 16] (fun z => ss.length - z.toNat) else .unroll 0
abbrev B26 (w : Int) (c : Int) (p : Int) (ds : List (List C)) (ss : List (List C)) (id : Int) : Prop := vcF Go.Proofs.Try.prog (look tb26) (fun _ => false) (A26 ss id) 8 26 [.agg [.int .i64 w, .int .i64 c, .int .i64 p, .sl [.int .u64, .int .i64] ds, .sl [.int .i64, .int .u64, .int .i64, .int .i64] ss], .int .u64 id] [] (fun sv heap => Gives [(true, [.int .i64, .int .i64, .int .i64, .sl [.int .u64, .int .i64], .sl [.int .i64, .int .u64, .int .i64, .int .i64]]), (false, [.int .i64])] [[.i (Sp.zI (Sp.drE w c p ds ss id) w), .i (Sp.zI (Sp.drE w c p ds ss id) c), .i (Sp.zI (Sp.drE w c p ds ss id) p), .l (Sp.zL (Sp.drE w c p ds ss id) (Sp.del ds (Sp.bsx ds id) (Sp.bsx ds id + 1))), .l (Sp.zL (Sp.drE w c p ds ss id) (ss))], [.i (Sp.drE w c p ds ss id)]] sv heap)
def h26_0 : Int → Int → Int → List (List C) → List (List C) → Int → List HB := fun (w c p : Int) (ds ss : List (List C)) (id : Int) => [HB.box [SV.int .i64 w, SV.int .i64 c, SV.int .i64 p, SV.sl [.int .u64, .int .i64] ds, SV.sl [.int .i64, .int .u64, .int .i64, .int .i64] ss] 28, HB.box [SV.int .u64 id] 45, HB.box [SV.lit .i64 0, SV.lit .i64 0, SV.lit .i64 0, SV.nils, SV.nils] 28]
theorem e26 (w : Int) (c : Int) (p : Int) (ds : List (List C)) (ss : List (List C)) (id : Int) (Z1 : Int) (hZ1 : Z1 = Sp.drE w c p ds ss id) (Z2 : Int) (hZ2 : Z2 = Sp.bsx ds id) (Z3 : List (List C)) (hZ3 : Z3 = Sp.del ds Z2 (Sp.bsx ds id + 1)) : B26 w c p ds ss id = (True ∧ (InR .i64 Z2 ∧ True ∧ True → True ∧ (True → True ∧ (bNot (Sp.bval w c p ds ss) = true → (0 = Sp.zI Z1 w ∧ 0 = Sp.zI Z1 c ∧ 0 = Sp.zI Z1 p ∧ [] = Sp.zL Z1 Z3 ∧ [] = Sp.zL Z1 ss ∧ True) ∧ (1 = Sp.drE w c p ds ss id ∧ True) ∧ True) ∧ (bNot (Sp.bval w c p ds ss) = false → True ∧ (bNot (Sp.bsf ds id) = true → (0 = Sp.zI Z1 w ∧ 0 = Sp.zI Z1 c ∧ 0 = Sp.zI Z1 p ∧ [] = Sp.zL Z1 Z3 ∧ [] = Sp.zL Z1 ss ∧ True) ∧ (7 = Sp.drE w c p ds ss id ∧ True) ∧ True) ∧ (bNot (Sp.bsf ds id) = false → pLe (iLen ss) 9223372036854775807 → (∃ (x : Int), Sp.at (Sp.isD id) ss x ∧ true = true ∧ ((IntKind.i64 = IntKind.i64 ∧ 0 = x) ∧ True) ∧ True) ∧ (∀ (x : Int), true = true ∧ true = true) ∧ ∀ (x : Int), Sp.at (Sp.isD id) ss x → InR .i64 x ∧ True → True → (bLt x (iLen ss) = true → pIn 0 (iLen ss) x ∧ (InR .i64 (q0 (rGet ss x)) ∧ InR .u64 (q1 (rGet ss x)) ∧ InR .i64 (q2 (rGet ss x)) ∧ InR .i64 (q3 (rGet ss x)) ∧ True → (bEq (q1 (rGet ss x)) id = true → (bLe 0 x = true → (0 = Sp.zI Z1 w ∧ 0 = Sp.zI Z1 c ∧ 0 = Sp.zI Z1 p ∧ [] = Sp.zL Z1 Z3 ∧ [] = Sp.zL Z1 ss ∧ True) ∧ (9 = Sp.drE w c p ds ss id ∧ True) ∧ True) ∧ (bLe 0 x = false → pLe (↑ds.length) 1000000 ∧ pLe (↑ss.length) 1000000 ∧ InR .i64 (iAdd Z2 1) ∧ ((pLe 0 Z2 ∧ pLe (iAdd Z2 1) (iAdd Z2 1)) ∧ pLe (iAdd Z2 1) ↑ds.length ∧ pLe (↑ds.length) 1000000) ∧ (w = Sp.zI Z1 w ∧ c = Sp.zI Z1 c ∧ p = Sp.zI Z1 p ∧ Sp.del ds Z2 (iAdd Z2 1) = Sp.zL Z1 Z3 ∧ ss = Sp.zL Z1 ss ∧ True) ∧ (0 = Sp.drE w c p ds ss id ∧ True) ∧ True)) ∧ (bEq (q1 (rGet ss x)) id = false → InR .i64 (iAdd x 1) ∧ (true = true ∧ (fun z => z = z) [SV.sl [.int .i64, .int .u64, .int .i64, .int .i64] ss, SV.fn 56 [SV.ref 1 0], SV.int .i64 (iLen ss)]) ∧ h26_0 w c p ds ss id = h26_0 w c p ds ss id ∧ ∃ (y : Int), Sp.at (Sp.isD id) ss y ∧ true = true ∧ ((IntKind.i64 = IntKind.i64 ∧ iAdd x 1 = y) ∧ True) ∧ True ∧ ss.length - y.toNat < ss.length - x.toNat))) ∧ (bLt x (iLen ss) = false → pLe (↑ds.length) 1000000 ∧ pLe (↑ss.length) 1000000 ∧ InR .i64 (iAdd Z2 1) ∧ ((pLe 0 Z2 ∧ pLe (iAdd Z2 1) (iAdd Z2 1)) ∧ pLe (iAdd Z2 1) ↑ds.length ∧ pLe (↑ds.length) 1000000) ∧ (w = Sp.zI Z1 w ∧ c = Sp.zI Z1 c ∧ p = Sp.zI Z1 p ∧ Sp.del ds Z2 (iAdd Z2 1) = Sp.zL Z1 Z3 ∧ ss = Sp.zL Z1 ss ∧ True) ∧ (0 = Sp.drE w c p ds ss id ∧ True) ∧ True)))))) := by subst hZ3; subst hZ2; subst hZ1; kernel_rfl
theorem v26 (w : Int) (c : Int) (p : Int) (ds : List (List C)) (ss : List (List C)) (id : Int) : Holds (Wfs [.agg [.int .i64 w, .int .i64 c, .int .i64 p, .sl [.int .u64, .int .i64] ds, .sl [.int .i64, .int .u64, .int .i64, .int .i64] ss], .int .u64 id] → True → B26 w c p ds ss id) := by
  refine ⟨fun hw hp => ?_⟩
  rw [e26 _ _ _ _ _ _ _ rfl _ rfl _ rfl]
  unfold q0 q1 q2 q3
  simp only [Wfs, Wf, InR, and_true] at hw
  simp only [eq_self, true_and, and_true, true_implies, implies_true, iAdd, iSub, iMul, iLen, bEq, bNe, bLt, bLe, bNot, pIn, pLe, pNe, InR, decide_eq_true_eq, decide_eq_false_iff_not, Bool.not_eq_true', Bool.not_eq_false', decide_eq_decide]
  intro _
  refine ⟨fun h => Sp.bk_err (Sp.dr1 h) (by omega), fun hv => ?_⟩
  have hA := Sp.bval_asc hv
  have hl := Sp.bval_len hv
  have hb := Sp.bsx_bd (xs := ds) id
  rw [Sp.bsf_has hA.1]
  refine ⟨fun h2 => Sp.bk_err (Sp.dr7 hv h2) (by omega), fun h2 _ => ⟨⟨0, Sp.at_init, rfl⟩, fun x hx hx1 => ⟨fun hlt => ⟨⟨hx.1, hlt⟩, fun _ => ⟨fun hc => ⟨fun h0 => ?_, fun h0 => absurd hx.1 h0⟩, fun hc => ⟨by omega, x + 1, Sp.at_step hx hlt (decide_eq_false hc), rfl, by have := hx.1; omega⟩⟩⟩, fun hge => ?_⟩⟩⟩
  · exact Sp.bk_err (Sp.dr9 hv h2 (by rw [Sp.at_hit hx hlt (decide_eq_true hc)]; exact h0)) (by omega)
  · have h3 := Sp.nix_has h2
    rw [← Sp.bsx_nix hA.1 h2] at h3
    exact ⟨by omega, by omega, by omega, ⟨⟨by omega, by omega⟩, by omega, by omega⟩, Sp.bk_ok (Sp.dr0 hv h2 (by rw [Sp.at_end hx hge]; omega))⟩
theorem s26 : SoundCt Go.Proofs.Try.prog 26 ct26 :=
  contractH followsMixed (look_sound (show Tb Go.Proofs.Try.prog tb26 from ⟨s36, ⟨s14, ⟨s72, ⟨s73, ⟨s57, trivial⟩⟩⟩⟩⟩)) (fun _ => false) (fun a => A26 ((cel 4 (arg 0 a)).list) ((cel 0 (arg 1 a)).int)) 8 26 ct26 rfl (by simp [ct26]) fun a => Eq.mp (by kernel_rfl) (v26 ((cel 0 (arg 0 a)).int) ((cel 1 (arg 0 a)).int) ((cel 2 (arg 0 a)).int) ((cel 3 (arg 0 a)).list) ((cel 4 (arg 0 a)).list) ((cel 0 (arg 1 a)).int))
end Go.Sx
namespace Go.Sx
def ct20 : Ct := { ps := [(true, [.int .i64, .int .i64, .int .i64, .sl [.int .u64, .int .i64], .sl [.int .i64, .int .u64, .int .i64, .int .i64]]), (true, [.int .i64, .int .u64, .int .i64, .int .i64]), (false, [.int .i64])], rs := [(true, [.int .i64, .int .i64, .int .i64, .sl [.int .u64, .int .i64], .sl [.int .i64, .int .u64, .int .i64, .int .i64]]), (true, [.int .i64, .int .i64, .int .i64]), (false, [.int .i64])], pre := fun _ => True, out := fun a => [[.i (Sp.zI (Sp.adE (cel 0 (arg 0 a)).int (cel 1 (arg 0 a)).int (cel 2 (arg 0 a)).int (cel 3 (arg 0 a)).list (cel 4 (arg 0 a)).list (cel 0 (arg 1 a)).int (cel 1 (arg 1 a)).int (cel 2 (arg 1 a)).int (cel 3 (arg 1 a)).int (cel 0 (arg 2 a)).int) (cel 0 (arg 0 a)).int), .i (Sp.zI (Sp.adE (cel 0 (arg 0 a)).int (cel 1 (arg 0 a)).int (cel 2 (arg 0 a)).int (cel 3 (arg 0 a)).list (cel 4 (arg 0 a)).list (cel 0 (arg 1 a)).int (cel 1 (arg 1 a)).int (cel 2 (arg 1 a)).int (cel 3 (arg 1 a)).int (cel 0 (arg 2 a)).int) (cel 1 (arg 0 a)).int), .i (Sp.zI (Sp.adE (cel 0 (arg 0 a)).int (cel 1 (arg 0 a)).int (cel 2 (arg 0 a)).int (cel 3 (arg 0 a)).list (cel 4 (arg 0 a)).list (cel 0 (arg 1 a)).int (cel 1 (arg 1 a)).int (cel 2 (arg 1 a)).int (cel 3 (arg 1 a)).int (cel 0 (arg 2 a)).int) (cel 2 (arg 0 a)).int), .l (Sp.zL (Sp.adE (cel 0 (arg 0 a)).int (cel 1 (arg 0 a)).int (cel 2 (arg 0 a)).int (cel 3 (arg 0 a)).list (cel 4 (arg 0 a)).list (cel 0 (arg 1 a)).int (cel 1 (arg 1 a)).int (cel 2 (arg 1 a)).int (cel 3 (arg 1 a)).int (cel 0 (arg 2 a)).int) ((cel 3 (arg 0 a)).list)), .l (Sp.zL (Sp.adE (cel 0 (arg 0 a)).int (cel 1 (arg 0 a)).int (cel 2 (arg 0 a)).int (cel 3 (arg 0 a)).list (cel 4 (arg 0 a)).list (cel 0 (arg 1 a)).int (cel 1 (arg 1 a)).int (cel 2 (arg 1 a)).int (cel 3 (arg 1 a)).int (cel 0 (arg 2 a)).int) (Sp.inS (cel 4 (arg 0 a)).list (cel 0 (arg 1 a)).int (cel 1 (arg 1 a)).int (cel 2 (arg 1 a)).int (cel 0 (arg 2 a)).int))], [.i (Sp.adK (cel 0 (arg 0 a)).int (cel 1 (arg 0 a)).int (cel 2 (arg 0 a)).int (cel 3 (arg 0 a)).list (cel 4 (arg 0 a)).list (cel 0 (arg 1 a)).int (cel 1 (arg 1 a)).int (cel 2 (arg 1 a)).int (cel 3 (arg 1 a)).int (cel 0 (arg 2 a)).int), .i (Sp.adN (cel 0 (arg 0 a)).int (cel 1 (arg 0 a)).int (cel 2 (arg 0 a)).int (cel 3 (arg 0 a)).list (cel 4 (arg 0 a)).list (cel 0 (arg 1 a)).int (cel 1 (arg 1 a)).int (cel 2 (arg 1 a)).int (cel 3 (arg 1 a)).int (cel 0 (arg 2 a)).int), .i (Sp.adH (cel 0 (arg 0 a)).int (cel 1 (arg 0 a)).int (cel 2 (arg 0 a)).int (cel 3 (arg 0 a)).list (cel 4 (arg 0 a)).list (cel 0 (arg 1 a)).int (cel 1 (arg 1 a)).int (cel 2 (arg 1 a)).int (cel 3 (arg 1 a)).int (cel 0 (arg 2 a)).int)], [.i (Sp.adE (cel 0 (arg 0 a)).int (cel 1 (arg 0 a)).int (cel 2 (arg 0 a)).int (cel 3 (arg 0 a)).list (cel 4 (arg 0 a)).list (cel 0 (arg 1 a)).int (cel 1 (arg 1 a)).int (cel 2 (arg 1 a)).int (cel 3 (arg 1 a)).int (cel 0 (arg 2 a)).int)]] }
def tb20 : List (Nat × Ct) := [(45, ct45), (36, ct36), (14, ct14), (47, ct47), (16, ct16), (72, ct72), (73, ct73), (49, ct49)]
def A20  : FuncId → Nat → LoopAnn := fun _ _ => LoopAnn.unroll 200
abbrev B20 (w : Int) (c : Int) (p : Int) (ds : List (List C)) (ss : List (List C)) (s0 : Int) (s1 : Int) (s2 : Int) (s3 : Int) (n : Int) : Prop := vcF Go.Proofs.Try.prog (look tb20) (fun _ => false) (A20) 8 20 [.agg [.int .i64 w, .int .i64 c, .int .i64 p, .sl [.int .u64, .int .i64] ds, .sl [.int .i64, .int .u64, .int .i64, .int .i64] ss], .agg [.int .i64 s0, .int .u64 s1, .int .i64 s2, .int .i64 s3], .int .i64 n] [] (fun sv heap => Gives [(true, [.int .i64, .int .i64, .int .i64, .sl [.int .u64, .int .i64], .sl [.int .i64, .int .u64, .int .i64, .int .i64]]), (true, [.int .i64, .int .i64, .int .i64]), (false, [.int .i64])] [[.i (Sp.zI (Sp.adE w c p ds ss s0 s1 s2 s3 n) w), .i (Sp.zI (Sp.adE w c p ds ss s0 s1 s2 s3 n) c), .i (Sp.zI (Sp.adE w c p ds ss s0 s1 s2 s3 n) p), .l (Sp.zL (Sp.adE w c p ds ss s0 s1 s2 s3 n) (ds)), .l (Sp.zL (Sp.adE w c p ds ss s0 s1 s2 s3 n) (Sp.inS ss s0 s1 s2 n))], [.i (Sp.adK w c p ds ss s0 s1 s2 s3 n), .i (Sp.adN w c p ds ss s0 s1 s2 s3 n), .i (Sp.adH w c p ds ss s0 s1 s2 s3 n)], [.i (Sp.adE w c p ds ss s0 s1 s2 s3 n)]] sv heap)
theorem e20 (w : Int) (c : Int) (p : Int) (ds : List (List C)) (ss : List (List C)) (s0 : Int) (s1 : Int) (s2 : Int) (s3 : Int) (n : Int) (Z1 : Int) (hZ1 : Z1 = Sp.adE w c p ds ss s0 s1 s2 s3 n) (Z2 : List (List C)) (hZ2 : Z2 = Sp.ins ss (Sp.bsx ss s0) [[C.i s0, C.i s1, C.i s2, C.i n]]) (Z3 : List (List C)) (hZ3 : Z3 = Sp.inS ss s0 s1 s2 n) : B20 w c p ds ss s0 s1 s2 s3 n = (True ∧ (InR .i64 (Sp.bsx ss s0) ∧ True ∧ True → True ∧ (InR .i64 (Sp.bsx ds s1) ∧ True ∧ True → True ∧ (True → True ∧ (bNot (Sp.bval w c p ds ss) = true → (0 = Sp.zI Z1 w ∧ 0 = Sp.zI Z1 c ∧ 0 = Sp.zI Z1 p ∧ [] = Sp.zL Z1 ds ∧ [] = Sp.zL Z1 Z3 ∧ True) ∧ (0 = Sp.adK w c p ds ss s0 s1 s2 s3 n ∧ 0 = Sp.adN w c p ds ss s0 s1 s2 s3 n ∧ 0 = Sp.adH w c p ds ss s0 s1 s2 s3 n ∧ True) ∧ (1 = Sp.adE w c p ds ss s0 s1 s2 s3 n ∧ True) ∧ True) ∧ (bNot (Sp.bval w c p ds ss) = false → (bLt s0 1 = false → True ∧ (True → True ∧ (bNot (decide (1 ≤ s2 ∧ s2 ≤ 8)) = false → True ∧ (True → True ∧ (bNot (decide (0 ≤ s3 ∧ s3 ≤ 1099511627776)) = false → True ∧ (True → True ∧ (bNot (decide (0 ≤ n ∧ n ≤ 1099511627776)) = true → (0 = Sp.zI Z1 w ∧ 0 = Sp.zI Z1 c ∧ 0 = Sp.zI Z1 p ∧ [] = Sp.zL Z1 ds ∧ [] = Sp.zL Z1 Z3 ∧ True) ∧ (0 = Sp.adK w c p ds ss s0 s1 s2 s3 n ∧ 0 = Sp.adN w c p ds ss s0 s1 s2 s3 n ∧ 0 = Sp.adH w c p ds ss s0 s1 s2 s3 n ∧ True) ∧ (2 = Sp.adE w c p ds ss s0 s1 s2 s3 n ∧ True) ∧ True) ∧ (bNot (decide (0 ≤ n ∧ n ≤ 1099511627776)) = false → (Sp.bsf ss s0 = true → (0 = Sp.zI Z1 w ∧ 0 = Sp.zI Z1 c ∧ 0 = Sp.zI Z1 p ∧ [] = Sp.zL Z1 ds ∧ [] = Sp.zL Z1 Z3 ∧ True) ∧ (0 = Sp.adK w c p ds ss s0 s1 s2 s3 n ∧ 0 = Sp.adN w c p ds ss s0 s1 s2 s3 n ∧ 0 = Sp.adH w c p ds ss s0 s1 s2 s3 n ∧ True) ∧ (8 = Sp.adE w c p ds ss s0 s1 s2 s3 n ∧ True) ∧ True) ∧ (Sp.bsf ss s0 = false → True ∧ (bNot (Sp.bsf ds s1) = true → (0 = Sp.zI Z1 w ∧ 0 = Sp.zI Z1 c ∧ 0 = Sp.zI Z1 p ∧ [] = Sp.zL Z1 ds ∧ [] = Sp.zL Z1 Z3 ∧ True) ∧ (1 = Sp.adK w c p ds ss s0 s1 s2 s3 n ∧ 0 = Sp.adN w c p ds ss s0 s1 s2 s3 n ∧ 0 = Sp.adH w c p ds ss s0 s1 s2 s3 n ∧ True) ∧ (7 = Sp.adE w c p ds ss s0 s1 s2 s3 n ∧ True) ∧ True) ∧ (bNot (Sp.bsf ds s1) = false → pLe (iLen ss) 9223372036854775807 → (bLe 24 (iLen ss) = true → pLe (iLen ss) 9223372036854775807 → InR .i64 (iAdd (iLen ss) 1) ∧ (0 = Sp.zI Z1 w ∧ 0 = Sp.zI Z1 c ∧ 0 = Sp.zI Z1 p ∧ [] = Sp.zL Z1 ds ∧ [] = Sp.zL Z1 Z3 ∧ True) ∧ (2 = Sp.adK w c p ds ss s0 s1 s2 s3 n ∧ iAdd (iLen ss) 1 = Sp.adN w c p ds ss s0 s1 s2 s3 n ∧ 24 = Sp.adH w c p ds ss s0 s1 s2 s3 n ∧ True) ∧ (10 = Sp.adE w c p ds ss s0 s1 s2 s3 n ∧ True) ∧ True) ∧ (bLe 24 (iLen ss) = false → (bLt s3 n = true → (0 = Sp.zI Z1 w ∧ 0 = Sp.zI Z1 c ∧ 0 = Sp.zI Z1 p ∧ [] = Sp.zL Z1 ds ∧ [] = Sp.zL Z1 Z3 ∧ True) ∧ (3 = Sp.adK w c p ds ss s0 s1 s2 s3 n ∧ n = Sp.adN w c p ds ss s0 s1 s2 s3 n ∧ s3 = Sp.adH w c p ds ss s0 s1 s2 s3 n ∧ True) ∧ (10 = Sp.adE w c p ds ss s0 s1 s2 s3 n ∧ True) ∧ True) ∧ (bLt s3 n = false → pLe (↑ds.length) 1000000 ∧ pLe (↑ss.length) 1000000 ∧ ((pLe 0 (Sp.bsx ss s0) ∧ pLe (Sp.bsx ss s0) ↑ss.length) ∧ 1 = 1 ∧ pLe (↑ss.length) 999999) ∧ True ∧ (InR .i64 (Sp.ld w c p ds Z2) → (bLt c (Sp.ld w c p ds Z2) = true → True ∧ (InR .i64 (Sp.ld w c p ds Z2) → (0 = Sp.zI Z1 w ∧ 0 = Sp.zI Z1 c ∧ 0 = Sp.zI Z1 p ∧ [] = Sp.zL Z1 ds ∧ [] = Sp.zL Z1 Z3 ∧ True) ∧ (4 = Sp.adK w c p ds ss s0 s1 s2 s3 n ∧ Sp.ld w c p ds Z2 = Sp.adN w c p ds ss s0 s1 s2 s3 n ∧ c = Sp.adH w c p ds ss s0 s1 s2 s3 n ∧ True) ∧ (10 = Sp.adE w c p ds ss s0 s1 s2 s3 n ∧ True) ∧ True)) ∧ (bLt c (Sp.ld w c p ds Z2) = false → (w = Sp.zI Z1 w ∧ c = Sp.zI Z1 c ∧ p = Sp.zI Z1 p ∧ ds = Sp.zL Z1 ds ∧ Sp.ins ss (Sp.bsx ss s0) [[C.i s0, C.i s1, C.i s2, C.i n]] = Sp.zL Z1 Z3 ∧ True) ∧ (0 = Sp.adK w c p ds ss s0 s1 s2 s3 n ∧ 0 = Sp.adN w c p ds ss s0 s1 s2 s3 n ∧ 0 = Sp.adH w c p ds ss s0 s1 s2 s3 n ∧ True) ∧ (0 = Sp.adE w c p ds ss s0 s1 s2 s3 n ∧ True) ∧ True))))))))) ∧ (bNot (decide (0 ≤ s3 ∧ s3 ≤ 1099511627776)) = true → (0 = Sp.zI Z1 w ∧ 0 = Sp.zI Z1 c ∧ 0 = Sp.zI Z1 p ∧ [] = Sp.zL Z1 ds ∧ [] = Sp.zL Z1 Z3 ∧ True) ∧ (0 = Sp.adK w c p ds ss s0 s1 s2 s3 n ∧ 0 = Sp.adN w c p ds ss s0 s1 s2 s3 n ∧ 0 = Sp.adH w c p ds ss s0 s1 s2 s3 n ∧ True) ∧ (2 = Sp.adE w c p ds ss s0 s1 s2 s3 n ∧ True) ∧ True))) ∧ (bNot (decide (1 ≤ s2 ∧ s2 ≤ 8)) = true → (0 = Sp.zI Z1 w ∧ 0 = Sp.zI Z1 c ∧ 0 = Sp.zI Z1 p ∧ [] = Sp.zL Z1 ds ∧ [] = Sp.zL Z1 Z3 ∧ True) ∧ (0 = Sp.adK w c p ds ss s0 s1 s2 s3 n ∧ 0 = Sp.adN w c p ds ss s0 s1 s2 s3 n ∧ 0 = Sp.adH w c p ds ss s0 s1 s2 s3 n ∧ True) ∧ (2 = Sp.adE w c p ds ss s0 s1 s2 s3 n ∧ True) ∧ True))) ∧ (bLt s0 1 = true → (0 = Sp.zI Z1 w ∧ 0 = Sp.zI Z1 c ∧ 0 = Sp.zI Z1 p ∧ [] = Sp.zL Z1 ds ∧ [] = Sp.zL Z1 Z3 ∧ True) ∧ (0 = Sp.adK w c p ds ss s0 s1 s2 s3 n ∧ 0 = Sp.adN w c p ds ss s0 s1 s2 s3 n ∧ 0 = Sp.adH w c p ds ss s0 s1 s2 s3 n ∧ True) ∧ (2 = Sp.adE w c p ds ss s0 s1 s2 s3 n ∧ True) ∧ True)))))) := by subst hZ3; subst hZ2; subst hZ1; kernel_rfl
theorem v20 (w : Int) (c : Int) (p : Int) (ds : List (List C)) (ss : List (List C)) (s0 : Int) (s1 : Int) (s2 : Int) (s3 : Int) (n : Int) : Holds (Wfs [.agg [.int .i64 w, .int .i64 c, .int .i64 p, .sl [.int .u64, .int .i64] ds, .sl [.int .i64, .int .u64, .int .i64, .int .i64] ss], .agg [.int .i64 s0, .int .u64 s1, .int .i64 s2, .int .i64 s3], .int .i64 n] → True → B20 w c p ds ss s0 s1 s2 s3 n) := by
  refine ⟨fun hw hp => ?_⟩
  rw [e20 _ _ _ _ _ _ _ _ _ _ _ rfl _ rfl _ rfl]
  simp only [Wfs, Wf, InR, and_true] at hw
  simp only [eq_self, true_and, and_true, true_implies, implies_true, iAdd, iSub, iMul, iLen, bEq, bNe, bLt, bLe, bNot, pIn, pLe, pNe, InR, decide_eq_true_eq, decide_eq_false_iff_not, Bool.not_eq_true', Bool.not_eq_false', decide_eq_decide]
  intro _ _
  refine ⟨fun h => Sp.ad_e (Sp.ad1 h) (by omega) (by omega) (by omega), fun hv => ?_⟩
  have hA := Sp.bval_asc hv
  have hl := Sp.bval_len hv
  have hb := Sp.bsx_bd (xs := ss) s0
  rw [Sp.bsf_has hA.1, Sp.bsf_has hA.2]
  refine ⟨fun a1 => ⟨fun a2 => ⟨fun a3 => ⟨fun a4 => Sp.ad_e (Sp.ad2 hv (.inr (.inr (.inr a4)))) (by omega) (by omega) (by omega), fun a4 => ?_⟩, fun a => Sp.ad_e (Sp.ad2 hv (.inr (.inr (.inl a)))) (by omega) (by omega) (by omega)⟩, fun a => Sp.ad_e (Sp.ad2 hv (.inr (.inl a))) (by omega) (by omega) (by omega)⟩, fun a => Sp.ad_e (Sp.ad2 hv (.inl a)) (by omega) (by omega) (by omega)⟩
  have h2 : ¬ Sp.adB s0 s2 s3 n := by unfold Sp.adB; omega
  refine ⟨fun h3 => Sp.ad_e (Sp.ad8 hv h2 h3) (by omega) (by omega) (by omega), fun h3 => ⟨fun h4 => Sp.ad_e7 (Sp.ad7 hv h2 h3 h4), fun h4 _ => ?_⟩⟩
  have hx := Sp.adx (p := p) hv h2 h3 h4
  refine ⟨fun h5 _ => ⟨by omega, ?_⟩, fun h5 => ⟨fun h6 => ?_, fun h6 => ⟨by omega, by omega, ⟨⟨hb.1, hb.2⟩, by omega⟩, fun _ => ⟨fun h7 _ => ?_, fun h7 => ?_⟩⟩⟩⟩
  · rw [decide_eq_true (show 24 ≤ ss.length by omega)] at hx
    have := Sp.ad_e10 (ss2 := Sp.inS ss s0 s1 s2 n) hx
    rw [decide_eq_true (show 24 ≤ ss.length by omega)] at this
    exact this
  · rw [decide_eq_false (show ¬ 24 ≤ ss.length by omega), decide_eq_true h6] at hx
    have := Sp.ad_e10 (ss2 := Sp.inS ss s0 s1 s2 n) hx
    rw [decide_eq_false (show ¬ 24 ≤ ss.length by omega), decide_eq_true h6] at this
    exact this
  · rw [decide_eq_false (show ¬ 24 ≤ ss.length by omega), decide_eq_false h6, decide_eq_true (show c < Sp.ld w c p ds (Sp.inS ss s0 s1 s2 n) from h7)] at hx
    have := Sp.ad_e10 (ss2 := Sp.inS ss s0 s1 s2 n) hx
    rw [decide_eq_false (show ¬ 24 ≤ ss.length by omega), decide_eq_false h6] at this
    exact this
  · rw [decide_eq_false (show ¬ 24 ≤ ss.length by omega), decide_eq_false h6, decide_eq_false (show ¬ c < Sp.ld w c p ds (Sp.inS ss s0 s1 s2 n) from h7)] at hx
    exact Sp.ad_e0 (ss2 := Sp.inS ss s0 s1 s2 n) hx
theorem s20 : SoundCt Go.Proofs.Try.prog 20 ct20 :=
  contractH followsMixed (look_sound (show Tb Go.Proofs.Try.prog tb20 from ⟨s45, ⟨s36, ⟨s14, ⟨s47, ⟨s16, ⟨s72, ⟨s73, ⟨s49, trivial⟩⟩⟩⟩⟩⟩⟩⟩)) (fun _ => false) (fun _ => A20) 8 20 ct20 rfl (by simp [ct20]) fun a => Eq.mp (by kernel_rfl) (v20 ((cel 0 (arg 0 a)).int) ((cel 1 (arg 0 a)).int) ((cel 2 (arg 0 a)).int) ((cel 3 (arg 0 a)).list) ((cel 4 (arg 0 a)).list) ((cel 0 (arg 1 a)).int) ((cel 1 (arg 1 a)).int) ((cel 2 (arg 1 a)).int) ((cel 3 (arg 1 a)).int) ((cel 0 (arg 2 a)).int))
end Go.Sx
namespace Go.Sx
def ct22 : Ct := { ps := [(true, [.int .i64, .int .i64, .int .i64, .sl [.int .u64, .int .i64], .sl [.int .i64, .int .u64, .int .i64, .int .i64]]), (false, [.int .i64])], rs := [(true, [.int .i64, .int .i64, .int .i64, .sl [.int .u64, .int .i64], .sl [.int .i64, .int .u64, .int .i64, .int .i64]]), (false, [.int .i64])], pre := fun _ => True, out := fun a => [[.i (Sp.zI (Sp.leE (cel 0 (arg 0 a)).int (cel 1 (arg 0 a)).int (cel 2 (arg 0 a)).int (cel 3 (arg 0 a)).list (cel 4 (arg 0 a)).list (cel 0 (arg 1 a)).int) (cel 0 (arg 0 a)).int), .i (Sp.zI (Sp.leE (cel 0 (arg 0 a)).int (cel 1 (arg 0 a)).int (cel 2 (arg 0 a)).int (cel 3 (arg 0 a)).list (cel 4 (arg 0 a)).list (cel 0 (arg 1 a)).int) (cel 1 (arg 0 a)).int), .i (Sp.zI (Sp.leE (cel 0 (arg 0 a)).int (cel 1 (arg 0 a)).int (cel 2 (arg 0 a)).int (cel 3 (arg 0 a)).list (cel 4 (arg 0 a)).list (cel 0 (arg 1 a)).int) (cel 2 (arg 0 a)).int), .l (Sp.zL (Sp.leE (cel 0 (arg 0 a)).int (cel 1 (arg 0 a)).int (cel 2 (arg 0 a)).int (cel 3 (arg 0 a)).list (cel 4 (arg 0 a)).list (cel 0 (arg 1 a)).int) ((cel 3 (arg 0 a)).list)), .l (Sp.zL (Sp.leE (cel 0 (arg 0 a)).int (cel 1 (arg 0 a)).int (cel 2 (arg 0 a)).int (cel 3 (arg 0 a)).list (cel 4 (arg 0 a)).list (cel 0 (arg 1 a)).int) (Sp.del (cel 4 (arg 0 a)).list (Sp.bsx (cel 4 (arg 0 a)).list (cel 0 (arg 1 a)).int) (Sp.bsx (cel 4 (arg 0 a)).list (cel 0 (arg 1 a)).int + 1)))], [.i (Sp.leE (cel 0 (arg 0 a)).int (cel 1 (arg 0 a)).int (cel 2 (arg 0 a)).int (cel 3 (arg 0 a)).list (cel 4 (arg 0 a)).list (cel 0 (arg 1 a)).int)]] }
def tb22 : List (Nat × Ct) := [(45, ct45), (14, ct14), (72, ct72), (73, ct73), (51, ct51)]
def A22  : FuncId → Nat → LoopAnn := fun _ _ => LoopAnn.unroll 200
abbrev B22 (w : Int) (c : Int) (p : Int) (ds : List (List C)) (ss : List (List C)) (id : Int) : Prop := vcF Go.Proofs.Try.prog (look tb22) (fun _ => false) (A22) 8 22 [.agg [.int .i64 w, .int .i64 c, .int .i64 p, .sl [.int .u64, .int .i64] ds, .sl [.int .i64, .int .u64, .int .i64, .int .i64] ss], .int .i64 id] [] (fun sv heap => Gives [(true, [.int .i64, .int .i64, .int .i64, .sl [.int .u64, .int .i64], .sl [.int .i64, .int .u64, .int .i64, .int .i64]]), (false, [.int .i64])] [[.i (Sp.zI (Sp.leE w c p ds ss id) w), .i (Sp.zI (Sp.leE w c p ds ss id) c), .i (Sp.zI (Sp.leE w c p ds ss id) p), .l (Sp.zL (Sp.leE w c p ds ss id) (ds)), .l (Sp.zL (Sp.leE w c p ds ss id) (Sp.del ss (Sp.bsx ss id) (Sp.bsx ss id + 1)))], [.i (Sp.leE w c p ds ss id)]] sv heap)
theorem e22 (w : Int) (c : Int) (p : Int) (ds : List (List C)) (ss : List (List C)) (id : Int) (Z1 : Int) (hZ1 : Z1 = Sp.leE w c p ds ss id) (Z2 : Int) (hZ2 : Z2 = Sp.bsx ss id) : B22 w c p ds ss id = (True ∧ (InR .i64 Z2 ∧ True ∧ True → True ∧ (True → True ∧ (bNot (Sp.bval w c p ds ss) = true → (0 = Sp.zI Z1 w ∧ 0 = Sp.zI Z1 c ∧ 0 = Sp.zI Z1 p ∧ [] = Sp.zL Z1 ds ∧ [] = Sp.zL Z1 (Sp.del ss Z2 (Sp.bsx ss id + 1)) ∧ True) ∧ (1 = Sp.leE w c p ds ss id ∧ True) ∧ True) ∧ (bNot (Sp.bval w c p ds ss) = false → True ∧ (bNot (Sp.bsf ss id) = true → (0 = Sp.zI Z1 w ∧ 0 = Sp.zI Z1 c ∧ 0 = Sp.zI Z1 p ∧ [] = Sp.zL Z1 ds ∧ [] = Sp.zL Z1 (Sp.del ss Z2 (Sp.bsx ss id + 1)) ∧ True) ∧ (7 = Sp.leE w c p ds ss id ∧ True) ∧ True) ∧ (bNot (Sp.bsf ss id) = false → pLe (↑ds.length) 1000000 ∧ pLe (↑ss.length) 1000000 ∧ InR .i64 (iAdd Z2 1) ∧ ((pLe 0 Z2 ∧ pLe (iAdd Z2 1) (iAdd Z2 1)) ∧ pLe (iAdd Z2 1) ↑ss.length ∧ pLe (↑ss.length) 1000000) ∧ (w = Sp.zI Z1 w ∧ c = Sp.zI Z1 c ∧ p = Sp.zI Z1 p ∧ ds = Sp.zL Z1 ds ∧ Sp.del ss Z2 (iAdd Z2 1) = Sp.zL Z1 (Sp.del ss Z2 (Sp.bsx ss id + 1)) ∧ True) ∧ (0 = Sp.leE w c p ds ss id ∧ True) ∧ True))))) := by subst hZ2; subst hZ1; kernel_rfl
theorem v22 (w : Int) (c : Int) (p : Int) (ds : List (List C)) (ss : List (List C)) (id : Int) : Holds (Wfs [.agg [.int .i64 w, .int .i64 c, .int .i64 p, .sl [.int .u64, .int .i64] ds, .sl [.int .i64, .int .u64, .int .i64, .int .i64] ss], .int .i64 id] → True → B22 w c p ds ss id) := by
  refine ⟨fun hw hp => ?_⟩
  rw [e22 _ _ _ _ _ _ _ rfl _ rfl]
  simp only [Wfs, Wf, InR, and_true] at hw
  simp only [eq_self, true_and, and_true, true_implies, implies_true, iAdd, iSub, iMul, iLen, bEq, bNe, bLt, bLe, bNot, pIn, pLe, pNe, InR, decide_eq_true_eq, decide_eq_false_iff_not, Bool.not_eq_true', Bool.not_eq_false', decide_eq_decide]
  intro _
  refine ⟨fun h => Sp.bk_err (Sp.le1 h) (by omega), fun hv => ?_⟩
  have hA := Sp.bval_asc hv
  have hl := Sp.bval_len hv
  have hb := Sp.bsx_bd (xs := ss) id
  rw [Sp.bsf_has hA.2]
  refine ⟨fun h2 => Sp.bk_err (Sp.le7 hv h2) (by omega), fun h2 => ?_⟩
  have h3 := Sp.nix_has h2
  rw [← Sp.bsx_nix hA.2 h2] at h3
  exact ⟨by omega, by omega, by omega, ⟨⟨by omega, by omega⟩, by omega, by omega⟩, Sp.bk_ok (Sp.le0 hv h2)⟩
theorem s22 : SoundCt Go.Proofs.Try.prog 22 ct22 :=
  contractH followsMixed (look_sound (show Tb Go.Proofs.Try.prog tb22 from ⟨s45, ⟨s14, ⟨s72, ⟨s73, ⟨s51, trivial⟩⟩⟩⟩⟩)) (fun _ => false) (fun _ => A22) 8 22 ct22 rfl (by simp [ct22]) fun a => Eq.mp (by kernel_rfl) (v22 ((cel 0 (arg 0 a)).int) ((cel 1 (arg 0 a)).int) ((cel 2 (arg 0 a)).int) ((cel 3 (arg 0 a)).list) ((cel 4 (arg 0 a)).list) ((cel 0 (arg 1 a)).int))
end Go.Sx
namespace Go.Sx
def ct30 : Ct := { ps := [(true, [.int .i64, .int .i64, .int .i64, .sl [.int .u64, .int .i64], .sl [.int .i64, .int .u64, .int .i64, .int .i64]]), (false, [.int .i64]), (false, [.int .u64])], rs := [(true, [.int .i64, .int .i64, .int .i64, .sl [.int .u64, .int .i64], .sl [.int .i64, .int .u64, .int .i64, .int .i64]]), (false, [.int .i64])], pre := fun _ => True, out := fun a => [[.i (Sp.zI (Sp.moE (cel 0 (arg 0 a)).int (cel 1 (arg 0 a)).int (cel 2 (arg 0 a)).int (cel 3 (arg 0 a)).list (cel 4 (arg 0 a)).list (cel 0 (arg 1 a)).int (cel 0 (arg 2 a)).int) (cel 0 (arg 0 a)).int), .i (Sp.zI (Sp.moE (cel 0 (arg 0 a)).int (cel 1 (arg 0 a)).int (cel 2 (arg 0 a)).int (cel 3 (arg 0 a)).list (cel 4 (arg 0 a)).list (cel 0 (arg 1 a)).int (cel 0 (arg 2 a)).int) (cel 1 (arg 0 a)).int), .i (Sp.zI (Sp.moE (cel 0 (arg 0 a)).int (cel 1 (arg 0 a)).int (cel 2 (arg 0 a)).int (cel 3 (arg 0 a)).list (cel 4 (arg 0 a)).list (cel 0 (arg 1 a)).int (cel 0 (arg 2 a)).int) (cel 2 (arg 0 a)).int), .l (Sp.zL (Sp.moE (cel 0 (arg 0 a)).int (cel 1 (arg 0 a)).int (cel 2 (arg 0 a)).int (cel 3 (arg 0 a)).list (cel 4 (arg 0 a)).list (cel 0 (arg 1 a)).int (cel 0 (arg 2 a)).int) ((cel 3 (arg 0 a)).list)), .l (Sp.zL (Sp.moE (cel 0 (arg 0 a)).int (cel 1 (arg 0 a)).int (cel 2 (arg 0 a)).int (cel 3 (arg 0 a)).list (cel 4 (arg 0 a)).list (cel 0 (arg 1 a)).int (cel 0 (arg 2 a)).int) (Sp.mvS (cel 4 (arg 0 a)).list (cel 0 (arg 1 a)).int (cel 0 (arg 2 a)).int))], [.i (Sp.moE (cel 0 (arg 0 a)).int (cel 1 (arg 0 a)).int (cel 2 (arg 0 a)).int (cel 3 (arg 0 a)).list (cel 4 (arg 0 a)).list (cel 0 (arg 1 a)).int (cel 0 (arg 2 a)).int)]] }
def tb30 : List (Nat × Ct) := [(45, ct45), (36, ct36), (14, ct14), (16, ct16), (72, ct72), (73, ct73)]
def A30  : FuncId → Nat → LoopAnn := fun _ _ => LoopAnn.unroll 200
abbrev B30 (w : Int) (c : Int) (p : Int) (ds : List (List C)) (ss : List (List C)) (id : Int) (dv : Int) : Prop := vcF Go.Proofs.Try.prog (look tb30) (fun _ => false) (A30) 8 30 [.agg [.int .i64 w, .int .i64 c, .int .i64 p, .sl [.int .u64, .int .i64] ds, .sl [.int .i64, .int .u64, .int .i64, .int .i64] ss], .int .i64 id, .int .u64 dv] [] (fun sv heap => Gives [(true, [.int .i64, .int .i64, .int .i64, .sl [.int .u64, .int .i64], .sl [.int .i64, .int .u64, .int .i64, .int .i64]]), (false, [.int .i64])] [[.i (Sp.zI (Sp.moE w c p ds ss id dv) w), .i (Sp.zI (Sp.moE w c p ds ss id dv) c), .i (Sp.zI (Sp.moE w c p ds ss id dv) p), .l (Sp.zL (Sp.moE w c p ds ss id dv) (ds)), .l (Sp.zL (Sp.moE w c p ds ss id dv) (Sp.mvS ss id dv))], [.i (Sp.moE w c p ds ss id dv)]] sv heap)
theorem e30 (w : Int) (c : Int) (p : Int) (ds : List (List C)) (ss : List (List C)) (id : Int) (dv : Int) (Z1 : Int) (hZ1 : Z1 = Sp.moE w c p ds ss id dv) (Z2 : List C) (hZ2 : Z2 = rGet ss (Sp.bsx ss id)) : B30 w c p ds ss id dv = (True ∧ (InR .i64 (Sp.bsx ss id) ∧ True ∧ True → True ∧ (InR .i64 (Sp.bsx ds dv) ∧ True ∧ True → True ∧ (True → True ∧ (bNot (Sp.bval w c p ds ss) = true → (0 = Sp.zI Z1 w ∧ 0 = Sp.zI Z1 c ∧ 0 = Sp.zI Z1 p ∧ [] = Sp.zL Z1 ds ∧ [] = Sp.zL Z1 (Sp.mvS ss id dv) ∧ True) ∧ (1 = Sp.moE w c p ds ss id dv ∧ True) ∧ True) ∧ (bNot (Sp.bval w c p ds ss) = false → True ∧ (bNot (Sp.bsf ss id) = false → True ∧ (bNot (Sp.bsf ds dv) = true → (0 = Sp.zI Z1 w ∧ 0 = Sp.zI Z1 c ∧ 0 = Sp.zI Z1 p ∧ [] = Sp.zL Z1 ds ∧ [] = Sp.zL Z1 (Sp.mvS ss id dv) ∧ True) ∧ (7 = Sp.moE w c p ds ss id dv ∧ True) ∧ True) ∧ (bNot (Sp.bsf ds dv) = false → pLe (↑ds.length) 1000000 ∧ pLe (↑ss.length) 1000000 ∧ pIn 0 (iLen ss) (Sp.bsx ss id) ∧ True ∧ (InR .i64 (Sp.ld w c p ds (rSet ss (Sp.bsx ss id) [C.i (q0 Z2), C.i dv, C.i (q2 Z2), C.i (q3 Z2)])) → (bLt c (Sp.ld w c p ds (rSet ss (Sp.bsx ss id) [C.i (q0 Z2), C.i dv, C.i (q2 Z2), C.i (q3 Z2)])) = true → (0 = Sp.zI Z1 w ∧ 0 = Sp.zI Z1 c ∧ 0 = Sp.zI Z1 p ∧ [] = Sp.zL Z1 ds ∧ [] = Sp.zL Z1 (Sp.mvS ss id dv) ∧ True) ∧ (10 = Sp.moE w c p ds ss id dv ∧ True) ∧ True) ∧ (bLt c (Sp.ld w c p ds (rSet ss (Sp.bsx ss id) [C.i (q0 Z2), C.i dv, C.i (q2 Z2), C.i (q3 Z2)])) = false → (w = Sp.zI Z1 w ∧ c = Sp.zI Z1 c ∧ p = Sp.zI Z1 p ∧ ds = Sp.zL Z1 ds ∧ rSet ss (Sp.bsx ss id) [C.i (q0 Z2), C.i dv, C.i (q2 Z2), C.i (q3 Z2)] = Sp.zL Z1 (Sp.mvS ss id dv) ∧ True) ∧ (0 = Sp.moE w c p ds ss id dv ∧ True) ∧ True)))) ∧ (bNot (Sp.bsf ss id) = true → (0 = Sp.zI Z1 w ∧ 0 = Sp.zI Z1 c ∧ 0 = Sp.zI Z1 p ∧ [] = Sp.zL Z1 ds ∧ [] = Sp.zL Z1 (Sp.mvS ss id dv) ∧ True) ∧ (7 = Sp.moE w c p ds ss id dv ∧ True) ∧ True)))))) := by subst hZ2; subst hZ1; kernel_rfl
theorem v30 (w : Int) (c : Int) (p : Int) (ds : List (List C)) (ss : List (List C)) (id : Int) (dv : Int) : Holds (Wfs [.agg [.int .i64 w, .int .i64 c, .int .i64 p, .sl [.int .u64, .int .i64] ds, .sl [.int .i64, .int .u64, .int .i64, .int .i64] ss], .int .i64 id, .int .u64 dv] → True → B30 w c p ds ss id dv) := by
  refine ⟨fun hw hp => ?_⟩
  rw [e30 _ _ _ _ _ _ _ _ rfl _ rfl]
  unfold q0 q2 q3
  simp only [Wfs, Wf, InR, and_true] at hw
  simp only [eq_self, true_and, and_true, true_implies, implies_true, iAdd, iSub, iMul, iLen, bEq, bNe, bLt, bLe, bNot, pIn, pLe, pNe, InR, decide_eq_true_eq, decide_eq_false_iff_not, Bool.not_eq_true', Bool.not_eq_false', decide_eq_decide]
  intro _ _
  refine ⟨fun h => Sp.bk_err (Sp.mo1 h) (by omega), fun hv => ?_⟩
  have hA := Sp.bval_asc hv
  have hl := Sp.bval_len hv
  rw [Sp.bsf_has hA.1, Sp.bsf_has hA.2]
  refine ⟨fun h2 => ⟨fun h3 => Sp.bk_err (Sp.mo7 hv (.inr h3)) (by omega), fun h3 => ?_⟩, fun h2 => Sp.bk_err (Sp.mo7 hv (.inl h2)) (by omega)⟩
  have hn := Sp.nix_has h2
  rw [Sp.bsx_nix hA.2 h2]
  exact ⟨by omega, by omega, ⟨hn.1, hn.2.1⟩, fun _ => ⟨fun h4 => Sp.bk_err (Sp.mo10 hv h2 h3 h4) (by omega), fun h4 => Sp.bk_ok (Sp.mo0 hv h2 h3 h4)⟩⟩
theorem s30 : SoundCt Go.Proofs.Try.prog 30 ct30 :=
  contractH followsMixed (look_sound (show Tb Go.Proofs.Try.prog tb30 from ⟨s45, ⟨s36, ⟨s14, ⟨s16, ⟨s72, ⟨s73, trivial⟩⟩⟩⟩⟩⟩)) (fun _ => false) (fun _ => A30) 8 30 ct30 rfl (by simp [ct30]) fun a => Eq.mp (by kernel_rfl) (v30 ((cel 0 (arg 0 a)).int) ((cel 1 (arg 0 a)).int) ((cel 2 (arg 0 a)).int) ((cel 3 (arg 0 a)).list) ((cel 4 (arg 0 a)).list) ((cel 0 (arg 1 a)).int) ((cel 0 (arg 2 a)).int))
end Go.Sx
