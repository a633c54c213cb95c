import Derived.Test.YtphaelepnjekoaaGreatSxUse
import Derived.Test.YtphaelepnjekoaaGreatZ27e
import Derived.Test.YtphaelepnjekoaaGreatY27v
import Derived.KernelRfl
set_option linter.unusedVariables false
set_option linter.unusedSimpArgs false
set_option maxRecDepth 100000
set_option maxHeartbeats 4000000
namespace Go
open Go.Sx
def Sp.ld (w c p : Int) (ds ss : List (List C)) : Int := Sp.bnd (Sp.bN w c p ds ss) (Sp.bL w c p ds ss) (Sp.bC w c p ds ss) w
def Sp.bval (w c p : Int) (ds ss : List (List C)) : Bool := Sp.prop w c p ds ss && decide (Sp.ld w c p ds ss ≤ c)
def Sp.inD (ds : List (List C)) (id ch : Int) : List (List C) := Sp.ins ds (Sp.bsx ds id) [[.i id, .i ch]]
def Sp.inS (ss : List (List C)) (s0 s1 s2 s3 : Int) : List (List C) := Sp.ins ss (Sp.bsx ss s0) [[.i s0, .i s1, .i s2, .i s3]]
def Sp.hoE (w c p : Int) (ds ss : List (List C)) (id ch : Int) : Int :=
 bif !Sp.bval w c p ds ss then 1 else bif decide (id = 0 ∨ ¬ (1 ≤ ch ∧ ch ≤ 8)) then 2 else bif Sp.has ds id then 8 else bif decide (8 ≤ ds.length) then 3 else bif decide (c < Sp.ld w c p (Sp.inD ds id ch) ss) then 10 else 0
def Sp.adE (w c p : Int) (ds ss : List (List C)) (s0 s1 s2 s3 n : Int) : Int :=
 bif !Sp.bval w c p ds ss then 1 else bif decide (s0 < 1 ∨ ¬ (1 ≤ s2 ∧ s2 ≤ 8) ∨ ¬ (0 ≤ s3 ∧ s3 ≤ 1099511627776) ∨ ¬ (0 ≤ n ∧ n ≤ 1099511627776)) then 2 else bif Sp.has ss s0 then 8 else bif !Sp.has ds s1 then 7 else
 bif decide (24 ≤ ss.length) then 10 else bif decide (s3 < n) then 10 else bif decide (c < Sp.ld w c p ds (Sp.inS ss s0 s1 s2 n)) then 10 else 0
def Sp.adK (w c p : Int) (ds ss : List (List C)) (s0 s1 s2 s3 n : Int) : Int :=
 bif decide (Sp.adE w c p ds ss s0 s1 s2 s3 n = 7) then 1 else bif decide (Sp.adE w c p ds ss s0 s1 s2 s3 n = 10) then (bif decide (24 ≤ ss.length) then 2 else bif decide (s3 < n) then 3 else 4) else 0
def Sp.adN (w c p : Int) (ds ss : List (List C)) (s0 s1 s2 s3 n : Int) : Int :=
 bif decide (Sp.adE w c p ds ss s0 s1 s2 s3 n = 10) then (bif decide (24 ≤ ss.length) then ss.length + 1 else bif decide (s3 < n) then n else Sp.ld w c p ds (Sp.inS ss s0 s1 s2 n)) else 0
def Sp.adH (w c p : Int) (ds ss : List (List C)) (s0 s1 s2 s3 n : Int) : Int :=
 bif decide (Sp.adE w c p ds ss s0 s1 s2 s3 n = 10) then (bif decide (24 ≤ ss.length) then 24 else bif decide (s3 < n) then s3 else c) else 0
def Sp.leE (w c p : Int) (ds ss : List (List C)) (id : Int) : Int := bif !Sp.bval w c p ds ss then 1 else bif !Sp.has ss id then 7 else 0
def Sp.mvS (ss : List (List C)) (id dv : Int) : List (List C) := rSet ss (Sp.nix ss id) [.i (Sp.c0 (rGet ss (Sp.nix ss id))), .i dv, .i (Sp.c2 (rGet ss (Sp.nix ss id))), .i (Sp.c3 (rGet ss (Sp.nix ss id)))]
def Sp.moE (w c p : Int) (ds ss : List (List C)) (id dv : Int) : Int :=
 bif !Sp.bval w c p ds ss then 1 else bif !(Sp.has ss id && Sp.has ds dv) then 7 else bif decide (c < Sp.ld w c p ds (Sp.mvS ss id dv)) then 10 else 0
def Sp.zI (e v : Int) : Int := bif decide (e = 0) then v else 0
def Sp.zL (e : Int) (l : List (List C)) : List (List C) := bif decide (e = 0) then l else []
end Go
namespace Go
open Go.Sx
theorem Sp.ld_no {w c p : Int} {ds ss : List (List C)} (h : Sp.prop w c p ds ss = false) : 0 = Sp.ld w c p ds ss := by
 unfold Sp.ld Sp.bN Sp.bL Sp.bC
 rw [h]
 simp only [cond_false]
 unfold Sp.bnd
 cases Sp.prb [] [] [] w
 · rfl
 · have e1 : Sp.sum [] = 0 := rfl
   have e2 : Sp.critP [] [] [] = 0 := rfl
   rw [e1, e2]
   simp
theorem Sp.bval_prop {w c p : Int} {ds ss : List (List C)} (h : Sp.bval w c p ds ss = true) : Sp.prop w c p ds ss = true := by
 unfold Sp.bval at h
 rw [Bool.and_eq_true] at h; exact h.1
theorem Sp.bval_len {w c p : Int} {ds ss : List (List C)} (h : Sp.bval w c p ds ss = true) : ds.length ≤ 8 ∧ ss.length ≤ 24 := by
 have := (Sp.prop_iff.1 (Sp.bval_prop h)).1
 omega
theorem Sp.bval_asc {w c p : Int} {ds ss : List (List C)} (h : Sp.bval w c p ds ss = true) : Sp.asc ds ∧ Sp.asc ss := by
 obtain ⟨_, h1, h2⟩ := Sp.prop_iff.1 (Sp.bval_prop h)
 exact ⟨Sp.dok_asc h1, Sp.sok_asc h2⟩
theorem Sp.bk_err {e k w c p : Int} {ds ss : List (List C)} (h : e = k) (hk : k ≠ 0) : (0 = Sp.zI e w ∧ 0 = Sp.zI e c ∧ 0 = Sp.zI e p ∧ [] = Sp.zL e ds ∧ [] = Sp.zL e ss) ∧ k = e := by
 subst h
 unfold Sp.zI Sp.zL
 rw [decide_eq_false hk]
 exact ⟨⟨rfl, rfl, rfl, rfl, rfl⟩, rfl⟩
theorem Sp.bk_ok {e w c p : Int} {ds ss : List (List C)} (h : e = 0) : (w = Sp.zI e w ∧ c = Sp.zI e c ∧ p = Sp.zI e p ∧ ds = Sp.zL e ds ∧ ss = Sp.zL e ss) ∧ 0 = e := by
 subst h
 exact ⟨⟨rfl, rfl, rfl, rfl, rfl⟩, rfl⟩
section
variable {w c p : Int} {ds ss : List (List C)}
theorem Sp.ho1 {id ch : Int} (h : Sp.bval w c p ds ss = false) : Sp.hoE w c p ds ss id ch = 1 := by unfold Sp.hoE; rw [h]; rfl
theorem Sp.ho2 {id ch : Int} (h : Sp.bval w c p ds ss = true) (h2 : id = 0 ∨ ¬ (1 ≤ ch ∧ ch ≤ 8)) : Sp.hoE w c p ds ss id ch = 2 := by unfold Sp.hoE; rw [h, decide_eq_true h2]; rfl
theorem Sp.ho8 {id ch : Int} (h : Sp.bval w c p ds ss = true) (h2 : ¬ (id = 0 ∨ ¬ (1 ≤ ch ∧ ch ≤ 8))) (h3 : Sp.has ds id = true) : Sp.hoE w c p ds ss id ch = 8 := by unfold Sp.hoE; rw [h, decide_eq_false h2, h3]; rfl
theorem Sp.ho3 {id ch : Int} (h : Sp.bval w c p ds ss = true) (h2 : ¬ (id = 0 ∨ ¬ (1 ≤ ch ∧ ch ≤ 8))) (h3 : Sp.has ds id = false) (h4 : 8 ≤ ds.length) : Sp.hoE w c p ds ss id ch = 3 := by unfold Sp.hoE; rw [h, decide_eq_false h2, h3, decide_eq_true h4]; rfl
theorem Sp.ho10 {id ch : Int} (h : Sp.bval w c p ds ss = true) (h2 : ¬ (id = 0 ∨ ¬ (1 ≤ ch ∧ ch ≤ 8))) (h3 : Sp.has ds id = false) (h4 : ¬ 8 ≤ ds.length) (h5 : c < Sp.ld w c p (Sp.inD ds id ch) ss) : Sp.hoE w c p ds ss id ch = 10 := by unfold Sp.hoE; rw [h, decide_eq_false h2, h3, decide_eq_false h4, decide_eq_true h5]; rfl
theorem Sp.ho0 {id ch : Int} (h : Sp.bval w c p ds ss = true) (h2 : ¬ (id = 0 ∨ ¬ (1 ≤ ch ∧ ch ≤ 8))) (h3 : Sp.has ds id = false) (h4 : ¬ 8 ≤ ds.length) (h5 : ¬ c < Sp.ld w c p (Sp.inD ds id ch) ss) : Sp.hoE w c p ds ss id ch = 0 := by unfold Sp.hoE; rw [h, decide_eq_false h2, h3, decide_eq_false h4, decide_eq_false h5]; rfl
theorem Sp.le1 {id : Int} (h : Sp.bval w c p ds ss = false) : Sp.leE w c p ds ss id = 1 := by unfold Sp.leE; rw [h]; rfl
theorem Sp.le7 {id : Int} (h : Sp.bval w c p ds ss = true) (h2 : Sp.has ss id = false) : Sp.leE w c p ds ss id = 7 := by unfold Sp.leE; rw [h, h2]; rfl
theorem Sp.le0 {id : Int} (h : Sp.bval w c p ds ss = true) (h2 : Sp.has ss id = true) : Sp.leE w c p ds ss id = 0 := by unfold Sp.leE; rw [h, h2]; rfl
theorem Sp.mo1 {id dv : Int} (h : Sp.bval w c p ds ss = false) : Sp.moE w c p ds ss id dv = 1 := by unfold Sp.moE; rw [h]; rfl
theorem Sp.mo7 {id dv : Int} (h : Sp.bval w c p ds ss = true) (h2 : Sp.has ss id = false ∨ Sp.has ds dv = false) : Sp.moE w c p ds ss id dv = 7 := by
 unfold Sp.moE
 have : (Sp.has ss id && Sp.has ds dv) = false := by rcases h2 with h2 | h2 <;> simp [h2]
 rw [h, this]; rfl
theorem Sp.mo10 {id dv : Int} (h : Sp.bval w c p ds ss = true) (h2 : Sp.has ss id = true) (h3 : Sp.has ds dv = true) (h4 : c < Sp.ld w c p ds (Sp.mvS ss id dv)) : Sp.moE w c p ds ss id dv = 10 := by unfold Sp.moE; rw [h, h2, h3, decide_eq_true h4]; rfl
theorem Sp.mo0 {id dv : Int} (h : Sp.bval w c p ds ss = true) (h2 : Sp.has ss id = true) (h3 : Sp.has ds dv = true) (h4 : ¬ c < Sp.ld w c p ds (Sp.mvS ss id dv)) : Sp.moE w c p ds ss id dv = 0 := by unfold Sp.moE; rw [h, h2, h3, decide_eq_false h4]; rfl
end
section
variable {w c p s0 s1 s2 s3 n : Int} {ds ss : List (List C)}
abbrev Sp.adB (s0 s2 s3 n : Int) : Prop := s0 < 1 ∨ ¬ (1 ≤ s2 ∧ s2 ≤ 8) ∨ ¬ (0 ≤ s3 ∧ s3 ≤ 1099511627776) ∨ ¬ (0 ≤ n ∧ n ≤ 1099511627776)
theorem Sp.ad1 (h : Sp.bval w c p ds ss = false) : Sp.adE w c p ds ss s0 s1 s2 s3 n = 1 := by unfold Sp.adE; rw [h]; rfl
theorem Sp.ad2 (h : Sp.bval w c p ds ss = true) (h2 : Sp.adB s0 s2 s3 n) : Sp.adE w c p ds ss s0 s1 s2 s3 n = 2 := by unfold Sp.adE; rw [h, decide_eq_true h2]; rfl
theorem Sp.ad8 (h : Sp.bval w c p ds ss = true) (h2 : ¬ Sp.adB s0 s2 s3 n) (h3 : Sp.has ss s0 = true) : Sp.adE w c p ds ss s0 s1 s2 s3 n = 8 := by unfold Sp.adE; rw [h, decide_eq_false h2, h3]; rfl
theorem Sp.ad7 (h : Sp.bval w c p ds ss = true) (h2 : ¬ Sp.adB s0 s2 s3 n) (h3 : Sp.has ss s0 = false) (h4 : Sp.has ds s1 = false) : Sp.adE w c p ds ss s0 s1 s2 s3 n = 7 := by unfold Sp.adE; rw [h, decide_eq_false h2, h3, h4]; rfl
theorem Sp.adx (h : Sp.bval w c p ds ss = true) (h2 : ¬ Sp.adB s0 s2 s3 n) (h3 : Sp.has ss s0 = false) (h4 : Sp.has ds s1 = true) : Sp.adE w c p ds ss s0 s1 s2 s3 n = bif decide (24 ≤ ss.length) then 10 else bif decide (s3 < n) then 10 else bif decide (c < Sp.ld w c p ds (Sp.inS ss s0 s1 s2 n)) then 10 else 0 := by
 unfold Sp.adE; rw [h, decide_eq_false h2, h3, h4]; rfl
theorem Sp.ad_e {k : Int} {ss2 : List (List C)} (h : Sp.adE w c p ds ss s0 s1 s2 s3 n = k) (h0 : k ≠ 0) (h7 : k ≠ 7) (h10 : k ≠ 10) : (0 = Sp.zI (Sp.adE w c p ds ss s0 s1 s2 s3 n) w ∧ 0 = Sp.zI (Sp.adE w c p ds ss s0 s1 s2 s3 n) c ∧ 0 = Sp.zI (Sp.adE w c p ds ss s0 s1 s2 s3 n) p ∧ [] = Sp.zL (Sp.adE w c p ds ss s0 s1 s2 s3 n) ds ∧ [] = Sp.zL (Sp.adE w c p ds ss s0 s1 s2 s3 n) ss2) ∧
 (0 = Sp.adK w c p ds ss s0 s1 s2 s3 n ∧ 0 = Sp.adN w c p ds ss s0 s1 s2 s3 n ∧ 0 = Sp.adH w c p ds ss s0 s1 s2 s3 n) ∧ k = Sp.adE w c p ds ss s0 s1 s2 s3 n := by
 refine ⟨(Sp.bk_err h h0).1, ⟨?_, ?_, ?_⟩, h.symm⟩
 · unfold Sp.adK; rw [h, decide_eq_false h7, decide_eq_false h10]; rfl
 · unfold Sp.adN; rw [h, decide_eq_false h10]; rfl
 · unfold Sp.adH; rw [h, decide_eq_false h10]; rfl
theorem Sp.ad_e7 {ss2 : List (List C)} (h : Sp.adE w c p ds ss s0 s1 s2 s3 n = 7) : (0 = Sp.zI (Sp.adE w c p ds ss s0 s1 s2 s3 n) w ∧ 0 = Sp.zI (Sp.adE w c p ds ss s0 s1 s2 s3 n) c ∧ 0 = Sp.zI (Sp.adE w c p ds ss s0 s1 s2 s3 n) p ∧ [] = Sp.zL (Sp.adE w c p ds ss s0 s1 s2 s3 n) ds ∧ [] = Sp.zL (Sp.adE w c p ds ss s0 s1 s2 s3 n) ss2) ∧
 (1 = Sp.adK w c p ds ss s0 s1 s2 s3 n ∧ 0 = Sp.adN w c p ds ss s0 s1 s2 s3 n ∧ 0 = Sp.adH w c p ds ss s0 s1 s2 s3 n) ∧ 7 = Sp.adE w c p ds ss s0 s1 s2 s3 n := by
 refine ⟨(Sp.bk_err h (by omega)).1, ⟨?_, ?_, ?_⟩, h.symm⟩
 · unfold Sp.adK; rw [h]; rfl
 · unfold Sp.adN; rw [h]; rfl
 · unfold Sp.adH; rw [h]; rfl
theorem Sp.ad_e10 {ss2 : List (List C)} (h : Sp.adE w c p ds ss s0 s1 s2 s3 n = 10) : (0 = Sp.zI (Sp.adE w c p ds ss s0 s1 s2 s3 n) w ∧ 0 = Sp.zI (Sp.adE w c p ds ss s0 s1 s2 s3 n) c ∧ 0 = Sp.zI (Sp.adE w c p ds ss s0 s1 s2 s3 n) p ∧ [] = Sp.zL (Sp.adE w c p ds ss s0 s1 s2 s3 n) ds ∧ [] = Sp.zL (Sp.adE w c p ds ss s0 s1 s2 s3 n) ss2) ∧
 ((bif decide (24 ≤ ss.length) then 2 else bif decide (s3 < n) then 3 else 4) = Sp.adK w c p ds ss s0 s1 s2 s3 n ∧ (bif decide (24 ≤ ss.length) then (ss.length : Int) + 1 else bif decide (s3 < n) then n else Sp.ld w c p ds (Sp.inS ss s0 s1 s2 n)) = Sp.adN w c p ds ss s0 s1 s2 s3 n ∧
  (bif decide (24 ≤ ss.length) then 24 else bif decide (s3 < n) then s3 else c) = Sp.adH w c p ds ss s0 s1 s2 s3 n) ∧ 10 = Sp.adE w c p ds ss s0 s1 s2 s3 n := by
 refine ⟨(Sp.bk_err h (by omega)).1, ⟨?_, ?_, ?_⟩, h.symm⟩
 · unfold Sp.adK; rw [h]; rfl
 · unfold Sp.adN; rw [h]; rfl
 · unfold Sp.adH; rw [h]; rfl
theorem Sp.ad_e0 {ss2 : List (List C)} (h : Sp.adE w c p ds ss s0 s1 s2 s3 n = 0) : (w = Sp.zI (Sp.adE w c p ds ss s0 s1 s2 s3 n) w ∧ c = Sp.zI (Sp.adE w c p ds ss s0 s1 s2 s3 n) c ∧ p = Sp.zI (Sp.adE w c p ds ss s0 s1 s2 s3 n) p ∧ ds = Sp.zL (Sp.adE w c p ds ss s0 s1 s2 s3 n) ds ∧ ss2 = Sp.zL (Sp.adE w c p ds ss s0 s1 s2 s3 n) ss2) ∧
 (0 = Sp.adK w c p ds ss s0 s1 s2 s3 n ∧ 0 = Sp.adN w c p ds ss s0 s1 s2 s3 n ∧ 0 = Sp.adH w c p ds ss s0 s1 s2 s3 n) ∧ 0 = Sp.adE w c p ds ss s0 s1 s2 s3 n := by
 refine ⟨(Sp.bk_ok h).1, ⟨?_, ?_, ?_⟩, h.symm⟩
 · unfold Sp.adK; rw [h]; rfl
 · unfold Sp.adN; rw [h]; rfl
 · unfold Sp.adH; rw [h]; rfl
end
end Go
namespace Go.Sx
def ct18 : Ct := { ps := [(true, [.int .i64, .int .i64, .int .i64, .sl [.int .u64, .int .i64], .sl [.int .i64, .int .u64, .int .i64, .int .i64]])], rs := [(false, [.int .i64])], pre := fun _ => True, out := fun a => [[.i (Sp.ld (cel 0 (arg 0 a)).int (cel 1 (arg 0 a)).int (cel 2 (arg 0 a)).int (cel 3 (arg 0 a)).list (cel 4 (arg 0 a)).list)]] }
def tb18 : List (Nat × Ct) := [(13, ct13), (41, ct41)]
def A18  : FuncId → Nat → LoopAnn := fun _ _ => LoopAnn.unroll 200
abbrev B18 (w : Int) (c : Int) (p : Int) (ds : List (List C)) (ss : List (List C)) : Prop := vcF Go.Proofs.Tryz.prog (look tb18) (fun _ => false) (A18) 6 18 [.agg [.int .i64 w, .int .i64 c, .int .i64 p, .sl [.int .u64, .int .i64] ds, .sl [.int .i64, .int .u64, .int .i64, .int .i64] ss]] [] (fun sv heap => Gives [(false, [.int .i64])] [[.i (Sp.ld w c p ds ss)]] sv heap)
theorem e18 (w : Int) (c : Int) (p : Int) (ds : List (List C)) (ss : List (List C)) : B18 w c p ds ss = (True ∧ ((((WL [.int .i64, .int .i64, .int .i64, .int .i64] (Sp.bN w c p ds ss))) ∧ ((WL [.int .i64, .int .i64, .int .i64, .int .i64] (Sp.bL w c p ds ss))) ∧ True) ∧ ((WL [.int .i64] (Sp.bC w c p ds ss))) ∧ True → True ∧ (InR .i64 (Sp.bnd (Sp.bN w c p ds ss) (Sp.bL w c p ds ss) (Sp.bC w c p ds ss) w) → (Sp.bnd (Sp.bN w c p ds ss) (Sp.bL w c p ds ss) (Sp.bC w c p ds ss) w = Sp.ld w c p ds ss ∧ True) ∧ True))) := by kernel_rfl
theorem v18 (w : Int) (c : Int) (p : Int) (ds : List (List C)) (ss : List (List C)) : Holds (Wfs [.agg [.int .i64 w, .int .i64 c, .int .i64 p, .sl [.int .u64, .int .i64] ds, .sl [.int .i64, .int .u64, .int .i64, .int .i64] ss]] → True → B18 w c p ds ss) := by
 refine ⟨fun hw hp => ?_⟩
 rw [e18]
 delta WL
 simp only [Wfs, Wf, InR, and_true] at hw
 simp only [eq_self, true_and, and_true, true_implies, implies_true, iAdd, iSub, iMul, iLen, bEq, bNe, bLt, bLe, bNot, pIn, pLe, pNe, InR, decide_eq_true_eq, decide_eq_false_iff_not, Bool.not_eq_true', Bool.not_eq_false', decide_eq_decide]
 exact fun _ _ => rfl
theorem s18 : SoundCt Go.Proofs.Tryz.prog 18 ct18 :=
 contractH followsMixed (look_sound (show Tb Go.Proofs.Tryz.prog tb18 from ⟨s13, ⟨s41, trivial⟩⟩)) (fun _ => false) (fun _ => A18) 6 18 ct18 rfl (by simp [ct18]) fun a => Eq.mp (by kernel_rfl) (v18 ((cel 0 (arg 0 a)).int) ((cel 1 (arg 0 a)).int) ((cel 2 (arg 0 a)).int) ((cel 3 (arg 0 a)).list) ((cel 4 (arg 0 a)).list))
end Go.Sx
namespace Go.Sx
def ct46 : Ct := { ps := [(true, [.int .i64, .int .i64, .int .i64, .sl [.int .u64, .int .i64], .sl [.int .i64, .int .u64, .int .i64, .int .i64]])], rs := [(false, [.int .i64])], pre := fun _ => True, out := fun a => [[.i (Sp.ld (cel 0 (arg 0 a)).int (cel 1 (arg 0 a)).int (cel 2 (arg 0 a)).int (cel 3 (arg 0 a)).list (cel 4 (arg 0 a)).list)]] }
def tb46 : List (Nat × Ct) := [(66, ct66), (67, ct67), (68, ct68)]
def A46  : FuncId → Nat → LoopAnn := fun _ _ => LoopAnn.unroll 200
abbrev B46 (w : Int) (c : Int) (p : Int) (ds : List (List C)) (ss : List (List C)) : Prop := vcF Go.Proofs.Tryz.prog (look tb46) (fun _ => false) (A46) 6 46 [.agg [.int .i64 w, .int .i64 c, .int .i64 p, .sl [.int .u64, .int .i64] ds, .sl [.int .i64, .int .u64, .int .i64, .int .i64] ss]] [] (fun sv heap => Gives [(false, [.int .i64])] [[.i (Sp.ld w c p ds ss)]] sv heap)
theorem e46 (w : Int) (c : Int) (p : Int) (ds : List (List C)) (ss : List (List C)) : B46 w c p ds ss = (True ∧ (True → True ∧ (bNot (Sp.prop w c p ds ss) = true → (0 = Sp.ld w c p ds ss ∧ True) ∧ True) ∧ (bNot (Sp.prop w c p ds ss) = false → True ∧ ((((WL [.int .i64, .int .i64, .int .i64, .int .i64] (Sp.bN w c p ds ss))) ∧ ((WL [.int .i64, .int .i64, .int .i64, .int .i64] (Sp.bL w c p ds ss))) ∧ True) ∧ ((WL [.int .i64] (Sp.bC w c p ds ss))) ∧ True → True ∧ (InR .i64 (Sp.bnd (Sp.bN w c p ds ss) (Sp.bL w c p ds ss) (Sp.bC w c p ds ss) w) → (Sp.bnd (Sp.bN w c p ds ss) (Sp.bL w c p ds ss) (Sp.bC w c p ds ss) w = Sp.ld w c p ds ss ∧ True) ∧ True))))) := by kernel_rfl
theorem v46 (w : Int) (c : Int) (p : Int) (ds : List (List C)) (ss : List (List C)) : Holds (Wfs [.agg [.int .i64 w, .int .i64 c, .int .i64 p, .sl [.int .u64, .int .i64] ds, .sl [.int .i64, .int .u64, .int .i64, .int .i64] ss]] → True → B46 w c p ds ss) := by
 refine ⟨fun hw hp => ?_⟩
 rw [e46]
 delta WL
 simp only [Wfs, Wf, InR, and_true] at hw
 simp only [eq_self, true_and, and_true, true_implies, implies_true, iAdd, iSub, iMul, iLen, bEq, bNe, bLt, bLe, bNot, pIn, pLe, pNe, InR, decide_eq_true_eq, decide_eq_false_iff_not, Bool.not_eq_true', Bool.not_eq_false', decide_eq_decide]
 exact ⟨fun h => Sp.ld_no h, fun _ _ _ => rfl⟩
theorem s46 : SoundCt Go.Proofs.Tryz.prog 46 ct46 :=
 contractH followsMixed (look_sound (show Tb Go.Proofs.Tryz.prog tb46 from ⟨s66, ⟨s67, ⟨s68, trivial⟩⟩⟩)) (fun _ => false) (fun _ => A46) 6 46 ct46 rfl (by simp [ct46]) fun a => Eq.mp (by kernel_rfl) (v46 ((cel 0 (arg 0 a)).int) ((cel 1 (arg 0 a)).int) ((cel 2 (arg 0 a)).int) ((cel 3 (arg 0 a)).list) ((cel 4 (arg 0 a)).list))
end Go.Sx
namespace Go.Sx
def ct15 : Ct := { ps := [(true, [.int .i64, .int .i64, .int .i64, .sl [.int .u64, .int .i64], .sl [.int .i64, .int .u64, .int .i64, .int .i64]])], rs := [(false, [.bool])], pre := fun _ => True, out := fun a => [[.b (Sp.bval (cel 0 (arg 0 a)).int (cel 1 (arg 0 a)).int (cel 2 (arg 0 a)).int (cel 3 (arg 0 a)).list (cel 4 (arg 0 a)).list)]] }
def tb15 : List (Nat × Ct) := [(31, ct31), (18, ct18)]
def A15  : FuncId → Nat → LoopAnn := fun _ _ => LoopAnn.unroll 200
abbrev B15 (w : Int) (c : Int) (p : Int) (ds : List (List C)) (ss : List (List C)) : Prop := vcF Go.Proofs.Tryz.prog (look tb15) (fun _ => false) (A15) 6 15 [.agg [.int .i64 w, .int .i64 c, .int .i64 p, .sl [.int .u64, .int .i64] ds, .sl [.int .i64, .int .u64, .int .i64, .int .i64] ss]] [] (fun sv heap => Gives [(false, [.bool])] [[.b (Sp.bval w c p ds ss)]] sv heap)
theorem e15 (w : Int) (c : Int) (p : Int) (ds : List (List C)) (ss : List (List C)) : B15 w c p ds ss = (True ∧ (True → (Sp.prop w c p ds ss = true → True ∧ (InR .i64 (Sp.ld w c p ds ss) → (bLe (Sp.ld w c p ds ss) c = Sp.bval w c p ds ss ∧ True) ∧ True)) ∧ (Sp.prop w c p ds ss = false → (false = Sp.bval w c p ds ss ∧ True) ∧ True))) := by kernel_rfl
theorem v15 (w : Int) (c : Int) (p : Int) (ds : List (List C)) (ss : List (List C)) : Holds (Wfs [.agg [.int .i64 w, .int .i64 c, .int .i64 p, .sl [.int .u64, .int .i64] ds, .sl [.int .i64, .int .u64, .int .i64, .int .i64] ss]] → True → B15 w c p ds ss) := by
 refine ⟨fun hw hp => ?_⟩
 rw [e15]
 simp only [Wfs, Wf, InR, and_true] at hw
 simp only [eq_self, true_and, and_true, true_implies, implies_true, iAdd, iSub, iMul, iLen, bEq, bNe, bLt, bLe, bNot, pIn, pLe, pNe, InR, decide_eq_true_eq, decide_eq_false_iff_not, Bool.not_eq_true', Bool.not_eq_false', decide_eq_decide]
 unfold Sp.bval
 exact ⟨fun h _ => by rw [h, Bool.true_and], fun h => by rw [h]; rfl⟩
theorem s15 : SoundCt Go.Proofs.Tryz.prog 15 ct15 :=
 contractH followsMixed (look_sound (show Tb Go.Proofs.Tryz.prog tb15 from ⟨s31, ⟨s18, trivial⟩⟩)) (fun _ => false) (fun _ => A15) 6 15 ct15 rfl (by simp [ct15]) fun a => Eq.mp (by kernel_rfl) (v15 ((cel 0 (arg 0 a)).int) ((cel 1 (arg 0 a)).int) ((cel 2 (arg 0 a)).int) ((cel 3 (arg 0 a)).list) ((cel 4 (arg 0 a)).list))
end Go.Sx
namespace Go.Sx
def ct42 : Ct := { ps := [(true, [.int .i64, .int .i64, .int .i64, .sl [.int .u64, .int .i64], .sl [.int .i64, .int .u64, .int .i64, .int .i64]])], rs := [(false, [.bool])], pre := fun _ => True, out := fun a => [[.b (Sp.bval (cel 0 (arg 0 a)).int (cel 1 (arg 0 a)).int (cel 2 (arg 0 a)).int (cel 3 (arg 0 a)).list (cel 4 (arg 0 a)).list)]] }
def tb42 : List (Nat × Ct) := [(66, ct66), (46, ct46)]
def A42  : FuncId → Nat → LoopAnn := fun _ _ => LoopAnn.unroll 200
abbrev B42 (w : Int) (c : Int) (p : Int) (ds : List (List C)) (ss : List (List C)) : Prop := vcF Go.Proofs.Tryz.prog (look tb42) (fun _ => false) (A42) 6 42 [.agg [.int .i64 w, .int .i64 c, .int .i64 p, .sl [.int .u64, .int .i64] ds, .sl [.int .i64, .int .u64, .int .i64, .int .i64] ss]] [] (fun sv heap => Gives [(false, [.bool])] [[.b (Sp.bval w c p ds ss)]] sv heap)
theorem e42 (w : Int) (c : Int) (p : Int) (ds : List (List C)) (ss : List (List C)) : B42 w c p ds ss = (True ∧ (True → (Sp.prop w c p ds ss = true → True ∧ (InR .i64 (Sp.ld w c p ds ss) → (bLe (Sp.ld w c p ds ss) c = Sp.bval w c p ds ss ∧ True) ∧ True)) ∧ (Sp.prop w c p ds ss = false → (false = Sp.bval w c p ds ss ∧ True) ∧ True))) := by kernel_rfl
theorem v42 (w : Int) (c : Int) (p : Int) (ds : List (List C)) (ss : List (List C)) : Holds (Wfs [.agg [.int .i64 w, .int .i64 c, .int .i64 p, .sl [.int .u64, .int .i64] ds, .sl [.int .i64, .int .u64, .int .i64, .int .i64] ss]] → True → B42 w c p ds ss) := by
 refine ⟨fun hw hp => ?_⟩
 rw [e42]
 simp only [Wfs, Wf, InR, and_true] at hw
 simp only [eq_self, true_and, and_true, true_implies, implies_true, iAdd, iSub, iMul, iLen, bEq, bNe, bLt, bLe, bNot, pIn, pLe, pNe, InR, decide_eq_true_eq, decide_eq_false_iff_not, Bool.not_eq_true', Bool.not_eq_false', decide_eq_decide]
 unfold Sp.bval
 exact ⟨fun h _ => by rw [h, Bool.true_and], fun h => by rw [h]; rfl⟩
theorem s42 : SoundCt Go.Proofs.Tryz.prog 42 ct42 :=
 contractH followsMixed (look_sound (show Tb Go.Proofs.Tryz.prog tb42 from ⟨s66, ⟨s46, trivial⟩⟩)) (fun _ => false) (fun _ => A42) 6 42 ct42 rfl (by simp [ct42]) fun a => Eq.mp (by kernel_rfl) (v42 ((cel 0 (arg 0 a)).int) ((cel 1 (arg 0 a)).int) ((cel 2 (arg 0 a)).int) ((cel 3 (arg 0 a)).list) ((cel 4 (arg 0 a)).list))
end Go.Sx
namespace Go.Sx
def ct17 : Ct := { ps := [(true, [.int .i64, .int .i64, .int .i64, .sl [.int .u64, .int .i64], .sl [.int .i64, .int .u64, .int .i64, .int .i64]]), (true, [.int .u64, .int .i64])], rs := [(true, [.int .i64, .int .i64, .int .i64, .sl [.int .u64, .int .i64], .sl [.int .i64, .int .u64, .int .i64, .int .i64]]), (false, [.int .i64])], pre := fun _ => True, out := fun a => [[.i (Sp.zI (Sp.hoE (cel 0 (arg 0 a)).int (cel 1 (arg 0 a)).int (cel 2 (arg 0 a)).int (cel 3 (arg 0 a)).list (cel 4 (arg 0 a)).list (cel 0 (arg 1 a)).int (cel 1 (arg 1 a)).int) (cel 0 (arg 0 a)).int), .i (Sp.zI (Sp.hoE (cel 0 (arg 0 a)).int (cel 1 (arg 0 a)).int (cel 2 (arg 0 a)).int (cel 3 (arg 0 a)).list (cel 4 (arg 0 a)).list (cel 0 (arg 1 a)).int (cel 1 (arg 1 a)).int) (cel 1 (arg 0 a)).int), .i (Sp.zI (Sp.hoE (cel 0 (arg 0 a)).int (cel 1 (arg 0 a)).int (cel 2 (arg 0 a)).int (cel 3 (arg 0 a)).list (cel 4 (arg 0 a)).list (cel 0 (arg 1 a)).int (cel 1 (arg 1 a)).int) (cel 2 (arg 0 a)).int), .l (Sp.zL (Sp.hoE (cel 0 (arg 0 a)).int (cel 1 (arg 0 a)).int (cel 2 (arg 0 a)).int (cel 3 (arg 0 a)).list (cel 4 (arg 0 a)).list (cel 0 (arg 1 a)).int (cel 1 (arg 1 a)).int) (Sp.inD (cel 3 (arg 0 a)).list (cel 0 (arg 1 a)).int (cel 1 (arg 1 a)).int)), .l (Sp.zL (Sp.hoE (cel 0 (arg 0 a)).int (cel 1 (arg 0 a)).int (cel 2 (arg 0 a)).int (cel 3 (arg 0 a)).list (cel 4 (arg 0 a)).list (cel 0 (arg 1 a)).int (cel 1 (arg 1 a)).int) ((cel 4 (arg 0 a)).list))], [.i (Sp.hoE (cel 0 (arg 0 a)).int (cel 1 (arg 0 a)).int (cel 2 (arg 0 a)).int (cel 3 (arg 0 a)).list (cel 4 (arg 0 a)).list (cel 0 (arg 1 a)).int (cel 1 (arg 1 a)).int)]] }
def tb17 : List (Nat × Ct) := [(24, ct24), (15, ct15), (26, ct26), (18, ct18), (53, ct53), (54, ct54), (40, ct40)]
def A17  : FuncId → Nat → LoopAnn := fun _ _ => LoopAnn.unroll 200
abbrev B17 (w : Int) (c : Int) (p : Int) (ds : List (List C)) (ss : List (List C)) (id : Int) (ch : Int) : Prop := vcF Go.Proofs.Tryz.prog (look tb17) (fun _ => false) (A17) 6 17 [.agg [.int .i64 w, .int .i64 c, .int .i64 p, .sl [.int .u64, .int .i64] ds, .sl [.int .i64, .int .u64, .int .i64, .int .i64] ss], .agg [.int .u64 id, .int .i64 ch]] [] (fun sv heap => Gives [(true, [.int .i64, .int .i64, .int .i64, .sl [.int .u64, .int .i64], .sl [.int .i64, .int .u64, .int .i64, .int .i64]]), (false, [.int .i64])] [[.i (Sp.zI (Sp.hoE w c p ds ss id ch) w), .i (Sp.zI (Sp.hoE w c p ds ss id ch) c), .i (Sp.zI (Sp.hoE w c p ds ss id ch) p), .l (Sp.zL (Sp.hoE w c p ds ss id ch) (Sp.inD ds id ch)), .l (Sp.zL (Sp.hoE w c p ds ss id ch) (ss))], [.i (Sp.hoE w c p ds ss id ch)]] sv heap)
def m17_0 (w : Int) (c : Int) (p : Int) (ds : List (List C)) (ss : List (List C)) (id : Int) (ch : Int) : Prop := 0 = Sp.zI (Sp.hoE w c p ds ss id ch) w ∧ 0 = Sp.zI (Sp.hoE w c p ds ss id ch) c ∧ 0 = Sp.zI (Sp.hoE w c p ds ss id ch) p ∧ [] = Sp.zL (Sp.hoE w c p ds ss id ch) (Sp.inD ds id ch) ∧ [] = Sp.zL (Sp.hoE w c p ds ss id ch) ss ∧ True
theorem e17 (w : Int) (c : Int) (p : Int) (ds : List (List C)) (ss : List (List C)) (id : Int) (ch : Int) : B17 w c p ds ss id ch = (True ∧ (InR .i64 (Sp.bsx ds id) ∧ True ∧ True → True ∧ (True → True ∧ (bNot (Sp.bval w c p ds ss) = true → ((m17_0 w c p ds ss id ch)) ∧ (1 = Sp.hoE w c p ds ss id ch ∧ True) ∧ True) ∧ (bNot (Sp.bval w c p ds ss) = false → (bEq id 0 = false → True ∧ (True → True ∧ (bNot (decide (1 ≤ ch ∧ ch ≤ 8)) = true → ((m17_0 w c p ds ss id ch)) ∧ (2 = Sp.hoE w c p ds ss id ch ∧ True) ∧ True) ∧ (bNot (decide (1 ≤ ch ∧ ch ≤ 8)) = false → (Sp.bsf ds id = true → ((m17_0 w c p ds ss id ch)) ∧ (8 = Sp.hoE w c p ds ss id ch ∧ True) ∧ True) ∧ (Sp.bsf ds id = false → pLe (iLen ds) 9223372036854775807 → (bLe 8 (iLen ds) = true → ((m17_0 w c p ds ss id ch)) ∧ (3 = Sp.hoE w c p ds ss id ch ∧ True) ∧ True) ∧ (bLe 8 (iLen ds) = false → pLe (↑ds.length) 1000000 ∧ pLe (↑ss.length) 1000000 ∧ ((pLe 0 (Sp.bsx ds id) ∧ pLe (Sp.bsx ds id) ↑ds.length) ∧ 1 = 1 ∧ pLe (↑ds.length) 999999) ∧ True ∧ (InR .i64 (Sp.ld w c p (Sp.ins ds (Sp.bsx ds id) [[C.i id, C.i ch]]) ss) → (bLt c (Sp.ld w c p (Sp.ins ds (Sp.bsx ds id) [[C.i id, C.i ch]]) ss) = true → ((m17_0 w c p ds ss id ch)) ∧ (10 = Sp.hoE w c p ds ss id ch ∧ True) ∧ True) ∧ (bLt c (Sp.ld w c p (Sp.ins ds (Sp.bsx ds id) [[C.i id, C.i ch]]) ss) = false → (w = Sp.zI (Sp.hoE w c p ds ss id ch) w ∧ c = Sp.zI (Sp.hoE w c p ds ss id ch) c ∧ p = Sp.zI (Sp.hoE w c p ds ss id ch) p ∧ Sp.ins ds (Sp.bsx ds id) [[C.i id, C.i ch]] = Sp.zL (Sp.hoE w c p ds ss id ch) (Sp.inD ds id ch) ∧ ss = Sp.zL (Sp.hoE w c p ds ss id ch) ss ∧ True) ∧ (0 = Sp.hoE w c p ds ss id ch ∧ True) ∧ True))))))) ∧ (bEq id 0 = true → ((m17_0 w c p ds ss id ch)) ∧ (2 = Sp.hoE w c p ds ss id ch ∧ True) ∧ True))))) := by kernel_rfl
theorem v17 (w : Int) (c : Int) (p : Int) (ds : List (List C)) (ss : List (List C)) (id : Int) (ch : Int) : Holds (Wfs [.agg [.int .i64 w, .int .i64 c, .int .i64 p, .sl [.int .u64, .int .i64] ds, .sl [.int .i64, .int .u64, .int .i64, .int .i64] ss], .agg [.int .u64 id, .int .i64 ch]] → True → B17 w c p ds ss id ch) := by
 refine ⟨fun hw hp => ?_⟩
 rw [e17]
 delta m17_0
 simp only [Wfs, Wf, InR, and_true] at hw
 simp only [eq_self, true_and, and_true, true_implies, implies_true, iAdd, iSub, iMul, iLen, bEq, bNe, bLt, bLe, bNot, pIn, pLe, pNe, InR, decide_eq_true_eq, decide_eq_false_iff_not, Bool.not_eq_true', Bool.not_eq_false', decide_eq_decide]
 intro _
 refine ⟨fun h => Sp.bk_err (Sp.ho1 h) (by omega), fun hv => ⟨fun hi => ⟨fun hc => Sp.bk_err (Sp.ho2 hv (.inr hc)) (by omega), fun hc => ?_⟩, fun hi => Sp.bk_err (Sp.ho2 hv (.inl hi)) (by omega)⟩⟩
 have h2 : ¬ (id = 0 ∨ ¬ (1 ≤ ch ∧ ch ≤ 8)) := fun h => h.elim hi fun h => h hc
 have hA := Sp.bval_asc hv
 have hl := Sp.bval_len hv
 have hb := Sp.bsx_bd (xs := ds) id
 rw [Sp.bsf_has hA.1]
 refine ⟨fun h3 => Sp.bk_err (Sp.ho8 hv h2 h3) (by omega), fun h3 _ => ⟨fun h4 => Sp.bk_err (Sp.ho3 hv h2 h3 (by omega)) (by omega), fun h4 => ⟨by omega, by omega, ⟨⟨hb.1, hb.2⟩, by omega⟩, fun _ => ⟨fun h5 => Sp.bk_err (Sp.ho10 hv h2 h3 (by omega) h5) (by omega), fun h5 => Sp.bk_ok (Sp.ho0 hv h2 h3 (by omega) h5)⟩⟩⟩⟩
theorem s17 : SoundCt Go.Proofs.Tryz.prog 17 ct17 :=
 contractH followsMixed (look_sound (show Tb Go.Proofs.Tryz.prog tb17 from ⟨s24, ⟨s15, ⟨s26, ⟨s18, ⟨s53, ⟨s54, ⟨s40, trivial⟩⟩⟩⟩⟩⟩⟩)) (fun _ => false) (fun _ => A17) 6 17 ct17 rfl (by simp [ct17]) fun a => Eq.mp (by kernel_rfl) (v17 ((cel 0 (arg 0 a)).int) ((cel 1 (arg 0 a)).int) ((cel 2 (arg 0 a)).int) ((cel 3 (arg 0 a)).list) ((cel 4 (arg 0 a)).list) ((cel 0 (arg 1 a)).int) ((cel 1 (arg 1 a)).int))
end Go.Sx
namespace Go.Sx
def ct8 : Ct := { ps := [(true, [.int .i64, .int .i64, .int .i64, .sl [.int .u64, .int .i64], .sl [.int .i64, .int .u64, .int .i64, .int .i64]]), (true, [.int .i64, .int .u64, .int .i64, .int .i64]), (false, [.int .i64])], rs := [(true, [.int .i64, .int .i64, .int .i64, .sl [.int .u64, .int .i64], .sl [.int .i64, .int .u64, .int .i64, .int .i64]]), (true, [.int .i64, .int .i64, .int .i64]), (false, [.int .i64])], pre := fun _ => True, out := fun a => [[.i (Sp.zI (Sp.adE (cel 0 (arg 0 a)).int (cel 1 (arg 0 a)).int (cel 2 (arg 0 a)).int (cel 3 (arg 0 a)).list (cel 4 (arg 0 a)).list (cel 0 (arg 1 a)).int (cel 1 (arg 1 a)).int (cel 2 (arg 1 a)).int (cel 3 (arg 1 a)).int (cel 0 (arg 2 a)).int) (cel 0 (arg 0 a)).int), .i (Sp.zI (Sp.adE (cel 0 (arg 0 a)).int (cel 1 (arg 0 a)).int (cel 2 (arg 0 a)).int (cel 3 (arg 0 a)).list (cel 4 (arg 0 a)).list (cel 0 (arg 1 a)).int (cel 1 (arg 1 a)).int (cel 2 (arg 1 a)).int (cel 3 (arg 1 a)).int (cel 0 (arg 2 a)).int) (cel 1 (arg 0 a)).int), .i (Sp.zI (Sp.adE (cel 0 (arg 0 a)).int (cel 1 (arg 0 a)).int (cel 2 (arg 0 a)).int (cel 3 (arg 0 a)).list (cel 4 (arg 0 a)).list (cel 0 (arg 1 a)).int (cel 1 (arg 1 a)).int (cel 2 (arg 1 a)).int (cel 3 (arg 1 a)).int (cel 0 (arg 2 a)).int) (cel 2 (arg 0 a)).int), .l (Sp.zL (Sp.adE (cel 0 (arg 0 a)).int (cel 1 (arg 0 a)).int (cel 2 (arg 0 a)).int (cel 3 (arg 0 a)).list (cel 4 (arg 0 a)).list (cel 0 (arg 1 a)).int (cel 1 (arg 1 a)).int (cel 2 (arg 1 a)).int (cel 3 (arg 1 a)).int (cel 0 (arg 2 a)).int) ((cel 3 (arg 0 a)).list)), .l (Sp.zL (Sp.adE (cel 0 (arg 0 a)).int (cel 1 (arg 0 a)).int (cel 2 (arg 0 a)).int (cel 3 (arg 0 a)).list (cel 4 (arg 0 a)).list (cel 0 (arg 1 a)).int (cel 1 (arg 1 a)).int (cel 2 (arg 1 a)).int (cel 3 (arg 1 a)).int (cel 0 (arg 2 a)).int) (Sp.inS (cel 4 (arg 0 a)).list (cel 0 (arg 1 a)).int (cel 1 (arg 1 a)).int (cel 2 (arg 1 a)).int (cel 0 (arg 2 a)).int))], [.i (Sp.adK (cel 0 (arg 0 a)).int (cel 1 (arg 0 a)).int (cel 2 (arg 0 a)).int (cel 3 (arg 0 a)).list (cel 4 (arg 0 a)).list (cel 0 (arg 1 a)).int (cel 1 (arg 1 a)).int (cel 2 (arg 1 a)).int (cel 3 (arg 1 a)).int (cel 0 (arg 2 a)).int), .i (Sp.adN (cel 0 (arg 0 a)).int (cel 1 (arg 0 a)).int (cel 2 (arg 0 a)).int (cel 3 (arg 0 a)).list (cel 4 (arg 0 a)).list (cel 0 (arg 1 a)).int (cel 1 (arg 1 a)).int (cel 2 (arg 1 a)).int (cel 3 (arg 1 a)).int (cel 0 (arg 2 a)).int), .i (Sp.adH (cel 0 (arg 0 a)).int (cel 1 (arg 0 a)).int (cel 2 (arg 0 a)).int (cel 3 (arg 0 a)).list (cel 4 (arg 0 a)).list (cel 0 (arg 1 a)).int (cel 1 (arg 1 a)).int (cel 2 (arg 1 a)).int (cel 3 (arg 1 a)).int (cel 0 (arg 2 a)).int)], [.i (Sp.adE (cel 0 (arg 0 a)).int (cel 1 (arg 0 a)).int (cel 2 (arg 0 a)).int (cel 3 (arg 0 a)).list (cel 4 (arg 0 a)).list (cel 0 (arg 1 a)).int (cel 1 (arg 1 a)).int (cel 2 (arg 1 a)).int (cel 3 (arg 1 a)).int (cel 0 (arg 2 a)).int)]] }
def tb8 : List (Nat × Ct) := [(23, ct23), (24, ct24), (15, ct15), (26, ct26), (18, ct18), (53, ct53), (54, ct54), (28, ct28)]
def A8  : FuncId → Nat → LoopAnn := fun _ _ => LoopAnn.unroll 200
abbrev B8 (w : Int) (c : Int) (p : Int) (ds : List (List C)) (ss : List (List C)) (s0 : Int) (s1 : Int) (s2 : Int) (s3 : Int) (n : Int) : Prop := vcF Go.Proofs.Tryz.prog (look tb8) (fun _ => false) (A8) 8 8 [.agg [.int .i64 w, .int .i64 c, .int .i64 p, .sl [.int .u64, .int .i64] ds, .sl [.int .i64, .int .u64, .int .i64, .int .i64] ss], .agg [.int .i64 s0, .int .u64 s1, .int .i64 s2, .int .i64 s3], .int .i64 n] [] (fun sv heap => Gives [(true, [.int .i64, .int .i64, .int .i64, .sl [.int .u64, .int .i64], .sl [.int .i64, .int .u64, .int .i64, .int .i64]]), (true, [.int .i64, .int .i64, .int .i64]), (false, [.int .i64])] [[.i (Sp.zI (Sp.adE w c p ds ss s0 s1 s2 s3 n) w), .i (Sp.zI (Sp.adE w c p ds ss s0 s1 s2 s3 n) c), .i (Sp.zI (Sp.adE w c p ds ss s0 s1 s2 s3 n) p), .l (Sp.zL (Sp.adE w c p ds ss s0 s1 s2 s3 n) (ds)), .l (Sp.zL (Sp.adE w c p ds ss s0 s1 s2 s3 n) (Sp.inS ss s0 s1 s2 n))], [.i (Sp.adK w c p ds ss s0 s1 s2 s3 n), .i (Sp.adN w c p ds ss s0 s1 s2 s3 n), .i (Sp.adH w c p ds ss s0 s1 s2 s3 n)], [.i (Sp.adE w c p ds ss s0 s1 s2 s3 n)]] sv heap)
def m8_0 (w : Int) (c : Int) (p : Int) (ds : List (List C)) (ss : List (List C)) (s0 : Int) (s1 : Int) (s2 : Int) (s3 : Int) (n : Int) : Prop := 0 = Sp.zI (Sp.adE w c p ds ss s0 s1 s2 s3 n) w ∧ 0 = Sp.zI (Sp.adE w c p ds ss s0 s1 s2 s3 n) c ∧ 0 = Sp.zI (Sp.adE w c p ds ss s0 s1 s2 s3 n) p ∧ [] = Sp.zL (Sp.adE w c p ds ss s0 s1 s2 s3 n) ds ∧ [] = Sp.zL (Sp.adE w c p ds ss s0 s1 s2 s3 n) (Sp.inS ss s0 s1 s2 n) ∧ True
def m8_1 (w : Int) (c : Int) (p : Int) (ds : List (List C)) (ss : List (List C)) (s0 : Int) (s1 : Int) (s2 : Int) (s3 : Int) (n : Int) : Prop := ((m8_0 w c p ds ss s0 s1 s2 s3 n)) ∧ (0 = Sp.adK w c p ds ss s0 s1 s2 s3 n ∧ 0 = Sp.adN w c p ds ss s0 s1 s2 s3 n ∧ 0 = Sp.adH w c p ds ss s0 s1 s2 s3 n ∧ True) ∧ (2 = Sp.adE w c p ds ss s0 s1 s2 s3 n ∧ True) ∧ True
def m8_2 (w : Int) (c : Int) (p : Int) (ds : List (List C)) (ss : List (List C)) (s0 : Int) (s1 : Int) (s2 : Int) (s3 : Int) (n : Int) : Prop := 0 = Sp.adK w c p ds ss s0 s1 s2 s3 n ∧ 0 = Sp.adN w c p ds ss s0 s1 s2 s3 n ∧ 0 = Sp.adH w c p ds ss s0 s1 s2 s3 n ∧ True
theorem e8 (w : Int) (c : Int) (p : Int) (ds : List (List C)) (ss : List (List C)) (s0 : Int) (s1 : Int) (s2 : Int) (s3 : Int) (n : Int) : B8 w c p ds ss s0 s1 s2 s3 n = (True ∧ (InR .i64 (Sp.bsx ss s0) ∧ True ∧ True → True ∧ (InR .i64 (Sp.bsx ds s1) ∧ True ∧ True → True ∧ (True → True ∧ (bNot (Sp.bval w c p ds ss) = true → ((m8_0 w c p ds ss s0 s1 s2 s3 n)) ∧ ((m8_2 w c p ds ss s0 s1 s2 s3 n)) ∧ (1 = Sp.adE w c p ds ss s0 s1 s2 s3 n ∧ True) ∧ True) ∧ (bNot (Sp.bval w c p ds ss) = false → (bLt s0 1 = false → True ∧ (True → True ∧ (bNot (decide (1 ≤ s2 ∧ s2 ≤ 8)) = false → True ∧ (True → True ∧ (bNot (decide (0 ≤ s3 ∧ s3 ≤ 1099511627776)) = false → True ∧ (True → True ∧ (bNot (decide (0 ≤ n ∧ n ≤ 1099511627776)) = true → (m8_1 w c p ds ss s0 s1 s2 s3 n)) ∧ (bNot (decide (0 ≤ n ∧ n ≤ 1099511627776)) = false → (Sp.bsf ss s0 = true → ((m8_0 w c p ds ss s0 s1 s2 s3 n)) ∧ ((m8_2 w c p ds ss s0 s1 s2 s3 n)) ∧ (8 = Sp.adE w c p ds ss s0 s1 s2 s3 n ∧ True) ∧ True) ∧ (Sp.bsf ss s0 = false → True ∧ (bNot (Sp.bsf ds s1) = true → ((m8_0 w c p ds ss s0 s1 s2 s3 n)) ∧ (1 = Sp.adK w c p ds ss s0 s1 s2 s3 n ∧ 0 = Sp.adN w c p ds ss s0 s1 s2 s3 n ∧ 0 = Sp.adH w c p ds ss s0 s1 s2 s3 n ∧ True) ∧ (7 = Sp.adE w c p ds ss s0 s1 s2 s3 n ∧ True) ∧ True) ∧ (bNot (Sp.bsf ds s1) = false → pLe (iLen ss) 9223372036854775807 → (bLe 24 (iLen ss) = true → pLe (iLen ss) 9223372036854775807 → InR .i64 (iAdd (iLen ss) 1) ∧ ((m8_0 w c p ds ss s0 s1 s2 s3 n)) ∧ (2 = Sp.adK w c p ds ss s0 s1 s2 s3 n ∧ iAdd (iLen ss) 1 = Sp.adN w c p ds ss s0 s1 s2 s3 n ∧ 24 = Sp.adH w c p ds ss s0 s1 s2 s3 n ∧ True) ∧ (10 = Sp.adE w c p ds ss s0 s1 s2 s3 n ∧ True) ∧ True) ∧ (bLe 24 (iLen ss) = false → (bLt s3 n = true → ((m8_0 w c p ds ss s0 s1 s2 s3 n)) ∧ (3 = Sp.adK w c p ds ss s0 s1 s2 s3 n ∧ n = Sp.adN w c p ds ss s0 s1 s2 s3 n ∧ s3 = Sp.adH w c p ds ss s0 s1 s2 s3 n ∧ True) ∧ (10 = Sp.adE w c p ds ss s0 s1 s2 s3 n ∧ True) ∧ True) ∧ (bLt s3 n = false → pLe (↑ds.length) 1000000 ∧ pLe (↑ss.length) 1000000 ∧ ((pLe 0 (Sp.bsx ss s0) ∧ pLe (Sp.bsx ss s0) ↑ss.length) ∧ 1 = 1 ∧ pLe (↑ss.length) 999999) ∧ True ∧ (InR .i64 (Sp.ld w c p ds (Sp.ins ss (Sp.bsx ss s0) [[C.i s0, C.i s1, C.i s2, C.i n]])) → (bLt c (Sp.ld w c p ds (Sp.ins ss (Sp.bsx ss s0) [[C.i s0, C.i s1, C.i s2, C.i n]])) = true → True ∧ (InR .i64 (Sp.ld w c p ds (Sp.ins ss (Sp.bsx ss s0) [[C.i s0, C.i s1, C.i s2, C.i n]])) → ((m8_0 w c p ds ss s0 s1 s2 s3 n)) ∧ (4 = Sp.adK w c p ds ss s0 s1 s2 s3 n ∧ Sp.ld w c p ds (Sp.ins ss (Sp.bsx ss s0) [[C.i s0, C.i s1, C.i s2, C.i n]]) = Sp.adN w c p ds ss s0 s1 s2 s3 n ∧ c = Sp.adH w c p ds ss s0 s1 s2 s3 n ∧ True) ∧ (10 = Sp.adE w c p ds ss s0 s1 s2 s3 n ∧ True) ∧ True)) ∧ (bLt c (Sp.ld w c p ds (Sp.ins ss (Sp.bsx ss s0) [[C.i s0, C.i s1, C.i s2, C.i n]])) = false → (w = Sp.zI (Sp.adE w c p ds ss s0 s1 s2 s3 n) w ∧ c = Sp.zI (Sp.adE w c p ds ss s0 s1 s2 s3 n) c ∧ p = Sp.zI (Sp.adE w c p ds ss s0 s1 s2 s3 n) p ∧ ds = Sp.zL (Sp.adE w c p ds ss s0 s1 s2 s3 n) ds ∧ Sp.ins ss (Sp.bsx ss s0) [[C.i s0, C.i s1, C.i s2, C.i n]] = Sp.zL (Sp.adE w c p ds ss s0 s1 s2 s3 n) (Sp.inS ss s0 s1 s2 n) ∧ True) ∧ ((m8_2 w c p ds ss s0 s1 s2 s3 n)) ∧ (0 = Sp.adE w c p ds ss s0 s1 s2 s3 n ∧ True) ∧ True))))))))) ∧ (bNot (decide (0 ≤ s3 ∧ s3 ≤ 1099511627776)) = true → (m8_1 w c p ds ss s0 s1 s2 s3 n)))) ∧ (bNot (decide (1 ≤ s2 ∧ s2 ≤ 8)) = true → (m8_1 w c p ds ss s0 s1 s2 s3 n)))) ∧ (bLt s0 1 = true → (m8_1 w c p ds ss s0 s1 s2 s3 n))))))) := by kernel_rfl
theorem v8 (w : Int) (c : Int) (p : Int) (ds : List (List C)) (ss : List (List C)) (s0 : Int) (s1 : Int) (s2 : Int) (s3 : Int) (n : Int) : Holds (Wfs [.agg [.int .i64 w, .int .i64 c, .int .i64 p, .sl [.int .u64, .int .i64] ds, .sl [.int .i64, .int .u64, .int .i64, .int .i64] ss], .agg [.int .i64 s0, .int .u64 s1, .int .i64 s2, .int .i64 s3], .int .i64 n] → True → B8 w c p ds ss s0 s1 s2 s3 n) := by
 refine ⟨fun hw hp => ?_⟩
 rw [e8]
 delta m8_0 m8_1 m8_2
 simp only [Wfs, Wf, InR, and_true] at hw
 simp only [eq_self, true_and, and_true, true_implies, implies_true, iAdd, iSub, iMul, iLen, bEq, bNe, bLt, bLe, bNot, pIn, pLe, pNe, InR, decide_eq_true_eq, decide_eq_false_iff_not, Bool.not_eq_true', Bool.not_eq_false', decide_eq_decide]
 intro _ _
 refine ⟨fun h => Sp.ad_e (Sp.ad1 h) (by omega) (by omega) (by omega), fun hv => ?_⟩
 have hA := Sp.bval_asc hv
 have hl := Sp.bval_len hv
 have hb := Sp.bsx_bd (xs := ss) s0
 rw [Sp.bsf_has hA.1, Sp.bsf_has hA.2]
 refine ⟨fun a1 => ⟨fun a2 => ⟨fun a3 => ⟨fun a4 => Sp.ad_e (Sp.ad2 hv (.inr (.inr (.inr a4)))) (by omega) (by omega) (by omega), fun a4 => ?_⟩, fun a => Sp.ad_e (Sp.ad2 hv (.inr (.inr (.inl a)))) (by omega) (by omega) (by omega)⟩, fun a => Sp.ad_e (Sp.ad2 hv (.inr (.inl a))) (by omega) (by omega) (by omega)⟩, fun a => Sp.ad_e (Sp.ad2 hv (.inl a)) (by omega) (by omega) (by omega)⟩
 have h2 : ¬ Sp.adB s0 s2 s3 n := by unfold Sp.adB; omega
 refine ⟨fun h3 => Sp.ad_e (Sp.ad8 hv h2 h3) (by omega) (by omega) (by omega), fun h3 => ⟨fun h4 => Sp.ad_e7 (Sp.ad7 hv h2 h3 h4), fun h4 _ => ?_⟩⟩
 have hx := Sp.adx (p := p) hv h2 h3 h4
 refine ⟨fun h5 _ => ⟨by omega, ?_⟩, fun h5 => ⟨fun h6 => ?_, fun h6 => ⟨by omega, by omega, ⟨⟨hb.1, hb.2⟩, by omega⟩, fun _ => ⟨fun h7 _ => ?_, fun h7 => ?_⟩⟩⟩⟩
 · rw [decide_eq_true (show 24 ≤ ss.length by omega)] at hx
   have := Sp.ad_e10 (ss2 := Sp.inS ss s0 s1 s2 n) hx
   rw [decide_eq_true (show 24 ≤ ss.length by omega)] at this
   exact this
 · rw [decide_eq_false (show ¬ 24 ≤ ss.length by omega), decide_eq_true h6] at hx
   have := Sp.ad_e10 (ss2 := Sp.inS ss s0 s1 s2 n) hx
   rw [decide_eq_false (show ¬ 24 ≤ ss.length by omega), decide_eq_true h6] at this
   exact this
 · rw [decide_eq_false (show ¬ 24 ≤ ss.length by omega), decide_eq_false h6, decide_eq_true (show c < Sp.ld w c p ds (Sp.inS ss s0 s1 s2 n) from h7)] at hx
   have := Sp.ad_e10 (ss2 := Sp.inS ss s0 s1 s2 n) hx
   rw [decide_eq_false (show ¬ 24 ≤ ss.length by omega), decide_eq_false h6] at this
   exact this
 · rw [decide_eq_false (show ¬ 24 ≤ ss.length by omega), decide_eq_false h6, decide_eq_false (show ¬ c < Sp.ld w c p ds (Sp.inS ss s0 s1 s2 n) from h7)] at hx
   exact Sp.ad_e0 (ss2 := Sp.inS ss s0 s1 s2 n) hx
theorem s8 : SoundCt Go.Proofs.Tryz.prog 8 ct8 :=
 contractH followsMixed (look_sound (show Tb Go.Proofs.Tryz.prog tb8 from ⟨s23, ⟨s24, ⟨s15, ⟨s26, ⟨s18, ⟨s53, ⟨s54, ⟨s28, trivial⟩⟩⟩⟩⟩⟩⟩⟩)) (fun _ => false) (fun _ => A8) 8 8 ct8 rfl (by simp [ct8]) fun a => Eq.mp (by kernel_rfl) (v8 ((cel 0 (arg 0 a)).int) ((cel 1 (arg 0 a)).int) ((cel 2 (arg 0 a)).int) ((cel 3 (arg 0 a)).list) ((cel 4 (arg 0 a)).list) ((cel 0 (arg 1 a)).int) ((cel 1 (arg 1 a)).int) ((cel 2 (arg 1 a)).int) ((cel 3 (arg 1 a)).int) ((cel 0 (arg 2 a)).int))
end Go.Sx
namespace Go.Sx
def ct10 : Ct := { ps := [(true, [.int .i64, .int .i64, .int .i64, .sl [.int .u64, .int .i64], .sl [.int .i64, .int .u64, .int .i64, .int .i64]]), (false, [.int .i64])], rs := [(true, [.int .i64, .int .i64, .int .i64, .sl [.int .u64, .int .i64], .sl [.int .i64, .int .u64, .int .i64, .int .i64]]), (false, [.int .i64])], pre := fun _ => True, out := fun a => [[.i (Sp.zI (Sp.leE (cel 0 (arg 0 a)).int (cel 1 (arg 0 a)).int (cel 2 (arg 0 a)).int (cel 3 (arg 0 a)).list (cel 4 (arg 0 a)).list (cel 0 (arg 1 a)).int) (cel 0 (arg 0 a)).int), .i (Sp.zI (Sp.leE (cel 0 (arg 0 a)).int (cel 1 (arg 0 a)).int (cel 2 (arg 0 a)).int (cel 3 (arg 0 a)).list (cel 4 (arg 0 a)).list (cel 0 (arg 1 a)).int) (cel 1 (arg 0 a)).int), .i (Sp.zI (Sp.leE (cel 0 (arg 0 a)).int (cel 1 (arg 0 a)).int (cel 2 (arg 0 a)).int (cel 3 (arg 0 a)).list (cel 4 (arg 0 a)).list (cel 0 (arg 1 a)).int) (cel 2 (arg 0 a)).int), .l (Sp.zL (Sp.leE (cel 0 (arg 0 a)).int (cel 1 (arg 0 a)).int (cel 2 (arg 0 a)).int (cel 3 (arg 0 a)).list (cel 4 (arg 0 a)).list (cel 0 (arg 1 a)).int) ((cel 3 (arg 0 a)).list)), .l (Sp.zL (Sp.leE (cel 0 (arg 0 a)).int (cel 1 (arg 0 a)).int (cel 2 (arg 0 a)).int (cel 3 (arg 0 a)).list (cel 4 (arg 0 a)).list (cel 0 (arg 1 a)).int) (Sp.del (cel 4 (arg 0 a)).list (Sp.bsx (cel 4 (arg 0 a)).list (cel 0 (arg 1 a)).int) (Sp.bsx (cel 4 (arg 0 a)).list (cel 0 (arg 1 a)).int + 1)))], [.i (Sp.leE (cel 0 (arg 0 a)).int (cel 1 (arg 0 a)).int (cel 2 (arg 0 a)).int (cel 3 (arg 0 a)).list (cel 4 (arg 0 a)).list (cel 0 (arg 1 a)).int)]] }
def tb10 : List (Nat × Ct) := [(23, ct23), (15, ct15), (53, ct53), (54, ct54), (30, ct30)]
def A10  : FuncId → Nat → LoopAnn := fun _ _ => LoopAnn.unroll 200
abbrev B10 (w : Int) (c : Int) (p : Int) (ds : List (List C)) (ss : List (List C)) (id : Int) : Prop := vcF Go.Proofs.Tryz.prog (look tb10) (fun _ => false) (A10) 8 10 [.agg [.int .i64 w, .int .i64 c, .int .i64 p, .sl [.int .u64, .int .i64] ds, .sl [.int .i64, .int .u64, .int .i64, .int .i64] ss], .int .i64 id] [] (fun sv heap => Gives [(true, [.int .i64, .int .i64, .int .i64, .sl [.int .u64, .int .i64], .sl [.int .i64, .int .u64, .int .i64, .int .i64]]), (false, [.int .i64])] [[.i (Sp.zI (Sp.leE w c p ds ss id) w), .i (Sp.zI (Sp.leE w c p ds ss id) c), .i (Sp.zI (Sp.leE w c p ds ss id) p), .l (Sp.zL (Sp.leE w c p ds ss id) (ds)), .l (Sp.zL (Sp.leE w c p ds ss id) (Sp.del ss (Sp.bsx ss id) (Sp.bsx ss id + 1)))], [.i (Sp.leE w c p ds ss id)]] sv heap)
def m10_0 (w : Int) (c : Int) (p : Int) (ds : List (List C)) (ss : List (List C)) (id : Int) : Prop := 0 = Sp.zI (Sp.leE w c p ds ss id) w ∧ 0 = Sp.zI (Sp.leE w c p ds ss id) c ∧ 0 = Sp.zI (Sp.leE w c p ds ss id) p ∧ [] = Sp.zL (Sp.leE w c p ds ss id) ds ∧ [] = Sp.zL (Sp.leE w c p ds ss id) (Sp.del ss (Sp.bsx ss id) (Sp.bsx ss id + 1)) ∧ True
theorem e10 (w : Int) (c : Int) (p : Int) (ds : List (List C)) (ss : List (List C)) (id : Int) : B10 w c p ds ss id = (True ∧ (InR .i64 (Sp.bsx ss id) ∧ True ∧ True → True ∧ (True → True ∧ (bNot (Sp.bval w c p ds ss) = true → ((m10_0 w c p ds ss id)) ∧ (1 = Sp.leE w c p ds ss id ∧ True) ∧ True) ∧ (bNot (Sp.bval w c p ds ss) = false → True ∧ (bNot (Sp.bsf ss id) = true → ((m10_0 w c p ds ss id)) ∧ (7 = Sp.leE w c p ds ss id ∧ True) ∧ True) ∧ (bNot (Sp.bsf ss id) = false → pLe (↑ds.length) 1000000 ∧ pLe (↑ss.length) 1000000 ∧ InR .i64 (iAdd (Sp.bsx ss id) 1) ∧ ((pLe 0 (Sp.bsx ss id) ∧ pLe (iAdd (Sp.bsx ss id) 1) (iAdd (Sp.bsx ss id) 1)) ∧ pLe (iAdd (Sp.bsx ss id) 1) ↑ss.length ∧ pLe (↑ss.length) 1000000) ∧ (w = Sp.zI (Sp.leE w c p ds ss id) w ∧ c = Sp.zI (Sp.leE w c p ds ss id) c ∧ p = Sp.zI (Sp.leE w c p ds ss id) p ∧ ds = Sp.zL (Sp.leE w c p ds ss id) ds ∧ Sp.del ss (Sp.bsx ss id) (iAdd (Sp.bsx ss id) 1) = Sp.zL (Sp.leE w c p ds ss id) (Sp.del ss (Sp.bsx ss id) (Sp.bsx ss id + 1)) ∧ True) ∧ (0 = Sp.leE w c p ds ss id ∧ True) ∧ True))))) := by kernel_rfl
theorem v10 (w : Int) (c : Int) (p : Int) (ds : List (List C)) (ss : List (List C)) (id : Int) : Holds (Wfs [.agg [.int .i64 w, .int .i64 c, .int .i64 p, .sl [.int .u64, .int .i64] ds, .sl [.int .i64, .int .u64, .int .i64, .int .i64] ss], .int .i64 id] → True → B10 w c p ds ss id) := by
 refine ⟨fun hw hp => ?_⟩
 rw [e10]
 delta m10_0
 simp only [Wfs, Wf, InR, and_true] at hw
 simp only [eq_self, true_and, and_true, true_implies, implies_true, iAdd, iSub, iMul, iLen, bEq, bNe, bLt, bLe, bNot, pIn, pLe, pNe, InR, decide_eq_true_eq, decide_eq_false_iff_not, Bool.not_eq_true', Bool.not_eq_false', decide_eq_decide]
 intro _
 refine ⟨fun h => Sp.bk_err (Sp.le1 h) (by omega), fun hv => ?_⟩
 have hA := Sp.bval_asc hv
 have hl := Sp.bval_len hv
 have hb := Sp.bsx_bd (xs := ss) id
 rw [Sp.bsf_has hA.2]
 refine ⟨fun h2 => Sp.bk_err (Sp.le7 hv h2) (by omega), fun h2 => ?_⟩
 have h3 := Sp.nix_has h2
 rw [← Sp.bsx_nix hA.2 h2] at h3
 exact ⟨by omega, by omega, by omega, ⟨⟨by omega, by omega⟩, by omega, by omega⟩, Sp.bk_ok (Sp.le0 hv h2)⟩
theorem s10 : SoundCt Go.Proofs.Tryz.prog 10 ct10 :=
 contractH followsMixed (look_sound (show Tb Go.Proofs.Tryz.prog tb10 from ⟨s23, ⟨s15, ⟨s53, ⟨s54, ⟨s30, trivial⟩⟩⟩⟩⟩)) (fun _ => false) (fun _ => A10) 8 10 ct10 rfl (by simp [ct10]) fun a => Eq.mp (by kernel_rfl) (v10 ((cel 0 (arg 0 a)).int) ((cel 1 (arg 0 a)).int) ((cel 2 (arg 0 a)).int) ((cel 3 (arg 0 a)).list) ((cel 4 (arg 0 a)).list) ((cel 0 (arg 1 a)).int))
end Go.Sx
namespace Go.Sx
def ct12 : Ct := { ps := [(true, [.int .i64, .int .i64, .int .i64, .sl [.int .u64, .int .i64], .sl [.int .i64, .int .u64, .int .i64, .int .i64]]), (false, [.int .i64]), (false, [.int .u64])], rs := [(true, [.int .i64, .int .i64, .int .i64, .sl [.int .u64, .int .i64], .sl [.int .i64, .int .u64, .int .i64, .int .i64]]), (false, [.int .i64])], pre := fun _ => True, out := fun a => [[.i (Sp.zI (Sp.moE (cel 0 (arg 0 a)).int (cel 1 (arg 0 a)).int (cel 2 (arg 0 a)).int (cel 3 (arg 0 a)).list (cel 4 (arg 0 a)).list (cel 0 (arg 1 a)).int (cel 0 (arg 2 a)).int) (cel 0 (arg 0 a)).int), .i (Sp.zI (Sp.moE (cel 0 (arg 0 a)).int (cel 1 (arg 0 a)).int (cel 2 (arg 0 a)).int (cel 3 (arg 0 a)).list (cel 4 (arg 0 a)).list (cel 0 (arg 1 a)).int (cel 0 (arg 2 a)).int) (cel 1 (arg 0 a)).int), .i (Sp.zI (Sp.moE (cel 0 (arg 0 a)).int (cel 1 (arg 0 a)).int (cel 2 (arg 0 a)).int (cel 3 (arg 0 a)).list (cel 4 (arg 0 a)).list (cel 0 (arg 1 a)).int (cel 0 (arg 2 a)).int) (cel 2 (arg 0 a)).int), .l (Sp.zL (Sp.moE (cel 0 (arg 0 a)).int (cel 1 (arg 0 a)).int (cel 2 (arg 0 a)).int (cel 3 (arg 0 a)).list (cel 4 (arg 0 a)).list (cel 0 (arg 1 a)).int (cel 0 (arg 2 a)).int) ((cel 3 (arg 0 a)).list)), .l (Sp.zL (Sp.moE (cel 0 (arg 0 a)).int (cel 1 (arg 0 a)).int (cel 2 (arg 0 a)).int (cel 3 (arg 0 a)).list (cel 4 (arg 0 a)).list (cel 0 (arg 1 a)).int (cel 0 (arg 2 a)).int) (Sp.mvS (cel 4 (arg 0 a)).list (cel 0 (arg 1 a)).int (cel 0 (arg 2 a)).int))], [.i (Sp.moE (cel 0 (arg 0 a)).int (cel 1 (arg 0 a)).int (cel 2 (arg 0 a)).int (cel 3 (arg 0 a)).list (cel 4 (arg 0 a)).list (cel 0 (arg 1 a)).int (cel 0 (arg 2 a)).int)]] }
def tb12 : List (Nat × Ct) := [(23, ct23), (24, ct24), (15, ct15), (18, ct18), (53, ct53), (54, ct54)]
def A12  : FuncId → Nat → LoopAnn := fun _ _ => LoopAnn.unroll 200
abbrev B12 (w : Int) (c : Int) (p : Int) (ds : List (List C)) (ss : List (List C)) (id : Int) (dv : Int) : Prop := vcF Go.Proofs.Tryz.prog (look tb12) (fun _ => false) (A12) 8 12 [.agg [.int .i64 w, .int .i64 c, .int .i64 p, .sl [.int .u64, .int .i64] ds, .sl [.int .i64, .int .u64, .int .i64, .int .i64] ss], .int .i64 id, .int .u64 dv] [] (fun sv heap => Gives [(true, [.int .i64, .int .i64, .int .i64, .sl [.int .u64, .int .i64], .sl [.int .i64, .int .u64, .int .i64, .int .i64]]), (false, [.int .i64])] [[.i (Sp.zI (Sp.moE w c p ds ss id dv) w), .i (Sp.zI (Sp.moE w c p ds ss id dv) c), .i (Sp.zI (Sp.moE w c p ds ss id dv) p), .l (Sp.zL (Sp.moE w c p ds ss id dv) (ds)), .l (Sp.zL (Sp.moE w c p ds ss id dv) (Sp.mvS ss id dv))], [.i (Sp.moE w c p ds ss id dv)]] sv heap)
def m12_0 (w : Int) (c : Int) (p : Int) (ds : List (List C)) (ss : List (List C)) (id : Int) (dv : Int) : Prop := 0 = Sp.zI (Sp.moE w c p ds ss id dv) w ∧ 0 = Sp.zI (Sp.moE w c p ds ss id dv) c ∧ 0 = Sp.zI (Sp.moE w c p ds ss id dv) p ∧ [] = Sp.zL (Sp.moE w c p ds ss id dv) ds ∧ [] = Sp.zL (Sp.moE w c p ds ss id dv) (Sp.mvS ss id dv) ∧ True
def m12_1 (w : Int) (c : Int) (p : Int) (ds : List (List C)) (ss : List (List C)) (id : Int) (dv : Int) : Int := (Sp.ld w c p ds (rSet ss (Sp.bsx ss id) [C.i (q0 (rGet ss (Sp.bsx ss id))), C.i dv, C.i (q2 (rGet ss (Sp.bsx ss id))), C.i (q3 (rGet ss (Sp.bsx ss id)))]))
theorem e12 (w : Int) (c : Int) (p : Int) (ds : List (List C)) (ss : List (List C)) (id : Int) (dv : Int) : B12 w c p ds ss id dv = (True ∧ (InR .i64 (Sp.bsx ss id) ∧ True ∧ True → True ∧ (InR .i64 (Sp.bsx ds dv) ∧ True ∧ True → True ∧ (True → True ∧ (bNot (Sp.bval w c p ds ss) = true → ((m12_0 w c p ds ss id dv)) ∧ (1 = Sp.moE w c p ds ss id dv ∧ True) ∧ True) ∧ (bNot (Sp.bval w c p ds ss) = false → True ∧ (bNot (Sp.bsf ss id) = false → True ∧ (bNot (Sp.bsf ds dv) = true → ((m12_0 w c p ds ss id dv)) ∧ (7 = Sp.moE w c p ds ss id dv ∧ True) ∧ True) ∧ (bNot (Sp.bsf ds dv) = false → pLe (↑ds.length) 1000000 ∧ pLe (↑ss.length) 1000000 ∧ pIn 0 (iLen ss) (Sp.bsx ss id) ∧ True ∧ (InR .i64 (m12_1 w c p ds ss id dv) → (bLt c (m12_1 w c p ds ss id dv) = true → ((m12_0 w c p ds ss id dv)) ∧ (10 = Sp.moE w c p ds ss id dv ∧ True) ∧ True) ∧ (bLt c (m12_1 w c p ds ss id dv) = false → (w = Sp.zI (Sp.moE w c p ds ss id dv) w ∧ c = Sp.zI (Sp.moE w c p ds ss id dv) c ∧ p = Sp.zI (Sp.moE w c p ds ss id dv) p ∧ ds = Sp.zL (Sp.moE w c p ds ss id dv) ds ∧ rSet ss (Sp.bsx ss id) [C.i (q0 (rGet ss (Sp.bsx ss id))), C.i dv, C.i (q2 (rGet ss (Sp.bsx ss id))), C.i (q3 (rGet ss (Sp.bsx ss id)))] = Sp.zL (Sp.moE w c p ds ss id dv) (Sp.mvS ss id dv) ∧ True) ∧ (0 = Sp.moE w c p ds ss id dv ∧ True) ∧ True)))) ∧ (bNot (Sp.bsf ss id) = true → ((m12_0 w c p ds ss id dv)) ∧ (7 = Sp.moE w c p ds ss id dv ∧ True) ∧ True)))))) := by kernel_rfl
theorem v12 (w : Int) (c : Int) (p : Int) (ds : List (List C)) (ss : List (List C)) (id : Int) (dv : Int) : Holds (Wfs [.agg [.int .i64 w, .int .i64 c, .int .i64 p, .sl [.int .u64, .int .i64] ds, .sl [.int .i64, .int .u64, .int .i64, .int .i64] ss], .int .i64 id, .int .u64 dv] → True → B12 w c p ds ss id dv) := by
 refine ⟨fun hw hp => ?_⟩
 rw [e12]
 delta q0 q2 q3 m12_0 m12_1
 simp only [Wfs, Wf, InR, and_true] at hw
 simp only [eq_self, true_and, and_true, true_implies, implies_true, iAdd, iSub, iMul, iLen, bEq, bNe, bLt, bLe, bNot, pIn, pLe, pNe, InR, decide_eq_true_eq, decide_eq_false_iff_not, Bool.not_eq_true', Bool.not_eq_false', decide_eq_decide]
 intro _ _
 refine ⟨fun h => Sp.bk_err (Sp.mo1 h) (by omega), fun hv => ?_⟩
 have hA := Sp.bval_asc hv
 have hl := Sp.bval_len hv
 rw [Sp.bsf_has hA.1, Sp.bsf_has hA.2]
 refine ⟨fun h2 => ⟨fun h3 => Sp.bk_err (Sp.mo7 hv (.inr h3)) (by omega), fun h3 => ?_⟩, fun h2 => Sp.bk_err (Sp.mo7 hv (.inl h2)) (by omega)⟩
 have hn := Sp.nix_has h2
 rw [Sp.bsx_nix hA.2 h2]
 exact ⟨by omega, by omega, ⟨hn.1, hn.2.1⟩, fun _ => ⟨fun h4 => Sp.bk_err (Sp.mo10 hv h2 h3 h4) (by omega), fun h4 => Sp.bk_ok (Sp.mo0 hv h2 h3 h4)⟩⟩
theorem s12 : SoundCt Go.Proofs.Tryz.prog 12 ct12 :=
 contractH followsMixed (look_sound (show Tb Go.Proofs.Tryz.prog tb12 from ⟨s23, ⟨s24, ⟨s15, ⟨s18, ⟨s53, ⟨s54, trivial⟩⟩⟩⟩⟩⟩)) (fun _ => false) (fun _ => A12) 8 12 ct12 rfl (by simp [ct12]) fun a => Eq.mp (by kernel_rfl) (v12 ((cel 0 (arg 0 a)).int) ((cel 1 (arg 0 a)).int) ((cel 2 (arg 0 a)).int) ((cel 3 (arg 0 a)).list) ((cel 4 (arg 0 a)).list) ((cel 0 (arg 1 a)).int) ((cel 0 (arg 2 a)).int))
end Go.Sx
