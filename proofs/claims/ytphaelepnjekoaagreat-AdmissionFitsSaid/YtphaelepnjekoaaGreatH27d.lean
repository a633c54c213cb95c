import Derived.Test.YtphaelepnjekoaaGreatSxUse
import Derived.Test.YtphaelepnjekoaaGreatH27c
import Derived.KernelRfl
set_option linter.unusedVariables false
set_option linter.unusedSimpArgs false
set_option maxRecDepth 100000
set_option maxHeartbeats 4000000
namespace Go
open Go.Sx
def Sp.r4 (x : List C) : List C := [.i (Sp.c0 x), .i (Sp.c1 x), .i (Sp.c2 x), .i (Sp.c3 x)]
def Sp.mkm (xs : List (List C)) : List (Int × List C) := xs.foldl (fun m x => kPut m (Sp.c0 x) (Sp.r4 x)) []
def Sp.mI (ns : List (List C)) (i : Int) (m : List (Int × List C)) : Prop := 0 ≤ i ∧ i ≤ (ns.length : Int) ∧ m = Sp.mkm (ns.take i.toNat)
def Sp.aI (p : Int → Bool) (n : Nat) (i : Int) : Prop := 0 ≤ i ∧ i ≤ (n : Int) ∧ Sp.allI p i.toNat = true
end Go
namespace Go
open Go.Sx
theorem Sp.aI_init {p : Int → Bool} {n : Nat} : Sp.aI p n 0 := ⟨by omega, by omega, rfl⟩
theorem Sp.aI_step {p : Int → Bool} {n : Nat} {i : Int} (h : Sp.aI p n i) (hi : i < (n : Int)) (hp : p i = true) : Sp.aI p n (i + 1) := by
 obtain ⟨h0, h1, h2⟩ := h
 refine ⟨by omega, by omega, ?_⟩
 rw [show (i + 1).toNat = i.toNat + 1 by omega, Sp.allI, h2, show ((i.toNat : Nat) : Int) = i by omega, hp]; rfl
theorem Sp.aI_end {p : Int → Bool} {n : Nat} {i : Int} (h : Sp.aI p n i) (hi : ¬ i < (n : Int)) : Sp.allI p n = true := by
 obtain ⟨h0, h1, h2⟩ := h
 rw [show n = i.toNat by omega]; exact h2
theorem Sp.allI_no {p : Int → Bool} {n : Nat} {i : Int} (h0 : 0 ≤ i) (hi : i < (n : Int)) (hp : p i = false) : Sp.allI p n = false := by
 cases h : Sp.allI p n
 · rfl
 · have := (Sp.allI_iff.1 h) i h0 hi
   rw [hp] at this; cases this
theorem Sp.mI_init {ns : List (List C)} : Sp.mI ns 0 [] := ⟨by omega, by omega, rfl⟩
theorem Sp.mI_step {ns : List (List C)} {i : Int} {m : List (Int × List C)} (h : Sp.mI ns i m) (hi : i < (ns.length : Int)) : Sp.mI ns (i + 1) (kPut m (Sp.c0 (rGet ns i)) (Sp.r4 (rGet ns i))) := by
 obtain ⟨h0, h1, h2⟩ := h
 refine ⟨by omega, by omega, ?_⟩
 rw [Sp.take_succ h0 hi, h2]
 simp [Sp.mkm]
theorem Sp.mI_end {ns : List (List C)} {i : Int} {m : List (Int × List C)} (h : Sp.mI ns i m) (hi : ¬ i < (ns.length : Int)) : m = Sp.mkm ns := by
 obtain ⟨h0, h1, h2⟩ := h
 rw [h2, List.take_of_length_le (by omega)]
theorem Sp.idx_shift {p : List C → Bool} : ∀ (xs : List (List C)) (i : Int), 0 ≤ i → Sp.idx p xs (i + 1) = if Sp.idx p xs i < 0 then -1 else Sp.idx p xs i + 1
 | [], i, _ => by simp [Sp.idx]
 | x :: r, i, h => by
  have e1 : Sp.idx p (x :: r) (i + 1) = bif p x then i + 1 else Sp.idx p r (i + 1 + 1) := rfl
  have e2 : Sp.idx p (x :: r) i = bif p x then i else Sp.idx p r (i + 1) := rfl
  cases hp : p x
  · rw [hp, cond_false] at e1 e2
    rw [e1, e2]; exact Sp.idx_shift r (i + 1) (by omega)
  · rw [hp, cond_true] at e1 e2
    rw [e1, e2, if_neg (by omega)]
theorem Sp.nd_cons (x : List C) (r : List (List C)) (n : Int) : Sp.nd (x :: r) n = if Sp.c0 x = n then x else Sp.nd r n := by
  have e : Sp.nix (x :: r) n = bif decide (Sp.c0 x = n) then 0 else Sp.idx (Sp.isI n) r (0 + 1) := rfl
  unfold Sp.nd
  by_cases h : Sp.c0 x = n
  · have e1 : Sp.nix (x :: r) n = 0 := by rw [e, decide_eq_true h]; rfl
    rw [e1, if_pos h]
    simp [rGet]
  · rw [if_neg h]
    by_cases h2 : Sp.nix r n < 0
    · have e1 : Sp.nix (x :: r) n = -1 := by
        rw [e, decide_eq_false h, cond_false, Sp.idx_shift r 0 (by omega), if_pos (show Sp.idx (Sp.isI n) r 0 < 0 from h2)]
      rw [e1, decide_eq_true h2]; rfl
    · have e1 : Sp.nix (x :: r) n = Sp.nix r n + 1 := by
        rw [e, decide_eq_false h, cond_false, Sp.idx_shift r 0 (by omega), if_neg (show ¬ Sp.idx (Sp.isI n) r 0 < 0 from h2)]; rfl
      rw [e1, decide_eq_false h2, decide_eq_false (by omega), cond_false, cond_false]
      unfold rGet
      rw [show (Sp.nix r n + 1).toNat = (Sp.nix r n).toNat + 1 by omega]
      simp
theorem Sp.has_cons (x : List C) (r : List (List C)) (n : Int) : Sp.has (x :: r) n = (decide (Sp.c0 x = n) || Sp.has r n) := by
 rw [Bool.eq_iff_iff, Sp.has_iff, Bool.or_eq_true, decide_eq_true_eq, Sp.has_iff]
 simp
theorem Sp.nd_no {ns : List (List C)} {n : Int} (h : Sp.has ns n = false) : Sp.nd ns n = [] := by
 unfold Sp.has at h
 rw [decide_eq_false_iff_not] at h
 unfold Sp.nd
 rw [decide_eq_true (by omega)]; rfl
theorem Sp.nd_has {ns : List (List C)} {n : Int} (h : Sp.has ns n = true) : Sp.nd ns n ∈ ns ∧ Sp.c0 (Sp.nd ns n) = n := by
 induction ns with
 | nil => cases h
 | cons x r ih =>
  rw [Sp.nd_cons]
  rw [Sp.has_cons, Bool.or_eq_true, decide_eq_true_eq] at h
  by_cases hx : Sp.c0 x = n
  · rw [if_pos hx]; exact ⟨by simp, hx⟩
  · rw [if_neg hx]
    have := ih (h.resolve_left hx)
    exact ⟨by simp [this.1], this.2⟩
theorem Sp.mkm_get {n : Int} {z : List C} : ∀ (ns : List (List C)) (m : List (Int × List C)), ns.Pairwise (fun a b => Sp.c0 a < Sp.c0 b) →
    kGet (ns.foldl (fun m x => kPut m (Sp.c0 x) (Sp.r4 x)) m) n z = if Sp.has ns n = true then Sp.r4 (Sp.nd ns n) else kGet m n z
  | [], m, _ => by simp [Sp.has_nil]
  | x :: r, m, h => by
    rw [List.pairwise_cons] at h
    rw [List.foldl_cons, Sp.mkm_get r _ h.2, Sp.has_cons, Sp.nd_cons, Sp.kGet_put]
    by_cases hx : Sp.c0 x = n
    · have hn : Sp.has r n = false := by
        cases hh : Sp.has r n
        · rfl
        · obtain ⟨y, hy, he⟩ := Sp.has_iff.1 hh
          have := h.1 y hy
          omega
      simp [hx, hn]
    · simp [hx]
theorem Sp.mkm_nd {ns : List (List C)} (h : ns.Pairwise (fun a b => Sp.c0 a < Sp.c0 b)) (n : Int) : kGet (Sp.mkm ns) n [.i 0, .i 0, .i 0, .i 0] = Sp.r4 (Sp.nd ns n) := by
 unfold Sp.mkm
 rw [Sp.mkm_get ns [] h]
 cases hh : Sp.has ns n
 · rw [Sp.nd_no hh]; rfl
 · rfl
theorem Sp.asc_pw : ∀ (xs : List (List C)), (∀ k : Int, 0 < k → k < (xs.length : Int) → Sp.c0 (rGet xs (k - 1)) < Sp.c0 (rGet xs k)) → xs.Pairwise (fun a b => Sp.c0 a < Sp.c0 b)
 | [], _ => List.Pairwise.nil
 | [x], _ => by simp
 | x :: y :: r, h => by
  have ih := Sp.asc_pw (y :: r) fun k k0 k1 => by
   have := h (k + 1) (by omega) (by simp only [List.length_cons] at k1 ⊢; omega)
   unfold rGet at this ⊢
   rw [show (k + 1 - 1).toNat = (k - 1).toNat + 1 by omega, show (k + 1).toNat = k.toNat + 1 by omega] at this
   simpa using this
  have h1 : Sp.c0 x < Sp.c0 y := by
   have := h 1 (by omega) (by simp only [List.length_cons]; omega)
   simpa [rGet] using this
  rw [List.pairwise_cons]
  refine ⟨fun z hz => ?_, ih⟩
  rcases List.mem_cons.1 hz with rfl | hz
  · exact h1
  · have := (List.pairwise_cons.1 ih).1 z hz
    omega
theorem Sp.nok_pw {ns : List (List C)} (h : Sp.allI (Sp.nokI ns) ns.length = true) : ns.Pairwise (fun a b => Sp.c0 a < Sp.c0 b) := by
 refine Sp.asc_pw ns fun k k0 k1 => ?_
 have := (Sp.allI_iff.1 h) k (by omega) k1
 unfold Sp.nokI at this
 rw [Bool.and_eq_true, Bool.or_eq_true, decide_eq_true_eq, decide_eq_true_eq] at this
 omega
theorem Sp.nok_fine {ns : List (List C)} (h : Sp.allI (Sp.nokI ns) ns.length = true) : ∀ x ∈ ns, 1 ≤ Sp.c0 x := by
 intro x hx
 obtain ⟨k, k0, k1, rfl⟩ := Sp.mem_row hx
 have := (Sp.allI_iff.1 h) k k0 k1
 unfold Sp.nokI at this
 rw [Bool.and_eq_true] at this
 have h2 := this.1
 unfold Sp.fine at h2
 rw [decide_eq_true_eq] at h2
 omega
section
variable {ns ls : List (List C)}
theorem Sp.vld_len (h : ¬ (ns.length ≤ 64 ∧ ls.length ≤ 256)) : Sp.vld ns ls = false := by
 unfold Sp.vld; rw [decide_eq_false h]; rfl
theorem Sp.vld_n (h : Sp.allI (Sp.nokI ns) ns.length = false) : Sp.vld ns ls = false := by
 unfold Sp.vld; rw [h]; simp
theorem Sp.vld_l (h : Sp.allI (Sp.lokI ns ls) ls.length = false) : Sp.vld ns ls = false := by
 unfold Sp.vld; rw [h]; simp
theorem Sp.vld_o (h0 : ns.length ≤ 64 ∧ ls.length ≤ 256) (h1 : Sp.allI (Sp.nokI ns) ns.length = true) (h2 : Sp.allI (Sp.lokI ns ls) ls.length = true) : decide ((Sp.ord ns ls).length = ns.length) = Sp.vld ns ls := by
 unfold Sp.vld; rw [h1, h2, decide_eq_true h0]; simp
end
end Go
namespace Go.Sx
def ct58 : Ct := { ps := [(true, [.sl [.int .i64, .int .i64, .int .i64, .int .i64], .sl [.int .i64, .int .i64, .int .i64, .int .i64]])], rs := [(false, [.bool])], pre := fun _ => True, out := fun a => [[.b (Sp.vld (cel 0 (arg 0 a)).list (cel 1 (arg 0 a)).list)]] }
def tb58 : List (Nat × Ct) := [(76, ct76), (77, ct77), (78, ct78), (79, ct79), (59, ct59)]
def A58 (ns : List (List C)) (ls : List (List C)) : FuncId → Nat → LoopAnn := fun _ ii => bif Nat.beq ii 4 then .inv (Int) (fun z => Sp.aI (Sp.nokI ns) ns.length z) (fun z => [(20, .int .i64 z)]) (fun z => []) [] [0, 1, 2, 3, 4, 5, 6, 16, 18, 19, 20, 21, 43, 46, 47, 48, 49, 80] (fun z => ns.length - z.toNat) else bif Nat.beq ii 10 then .inv (Int) (fun z => Sp.aI (Sp.lokI ns ls) ls.length z) (fun z => [(48, .int .i64 z)]) (fun z => []) [] [0, 1, 2, 3, 4, 5, 6, 16, 18, 19, 20, 21, 43, 46, 47, 48, 49, 80] (fun z => ls.length - z.toNat) else .unroll 0
abbrev B58 (ns : List (List C)) (ls : List (List C)) : Prop := vcF Go.Proofs.Tryz.prog (look tb58) (fun _ => false) (A58 ns ls) 6 58 [.agg [.sl [.int .i64, .int .i64, .int .i64, .int .i64] ns, .sl [.int .i64, .int .i64, .int .i64, .int .i64] ls]] [] (fun sv heap => Gives [(false, [.bool])] [[.b (Sp.vld ns ls)]] sv heap)
def h58_0 : List (List C) → List (List C) → List SV := fun (ns ls : List (List C)) => [SV.agg [SV.sl [.int .i64, .int .i64, .int .i64, .int .i64] ns, SV.sl [.int .i64, .int .i64, .int .i64, .int .i64] ls], SV.ref 0 0, SV.undef, SV.undef, SV.blit false, SV.sl [.int .i64, .int .i64, .int .i64, .int .i64] ns, SV.int .i64 (iLen ns), SV.undef, SV.undef, SV.undef, SV.undef, SV.undef]
def h58_1 : List (List C) → List (List C) → Int → List SV := fun (ns ls : List (List C)) (x : Int) => [SV.agg [SV.sl [.int .i64, .int .i64, .int .i64, .int .i64] ns, SV.sl [.int .i64, .int .i64, .int .i64, .int .i64] ls], SV.ref 0 0, SV.any, SV.any, SV.blit false, SV.sl [.int .i64, .int .i64, .int .i64, .int .i64] ns, SV.int .i64 (iLen ns), SV.int .i64 x, SV.blit false, SV.any, SV.sl [.int .i64, .int .i64, .int .i64, .int .i64] ls, SV.int .i64 (iLen ls)]
def m58_1 (ns : List (List C)) (ls : List (List C)) (x : Int) : Prop := InR .i64 (iAdd x 1) ∧ (true = true ∧ h58_0 ns ls = h58_0 ns ls) ∧ (fun z => z = z) [HB.box [SV.sl [.int .i64, .int .i64, .int .i64, .int .i64] ns, SV.sl [.int .i64, .int .i64, .int .i64, .int .i64] ls] 50] ∧ ∃ (y : Int), Sp.aI (Sp.nokI ns) ns.length y ∧ true = true ∧ ((IntKind.i64 = IntKind.i64 ∧ iAdd x 1 = y) ∧ True) ∧ True ∧ ns.length - y.toNat < ns.length - x.toNat
def m58_2 (ns : List (List C)) (ls : List (List C)) : Prop := (false = Sp.vld ns ls ∧ True) ∧ True
def m58_0 (ns : List (List C)) (ls : List (List C)) (x : Int) (x_1 : Int) : Prop := geB none (some x_1) (iLen ls) ∧ True ∧ (True → (decide (0 ≤ Sp.idx (Sp.cl ns (q0 (rGet ls x_1)) (q1 (rGet ls x_1)) (q2 (rGet ls x_1)) (q3 (rGet ls x_1))) (cutRows ls none (some x_1)) 0) = true → (m58_2 ns ls)) ∧ (decide (0 ≤ Sp.idx (Sp.cl ns (q0 (rGet ls x_1)) (q1 (rGet ls x_1)) (q2 (rGet ls x_1)) (q3 (rGet ls x_1))) (cutRows ls none (some x_1)) 0) = false → InR .i64 (iAdd x_1 1) ∧ (true = true ∧ h58_1 ns ls x = h58_1 ns ls x) ∧ (fun z => z = z) [HB.box [SV.sl [.int .i64, .int .i64, .int .i64, .int .i64] ns, SV.sl [.int .i64, .int .i64, .int .i64, .int .i64] ls] 50] ∧ ∃ (y : Int), Sp.aI (Sp.lokI ns ls) ls.length y ∧ true = true ∧ ((IntKind.i64 = IntKind.i64 ∧ iAdd x_1 1 = y) ∧ True) ∧ True ∧ ls.length - y.toNat < ls.length - x_1.toNat))
theorem e58 (ns : List (List C)) (ls : List (List C)) : B58 ns ls = (pLe (iLen ns) 9223372036854775807 → (bLt 64 (iLen ns) = false → pLe (iLen ls) 9223372036854775807 → (bLt 256 (iLen ls) = true → (m58_2 ns ls)) ∧ (bLt 256 (iLen ls) = false → pLe (iLen ns) 9223372036854775807 → (∃ (x : Int), Sp.aI (Sp.nokI ns) ns.length x ∧ true = true ∧ ((IntKind.i64 = IntKind.i64 ∧ 0 = x) ∧ True) ∧ True) ∧ (∀ (x : Int), true = true ∧ true = true) ∧ ∀ (x : Int), Sp.aI (Sp.nokI ns) ns.length x → InR .i64 x ∧ True → True → (bLt x (iLen ns) = true → pIn 0 (iLen ns) x ∧ (InR .i64 (q0 (rGet ns x)) ∧ InR .i64 (q1 (rGet ns x)) ∧ InR .i64 (q2 (rGet ns x)) ∧ InR .i64 (q3 (rGet ns x)) ∧ True → True ∧ (True → True ∧ (bNot (Sp.fine (q0 (rGet ns x)) (q1 (rGet ns x)) (q2 (rGet ns x)) (q3 (rGet ns x))) = false → (bLt 0 x = true → InR .i64 (iSub x 1) ∧ pIn 0 (iLen ns) (iSub x 1) ∧ (InR .i64 (q0 (rGet ns (iSub x 1))) → (bLe (q0 (rGet ns x)) (q0 (rGet ns (iSub x 1))) = true → (m58_2 ns ls)) ∧ (bLe (q0 (rGet ns x)) (q0 (rGet ns (iSub x 1))) = false → (m58_1 ns ls x)))) ∧ (bLt 0 x = false → (m58_1 ns ls x))) ∧ (bNot (Sp.fine (q0 (rGet ns x)) (q1 (rGet ns x)) (q2 (rGet ns x)) (q3 (rGet ns x))) = true → (m58_2 ns ls))))) ∧ (bLt x (iLen ns) = false → pLe (iLen ls) 9223372036854775807 → (∃ (x : Int), Sp.aI (Sp.lokI ns ls) ls.length x ∧ true = true ∧ ((IntKind.i64 = IntKind.i64 ∧ 0 = x) ∧ True) ∧ True) ∧ (∀ (x : Int), true = true ∧ true = true) ∧ ∀ (x_1 : Int), Sp.aI (Sp.lokI ns ls) ls.length x_1 → InR .i64 x_1 ∧ True → True → (bLt x_1 (iLen ls) = true → pIn 0 (iLen ls) x_1 ∧ (InR .i64 (q0 (rGet ls x_1)) ∧ InR .i64 (q1 (rGet ls x_1)) ∧ InR .i64 (q2 (rGet ls x_1)) ∧ InR .i64 (q3 (rGet ls x_1)) ∧ True → True ∧ (True → True ∧ (bNot (Sp.ends ns (q0 (rGet ls x_1)) (q1 (rGet ls x_1)) (q2 (rGet ls x_1)) (q3 (rGet ls x_1))) = false → (bLt 0 x_1 = true → InR .i64 (iSub x_1 1) ∧ pIn 0 (iLen ls) (iSub x_1 1) ∧ (InR .i64 (q0 (rGet ls (iSub x_1 1))) ∧ InR .i64 (q1 (rGet ls (iSub x_1 1))) ∧ InR .i64 (q2 (rGet ls (iSub x_1 1))) ∧ InR .i64 (q3 (rGet ls (iSub x_1 1))) ∧ True → True ∧ (True → True ∧ (bNot (decide (Sp.lcmp (q0 (rGet ls (iSub x_1 1))) (q1 (rGet ls (iSub x_1 1))) (q2 (rGet ls (iSub x_1 1))) (q3 (rGet ls (iSub x_1 1))) (q0 (rGet ls x_1)) (q1 (rGet ls x_1)) (q2 (rGet ls x_1)) (q3 (rGet ls x_1)) < 0)) = false → (m58_0 ns ls x x_1)) ∧ (bNot (decide (Sp.lcmp (q0 (rGet ls (iSub x_1 1))) (q1 (rGet ls (iSub x_1 1))) (q2 (rGet ls (iSub x_1 1))) (q3 (rGet ls (iSub x_1 1))) (q0 (rGet ls x_1)) (q1 (rGet ls x_1)) (q2 (rGet ls x_1)) (q3 (rGet ls x_1)) < 0)) = true → (m58_2 ns ls))))) ∧ (bLt 0 x_1 = false → (m58_0 ns ls x x_1))) ∧ (bNot (Sp.ends ns (q0 (rGet ls x_1)) (q1 (rGet ls x_1)) (q2 (rGet ls x_1)) (q3 (rGet ls x_1))) = true → (m58_2 ns ls))))) ∧ (bLt x_1 (iLen ls) = false → ((∀ (x : List C), x ∈ ns → 1 ≤ Sp.c0 x) ∧ pLe (↑ns.length) 1000000) ∧ (((WL [.int .i64] (Sp.ord ns ls))) → pLe (iLen (Sp.ord ns ls)) 9223372036854775807 → pLe (iLen ns) 9223372036854775807 → (bEq (iLen (Sp.ord ns ls)) (iLen ns) = Sp.vld ns ls ∧ True) ∧ True))))) ∧ (bLt 64 (iLen ns) = true → (m58_2 ns ls))) := by kernel_rfl
theorem v58 (ns : List (List C)) (ls : List (List C)) : Holds (Wfs [.agg [.sl [.int .i64, .int .i64, .int .i64, .int .i64] ns, .sl [.int .i64, .int .i64, .int .i64, .int .i64] ls]] → True → B58 ns ls) := by
 refine ⟨fun hw hp => ?_⟩
 rw [e58]
 delta WL q0 q1 q2 q3 m58_1 m58_2 m58_0
 simp only [Wfs, Wf, InR, and_true] at hw
 simp only [eq_self, true_and, and_true, true_implies, implies_true, iAdd, iSub, iMul, iLen, bEq, bNe, bLt, bLe, bNot, pIn, pLe, pNe, InR, decide_eq_true_eq, decide_eq_false_iff_not, Bool.not_eq_true', Bool.not_eq_false', decide_eq_decide]
 intro hnl
 have L0 : ¬ (ns.length ≤ 64 ∧ ls.length ≤ 256) → false = Sp.vld ns ls := fun h => (Sp.vld_len h).symm
 refine ⟨fun h64 hll => ⟨fun h => L0 (by omega), fun h256 _ => ⟨⟨0, Sp.aI_init, rfl⟩, fun x hx hx1 => ⟨fun hlt => ⟨⟨hx.1, hlt⟩, fun _ => ?_⟩, fun hge _ => ⟨⟨0, Sp.aI_init, rfl⟩, fun y hy hy1 => ⟨fun hlt => ⟨⟨hy.1, hlt⟩, fun _ => ?_⟩, fun hye => ?_⟩⟩⟩⟩⟩, fun h => L0 (by omega)⟩
 · have x0 := hx.1
   have hN : Sp.nokI ns x = (Sp.fine ((rGet ns x).headD default).int ((rGet ns x).tail.headD default).int ((rGet ns x).tail.tail.headD default).int ((rGet ns x).tail.tail.tail.headD default).int && (decide (x ≤ 0) || decide (((rGet ns (x - 1)).headD default).int < ((rGet ns x).headD default).int))) := rfl
   have F : Sp.nokI ns x = false → false = Sp.vld ns ls := fun h => (Sp.vld_n (Sp.allI_no x0 hlt h)).symm
   have S : Sp.nokI ns x = true → (-9223372036854775808 ≤ x + 1 ∧ x + 1 ≤ 9223372036854775807) ∧ ∃ y, Sp.aI (Sp.nokI ns) ns.length y ∧ x + 1 = y ∧ ns.length - y.toNat < ns.length - x.toNat := fun h => ⟨by omega, x + 1, Sp.aI_step hx hlt h, rfl, by omega⟩
   refine ⟨fun hf => ⟨fun h0 => ⟨by omega, ⟨by omega, by omega⟩, fun _ => ⟨fun hle => F (by rw [hN, decide_eq_false (by omega), decide_eq_false (by omega)]; simp), fun hle => S (by rw [hN, hf, decide_eq_true (show ((rGet ns (x - 1)).headD default).int < ((rGet ns x).headD default).int by omega)]; simp)⟩⟩, fun h0 => S (by rw [hN, hf, decide_eq_true (show x ≤ 0 by omega)]; rfl)⟩, fun hf => F (by rw [hN, hf]; rfl)⟩
 · have hA := Sp.aI_end hx hge
   have y0 := hy.1
   have hL : Sp.lokI ns ls y = (Sp.ends ns ((rGet ls y).headD default).int ((rGet ls y).tail.headD default).int ((rGet ls y).tail.tail.headD default).int ((rGet ls y).tail.tail.tail.headD default).int &&
    (decide (y ≤ 0) || decide (Sp.lcmp ((rGet ls (y - 1)).headD default).int ((rGet ls (y - 1)).tail.headD default).int ((rGet ls (y - 1)).tail.tail.headD default).int ((rGet ls (y - 1)).tail.tail.tail.headD default).int ((rGet ls y).headD default).int ((rGet ls y).tail.headD default).int ((rGet ls y).tail.tail.headD default).int ((rGet ls y).tail.tail.tail.headD default).int < 0)) &&
    !decide (0 ≤ Sp.idx (Sp.cl ns ((rGet ls y).headD default).int ((rGet ls y).tail.headD default).int ((rGet ls y).tail.tail.headD default).int ((rGet ls y).tail.tail.tail.headD default).int) (ls.take y.toNat) 0)) := rfl
   have F : Sp.lokI ns ls y = false → false = Sp.vld ns ls := fun h => (Sp.vld_l (Sp.allI_no y0 hlt h)).symm
   have S : Sp.lokI ns ls y = true → (-9223372036854775808 ≤ y + 1 ∧ y + 1 ≤ 9223372036854775807) ∧ ∃ q, Sp.aI (Sp.lokI ns ls) ls.length q ∧ y + 1 = q ∧ ls.length - q.toNat < ls.length - y.toNat := fun h => ⟨by omega, y + 1, Sp.aI_step hy hlt h, rfl, by omega⟩
   have cu : cutRows ls none (some y) = ls.take y.toNat := rfl
   rw [cu]
   refine ⟨fun hf => ⟨fun h0 => ⟨by omega, ⟨by omega, by omega⟩, fun _ => ⟨fun hl => ⟨⟨by omega, by omega⟩, fun hc => F (by rw [hL, decide_eq_true hc]; simp), fun hc => S (by rw [hL, hf, decide_eq_false hc, decide_eq_true hl]; simp)⟩, fun hl => F (by rw [hL, decide_eq_false hl, decide_eq_false (show ¬ y ≤ 0 by omega)]; simp)⟩⟩, fun h0 => ⟨⟨by omega, by omega⟩, fun hc => F (by rw [hL, decide_eq_true hc]; simp), fun hc => S (by rw [hL, hf, decide_eq_false hc, decide_eq_true (show y ≤ 0 by omega)]; simp)⟩⟩, fun hf => F (by rw [hL, hf]; rfl)⟩
 · have hA := Sp.aI_end hx hge
   have hB := Sp.aI_end hy hye
   exact ⟨⟨Sp.nok_fine hA, by omega⟩, by rw [← Sp.vld_o (by omega) hA hB]; intro _ _ _; rw [decide_eq_decide]; omega⟩
theorem s58 : SoundCt Go.Proofs.Tryz.prog 58 ct58 :=
 contractH followsMixed (look_sound (show Tb Go.Proofs.Tryz.prog tb58 from ⟨s76, ⟨s77, ⟨s78, ⟨s79, ⟨s59, trivial⟩⟩⟩⟩⟩)) (fun _ => false) (fun a => A58 ((cel 0 (arg 0 a)).list) ((cel 1 (arg 0 a)).list)) 6 58 ct58 rfl (by simp [ct58]) fun a => Eq.mp (by kernel_rfl) (v58 ((cel 0 (arg 0 a)).list) ((cel 1 (arg 0 a)).list))
end Go.Sx
namespace Go.Sx
def ct83 : Ct := { ps := [(true, [.sl [.int .i64, .int .i64, .int .i64, .int .i64], .sl [.int .i64, .int .i64, .int .i64, .int .i64]])], rs := [(false, [.bool])], pre := fun _ => True, out := fun a => [[.b (Sp.vld (cel 0 (arg 0 a)).list (cel 1 (arg 0 a)).list)]] }
def tb83 : List (Nat × Ct) := [(94, ct94), (97, ct97), (99, ct99)]
def A83 (ns : List (List C)) (ls : List (List C)) : FuncId → Nat → LoopAnn := fun ff ii => bif Nat.beq ff 95 then (.on (fun sv0 => match sv0.tmps.getD 8 .undef, sv0.tmps.getD 3 .undef with | .sl _ nq, .own mk0 _ => .inv (Int × List (Int × List C)) (fun z => Sp.mI nq z.1 z.2) (fun z => [(10, .int .i64 z.1)]) (fun z => [(mk0, .mp .i64 true [.int .i64, .int .i64, .int .i64, .int .i64] 0 z.2)]) [mk0] [0, 1, 2, 3, 5, 8, 9, 10, 11] (fun z => nq.length - z.1.toNat) | _, _ => .unroll 0)) else bif Nat.beq ii 4 then .inv (Int) (fun z => Sp.aI (Sp.nokI ns) ns.length z) (fun z => [(23, .int .i64 z)]) (fun z => []) [] [0, 1, 2, 3, 4, 5, 6, 7, 9, 19, 21, 22, 23, 24, 46, 51, 52, 53, 54, 76, 80, 81, 82, 83, 89] (fun z => ns.length - z.toNat) else bif Nat.beq ii 11 then .inv (Int) (fun z => Sp.aI (Sp.lokI ns ls) ls.length z) (fun z => [(53, .int .i64 z)]) (fun z => []) [] [0, 1, 2, 3, 4, 5, 6, 7, 9, 19, 21, 22, 23, 24, 46, 51, 52, 53, 54, 76, 80, 81, 82, 83, 89] (fun z => ls.length - z.toNat) else bif Nat.beq ii 16 then .on (fun sv0 => match sv0.tmps.getD 80 .undef, sv0.tmps.getD 7 .undef with | .sl _ xq, .ref b7 _ => (match sv0.heap[b7]? with | some (.box [.int _ b0, .int _ b1, .int _ b2, .int _ b3] _) => .inv (Int) (fun z => Sp.at (Sp.cl ns b0 b1 b2 b3) xq z) (fun z => [(82, .int .i64 z)]) (fun z => []) [] [0, 1, 2, 3, 4, 5, 6, 7, 9, 19, 21, 22, 23, 24, 46, 51, 52, 53, 54, 76, 80, 81, 82, 83, 89] (fun z => xq.length - z.toNat) | _ => .unroll 0) | _, _ => .unroll 0) else .unroll 0
abbrev B83 (ns : List (List C)) (ls : List (List C)) : Prop := vcF Go.Proofs.Tryz.prog (look tb83) (fun _ => false) (A83 ns ls) 8 83 [.agg [.sl [.int .i64, .int .i64, .int .i64, .int .i64] ns, .sl [.int .i64, .int .i64, .int .i64, .int .i64] ls]] [] (fun sv heap => Gives [(false, [.bool])] [[.b (Sp.vld ns ls)]] sv heap)
def h83_0 : List (List C) → List (List C) → List SV := fun (ns ls : List (List C)) => [SV.agg [SV.sl [.int .i64, .int .i64, .int .i64, .int .i64] ns, SV.sl [.int .i64, .int .i64, .int .i64, .int .i64] ls], SV.ref 0 0, SV.undef, SV.undef, SV.undef, SV.undef, SV.blit false, SV.sl [.int .i64, .int .i64, .int .i64, .int .i64] ns, SV.int .i64 (iLen ns), SV.undef, SV.undef, SV.undef, SV.undef, SV.undef, SV.undef, SV.undef, SV.undef, SV.undef, SV.undef]
def h83_1 : List (List C) → List (List C) → List SV := fun (ns ls : List (List C)) => [SV.agg [SV.sl [.int .i64, .int .i64, .int .i64, .int .i64] ns, SV.sl [.int .i64, .int .i64, .int .i64, .int .i64] ls], SV.ref 1 0, SV.any, SV.own 2 0, SV.sl [.int .i64, .int .i64, .int .i64, .int .i64] ns, SV.int .i64 (iLen ns)]
def h83_2 : List (List C) → List (List C) → List HB := fun (ns ls : List (List C)) => [HB.box [SV.sl [.int .i64, .int .i64, .int .i64, .int .i64] ns, SV.sl [.int .i64, .int .i64, .int .i64, .int .i64] ls] 50, HB.box [SV.sl [.int .i64, .int .i64, .int .i64, .int .i64] ns, SV.sl [.int .i64, .int .i64, .int .i64, .int .i64] ls] 50, HB.gone]
def h83_3 : List (List C) → List (List C) → Int → Int → List SV := fun (ns ls : List (List C)) (x x_1 : Int) => [SV.agg [SV.sl [.int .i64, .int .i64, .int .i64, .int .i64] ns, SV.sl [.int .i64, .int .i64, .int .i64, .int .i64] ls], SV.ref 0 0, SV.any, SV.any, SV.own 2 0, SV.int .i64 x_1, SV.ref 3 0, SV.blit false, SV.sl [.int .i64, .int .i64, .int .i64, .int .i64] ns, SV.int .i64 (iLen ns), SV.int .i64 x, SV.blit false, SV.any, SV.sl [.int .i64, .int .i64, .int .i64, .int .i64] ls, SV.int .i64 (iLen ls), SV.int .i64 x_1, SV.blit true, SV.blit false, SV.sl [.int .i64, .int .i64, .int .i64, .int .i64] (cutRows ls none (some x_1)), SV.int .i64 (iLen (cutRows ls none (some x_1)))]
def h83_4 : List (List C) → List (List C) → Int × List (Int × List C) → Int → List HB := fun (ns ls : List (List C)) (x : Int × List (Int × List C)) (x_1 : Int) => [HB.box [SV.sl [.int .i64, .int .i64, .int .i64, .int .i64] ns, SV.sl [.int .i64, .int .i64, .int .i64, .int .i64] ls] 50, HB.box [SV.sl [.int .i64, .int .i64, .int .i64, .int .i64] ns, SV.sl [.int .i64, .int .i64, .int .i64, .int .i64] ls] 50, HB.mp .i64 true [Sh.int .i64, Sh.int .i64, Sh.int .i64, Sh.int .i64] 0 x.2, HB.box [SV.int .i64 ((rGet ls x_1).headD default).int, SV.int .i64 ((rGet ls x_1).tail.headD default).int, SV.int .i64 ((rGet ls x_1).tail.tail.headD default).int, SV.int .i64 ((rGet ls x_1).tail.tail.tail.headD default).int] 76, HB.box [SV.int .i64 ((rGet ls x_1).headD default).int, SV.int .i64 ((rGet ls x_1).tail.headD default).int, SV.int .i64 ((rGet ls x_1).tail.tail.headD default).int, SV.int .i64 ((rGet ls x_1).tail.tail.tail.headD default).int] 76]
def h83_5 : List (List C) → List (List C) → Int → List SV := fun (ns ls : List (List C)) (x : Int) => [SV.agg [SV.sl [.int .i64, .int .i64, .int .i64, .int .i64] ns, SV.sl [.int .i64, .int .i64, .int .i64, .int .i64] ls], SV.ref 0 0, SV.any, SV.any, SV.own 2 0, SV.blit false, SV.sl [.int .i64, .int .i64, .int .i64, .int .i64] ns, SV.int .i64 (iLen ns), SV.int .i64 x, SV.blit false, SV.any, SV.sl [.int .i64, .int .i64, .int .i64, .int .i64] ls, SV.int .i64 (iLen ls)]
def h83_6 : List (List C) → List (List C) → Int × List (Int × List C) → List HB := fun (ns ls : List (List C)) (x : Int × List (Int × List C)) => [HB.box [SV.sl [.int .i64, .int .i64, .int .i64, .int .i64] ns, SV.sl [.int .i64, .int .i64, .int .i64, .int .i64] ls] 50, HB.box [SV.sl [.int .i64, .int .i64, .int .i64, .int .i64] ns, SV.sl [.int .i64, .int .i64, .int .i64, .int .i64] ls] 50, HB.mp .i64 true [Sh.int .i64, Sh.int .i64, Sh.int .i64, Sh.int .i64] 0 x.2]
def m83_3 (ls : List (List C)) (x_2 : Int) (x_3 : Int) : List C := (rGet (cutRows ls none (some x_2)) x_3)
def m83_4 (ns : List (List C)) (ls : List (List C)) : Prop := (false = Sp.vld ns ls ∧ True) ∧ True
def m83_5 (ls : List (List C)) (x_2 : Int) : Int := (Sp.lcmp (q0 (rGet ls (iSub x_2 1))) (q1 (rGet ls (iSub x_2 1))) (q2 (rGet ls (iSub x_2 1))) (q3 (rGet ls (iSub x_2 1))) (q0 (rGet ls x_2)) (q1 (rGet ls x_2)) (q2 (rGet ls x_2)) (q3 (rGet ls x_2)))
def m83_6 (ns : List (List C)) (ls : List (List C)) (x : Int) : Prop := InR .i64 (iAdd x 1) ∧ (true = true ∧ h83_0 ns ls = h83_0 ns ls) ∧ (fun z => z = z) [HB.box [SV.sl [.int .i64, .int .i64, .int .i64, .int .i64] ns, SV.sl [.int .i64, .int .i64, .int .i64, .int .i64] ls] 50] ∧ ∃ (y : Int), Sp.aI (Sp.nokI ns) ns.length y ∧ true = true ∧ ((IntKind.i64 = IntKind.i64 ∧ iAdd x 1 = y) ∧ True) ∧ True ∧ ns.length - y.toNat < ns.length - x.toNat
def m83_7 (ls : List (List C)) (x_1 : Int × List (Int × List C)) (x_2 : Int) (x_3 : Int) : Int := (q1 (kGet x_1.2 (q2 (m83_3 ls x_2 x_3)) [C.i 0, C.i 0, C.i 0, C.i 0]))
def m83_8 (ls : List (List C)) (x_2 : Int) (x_3 : Int) : Int := (q0 (rGet (cutRows ls none (some x_2)) x_3))
def m83_9 : Prop := IntKind.i64 = IntKind.i64
def m83_1 (ns : List (List C)) (ls : List (List C)) (x : Int) (x_1 : Int × List (Int × List C)) (x_2 : Int) (x_3 : Int) : Prop := InR .i64 (iAdd x_3 1) ∧ (true = true ∧ h83_3 ns ls x x_2 = h83_3 ns ls x x_2) ∧ h83_4 ns ls x_1 x_2 = h83_4 ns ls x_1 x_2 ∧ ∃ (y : Int), Sp.at (Sp.cl ns (q0 (rGet ls x_2)) (q1 (rGet ls x_2)) (q2 (rGet ls x_2)) (q3 (rGet ls x_2))) (cutRows ls none (some x_2)) y ∧ true = true ∧ ((m83_9 ∧ iAdd x_3 1 = y) ∧ True) ∧ True ∧ (cutRows ls none (some x_2)).length - y.toNat < (cutRows ls none (some x_2)).length - x_3.toNat
def m83_10 (ls : List (List C)) (x_1 : Int × List (Int × List C)) (x_2 : Int) (x_3 : Int) : Int := (q1 (kGet x_1.2 (q0 (m83_3 ls x_2 x_3)) [C.i 0, C.i 0, C.i 0, C.i 0]))
def m83_11 (ls : List (List C)) (x_1 : Int × List (Int × List C)) (x_2 : Int) (x_3 : Int) : Int := (q1 (kGet x_1.2 (m83_8 ls x_2 x_3) [C.i 0, C.i 0, C.i 0, C.i 0]))
def m83_2 (ns : List (List C)) (ls : List (List C)) (x : Int) (x_1 : Int × List (Int × List C)) (x_2 : Int) (x_3 : Int) : Prop := (bEq (m83_8 ls x_2 x_3) (q0 (rGet ls x_2)) = true → (bEq (q1 (rGet (cutRows ls none (some x_2)) x_3)) (q1 (rGet ls x_2)) = true → InR .i64 (q0 (kGet x_1.2 (m83_8 ls x_2 x_3) [C.i 0, C.i 0, C.i 0, C.i 0])) ∧ InR .i64 (m83_11 ls x_1 x_2 x_3) ∧ InR .i64 (q2 (kGet x_1.2 (m83_8 ls x_2 x_3) [C.i 0, C.i 0, C.i 0, C.i 0])) ∧ InR .i64 (q3 (kGet x_1.2 (m83_8 ls x_2 x_3) [C.i 0, C.i 0, C.i 0, C.i 0])) ∧ True → (bNe (m83_11 ls x_1 x_2 x_3) 5 = true → InR .i64 (q0 (kGet x_1.2 (m83_8 ls x_2 x_3) [C.i 0, C.i 0, C.i 0, C.i 0])) ∧ InR .i64 (m83_11 ls x_1 x_2 x_3) ∧ InR .i64 (q2 (kGet x_1.2 (m83_8 ls x_2 x_3) [C.i 0, C.i 0, C.i 0, C.i 0])) ∧ InR .i64 (q3 (kGet x_1.2 (m83_8 ls x_2 x_3) [C.i 0, C.i 0, C.i 0, C.i 0])) ∧ True → (bNe (m83_11 ls x_1 x_2 x_3) 1 = true → (m83_4 ns ls)) ∧ (bNe (m83_11 ls x_1 x_2 x_3) 1 = false → (m83_1 ns ls x x_1 x_2 x_3))) ∧ (bNe (m83_11 ls x_1 x_2 x_3) 5 = false → (m83_1 ns ls x x_1 x_2 x_3))) ∧ (bEq (q1 (rGet (cutRows ls none (some x_2)) x_3)) (q1 (rGet ls x_2)) = false → (m83_1 ns ls x x_1 x_2 x_3))) ∧ (bEq (m83_8 ls x_2 x_3) (q0 (rGet ls x_2)) = false → (m83_1 ns ls x x_1 x_2 x_3))
def m83_0 (ns : List (List C)) (ls : List (List C)) (x : Int) (x_1 : Int × List (Int × List C)) (x_2 : Int) (x_3 : Int) : Prop := Sp.at (Sp.cl ns (q0 (rGet ls x_2)) (q1 (rGet ls x_2)) (q2 (rGet ls x_2)) (q3 (rGet ls x_2))) (cutRows ls none (some x_2)) x_3 → InR .i64 x_3 ∧ True → True → (bLt x_3 (iLen (cutRows ls none (some x_2))) = true → pIn 0 (iLen (cutRows ls none (some x_2))) x_3 ∧ (InR .i64 (q0 (m83_3 ls x_2 x_3)) ∧ InR .i64 (q1 (m83_3 ls x_2 x_3)) ∧ InR .i64 (q2 (m83_3 ls x_2 x_3)) ∧ InR .i64 (q3 (m83_3 ls x_2 x_3)) ∧ True → (bEq (q2 (m83_3 ls x_2 x_3)) (q2 (rGet ls x_2)) = true → (bEq (q3 (m83_3 ls x_2 x_3)) (q3 (rGet ls x_2)) = true → InR .i64 (q0 (kGet x_1.2 (q2 (m83_3 ls x_2 x_3)) [C.i 0, C.i 0, C.i 0, C.i 0])) ∧ InR .i64 (m83_7 ls x_1 x_2 x_3) ∧ InR .i64 (q2 (kGet x_1.2 (q2 (m83_3 ls x_2 x_3)) [C.i 0, C.i 0, C.i 0, C.i 0])) ∧ InR .i64 (q3 (kGet x_1.2 (q2 (m83_3 ls x_2 x_3)) [C.i 0, C.i 0, C.i 0, C.i 0])) ∧ True → (bEq (q0 (m83_3 ls x_2 x_3)) (q0 (rGet ls x_2)) = true → (bEq (q1 (m83_3 ls x_2 x_3)) (q1 (rGet ls x_2)) = true → InR .i64 (q0 (kGet x_1.2 (q0 (m83_3 ls x_2 x_3)) [C.i 0, C.i 0, C.i 0, C.i 0])) ∧ InR .i64 (m83_10 ls x_1 x_2 x_3) ∧ InR .i64 (q2 (kGet x_1.2 (q0 (m83_3 ls x_2 x_3)) [C.i 0, C.i 0, C.i 0, C.i 0])) ∧ InR .i64 (q3 (kGet x_1.2 (q0 (m83_3 ls x_2 x_3)) [C.i 0, C.i 0, C.i 0, C.i 0])) ∧ True → (bNe (m83_10 ls x_1 x_2 x_3) 5 = true → InR .i64 (q0 (kGet x_1.2 (q0 (m83_3 ls x_2 x_3)) [C.i 0, C.i 0, C.i 0, C.i 0])) ∧ InR .i64 (m83_10 ls x_1 x_2 x_3) ∧ InR .i64 (q2 (kGet x_1.2 (q0 (m83_3 ls x_2 x_3)) [C.i 0, C.i 0, C.i 0, C.i 0])) ∧ InR .i64 (q3 (kGet x_1.2 (q0 (m83_3 ls x_2 x_3)) [C.i 0, C.i 0, C.i 0, C.i 0])) ∧ True → (bNe (m83_7 ls x_1 x_2 x_3) 3 = false → (bNe (m83_10 ls x_1 x_2 x_3) 1 = true → (m83_4 ns ls)) ∧ (bNe (m83_10 ls x_1 x_2 x_3) 1 = false → (m83_1 ns ls x x_1 x_2 x_3))) ∧ (bNe (m83_7 ls x_1 x_2 x_3) 3 = true → (m83_4 ns ls))) ∧ (bNe (m83_10 ls x_1 x_2 x_3) 5 = false → (bNe (m83_7 ls x_1 x_2 x_3) 3 = false → (m83_1 ns ls x x_1 x_2 x_3)) ∧ (bNe (m83_7 ls x_1 x_2 x_3) 3 = true → (m83_4 ns ls)))) ∧ (bEq (q1 (m83_3 ls x_2 x_3)) (q1 (rGet ls x_2)) = false → (bNe (m83_7 ls x_1 x_2 x_3) 3 = false → (m83_1 ns ls x x_1 x_2 x_3)) ∧ (bNe (m83_7 ls x_1 x_2 x_3) 3 = true → (m83_4 ns ls)))) ∧ (bEq (q0 (m83_3 ls x_2 x_3)) (q0 (rGet ls x_2)) = false → (bNe (m83_7 ls x_1 x_2 x_3) 3 = false → (m83_1 ns ls x x_1 x_2 x_3)) ∧ (bNe (m83_7 ls x_1 x_2 x_3) 3 = true → (m83_4 ns ls)))) ∧ (bEq (q3 (m83_3 ls x_2 x_3)) (q3 (rGet ls x_2)) = false → (m83_2 ns ls x x_1 x_2 x_3))) ∧ (bEq (q2 (m83_3 ls x_2 x_3)) (q2 (rGet ls x_2)) = false → (m83_2 ns ls x x_1 x_2 x_3)))) ∧ (bLt x_3 (iLen (cutRows ls none (some x_2))) = false → InR .i64 (iAdd x_2 1) ∧ (true = true ∧ h83_5 ns ls x = h83_5 ns ls x) ∧ h83_6 ns ls x_1 = h83_6 ns ls x_1 ∧ ∃ (y : Int), Sp.aI (Sp.lokI ns ls) ls.length y ∧ true = true ∧ ((m83_9 ∧ iAdd x_2 1 = y) ∧ True) ∧ True ∧ ls.length - y.toNat < ls.length - x_2.toNat)
theorem e83 (ns : List (List C)) (ls : List (List C)) : B83 ns ls = (pLe (iLen ns) 9223372036854775807 → (bLt 64 (iLen ns) = false → pLe (iLen ls) 9223372036854775807 → (bLt 256 (iLen ls) = true → (m83_4 ns ls)) ∧ (bLt 256 (iLen ls) = false → pLe (iLen ns) 9223372036854775807 → (∃ (x : Int), Sp.aI (Sp.nokI ns) ns.length x ∧ true = true ∧ ((m83_9 ∧ 0 = x) ∧ True) ∧ True) ∧ (∀ (x : Int), true = true ∧ true = true) ∧ ∀ (x : Int), Sp.aI (Sp.nokI ns) ns.length x → InR .i64 x ∧ True → True → (bLt x (iLen ns) = true → pIn 0 (iLen ns) x ∧ (InR .i64 (q0 (rGet ns x)) ∧ InR .i64 (q1 (rGet ns x)) ∧ InR .i64 (q2 (rGet ns x)) ∧ InR .i64 (q3 (rGet ns x)) ∧ True → True ∧ (True → True ∧ (bNot (Sp.fine (q0 (rGet ns x)) (q1 (rGet ns x)) (q2 (rGet ns x)) (q3 (rGet ns x))) = false → (bLt 0 x = true → InR .i64 (iSub x 1) ∧ pIn 0 (iLen ns) (iSub x 1) ∧ (InR .i64 (q0 (rGet ns (iSub x 1))) → (bLe (q0 (rGet ns x)) (q0 (rGet ns (iSub x 1))) = true → (m83_4 ns ls)) ∧ (bLe (q0 (rGet ns x)) (q0 (rGet ns (iSub x 1))) = false → (m83_6 ns ls x)))) ∧ (bLt 0 x = false → (m83_6 ns ls x))) ∧ (bNot (Sp.fine (q0 (rGet ns x)) (q1 (rGet ns x)) (q2 (rGet ns x)) (q3 (rGet ns x))) = true → (m83_4 ns ls))))) ∧ (bLt x (iLen ns) = false → pLe (iLen ns) 9223372036854775807 → (∃ (x : Int × List (Int × List C)), Sp.mI ns x.1 x.2 ∧ true = true ∧ ((m83_9 ∧ 0 = x.1) ∧ True) ∧ (m83_9 ∧ true = true ∧ [Sh.int .i64] ++ ([Sh.int .i64] ++ ([Sh.int .i64] ++ ([Sh.int .i64] ++ []))) = [Sh.int .i64, Sh.int .i64, Sh.int .i64, Sh.int .i64] ∧ 0 = 0 ∧ [] = x.2) ∧ True) ∧ (∀ (x : Int × List (Int × List C)), true = true ∧ true = true) ∧ ∀ (x_1 : Int × List (Int × List C)), Sp.mI ns x_1.1 x_1.2 → InR .i64 x_1.1 ∧ True → (∀ (x : Int × List C), x ∈ x_1.2 → WfCs [.int .i64, .int .i64, .int .i64, .int .i64] x.2) ∧ True → (bLt x_1.1 (iLen ns) = true → pIn 0 (iLen ns) x_1.1 ∧ (InR .i64 (q0 (rGet ns x_1.1)) ∧ InR .i64 (q1 (rGet ns x_1.1)) ∧ InR .i64 (q2 (rGet ns x_1.1)) ∧ InR .i64 (q3 (rGet ns x_1.1)) ∧ True → InR .i64 (iAdd x_1.1 1) ∧ (true = true ∧ h83_1 ns ls = h83_1 ns ls) ∧ h83_2 ns ls = h83_2 ns ls ∧ ∃ (y : Int × List (Int × List C)), Sp.mI ns y.1 y.2 ∧ true = true ∧ ((m83_9 ∧ iAdd x_1.1 1 = y.1) ∧ True) ∧ ((m83_9 ∧ true = true ∧ [Sh.int .i64] ++ ([Sh.int .i64] ++ ([Sh.int .i64] ++ ([Sh.int .i64] ++ []))) = [Sh.int .i64, Sh.int .i64, Sh.int .i64, Sh.int .i64] ∧ 0 = 0 ∧ kPut x_1.2 (q0 (rGet ns x_1.1)) [C.i (q0 (rGet ns x_1.1)), C.i (q1 (rGet ns x_1.1)), C.i (q2 (rGet ns x_1.1)), C.i (q3 (rGet ns x_1.1))] = y.2) ∧ True) ∧ ns.length - y.1.toNat < ns.length - x_1.1.toNat)) ∧ (bLt x_1.1 (iLen ns) = false → pLe (iLen ls) 9223372036854775807 → (∃ (x : Int), Sp.aI (Sp.lokI ns ls) ls.length x ∧ true = true ∧ ((m83_9 ∧ 0 = x) ∧ True) ∧ True) ∧ (∀ (x : Int), true = true ∧ true = true) ∧ ∀ (x_2 : Int), Sp.aI (Sp.lokI ns ls) ls.length x_2 → InR .i64 x_2 ∧ True → True → (bLt x_2 (iLen ls) = true → pIn 0 (iLen ls) x_2 ∧ (InR .i64 (q0 (rGet ls x_2)) ∧ InR .i64 (q1 (rGet ls x_2)) ∧ InR .i64 (q2 (rGet ls x_2)) ∧ InR .i64 (q3 (rGet ls x_2)) ∧ True → (bLe 0 (q1 (rGet ls x_2)) = true → InR .i64 (q0 (kGet x_1.2 (q0 (rGet ls x_2)) [C.i 0, C.i 0, C.i 0, C.i 0])) ∧ InR .i64 (q1 (kGet x_1.2 (q0 (rGet ls x_2)) [C.i 0, C.i 0, C.i 0, C.i 0])) ∧ InR .i64 (q2 (kGet x_1.2 (q0 (rGet ls x_2)) [C.i 0, C.i 0, C.i 0, C.i 0])) ∧ InR .i64 (q3 (kGet x_1.2 (q0 (rGet ls x_2)) [C.i 0, C.i 0, C.i 0, C.i 0])) ∧ True → (bLt (q1 (rGet ls x_2)) (q3 (kGet x_1.2 (q0 (rGet ls x_2)) [C.i 0, C.i 0, C.i 0, C.i 0])) = true → (bLe 0 (q3 (rGet ls x_2)) = true → InR .i64 (q0 (kGet x_1.2 (q2 (rGet ls x_2)) [C.i 0, C.i 0, C.i 0, C.i 0])) ∧ InR .i64 (q1 (kGet x_1.2 (q2 (rGet ls x_2)) [C.i 0, C.i 0, C.i 0, C.i 0])) ∧ InR .i64 (q2 (kGet x_1.2 (q2 (rGet ls x_2)) [C.i 0, C.i 0, C.i 0, C.i 0])) ∧ InR .i64 (q3 (kGet x_1.2 (q2 (rGet ls x_2)) [C.i 0, C.i 0, C.i 0, C.i 0])) ∧ True → True ∧ (bNot (bLt (q3 (rGet ls x_2)) (q2 (kGet x_1.2 (q2 (rGet ls x_2)) [C.i 0, C.i 0, C.i 0, C.i 0]))) = false → (bLt 0 x_2 = true → InR .i64 (iSub x_2 1) ∧ pIn 0 (iLen ls) (iSub x_2 1) ∧ (InR .i64 (q0 (rGet ls (iSub x_2 1))) ∧ InR .i64 (q1 (rGet ls (iSub x_2 1))) ∧ InR .i64 (q2 (rGet ls (iSub x_2 1))) ∧ InR .i64 (q3 (rGet ls (iSub x_2 1))) ∧ True → True ∧ (InR .i64 (m83_5 ls x_2) → (bLe 0 (m83_5 ls x_2) = true → (m83_4 ns ls)) ∧ (bLe 0 (m83_5 ls x_2) = false → geB none (some x_2) (iLen ls) ∧ (pLe (iLen (cutRows ls none (some x_2))) 9223372036854775807 → (∃ (x : Int), Sp.at (Sp.cl ns (q0 (rGet ls x_2)) (q1 (rGet ls x_2)) (q2 (rGet ls x_2)) (q3 (rGet ls x_2))) (cutRows ls none (some x_2)) x ∧ true = true ∧ ((m83_9 ∧ 0 = x) ∧ True) ∧ True) ∧ (∀ (x : Int), true = true ∧ true = true) ∧ ∀ (x_3 : Int), (m83_0 ns ls x x_1 x_2 x_3)))))) ∧ (bLt 0 x_2 = false → geB none (some x_2) (iLen ls) ∧ (pLe (iLen (cutRows ls none (some x_2))) 9223372036854775807 → (∃ (x : Int), Sp.at (Sp.cl ns (q0 (rGet ls x_2)) (q1 (rGet ls x_2)) (q2 (rGet ls x_2)) (q3 (rGet ls x_2))) (cutRows ls none (some x_2)) x ∧ true = true ∧ ((m83_9 ∧ 0 = x) ∧ True) ∧ True) ∧ (∀ (x : Int), true = true ∧ true = true) ∧ ∀ (x_3 : Int), (m83_0 ns ls x x_1 x_2 x_3)))) ∧ (bNot (bLt (q3 (rGet ls x_2)) (q2 (kGet x_1.2 (q2 (rGet ls x_2)) [C.i 0, C.i 0, C.i 0, C.i 0]))) = true → (m83_4 ns ls))) ∧ (bLe 0 (q3 (rGet ls x_2)) = false → True ∧ (m83_4 ns ls))) ∧ (bLt (q1 (rGet ls x_2)) (q3 (kGet x_1.2 (q0 (rGet ls x_2)) [C.i 0, C.i 0, C.i 0, C.i 0])) = false → True ∧ (m83_4 ns ls))) ∧ (bLe 0 (q1 (rGet ls x_2)) = false → True ∧ (m83_4 ns ls)))) ∧ (bLt x_2 (iLen ls) = false → (pLe (↑ns.length) 1000000 ∧ True) ∧ (((WL [.int .i64] (Sp.ord ns ls))) → pLe (iLen (Sp.ord ns ls)) 9223372036854775807 → pLe (iLen ns) 9223372036854775807 → (bEq (iLen (Sp.ord ns ls)) (iLen ns) = Sp.vld ns ls ∧ True) ∧ True)))))) ∧ (bLt 64 (iLen ns) = true → (m83_4 ns ls))) := by kernel_rfl
theorem v83 (ns : List (List C)) (ls : List (List C)) : Holds (Wfs [.agg [.sl [.int .i64, .int .i64, .int .i64, .int .i64] ns, .sl [.int .i64, .int .i64, .int .i64, .int .i64] ls]] → True → B83 ns ls) := by
 refine ⟨fun hw hp => ?_⟩
 rw [e83]
 delta WL q0 q1 q2 q3 m83_3 m83_4 m83_5 m83_6 m83_7 m83_8 m83_9 m83_1 m83_10 m83_11 m83_2 m83_0
 simp only [Wfs, Wf, InR, and_true] at hw
 simp only [eq_self, true_and, and_true, true_implies, implies_true, iAdd, iSub, iMul, iLen, bEq, bNe, bLt, bLe, bNot, pIn, pLe, pNe, InR, decide_eq_true_eq, decide_eq_false_iff_not, Bool.not_eq_true', Bool.not_eq_false', decide_eq_decide]
 intro hnl
 have L0 : ¬ (ns.length ≤ 64 ∧ ls.length ≤ 256) → false = Sp.vld ns ls := fun h => (Sp.vld_len h).symm
 refine ⟨fun h64 hll => ⟨fun h => L0 (by omega), fun h256 _ => ⟨⟨0, Sp.aI_init, rfl⟩, fun x hx hx1 => ⟨fun hlt => ⟨⟨hx.1, hlt⟩, fun _ => ?_⟩, fun hge _ => ⟨⟨(0, []), Sp.mI_init, rfl, rfl, rfl⟩, ?_⟩⟩⟩⟩, fun h => L0 (by omega)⟩
 · have x0 := hx.1
   have hN : Sp.nokI ns x = (Sp.fine ((rGet ns x).headD default).int ((rGet ns x).tail.headD default).int ((rGet ns x).tail.tail.headD default).int ((rGet ns x).tail.tail.tail.headD default).int && (decide (x ≤ 0) || decide (((rGet ns (x - 1)).headD default).int < ((rGet ns x).headD default).int))) := rfl
   have F : Sp.nokI ns x = false → false = Sp.vld ns ls := fun h => (Sp.vld_n (Sp.allI_no x0 hlt h)).symm
   have S : Sp.nokI ns x = true → (-9223372036854775808 ≤ x + 1 ∧ x + 1 ≤ 9223372036854775807) ∧ ∃ y, Sp.aI (Sp.nokI ns) ns.length y ∧ x + 1 = y ∧ ns.length - y.toNat < ns.length - x.toNat := fun h => ⟨by omega, x + 1, Sp.aI_step hx hlt h, rfl, by omega⟩
   refine ⟨fun hf => ⟨fun h0 => ⟨by omega, ⟨by omega, by omega⟩, fun _ => ⟨fun hle => F (by rw [hN, decide_eq_false (by omega), decide_eq_false (by omega)]; simp), fun hle => S (by rw [hN, hf, decide_eq_true (show ((rGet ns (x - 1)).headD default).int < ((rGet ns x).headD default).int by omega)]; simp)⟩⟩, fun h0 => S (by rw [hN, hf, decide_eq_true (show x ≤ 0 by omega)]; rfl)⟩, fun hf => F (by rw [hN, hf]; rfl)⟩
 · have hA := Sp.aI_end hx hge
   rintro ⟨i, m⟩ hm _ _
   simp only at hm ⊢
   have i0 := hm.1
   refine ⟨fun hil => ⟨⟨i0, hil⟩, fun _ => ⟨by omega, (i + 1, _), Sp.mI_step hm hil, rfl, ⟨rfl, rfl⟩, by simp only; omega⟩⟩, fun hig _ => ⟨⟨0, Sp.aI_init, rfl⟩, fun y hy hy1 => ?_⟩⟩
   have hmm := Sp.mI_end hm hig
   subst hmm
   have ci : ∀ n : Int, (C.i n).int = n := fun _ => rfl
   simp only [Sp.mkm_nd (Sp.nok_pw hA), Sp.r4, List.headD_cons, List.tail_cons, ci]
   refine ⟨fun hlt => ⟨⟨hy.1, hlt⟩, fun _ => ?_⟩, fun hye => ?_⟩
   rotate_left
   · have hB := Sp.aI_end hy hye
     refine ⟨by omega, ?_⟩
     rw [← Sp.vld_o (by omega) hA hB]; intro _ _ _; rw [decide_eq_decide]; omega
   have y0 := hy.1
   have hL : Sp.lokI ns ls y = (Sp.ends ns ((rGet ls y).headD default).int ((rGet ls y).tail.headD default).int ((rGet ls y).tail.tail.headD default).int ((rGet ls y).tail.tail.tail.headD default).int &&
    (decide (y ≤ 0) || decide (Sp.lcmp ((rGet ls (y - 1)).headD default).int ((rGet ls (y - 1)).tail.headD default).int ((rGet ls (y - 1)).tail.tail.headD default).int ((rGet ls (y - 1)).tail.tail.tail.headD default).int ((rGet ls y).headD default).int ((rGet ls y).tail.headD default).int ((rGet ls y).tail.tail.headD default).int ((rGet ls y).tail.tail.tail.headD default).int < 0)) &&
    !decide (0 ≤ Sp.idx (Sp.cl ns ((rGet ls y).headD default).int ((rGet ls y).tail.headD default).int ((rGet ls y).tail.tail.headD default).int ((rGet ls y).tail.tail.tail.headD default).int) (ls.take y.toNat) 0)) := rfl
   have F : Sp.lokI ns ls y = false → false = Sp.vld ns ls := fun h => (Sp.vld_l (Sp.allI_no y0 hlt h)).symm
   have S : Sp.lokI ns ls y = true → (-9223372036854775808 ≤ y + 1 ∧ y + 1 ≤ 9223372036854775807) ∧ ∃ q, Sp.aI (Sp.lokI ns ls) ls.length q ∧ y + 1 = q ∧ ls.length - q.toNat < ls.length - y.toNat := fun h => ⟨by omega, y + 1, Sp.aI_step hy hlt h, rfl, by omega⟩
   have hE : Sp.ends ns ((rGet ls y).headD default).int ((rGet ls y).tail.headD default).int ((rGet ls y).tail.tail.headD default).int ((rGet ls y).tail.tail.tail.headD default).int = decide (0 ≤ ((rGet ls y).tail.headD default).int ∧ ((rGet ls y).tail.headD default).int < Sp.c3 (Sp.nd ns ((rGet ls y).headD default).int) ∧ 0 ≤ ((rGet ls y).tail.tail.tail.headD default).int ∧ ((rGet ls y).tail.tail.tail.headD default).int < Sp.c2 (Sp.nd ns ((rGet ls y).tail.tail.headD default).int)) := rfl
   have cu : cutRows ls none (some y) = ls.take y.toNat := rfl
   rw [cu]
   have FE : ¬ (0 ≤ ((rGet ls y).tail.headD default).int ∧ ((rGet ls y).tail.headD default).int < Sp.c3 (Sp.nd ns ((rGet ls y).headD default).int) ∧ 0 ≤ ((rGet ls y).tail.tail.tail.headD default).int ∧ ((rGet ls y).tail.tail.tail.headD default).int < Sp.c2 (Sp.nd ns ((rGet ls y).tail.tail.headD default).int)) → false = Sp.vld ns ls := fun h => F (by rw [hL, hE, decide_eq_false h]; rfl)
   refine ⟨fun e1 _ => ⟨fun e2 => ⟨fun e3 _ => ⟨fun e4 => ⟨fun h0 => ⟨by omega, ⟨by omega, by omega⟩, fun _ _ => ⟨fun hl => F (by rw [hL, decide_eq_false (show ¬ y ≤ 0 by omega), decide_eq_false (by omega)]; simp), fun hl => ?_⟩⟩, fun hl => ?_⟩, fun e => FE (by omega)⟩, fun e => FE (by omega)⟩, fun e => FE (by omega)⟩, fun e => FE (by omega)⟩
   all_goals
    have tl : (ls.take y.toNat).length = y.toNat := by rw [List.length_take]; omega
    refine ⟨⟨by omega, by omega⟩, fun _ => ⟨⟨0, Sp.at_init, rfl⟩, fun j hj hj1 => ⟨fun hjl => ⟨⟨hj.1, hjl⟩, fun _ => ?_⟩, fun hje => S (by
     rw [hL, hE, Sp.at_end hj hje]
     simp only [Bool.and_eq_true, Bool.or_eq_true, Bool.not_eq_true', decide_eq_true_eq, decide_eq_false_iff_not]
     omega)⟩⟩⟩
    have j0 := hj.1
    have hit : Sp.cl ns ((rGet ls y).headD default).int ((rGet ls y).tail.headD default).int ((rGet ls y).tail.tail.headD default).int ((rGet ls y).tail.tail.tail.headD default).int (rGet (ls.take y.toNat) j) = true → false = Sp.vld ns ls := fun h => F (by rw [hL, Sp.at_hit hj hjl h, decide_eq_true j0]; simp)
    have stp := Sp.at_step hj hjl
    generalize rGet (ls.take y.toNat) j = q at *
    have hc : Sp.cl ns ((rGet ls y).headD default).int ((rGet ls y).tail.headD default).int ((rGet ls y).tail.tail.headD default).int ((rGet ls y).tail.tail.tail.headD default).int q = decide ((q.tail.tail.headD default).int = ((rGet ls y).tail.tail.headD default).int ∧ (q.tail.tail.tail.headD default).int = ((rGet ls y).tail.tail.tail.headD default).int ∧ Sp.c1 (Sp.nd ns ((rGet ls y).tail.tail.headD default).int) ≠ 3 ∨ (q.headD default).int = ((rGet ls y).headD default).int ∧ (q.tail.headD default).int = ((rGet ls y).tail.headD default).int ∧ Sp.c1 (Sp.nd ns ((rGet ls y).headD default).int) ≠ 5 ∧ Sp.c1 (Sp.nd ns ((rGet ls y).headD default).int) ≠ 1) := rfl
    have kA : (q.tail.tail.headD default).int = ((rGet ls y).tail.tail.headD default).int → Sp.c1 (Sp.nd ns (q.tail.tail.headD default).int) = Sp.c1 (Sp.nd ns ((rGet ls y).tail.tail.headD default).int) := fun h => by rw [h]
    have kB : (q.headD default).int = ((rGet ls y).headD default).int → Sp.c1 (Sp.nd ns (q.headD default).int) = Sp.c1 (Sp.nd ns ((rGet ls y).headD default).int) := fun h => by rw [h]
    cases hcl : Sp.cl ns ((rGet ls y).headD default).int ((rGet ls y).tail.headD default).int ((rGet ls y).tail.tail.headD default).int ((rGet ls y).tail.tail.tail.headD default).int q
    · have T := stp hcl
      have T1 : -9223372036854775808 ≤ j + 1 ∧ j + 1 ≤ 9223372036854775807 := by omega
      rw [hc, decide_eq_false_iff_not] at hcl
      clear stp hit hc hL hE FE F S hw hA L0
      repeat' (first | apply And.intro | intro _)
      all_goals (first | exact ⟨_, T, rfl, by omega⟩ | omega)
    · have T := hit hcl
      rw [hc, decide_eq_true_eq] at hcl
      clear stp hit hc hL hE FE F S hw hA L0
      repeat' (first | apply And.intro | intro _)
      all_goals (first | exact T | (exfalso; omega))
theorem s83 : SoundCt Go.Proofs.Tryz.prog 83 ct83 :=
 contractH followsMixed (look_sound (show Tb Go.Proofs.Tryz.prog tb83 from ⟨s94, ⟨s97, ⟨s99, trivial⟩⟩⟩)) (fun _ => false) (fun a => A83 ((cel 0 (arg 0 a)).list) ((cel 1 (arg 0 a)).list)) 8 83 ct83 rfl (by simp [ct83]) fun a => Eq.mp (by kernel_rfl) (v83 ((cel 0 (arg 0 a)).list) ((cel 1 (arg 0 a)).list))
end Go.Sx
