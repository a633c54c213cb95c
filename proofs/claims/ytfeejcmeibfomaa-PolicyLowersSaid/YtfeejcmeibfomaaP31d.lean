/- Contracts and conditions, continued. -/
import Derived.Test.YtfeejcmeibfomaaSxUse
import Derived.Test.YtfeejcmeibfomaaP31c
import Derived.KernelRfl
set_option linter.unusedVariables false
set_option linter.unusedSimpArgs false
set_option maxRecDepth 100000
set_option maxHeartbeats 4000000

namespace Go
open Go.Sx
def Sp.cprx (x : List C) : Bool := Sp.cpr (Sp.s0 x) (Sp.l1 x) (Sp.i2 x)
def Sp.lkx (r : ByteArray) (st : List (List C)) (x : List C) : Bool := Sp.lik r st (Sp.s0 x) (Sp.l1 x)
def Sp.akx (r : ByteArray) (st : List (List C)) (x : List C) : Bool := Sp.alk r st (Sp.s0 x) (Sp.l1 x)
def Sp.mk1 (m : List (List C)) (z : Int) : Bool := Sp.cprx (rGet m z) && decide (Sp.fi (Sp.lkx (Sp.s0 (rGet m z)) (Sp.l1 (rGet m z))) (cutRows m none (some z)) < 0)
def Sp.memV (m : List (List C)) : Bool := decide (m.length ≤ 32) && Sp.allB (Sp.mk1 m) m.length
def Sp.akI (m : List (List C)) (i k : Int) : Prop := 0 ≤ k ∧ k ≤ i ∧ ∀ j : Int, 0 ≤ j → j < k → Sp.alk (Sp.s0 (rGet m i)) (Sp.l1 (rGet m i)) (Sp.s0 (rGet m j)) (Sp.l1 (rGet m j)) = false
def Sp.lkG (role : ByteArray) (set : List (List C)) : List (List C) → Int → Int → Int
  | [], d, _ => d
  | x :: r, d, n => bif ((Sp.s0 x).toList == role.toList) && (decide (n ≤ ((Sp.l1 x).length : Int)) && Sp.prt (Sp.l1 x) set) then Sp.lkG role set r (Sp.i2 x) ((Sp.l1 x).length : Int) else Sp.lkG role set r d n
def Sp.lkp (m : List (List C)) (role : ByteArray) (set : List (List C)) : Int := bif Sp.memV m && Sp.asc set then Sp.lkG role set m 0 0 else 0
def Sp.lkI (m : List (List C)) (role : ByteArray) (set : List (List C)) (z d n : Int) : Prop := 0 ≤ z ∧ z ≤ (m.length : Int) ∧ 0 ≤ n ∧ n ≤ 9223372036854775807 ∧ Sp.lkG role set (m.drop z.toNat) d n = Sp.lkG role set m 0 0
def Sp.mis (set : List (List C)) (x : List C) : Bool := !Sp.has set (Sp.i0 x)
end Go

namespace Go
open Go.Sx
theorem Sp.take_len {m : List (List C)} {x : Int} (h0 : 0 ≤ x) (h : x ≤ (m.length : Int)) : (cutRows m none (some x)).length = x.toNat := by
  simp only [cutRows, List.length_take]; omega
theorem Sp.take_get {m : List (List C)} {x j : Int} (h : x ≤ (m.length : Int)) (hj0 : 0 ≤ j) (hj : j < x) : rGet (cutRows m none (some x)) j = rGet m j := by
  simp only [cutRows, rGet]
  rw [List.getD_eq_getElem?_getD, List.getD_eq_getElem?_getD, List.getElem?_take, if_pos (by omega)]
theorem Sp.has_iff {xs : List (List C)} {v : Int} : Sp.has xs v = true ↔ v ∈ xs.map Sp.i0 := by
  unfold Sp.has
  rw [decide_eq_true_eq, Sp.fi_ge, List.mem_map]
  constructor
  · intro ⟨i, h, e⟩
    exact ⟨xs[i], List.getElem_mem h, (of_decide_eq_true e).symm⟩
  · intro ⟨a, ha, e⟩
    obtain ⟨i, h, e2⟩ := List.getElem_of_mem ha
    exact ⟨i, h, decide_eq_true (by rw [e2]; exact e.symm)⟩
theorem Sp.prt_iff {a b : List (List C)} : Sp.prt a b = true ↔ ∀ x ∈ a.map Sp.i0, x ∈ b.map Sp.i0 := by
  unfold Sp.prt
  rw [Sp.all_iff]
  constructor
  · intro h x hx
    obtain ⟨y, hy, e⟩ := List.mem_map.1 hx
    obtain ⟨i, hi, e2⟩ := List.getElem_of_mem hy
    have := h i hi
    unfold Sp.pk at this
    rw [Sp.rGet_at hi, e2, e] at this
    exact Sp.has_iff.1 this
  · intro h i hi
    unfold Sp.pk
    rw [Sp.rGet_at hi]
    exact Sp.has_iff.2 (h _ (List.mem_map.2 ⟨_, List.getElem_mem hi, rfl⟩))
theorem Sp.asc_step {l : List (List C)} (h : Sp.asc l = true) (i : Nat) (hi : i + 1 < l.length) : Sp.i0 l[i] < Sp.i0 l[i+1] := by
  have := Sp.all_iff.1 h (i+1) hi
  unfold Sp.ak at this
  have := (of_decide_eq_true this).2 (by omega)
  rw [show (((i+1 : Nat)) : Int) - 1 = (i : Int) by omega, Sp.rGet_at (by omega), Sp.rGet_at hi] at this
  exact this
theorem Sp.asc_far {l : List (List C)} (h : Sp.asc l = true) (i d : Nat) (hi : i + d + 1 < l.length) : Sp.i0 l[i] < Sp.i0 l[i+d+1] := by
  induction d with
  | zero => exact Sp.asc_step h i hi
  | succ d ih => exact Int.lt_trans (ih (by omega)) (Sp.asc_step h (i+d+1) (by omega))
theorem Sp.asc_pw {l : List (List C)} (h : Sp.asc l = true) : (l.map Sp.i0).Pairwise (· < ·) := by
  rw [List.pairwise_map, List.pairwise_iff_getElem]
  intro i j hi hj hij
  obtain ⟨d, rfl⟩ : ∃ d, j = i + d + 1 := ⟨j - i - 1, by omega⟩
  exact Sp.asc_far h i d hj
theorem Sp.pw_len : ∀ (b a : List Int), a.Pairwise (· < ·) → b.Pairwise (· < ·) → (∀ x ∈ a, x ∈ b) → a.length ≤ b.length
  | [], a, _, _, h => by
    cases a with
    | nil => simp
    | cons x a => exact absurd (h x (List.mem_cons_self ..)) (by simp)
  | y :: b, [], _, _, _ => by simp
  | y :: b, x :: a, ha, hb, h => by
    have ha' := List.pairwise_cons.1 ha
    have hb' := List.pairwise_cons.1 hb
    by_cases e : x = y
    · subst e
      have := Sp.pw_len b a ha'.2 hb'.2 (fun z hz => by
        have l1 := ha'.1 z hz
        rcases List.mem_cons.1 (h z (List.mem_cons_of_mem _ hz)) with r | r
        · omega
        · exact r)
      simp; omega
    · have l2 : y < x := by
        rcases List.mem_cons.1 (h x (List.mem_cons_self ..)) with r | r
        · exact absurd r e
        · exact hb'.1 x r
      have := Sp.pw_len b (x :: a) ha hb'.2 (fun z hz => by
        rcases List.mem_cons.1 (h z hz) with r | r
        · rcases List.mem_cons.1 hz with q | q
          · omega
          · have := ha'.1 z q; omega
        · exact r)
      simp at this ⊢; omega
theorem Sp.pw_eq : ∀ (b a : List Int), a.Pairwise (· < ·) → b.Pairwise (· < ·) → (∀ x ∈ a, x ∈ b) → a.length = b.length → a = b
  | [], a, _, _, _, hl => by cases a with | nil => rfl | cons x a => simp at hl
  | y :: b, [], _, _, _, hl => by simp at hl
  | y :: b, x :: a, ha, hb, h, hl => by
    have ha' := List.pairwise_cons.1 ha
    have hb' := List.pairwise_cons.1 hb
    by_cases e : x = y
    · subst e
      rw [Sp.pw_eq b a ha'.2 hb'.2 (fun z hz => by
        have l1 := ha'.1 z hz
        rcases List.mem_cons.1 (h z (List.mem_cons_of_mem _ hz)) with r | r
        · omega
        · exact r) (by simpa using hl)]
    · have l2 : y < x := by
        rcases List.mem_cons.1 (h x (List.mem_cons_self ..)) with r | r
        · exact absurd r e
        · exact hb'.1 x r
      have := Sp.pw_len b (x :: a) ha hb'.2 (fun z hz => by
        rcases List.mem_cons.1 (h z hz) with r | r
        · rcases List.mem_cons.1 hz with q | q
          · omega
          · have := ha'.1 z q; omega
        · exact r)
      simp at this hl; omega
theorem Sp.sm_prt {a b : List (List C)} (ha : Sp.asc a = true) (hb : Sp.asc b = true) : (decide (a.length = b.length) && Sp.prt a b) = Sp.sm a b := by
  rw [Bool.eq_iff_iff, Bool.and_eq_true, decide_eq_true_eq, Sp.prt_iff]
  unfold Sp.sm
  rw [decide_eq_true_eq]
  constructor
  · intro ⟨h1, h2⟩
    exact Sp.pw_eq _ _ (Sp.asc_pw ha) (Sp.asc_pw hb) h2 (by simpa using h1)
  · intro h
    exact ⟨by have := congrArg List.length h; simpa using this, fun x hx => h ▸ hx⟩
theorem Sp.cpr_asc {r : ByteArray} {st : List (List C)} {d : Int} (h : Sp.cpr r st d = true) : Sp.asc st = true := by
  unfold Sp.cpr at h
  simp only [Bool.and_eq_true] at h
  exact h.1.2
theorem Sp.alk_lik {r q : ByteArray} {st tt : List (List C)} {d e : Int} (h1 : Sp.cpr r st d = true) (h2 : Sp.cpr q tt e = true) : Sp.alk r st q tt = Sp.lik r st q tt := by
  unfold Sp.alk Sp.lik
  rw [Bool.and_assoc, Sp.sm_prt (Sp.cpr_asc h1) (Sp.cpr_asc h2)]
theorem Sp.mk1_ok {m : List (List C)} {z : Int} (h : Sp.cprx (rGet m z) = true) (hf : Sp.fi (Sp.lkx (Sp.s0 (rGet m z)) (Sp.l1 (rGet m z))) (cutRows m none (some z)) < 0) : Sp.mk1 m z = true := by
  unfold Sp.mk1; rw [h, decide_eq_true hf]; rfl
theorem Sp.mk1_no {m : List (List C)} {z : Int} (hf : ¬ Sp.fi (Sp.lkx (Sp.s0 (rGet m z)) (Sp.l1 (rGet m z))) (cutRows m none (some z)) < 0) : Sp.mk1 m z = false := by
  unfold Sp.mk1; rw [decide_eq_false hf, Bool.and_false]
theorem Sp.mk1_cpr {m : List (List C)} {z : Int} (h : Sp.mk1 m z = true) : Sp.cprx (rGet m z) = true := by
  unfold Sp.mk1 at h; simp only [Bool.and_eq_true] at h; exact h.1
theorem Sp.memV_big {m : List (List C)} (h : ¬ m.length ≤ 32) : Sp.memV m = false := by
  unfold Sp.memV; rw [decide_eq_false h]; rfl
theorem Sp.memV_bad {m : List (List C)} {z : Int} (h0 : 0 ≤ z) (hz : z < (m.length : Int)) (h : Sp.mk1 m z = false) : Sp.memV m = false := by
  unfold Sp.memV; rw [Sp.all_bad h0 hz h, Bool.and_false]
theorem Sp.memV_end {m : List (List C)} {z : Int} (h : Sp.alI (Sp.mk1 m) m.length z) (hz : ¬ z < (m.length : Int)) : Sp.memV m = decide (m.length ≤ 32) := by
  unfold Sp.memV; rw [Sp.all_end h hz, Bool.and_true]
theorem Sp.akI_next {m : List (List C)} {i z : Int} (h : Sp.akI m i z) (hz : z < i) (hp : Sp.alk (Sp.s0 (rGet m i)) (Sp.l1 (rGet m i)) (Sp.s0 (rGet m z)) (Sp.l1 (rGet m z)) = false) : Sp.akI m i (z + 1) := by
  obtain ⟨a, b, c⟩ := h
  refine ⟨by omega, by omega, fun j h0 hj => ?_⟩
  by_cases e : j = z
  · rw [e]; exact hp
  · exact c j h0 (by omega)
theorem Sp.ref_alk {m : List (List C)} {x z : Int} (h : Sp.alI (Sp.mk1 m) m.length x) (h2 : Sp.cprx (rGet m x) = true) (hz0 : 0 ≤ z) (hz : z < x) :
    Sp.alk (Sp.s0 (rGet m x)) (Sp.l1 (rGet m x)) (Sp.s0 (rGet m z)) (Sp.l1 (rGet m z)) = Sp.lkx (Sp.s0 (rGet m x)) (Sp.l1 (rGet m x)) (rGet (cutRows m none (some x)) z) := by
  rw [Sp.take_get h.2.1 hz0 hz]
  have hc := h.2.2 z.toNat (by omega)
  rw [show ((z.toNat : Nat) : Int) = z by omega] at hc
  exact Sp.alk_lik h2 (Sp.mk1_cpr hc)
theorem Sp.ref_bad {m : List (List C)} {x z : Int} (h : Sp.alI (Sp.mk1 m) m.length x) (hx : x < (m.length : Int)) (h2 : Sp.cprx (rGet m x) = true) (hk : Sp.akI m x z) (hz : z < x)
    (hp : Sp.alk (Sp.s0 (rGet m x)) (Sp.l1 (rGet m x)) (Sp.s0 (rGet m z)) (Sp.l1 (rGet m z)) = true) : Sp.memV m = false := by
  refine Sp.memV_bad h.1 hx (Sp.mk1_no ?_)
  rw [Sp.ref_alk h h2 hk.1 hz] at hp
  rw [Int.not_lt, Sp.fi_ge]
  have hl := Sp.take_len (m := m) h.1 h.2.1
  have hz0 := hk.1
  refine ⟨z.toNat, by omega, ?_⟩
  rw [← Sp.rGet_at, show ((z.toNat : Nat) : Int) = z by omega]
  exact hp
theorem Sp.ref_fwd {m : List (List C)} {x z : Int} (h : Sp.alI (Sp.mk1 m) m.length x) (hx : x < (m.length : Int)) (h2 : Sp.cprx (rGet m x) = true) (hk : Sp.akI m x z) (hz : ¬ z < x) : Sp.alI (Sp.mk1 m) m.length (x + 1) := by
  have hl := Sp.take_len (m := m) h.1 h.2.1
  have hx0 := h.1
  refine Sp.alI_next h hx (Sp.mk1_ok h2 ?_)
  rw [Sp.fi_miss (z := x) ⟨h.1, by omega, fun j h0 hj => ?_⟩ (by omega)]
  · omega
  · rw [← Sp.ref_alk h h2 h0 hj]; exact hk.2.2 j h0 (by omega)
end Go

namespace Go.Sx
/-! ### function 61: choices.Valid -/
def ct61 : Ct := { ps := [(true, [.sl [.str, .sl [.int .u64], .int .u64]])], rs := [(false, [.bool])], pre := fun _ => True, out := fun a => [[.b (Sp.memV (cel 0 (arg 0 a)).list)]] }
def tb61 : List (Nat × Ct) := [(75, ct75), (74, ct74)]
def A61 (m : List (List C)) : FuncId → Nat → LoopAnn := fun ff ii => bif Nat.beq ff 61 then (bif Nat.beq ii 4 then .inv Int (fun z => Sp.alI (Sp.mk1 m) m.length z) (fun z => [(13, .int .i64 z)]) (fun _ => []) [] [0, 1, 2, 3, 4, 5, 9, 11, 12, 13, 14, 29] (fun z => m.length - z.toNat) else .unroll 0) else bif Nat.beq ff 95 then .on (fun sv0 => match sv0.tmps.getD 0 .undef, sv0.tmps.getD 1 .undef with | .sl _ ys, .fn _ [.ref kk _] => (match sv0.heap[kk]? with | some (.box [.str rr, .sl _ stt, .int _ dd] _) => .inv Int (fun z => Sp.fiI (Sp.lkx rr stt) ys z) (fun z => [(8, .int .i64 z)]) (fun _ => []) [] [0, 1, 4, 5, 7, 8, 9, 16] (fun z => ys.length - z.toNat) | _ => .unroll 0) | _, _ => .unroll 0) else .unroll 0
abbrev B61 (m : List (List C)) : Prop := vcF Go.Proofs.Try.prog (look tb61) (fun _ => false) (A61 m) 6 61 [.agg [.sl [.str, .sl [.int .u64], .int .u64] m]] [] (fun sv heap => Gives [(false, [.bool])] [[.b (Sp.memV m)]] sv heap)
def h61_0 : List (List C) → List SV := fun (m : List (List C)) => [SV.agg [SV.sl [Sh.str, Sh.sl [Sh.int .u64], Sh.int .u64] m], SV.ref 0 0, SV.blit false, SV.sl [Sh.str, Sh.sl [Sh.int .u64], Sh.int .u64] m, SV.int .i64 (iLen m)]
def h61_1 : List (List C) → Int → List HB := fun (m : List (List C)) (x : Int) => [HB.box [SV.sl [Sh.str, Sh.sl [Sh.int .u64], Sh.int .u64] m] 26, HB.box [SV.str ((rGet m x).headD default).str, SV.sl [.int .u64] ((rGet m x).tail.headD default).list, SV.int .u64 ((rGet m x).tail.tail.headD default).int] 67]
theorem e61 (m : List (List C)) : B61 m = (pLe (iLen m) 9223372036854775807 → (bLt 32 (iLen m) = true → (false = Sp.memV m ∧ True) ∧ True) ∧ (bLt 32 (iLen m) = false → pLe (iLen m) 9223372036854775807 → (∃ (x : Int), Sp.alI (Sp.mk1 m) m.length x ∧ true = true ∧ ((IntKind.i64 = IntKind.i64 ∧ 0 = x) ∧ True) ∧ True) ∧ (∀ (x : Int), true = true ∧ true = true) ∧ ∀ (x : Int), Sp.alI (Sp.mk1 m) m.length x → InR .i64 x ∧ True → True → (bLt x (iLen m) = true → pIn 0 (iLen m) x ∧ ((List.brecOn.go ((rGet m x).headD default).str.1.toList List.length._f).1.le 9223372036854775807 ∧ (((rGet m x).tail.headD default).list.length ≤ 9223372036854775807 ∧ ∀ (x_1 : List C), x_1 ∈ ((rGet m x).tail.headD default).list → WfCs [.int .u64] x_1) ∧ InR .u64 (q2 (rGet m x)) ∧ True → True ∧ (True → True ∧ (bNot (Sp.cpr ((rGet m x).headD default).str ((rGet m x).tail.headD default).list (q2 (rGet m x))) = false → geB none (some x) (iLen m) ∧ (pLe (iLen (cutRows m none (some x))) 9223372036854775807 → (∃ (x_1 : Int), Sp.fiI (Sp.lkx ((rGet m x).headD default).str ((rGet m x).tail.headD default).list) (cutRows m none (some x)) x_1 ∧ true = true ∧ ((IntKind.i64 = IntKind.i64 ∧ 0 = x_1) ∧ True) ∧ True) ∧ (∀ (x : Int), true = true ∧ true = true) ∧ ∀ (x_1 : Int), Sp.fiI (Sp.lkx ((rGet m x).headD default).str ((rGet m x).tail.headD default).list) (cutRows m none (some x)) x_1 → InR .i64 x_1 ∧ True → True → (bLt x_1 (iLen (cutRows m none (some x))) = true → pIn 0 (iLen (cutRows m none (some x))) x_1 ∧ ((List.brecOn.go ((rGet (cutRows m none ((fun (x : IntKind × Int × Bool) => match x with | (fst, n, snd) => some n) (IntKind.i64, x, false))) x_1).headD default).str.1.toList List.length._f).1.le 9223372036854775807 ∧ (((rGet (cutRows m none (some x)) x_1).tail.headD default).list.length ≤ 9223372036854775807 ∧ ∀ (x_2 : List C), x_2 ∈ ((rGet (cutRows m none (some x)) x_1).tail.headD default).list → WfCs [.int .u64] x_2) ∧ InR .u64 (q2 (rGet (cutRows m none (some x)) x_1)) ∧ True → True ∧ (True → (Sp.lik ((rGet m x).headD default).str ((rGet m x).tail.headD default).list ((rGet (cutRows m none (some x)) x_1).headD default).str ((rGet (cutRows m none (some x)) x_1).tail.headD default).list = true → (bLe 0 x_1 = true → (false = Sp.memV m ∧ True) ∧ True) ∧ (bLe 0 x_1 = false → InR .i64 (iAdd x 1) ∧ (true = true ∧ h61_0 m = h61_0 m) ∧ (fun z => z = z) [HB.box [SV.sl [Sh.str, Sh.sl [Sh.int .u64], Sh.int .u64] m] 26] ∧ ∃ (y : Int), Sp.alI (Sp.mk1 m) m.length y ∧ true = true ∧ ((IntKind.i64 = IntKind.i64 ∧ iAdd x 1 = y) ∧ True) ∧ True ∧ m.length - y.toNat < m.length - x.toNat)) ∧ (Sp.lik ((rGet m x).headD default).str ((rGet m x).tail.headD default).list ((rGet (cutRows m none (some x)) x_1).headD default).str ((rGet (cutRows m none (some x)) x_1).tail.headD default).list = false → InR .i64 (iAdd x_1 1) ∧ (true = true ∧ (fun z => z = z) [SV.sl [Sh.str, Sh.sl [Sh.int .u64], Sh.int .u64] (cutRows m none (some x)), SV.fn 73 [SV.ref 1 0], SV.int .i64 (iLen (cutRows m none (some x)))]) ∧ h61_1 m x = h61_1 m x ∧ ∃ (y : Int), Sp.fiI (Sp.lkx ((rGet m x).headD default).str ((rGet m x).tail.headD default).list) (cutRows m none (some x)) y ∧ true = true ∧ ((IntKind.i64 = IntKind.i64 ∧ iAdd x_1 1 = y) ∧ True) ∧ True ∧ (cutRows m none (some x)).length - y.toNat < (cutRows m none (some x)).length - x_1.toNat)))) ∧ (bLt x_1 (iLen (cutRows m none (some x))) = false → InR .i64 (iAdd x 1) ∧ (true = true ∧ h61_0 m = h61_0 m) ∧ (fun z => z = z) [HB.box [SV.sl [Sh.str, Sh.sl [Sh.int .u64], Sh.int .u64] m] 26] ∧ ∃ (y : Int), Sp.alI (Sp.mk1 m) m.length y ∧ true = true ∧ ((IntKind.i64 = IntKind.i64 ∧ iAdd x 1 = y) ∧ True) ∧ True ∧ m.length - y.toNat < m.length - x.toNat))) ∧ (bNot (Sp.cpr ((rGet m x).headD default).str ((rGet m x).tail.headD default).list (q2 (rGet m x))) = true → (false = Sp.memV m ∧ True) ∧ True)))) ∧ (bLt x (iLen m) = false → (true = Sp.memV m ∧ True) ∧ True))) := by kernel_rfl
theorem v61 (m : List (List C)) : Holds (Wfs [.agg [.sl [.str, .sl [.int .u64], .int .u64] m]] → True → B61 m) := by
  refine ⟨fun hw hp => ?_⟩
  rw [e61]
  unfold q2
  simp only [Wfs, Wf, InR, and_true] at hw
  have hm : maxLen = 9223372036854775807 := rfl
  simp only [hm] at hw
  simp only [iAdd, iSub, iMul, iLen, iSize, bLt, bLe, bEq, bNe, bNot, bSame, bDiff, sSame, sDiff, bIf, bAnd, InR, pLe, pIn, pRoom, eq_self, true_and, and_true, true_implies, implies_true, decide_eq_true_eq, decide_eq_false_iff_not, Bool.not_eq_true', Bool.not_eq_false', Bool.true_eq_false, Bool.false_eq_true, false_implies]
  intro _
  refine ⟨fun h => (Sp.memV_big (by omega)).symm, fun h _ => ⟨⟨0, Sp.alI_init _ _, rfl⟩, fun x hx _ => ⟨fun hlt => ⟨⟨hx.1, hlt⟩, fun _ => ⟨fun hc => ⟨⟨hx.1, by omega⟩, fun _ => ⟨⟨0, Sp.fiI_init _ _, rfl⟩, fun z hz _ => ⟨fun hl => ⟨⟨hz.1, hl⟩, fun _ => ⟨fun hp => ⟨fun _ => ?_, fun hn => absurd hz.1 hn⟩, fun hp => ⟨by have := hz.1; omega, z + 1, Sp.fiI_next hz hl hp, rfl, by have := hz.1; omega⟩⟩⟩, fun hl => ?_⟩⟩⟩, fun hc => ?_⟩⟩, fun hlt => ?_⟩⟩⟩
  · refine (Sp.memV_bad hx.1 hlt (Sp.mk1_no ?_)).symm
    have e1 : Sp.fi (Sp.lkx (Sp.s0 (rGet m x)) (Sp.l1 (rGet m x))) (cutRows m none (some x)) = z := Sp.fi_hit hz hl hp
    have := hz.1; omega
  · have h0 := hx.1
    refine ⟨by omega, x + 1, Sp.alI_next hx hlt (Sp.mk1_ok hc ?_), rfl, by omega⟩
    have e := Sp.fi_miss hz hl
    have e1 : Sp.fi (Sp.lkx (Sp.s0 (rGet m x)) (Sp.l1 (rGet m x))) (cutRows m none (some x)) = -1 := e
    omega
  · exact (Sp.memV_bad hx.1 hlt (show (Sp.cprx (rGet m x) && _) = false from by rw [show Sp.cprx (rGet m x) = false from hc]; rfl)).symm
  · rw [Sp.memV_end hx hlt]; symm; exact decide_eq_true (by omega)
theorem s61 : SoundCt Go.Proofs.Try.prog 61 ct61 :=
  contractH followsMixed (look_sound (show Tb Go.Proofs.Try.prog tb61 from ⟨s75, ⟨s74, trivial⟩⟩)) (fun _ => false) (fun a => A61 ((cel 0 (arg 0 a)).list)) 6 61 ct61 rfl (by simp [ct61]) fun a => Eq.mp (by kernel_rfl) (v61 ((cel 0 (arg 0 a)).list))
end Go.Sx

namespace Go.Sx
/-! ### function 40: ref30.Valid -/
def ct40 : Ct := { ps := [(true, [.sl [.str, .sl [.int .u64], .int .u64]])], rs := [(false, [.bool])], pre := fun _ => True, out := fun a => [[.b (Sp.memV (cel 0 (arg 0 a)).list)]] }
def tb40 : List (Nat × Ct) := [(41, ct41), (42, ct42)]
def A40 (m : List (List C)) : FuncId → Nat → LoopAnn := fun ff ii => bif Nat.beq ii 2 then .inv Int (fun z => Sp.alI (Sp.mk1 m) m.length z) (fun z => [(3, .int .i64 z)]) (fun _ => []) [] [0, 1, 2, 3, 4, 9, 18, 21, 34] (fun z => m.length - z.toNat) else bif Nat.beq ii 7 then .on (fun sv0 => match sv0.tmps.getD 3 .undef with | .int _ zi => .inv Int (fun z => Sp.akI m zi z) (fun z => [(4, .int .i64 z)]) (fun _ => []) [] [0, 1, 2, 3, 4, 9, 18, 21, 34] (fun z => zi.toNat - z.toNat) | _ => .unroll 0) else .unroll 0
abbrev B40 (m : List (List C)) : Prop := vcF Go.Proofs.Try.prog (look tb40) (fun _ => false) (A40 m) 6 40 [.agg [.sl [.str, .sl [.int .u64], .int .u64] m]] [] (fun sv heap => Gives [(false, [.bool])] [[.b (Sp.memV m)]] sv heap)
theorem e40 (m : List (List C)) : B40 m = ((∃ (x : Int), Sp.alI (Sp.mk1 m) m.length x ∧ true = true ∧ ((IntKind.i64 = IntKind.i64 ∧ 0 = x) ∧ True) ∧ True) ∧ (∀ (x : Int), true = true ∧ true = true) ∧ ∀ (x : Int), Sp.alI (Sp.mk1 m) m.length x → InR .i64 x ∧ True → True → pLe (iLen m) 9223372036854775807 → (bLt x (iLen m) = true → pIn 0 (iLen m) x ∧ ((List.brecOn.go ((rGet m x).headD default).str.1.toList List.length._f).1.le 9223372036854775807 ∧ (((rGet m x).tail.headD default).list.length ≤ 9223372036854775807 ∧ ∀ (x_1 : List C), x_1 ∈ ((rGet m x).tail.headD default).list → WfCs [.int .u64] x_1) ∧ InR .u64 (q2 (rGet m x)) ∧ True → True ∧ (True → True ∧ (bNot (Sp.cpr ((rGet m x).headD default).str ((rGet m x).tail.headD default).list (q2 (rGet m x))) = true → (false = Sp.memV m ∧ True) ∧ True) ∧ (bNot (Sp.cpr ((rGet m x).headD default).str ((rGet m x).tail.headD default).list (q2 (rGet m x))) = false → (∃ (x_1 : Int), Sp.akI m x x_1 ∧ true = true ∧ ((IntKind.i64 = IntKind.i64 ∧ 0 = x_1) ∧ True) ∧ True) ∧ (∀ (x : Int), true = true ∧ true = true) ∧ ∀ (x_1 : Int), Sp.akI m x x_1 → InR .i64 x_1 ∧ True → True → (bLt x_1 x = true → pIn 0 (iLen m) x ∧ ((List.brecOn.go ((rGet m x).headD default).str.1.toList List.length._f).1.le 9223372036854775807 ∧ (((rGet m x).tail.headD default).list.length ≤ 9223372036854775807 ∧ ∀ (x_2 : List C), x_2 ∈ ((rGet m x).tail.headD default).list → WfCs [.int .u64] x_2) ∧ InR .u64 (q2 (rGet m x)) ∧ True → pIn 0 (iLen m) x_1 ∧ ((List.brecOn.go ((rGet m x_1).headD default).str.1.toList List.length._f).1.le 9223372036854775807 ∧ (((rGet m x_1).tail.headD default).list.length ≤ 9223372036854775807 ∧ ∀ (x : List C), x ∈ ((rGet m x_1).tail.headD default).list → WfCs [.int .u64] x) ∧ InR .u64 (q2 (rGet m x_1)) ∧ True → True ∧ (True → (Sp.alk ((rGet m x).headD default).str ((rGet m x).tail.headD default).list ((rGet m x_1).headD default).str ((rGet m x_1).tail.headD default).list = true → (false = Sp.memV m ∧ True) ∧ True) ∧ (Sp.alk ((rGet m x).headD default).str ((rGet m x).tail.headD default).list ((rGet m x_1).headD default).str ((rGet m x_1).tail.headD default).list = false → InR .i64 (iAdd x_1 1) ∧ (true = true ∧ (fun z => z = z) [SV.agg [SV.sl [Sh.str, Sh.sl [Sh.int .u64], Sh.int .u64] m], SV.ref 0 0, SV.int .i64 x, SV.blit true, SV.blit false]) ∧ (fun z => z = z) [HB.box [SV.sl [Sh.str, Sh.sl [Sh.int .u64], Sh.int .u64] m] 26] ∧ ∃ (y : Int), Sp.akI m x y ∧ true = true ∧ ((IntKind.i64 = IntKind.i64 ∧ iAdd x_1 1 = y) ∧ True) ∧ True ∧ x.toNat - y.toNat < x.toNat - x_1.toNat))))) ∧ (bLt x_1 x = false → InR .i64 (iAdd x 1) ∧ (true = true ∧ (fun z => z = z) [SV.agg [SV.sl [Sh.str, Sh.sl [Sh.int .u64], Sh.int .u64] m], SV.ref 0 0]) ∧ (fun z => z = z) [HB.box [SV.sl [Sh.str, Sh.sl [Sh.int .u64], Sh.int .u64] m] 26] ∧ ∃ (y : Int), Sp.alI (Sp.mk1 m) m.length y ∧ true = true ∧ ((IntKind.i64 = IntKind.i64 ∧ iAdd x 1 = y) ∧ True) ∧ True ∧ m.length - y.toNat < m.length - x.toNat))))) ∧ (bLt x (iLen m) = false → pLe (iLen m) 9223372036854775807 → (bLe (iLen m) 32 = Sp.memV m ∧ True) ∧ True)) := by kernel_rfl
theorem v40 (m : List (List C)) : Holds (Wfs [.agg [.sl [.str, .sl [.int .u64], .int .u64] m]] → True → B40 m) := by
  refine ⟨fun hw hp => ?_⟩
  rw [e40]
  unfold q2
  simp only [Wfs, Wf, InR, and_true] at hw
  have hm : maxLen = 9223372036854775807 := rfl
  simp only [hm] at hw
  simp only [iAdd, iSub, iMul, iLen, iSize, bLt, bLe, bEq, bNe, bNot, bSame, bDiff, sSame, sDiff, bIf, bAnd, InR, pLe, pIn, pRoom, eq_self, true_and, and_true, true_implies, implies_true, decide_eq_true_eq, decide_eq_false_iff_not, Bool.not_eq_true', Bool.not_eq_false', Bool.true_eq_false, Bool.false_eq_true, false_implies]
  refine ⟨⟨0, Sp.alI_init _ _, rfl⟩, fun x hx _ _ => ⟨fun hlt => ⟨⟨hx.1, hlt⟩, fun _ => ⟨fun hc => ?_, fun hc => ⟨⟨0, ⟨by omega, hx.1, fun j h0 h1 => by omega⟩, rfl⟩, fun z hz _ => ⟨fun hl => ⟨⟨hx.1, hlt⟩, fun _ => ⟨⟨hz.1, by omega⟩, fun _ => ⟨fun hp => (Sp.ref_bad hx hlt hc hz hl hp).symm, fun hp => ⟨by have := hz.1; omega, z + 1, Sp.akI_next hz hl hp, rfl, by have := hz.1; omega⟩⟩⟩⟩, fun hl => ⟨by have := hx.1; omega, x + 1, Sp.ref_fwd hx hlt hc hz hl, rfl, by have := hx.1; omega⟩⟩⟩⟩⟩, fun hlt _ => ?_⟩⟩
  · exact (Sp.memV_bad hx.1 hlt (show (Sp.cprx (rGet m x) && _) = false from by rw [show Sp.cprx (rGet m x) = false from hc]; rfl)).symm
  · rw [Sp.memV_end hx hlt]; simp only [decide_eq_decide]; omega
theorem s40 : SoundCt Go.Proofs.Try.prog 40 ct40 :=
  contractH followsMixed (look_sound (show Tb Go.Proofs.Try.prog tb40 from ⟨s41, ⟨s42, trivial⟩⟩)) (fun _ => false) (fun a => A40 ((cel 0 (arg 0 a)).list)) 6 40 ct40 rfl (by simp [ct40]) fun a => Eq.mp (by kernel_rfl) (v40 ((cel 0 (arg 0 a)).list))
end Go.Sx

