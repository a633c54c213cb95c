/- Contracts and conditions, continued. -/
import Derived.Test.YtbobgakeaoigeaaSxUse
import Derived.Test.YtbobgakeaoigeaaC22l
import Derived.KernelRfl
set_option linter.unusedVariables false
set_option linter.unusedSimpArgs false
set_option maxRecDepth 100000
set_option maxHeartbeats 4000000

namespace Go.Sx
def ct1000031 : Ct := { ps := [], rs := [], pre := fun _ => False, out := fun _ => [] }
theorem s1000031 : SoundCt Go.Proofs.Try.prog 1000031 ct1000031 :=
  ⟨fun _ _ h => False.elim h, fun _ _ _ _ _ _ _ _ _ h _ => False.elim h, fun t e h => (by cases h), fun t e r _ h => (by cases h), fun t e _ _ h => (by cases h)⟩
end Go.Sx

noncomputable section
namespace Go
open Go.Sx
def Sp.qK (ls : List (List C)) (id : Int) (r : List (List C)) : Prop := (r.map Sp.c0).Nodup ∧ 1 ≤ r.length ∧ Sp.c0 (rGet r 0) = id ∧ ∀ x ∈ r, Sp.c0 x = id ∨ Sp.Rch ls id (Sp.c0 x)
def Sp.qD (ls r : List (List C)) (i : Int) : Prop := ∀ l ∈ ls, Sp.c0 l = Sp.c0 (rGet r i) → Sp.has r (Sp.c2 l) = true
def Sp.qC (ls r : List (List C)) (i : Int) : Prop := ∀ p : Int, 0 ≤ p → p < i → Sp.qD ls r p
end Go

namespace Go
open Go.Sx
def Sp.qI (ls : List (List C)) (id i : Int) (r : List (List C)) : Prop := 0 ≤ i ∧ i ≤ (r.length : Int) ∧ Sp.qK ls id r ∧ Sp.qC ls r i
def Sp.qJ (ls : List (List C)) (id i j : Int) (r : List (List C)) : Prop := 0 ≤ i ∧ i < (r.length : Int) ∧ 0 ≤ j ∧ j ≤ (ls.length : Int) ∧ Sp.qK ls id r ∧ Sp.qC ls r i ∧ Sp.qD (ls.take j.toNat) r i
def Sp.rcf (ns t : List (List C)) : List (List C) := (ns.filter (fun x => Sp.has t (Sp.c0 x))).map (fun x => [.i (Sp.c0 x)])
def Sp.fI (ns t : List (List C)) (k : Int) (out : List (List C)) : Prop := 0 ≤ k ∧ k ≤ (ns.length : Int) ∧ out = Sp.rcf (ns.take k.toNat) t
def Sp.fJ (ns t : List (List C)) (k q : Int) (out : List (List C)) : Prop := 0 ≤ q ∧ q ≤ (t.length : Int) ∧ out = Sp.rcf (ns.take k.toNat) t ++ (if Sp.has (t.take q.toNat) (Sp.c0 (rGet ns k)) = true then [[.i (Sp.c0 (rGet ns k))]] else [])
end Go

namespace Go
open Go.Sx
variable {ns ls r t out : List (List C)} {id i j k q n : Int}
theorem Sp.rGet_app {x : List C} {y : List (List C)} {p : Int} (h0 : 0 ≤ p) (h1 : p < (r.length : Int)) : rGet (r ++ y) p = rGet r p := by
  unfold rGet
  rw [List.getD_eq_getElem?_getD, List.getElem?_append_left (by omega), ← List.getD_eq_getElem?_getD]
theorem Sp.qK_init : Sp.qK ls id [[.i id]] := ⟨by simp, by simp, rfl, fun x hx => .inl (by rw [List.mem_singleton.1 hx]; rfl)⟩
theorem Sp.qI_init : Sp.qI ls id 0 [[.i id]] := ⟨by omega, by simp, Sp.qK_init, fun p h0 h1 => by omega⟩
theorem Sp.qJ_init (h : Sp.qI ls id i r) (hi : i < (r.length : Int)) : Sp.qJ ls id i 0 r := ⟨h.1, hi, by omega, by omega, h.2.2.1, h.2.2.2, fun l hl => by (rw [show (0 : Int).toNat = 0 from rfl, List.take_zero] at hl; cases hl)⟩
theorem Sp.qJ_skip (h : Sp.qJ ls id i j r) (hj : j < (ls.length : Int)) (hc : Sp.c0 (rGet ls j) = Sp.c0 (rGet r i) → Sp.has r (Sp.c2 (rGet ls j)) = true) : Sp.qJ ls id i (j + 1) r := by
  obtain ⟨p0, p1, p2, p3, p4, p5, p6⟩ := h
  refine ⟨p0, p1, by omega, by omega, p4, p5, fun l hl he => ?_⟩
  rw [Sp.take_succ p2 hj] at hl
  rcases List.mem_append.1 hl with hl | hl
  · exact p6 l hl he
  · obtain rfl : l = rGet ls j := by simpa using hl
    exact hc he
theorem Sp.has_snoc (a : Int) : Sp.has (r ++ [[.i a]]) n = (Sp.has r n || decide (a = n)) := Sp.has_app r a n
theorem Sp.qJ_add (h : Sp.qJ ls id i j r) (hj : j < (ls.length : Int)) (he : Sp.c0 (rGet ls j) = Sp.c0 (rGet r i)) (hn : Sp.has r (Sp.c2 (rGet ls j)) = false) : Sp.qJ ls id i (j + 1) (r ++ [[.i (Sp.c2 (rGet ls j))]]) := by
  obtain ⟨p0, p1, p2, p3, ⟨k1, k2, k3, k4⟩, p5, p6⟩ := h
  have hm := Sp.row_mem p2 hj
  have grow : ∀ (ls' : List (List C)) (p : Int), 0 ≤ p → p < (r.length : Int) → Sp.qD ls' r p → Sp.qD ls' (r ++ [[.i (Sp.c2 (rGet ls j))]]) p := fun ls' p h0 h1 h l hl e => by
    rw [Sp.rGet_app (x := []) h0 h1] at e
    rw [Sp.has_snoc, h l hl e]; rfl
  refine ⟨p0, by simp only [List.length_append, List.length_singleton]; omega, by omega, by omega, ⟨?_, by simp only [List.length_append, List.length_singleton]; omega, ?_, fun x hx => ?_⟩, fun p h0 h1 => grow _ p h0 (by omega) (p5 p h0 h1), fun l hl e => ?_⟩
  · rw [List.map_append, List.nodup_append]
    refine ⟨k1, by simp, fun a ha b hb => ?_⟩
    have hb' : b = Sp.c2 (rGet ls j) := List.mem_singleton.1 hb
    intro e
    have := Sp.has_map.2 ha
    rw [e, hb', hn] at this; cases this
  · rw [Sp.rGet_app (x := []) (by omega) (by omega)]; exact k3
  · rcases List.mem_append.1 hx with hx | hx
    · exact k4 x hx
    · obtain rfl : x = [C.i (Sp.c2 (rGet ls j))] := by simpa using hx
      refine .inr ?_
      rcases k4 _ (Sp.row_mem p0 p1) with h | h
      · exact .one _ hm (he.trans h)
      · exact .more _ hm (by rw [he]; exact h)
  · rw [Sp.take_succ p2 hj] at hl
    rcases List.mem_append.1 hl with hl | hl
    · exact grow _ i p0 p1 p6 l hl e
    · obtain rfl : l = rGet ls j := by simpa using hl
      rw [Sp.has_snoc]; simp
theorem Sp.qJ_end (h : Sp.qJ ls id i j r) (hj : ¬ j < (ls.length : Int)) : Sp.qI ls id (i + 1) r := by
  obtain ⟨p0, p1, p2, p3, p4, p5, p6⟩ := h
  rw [List.take_of_length_le (by omega)] at p6
  refine ⟨by omega, by omega, p4, fun p h0 h1 => ?_⟩
  by_cases e : p = i
  · rw [e]; exact p6
  · exact p5 p h0 (by omega)
theorem Sp.Rch_end (h : Sp.Rch ls id n) : n ∈ ls.map Sp.c2 := by
  cases h with
  | one l hl _ => exact List.mem_map.2 ⟨l, hl, rfl⟩
  | more l hl _ => exact List.mem_map.2 ⟨l, hl, rfl⟩
theorem Sp.qK_len (h : Sp.qK ls id r) : r.length ≤ ls.length + 1 := by
  obtain ⟨k1, k2, k3, k4⟩ := h
  have := Sp.nodup_le (A := id :: ls.map Sp.c2) k1 fun x hx => by
    obtain ⟨y, hy, rfl⟩ := List.mem_map.1 hx
    rcases k4 y hy with h | h
    · rw [h]; simp
    · exact List.mem_cons_of_mem _ (Sp.Rch_end h)
  simp only [List.length_map, List.length_cons] at this
  exact this
/-- Behind the search: what was found but for the beginning is what is reached. -/
theorem Sp.q_end (h : Sp.qI ls id i r) (hi : ¬ i < (r.length : Int)) : Sp.has (r.drop 1) n = true ↔ n ≠ id ∧ Sp.Rch ls id n := by
  obtain ⟨p0, p1, ⟨k1, k2, k3, k4⟩, p5⟩ := h
  have hid : Sp.has r id = true := Sp.has_iff.2 ⟨_, Sp.row_mem (k := 0) (by omega) (by omega), k3⟩
  have clo : ∀ l ∈ ls, Sp.has r (Sp.c0 l) = true → Sp.has r (Sp.c2 l) = true := fun l hl hh => by
    obtain ⟨x, hx, hx2⟩ := Sp.has_iff.1 hh
    obtain ⟨p, q0, q1, rfl⟩ := Sp.mem_row hx
    exact p5 p q0 (by omega) l hl hx2.symm
  have all : ∀ m, Sp.Rch ls id m → Sp.has r m = true := fun m hm => by
    induction hm with
    | one l hl e => exact clo l hl (by rw [e]; exact hid)
    | more l hl _ ih => exact clo l hl ih
  cases r with
  | nil => simp at k2
  | cons x r =>
    have hx0 : Sp.c0 x = id := k3
    have e1 : (x :: r).drop 1 = r := rfl
    rw [e1]
    rw [List.map_cons, List.nodup_cons] at k1
    constructor
    · intro hh
      have hne : n ≠ id := fun e => k1.1 (by rw [hx0, ← e]; exact Sp.has_map.1 hh)
      obtain ⟨y, hy, rfl⟩ := Sp.has_iff.1 hh
      exact ⟨hne, (k4 y (List.mem_cons_of_mem _ hy)).resolve_left hne⟩
    · rintro ⟨hne, hr⟩
      have := all n hr
      rw [Sp.has_cons, Bool.or_eq_true, decide_eq_true_eq, hx0] at this
      exact this.resolve_left (fun e => hne e.symm)
theorem Sp.rcf_rch (hv : Sp.vld ns ls = true) (h : ∀ n, Sp.has t n = true ↔ n ≠ id ∧ Sp.Rch ls id n) : Sp.rcf ns t = Sp.rch ns ls id := by
  unfold Sp.rcf Sp.rch
  rw [hv, cond_true]
  congr 2
  funext x
  rw [Bool.eq_iff_iff, h, Bool.and_eq_true, Bool.not_eq_true', decide_eq_false_iff_not, Sp.rB_iff]
theorem Sp.fI_init : Sp.fI ns t 0 [] := ⟨by omega, by omega, rfl⟩
theorem Sp.fJ_init (h : Sp.fI ns t k out) : Sp.fJ ns t k 0 out := ⟨by omega, by omega, by rw [show (0 : Int).toNat = 0 from rfl, List.take_zero, Sp.has_nil, h.2.2]; simp⟩
theorem Sp.fJ_yes (hn : (t.map Sp.c0).Nodup) (h : Sp.fJ ns t k q out) (hq : q < (t.length : Int)) (he : Sp.c0 (rGet t q) = Sp.c0 (rGet ns k)) : Sp.fJ ns t k (q + 1) (out ++ [[.i (Sp.c0 (rGet t q))]]) := by
  obtain ⟨h0, h1, h2⟩ := h
  have hno : Sp.has (t.take q.toNat) (Sp.c0 (rGet ns k)) = false := by
    cases hh : Sp.has (t.take q.toNat) (Sp.c0 (rGet ns k))
    · rfl
    · exfalso
      obtain ⟨x, hx, hx2⟩ := Sp.has_iff.1 hh
      obtain ⟨p, hp, hpq, rfl⟩ := Sp.mem_take hx
      obtain ⟨u, rfl⟩ : ∃ u : Nat, q = (u : Int) := ⟨q.toNat, by omega⟩
      have := (List.pairwise_iff_getElem.1 hn) p u (by rw [List.length_map]; omega) (by rw [List.length_map]; omega) (by omega)
      rw [Sp.row_get (by omega)] at he
      exact this (by rw [List.getElem_map, List.getElem_map, hx2, he])
  refine ⟨by omega, by omega, ?_⟩
  rw [Sp.has_take h0 hq, hno, he, h2, hno]
  simp
theorem Sp.fJ_no (h : Sp.fJ ns t k q out) (hq : q < (t.length : Int)) (he : ¬ Sp.c0 (rGet t q) = Sp.c0 (rGet ns k)) : Sp.fJ ns t k (q + 1) out := by
  obtain ⟨h0, h1, h2⟩ := h
  refine ⟨by omega, by omega, ?_⟩
  rw [Sp.has_take h0 hq, decide_eq_false he, Bool.or_false]
  exact h2
theorem Sp.fJ_end (h : Sp.fJ ns t k q out) (hq : ¬ q < (t.length : Int)) (k0 : 0 ≤ k) (hk : k < (ns.length : Int)) : Sp.fI ns t (k + 1) out := by
  obtain ⟨h0, h1, h2⟩ := h
  rw [show t.take q.toNat = t from List.take_of_length_le (by omega)] at h2
  refine ⟨by omega, by omega, ?_⟩
  rw [h2, Sp.take_succ k0 hk]
  unfold Sp.rcf
  rw [List.filter_append, List.map_append]
  congr 1
  cases hc : Sp.has t (Sp.c0 (rGet ns k))
  · rw [List.filter_cons, hc]; rfl
  · rw [List.filter_cons, hc]; rfl
theorem Sp.rcf_len : (Sp.rcf ns t).length ≤ ns.length := by
  unfold Sp.rcf
  rw [List.length_map]
  exact List.length_filter_le _ _
theorem Sp.fJ_len (h : Sp.fJ ns t k q out) : out.length ≤ ns.length + 1 := by
  obtain ⟨h0, h1, h2⟩ := h
  rw [h2, List.length_append]
  have := Sp.rcf_len (ns := ns.take k.toNat) (t := t)
  rw [List.length_take] at this
  split
  · simp only [List.length_singleton]; omega
  · simp only [List.length_nil]; omega
end Go

namespace Go.Sx
/-! ### function 18: ref22.Reach -/
def ct18 : Ct := { ps := [(true, [.sl [.int .i64, .int .i64, .int .i64, .int .i64], .sl [.int .i64, .int .i64, .int .i64, .int .i64]]), (false, [.int .i64])], rs := [(false, [.sl [.int .i64]])], pre := fun _ => True, out := fun a => [[.l (Sp.rch (cel 0 (arg 0 a)).list (cel 1 (arg 0 a)).list (cel 0 (arg 1 a)).int)]] }
def tb18 : List (Nat × Ct) := [(15, ct15), (1000031, ct1000031)]
theorem e18 (ns : List (List C)) (ls : List (List C)) (id : Int) : vcF Go.Proofs.Try.prog (look tb18) (fun _ => false) (fun _ ii => bif Nat.beq ii 5 then .on (fun sv0 => match sv0.tmps.getD 5 .undef with | .own rr _ => .inv (Int × List (List C)) (fun z => Sp.qI ls id z.1 z.2) (fun z => [(6, .int .i64 z.1), (5, .own rr 0)]) (fun z => [(rr, .row [.int .i64] 3 0 z.2)]) [rr] [0, 1, 2, 4, 5, 6, 8, 9, 11, 12, 14, 16, 19, 25, 29, 30, 31, 32, 35, 36, 37, 38, 59, 67, 68, 69, 70, 74, 75, 76, 77, 83] (fun z => 300 - z.1.toNat) | _ => .unroll 0) else bif Nat.beq ii 8 then .on (fun sv0 => match sv0.tmps.getD 5 .undef, sv0.tmps.getD 6 .undef with | .own rr _, .int _ i0 => .inv (Int × List (List C)) (fun z => Sp.qJ ls id i0 z.1 z.2) (fun z => [(31, .int .i64 z.1), (5, .own rr 0)]) (fun z => [(rr, .row [.int .i64] 3 0 z.2)]) [rr] [0, 1, 2, 4, 5, 6, 8, 9, 11, 12, 14, 16, 19, 25, 29, 30, 31, 32, 35, 36, 37, 38, 59, 67, 68, 69, 70, 74, 75, 76, 77, 83] (fun z => ls.length - z.1.toNat) | _, _ => .unroll 0) else bif Nat.beq ii 12 then .on (fun sv0 => match sv0.tmps.getD 5 .undef with | .own rr _ => (match curOf sv0.heap rr with | some (_, _, out) => (match sv0.tmps.getD 8 .undef with | .ref bb8 _ => (match sv0.heap[bb8]? with | some (.box [.int _ q0, .int _ q1, .int _ q2, .int _ q3] _) => .inv (Int × Bool) (fun z => Sp.bkI out q2 false z.1 z.2) (fun z => [(37, .int .i64 z.1), (9, .bool z.2)]) (fun z => []) [] [0, 1, 2, 4, 5, 6, 8, 9, 11, 12, 14, 16, 19, 25, 29, 30, 31, 32, 35, 36, 37, 38, 59, 67, 68, 69, 70, 74, 75, 76, 77, 83] (fun z => out.length - z.1.toNat) | _ => .unroll 0) | _ => .unroll 0) | none => .unroll 0) | _ => .unroll 0) else bif Nat.beq ii 21 then .settle (.ghost 12 [.int .i64] 3 (.on (fun sv0 => match sv0.tmps.getD 12 .undef, sv0.tmps.getD 5 .undef with | .own oo _, .sl _ rl => .inv (Int × List (List C)) (fun z => Sp.fI ns (rl.drop 1) z.1 z.2) (fun z => [(69, .int .i64 z.1), (12, .own oo 0)]) (fun z => [(oo, .row [.int .i64] 3 0 z.2)]) [oo] [0, 1, 2, 4, 5, 6, 8, 9, 11, 12, 14, 16, 19, 25, 29, 30, 31, 32, 35, 36, 37, 38, 59, 67, 68, 69, 70, 74, 75, 76, 77, 83] (fun z => ns.length - z.1.toNat) | _, _ => .unroll 0))) else bif Nat.beq ii 24 then .on (fun sv0 => match sv0.tmps.getD 12 .undef, sv0.tmps.getD 69 .undef with | .own oo _, .int _ k0 => (match sv0.tmps.getD 74 .undef with | .sl _ tl => .inv (Int × List (List C)) (fun z => Sp.fJ ns tl k0 z.1 z.2) (fun z => [(76, .int .i64 z.1), (12, .own oo 0)]) (fun z => [(oo, .row [.int .i64] 3 0 z.2)]) [oo] [0, 1, 2, 4, 5, 6, 8, 9, 11, 12, 14, 16, 19, 25, 29, 30, 31, 32, 35, 36, 37, 38, 59, 67, 68, 69, 70, 74, 75, 76, 77, 83] (fun z => tl.length - z.1.toNat) | _ => .unroll 0) | _, _ => .unroll 0) else .unroll 0) 6 18 [.agg [.sl [.int .i64, .int .i64, .int .i64, .int .i64] ns, .sl [.int .i64, .int .i64, .int .i64, .int .i64] ls], .int .i64 id] [] (fun sv heap => Gives [(false, [.sl [.int .i64]])] [[.l (Sp.rch ns ls id)]] sv heap) = (True ∧ (True → True ∧ (bNot (Sp.vld ns ls) = true → ([] = Sp.rch ns ls id ∧ True) ∧ True) ∧ (bNot (Sp.vld ns ls) = false → (∃ (x : Int × List (List C)), Sp.qI ls id x.1 x.2 ∧ true = true ∧ ((IntKind.i64 = IntKind.i64 ∧ 0 = x.1) ∧ (1 = 1 ∧ 0 + 1 = 0 + 1) ∧ True) ∧ ([Sh.int IntKind.i64] = [Sh.int IntKind.i64] ∧ 3 = 3 ∧ 0 + 1 = 0 + 1 ∧ [[C.i id]] = x.2) ∧ True) ∧ (∀ (x : Int × List (List C)), true = true ∧ true = true) ∧ ∀ (x : Int × List (List C)), Sp.qI ls id x.1 x.2 → InR IntKind.i64 x.1 ∧ True ∧ True → (x.2.length ≤ 9223372036854775807 ∧ ∀ (x_1 : List C), x_1 ∈ x.2 → WfCs [Sh.int IntKind.i64] x_1) ∧ True → pLe (iLen x.2) 9223372036854775807 → (bLt x.1 (iLen x.2) = true → pLe (iLen ls) 9223372036854775807 → (∃ (x_1 : Int × List (List C)), Sp.qJ ls id x.1 x_1.1 x_1.2 ∧ true = true ∧ ((IntKind.i64 = IntKind.i64 ∧ 0 = x_1.1) ∧ (1 = 1 ∧ 1 + 1 = 1 + 1) ∧ True) ∧ ([Sh.int IntKind.i64] = [Sh.int IntKind.i64] ∧ 3 = 3 ∧ 1 + 1 = 1 + 1 ∧ x.2 = x_1.2) ∧ True) ∧ (∀ (x : Int × List (List C)), true = true ∧ true = true) ∧ ∀ (x_1 : Int × List (List C)), Sp.qJ ls id x.1 x_1.1 x_1.2 → InR IntKind.i64 x_1.1 ∧ True ∧ True → (x_1.2.length ≤ 9223372036854775807 ∧ ∀ (x : List C), x ∈ x_1.2 → WfCs [Sh.int IntKind.i64] x) ∧ True → (bLt x_1.1 (iLen ls) = true → pIn 0 (iLen ls) x_1.1 ∧ (InR IntKind.i64 ((rGet ls x_1.1).headD default).int ∧ InR IntKind.i64 ((rGet ls x_1.1).tail.headD default).int ∧ InR IntKind.i64 ((rGet ls x_1.1).tail.tail.headD default).int ∧ InR IntKind.i64 ((rGet ls x_1.1).tail.tail.tail.headD default).int ∧ True → pLe (iLen x_1.2) 9223372036854775807 → (∃ (x : Int × Bool), Sp.bkI x_1.2 ((rGet ls x_1.1).tail.tail.headD default).int false x.1 x.2 ∧ true = true ∧ ((IntKind.i64 = IntKind.i64 ∧ 0 = x.1) ∧ false = x.2 ∧ True) ∧ True) ∧ (∀ (x : Int × Bool), true = true ∧ true = true) ∧ ∀ (x_2 : Int × Bool), Sp.bkI x_1.2 ((rGet ls x_1.1).tail.tail.headD default).int false x_2.1 x_2.2 → InR IntKind.i64 x_2.1 ∧ True ∧ True → True → (bLt x_2.1 (iLen x_1.2) = true → pIn 0 (iLen x_1.2) x_2.1 ∧ (InR IntKind.i64 ((rGet x_1.2 x_2.1).headD default).int → (x_2.2 = false → InR IntKind.i64 (iAdd x_2.1 1) ∧ (true = true ∧ (fun z => z = z) [SV.agg [SV.sl [Sh.int IntKind.i64, Sh.int IntKind.i64, Sh.int IntKind.i64, Sh.int IntKind.i64] ns, SV.sl [Sh.int IntKind.i64, Sh.int IntKind.i64, Sh.int IntKind.i64, Sh.int IntKind.i64] ls], SV.int IntKind.i64 id, SV.ref 0 0, SV.nils, SV.own 1 (1 + 1), SV.int IntKind.i64 x.1, SV.ref 2 0, SV.undef, SV.undef, SV.undef, SV.blit false, SV.blit true, SV.sl [Sh.int IntKind.i64, Sh.int IntKind.i64, Sh.int IntKind.i64, Sh.int IntKind.i64] ls, SV.int IntKind.i64 (iLen ls), SV.int IntKind.i64 x_1.1, SV.blit true, SV.own 1 (1 + 1), SV.int IntKind.i64 (iLen x_1.2), SV.any, SV.undef, SV.undef, SV.undef, SV.undef, SV.undef, SV.undef, SV.undef, SV.undef, SV.undef]) ∧ (fun z => z = z) [HB.box [SV.sl [Sh.int IntKind.i64, Sh.int IntKind.i64, Sh.int IntKind.i64, Sh.int IntKind.i64] ns, SV.sl [Sh.int IntKind.i64, Sh.int IntKind.i64, Sh.int IntKind.i64, Sh.int IntKind.i64] ls] 25, HB.row [Sh.int IntKind.i64] 3 (1 + 1) x_1.2, HB.box [SV.int IntKind.i64 ((rGet ls x_1.1).headD default).int, SV.int IntKind.i64 ((rGet ls x_1.1).tail.headD default).int, SV.int IntKind.i64 ((rGet ls x_1.1).tail.tail.headD default).int, SV.int IntKind.i64 ((rGet ls x_1.1).tail.tail.tail.headD default).int] 45] ∧ ∃ (y : Int × Bool), Sp.bkI x_1.2 ((rGet ls x_1.1).tail.tail.headD default).int false y.1 y.2 ∧ true = true ∧ ((IntKind.i64 = IntKind.i64 ∧ iAdd x_2.1 1 = y.1) ∧ bEq ((rGet x_1.2 x_2.1).headD default).int ((rGet ls x_1.1).tail.tail.headD default).int = y.2 ∧ True) ∧ True ∧ x_1.2.length - y.1.toNat < x_1.2.length - x_2.1.toNat) ∧ (x_2.2 = true → InR IntKind.i64 (iAdd x_2.1 1) ∧ (true = true ∧ (fun z => z = z) [SV.agg [SV.sl [Sh.int IntKind.i64, Sh.int IntKind.i64, Sh.int IntKind.i64, Sh.int IntKind.i64] ns, SV.sl [Sh.int IntKind.i64, Sh.int IntKind.i64, Sh.int IntKind.i64, Sh.int IntKind.i64] ls], SV.int IntKind.i64 id, SV.ref 0 0, SV.nils, SV.own 1 (1 + 1), SV.int IntKind.i64 x.1, SV.ref 2 0, SV.undef, SV.undef, SV.undef, SV.blit false, SV.blit true, SV.sl [Sh.int IntKind.i64, Sh.int IntKind.i64, Sh.int IntKind.i64, Sh.int IntKind.i64] ls, SV.int IntKind.i64 (iLen ls), SV.int IntKind.i64 x_1.1, SV.blit true, SV.own 1 (1 + 1), SV.int IntKind.i64 (iLen x_1.2), SV.any, SV.undef, SV.undef, SV.undef, SV.undef, SV.undef, SV.undef, SV.undef, SV.undef, SV.undef]) ∧ (fun z => z = z) [HB.box [SV.sl [Sh.int IntKind.i64, Sh.int IntKind.i64, Sh.int IntKind.i64, Sh.int IntKind.i64] ns, SV.sl [Sh.int IntKind.i64, Sh.int IntKind.i64, Sh.int IntKind.i64, Sh.int IntKind.i64] ls] 25, HB.row [Sh.int IntKind.i64] 3 (1 + 1) x_1.2, HB.box [SV.int IntKind.i64 ((rGet ls x_1.1).headD default).int, SV.int IntKind.i64 ((rGet ls x_1.1).tail.headD default).int, SV.int IntKind.i64 ((rGet ls x_1.1).tail.tail.headD default).int, SV.int IntKind.i64 ((rGet ls x_1.1).tail.tail.tail.headD default).int] 45] ∧ ∃ (y : Int × Bool), Sp.bkI x_1.2 ((rGet ls x_1.1).tail.tail.headD default).int false y.1 y.2 ∧ true = true ∧ ((IntKind.i64 = IntKind.i64 ∧ iAdd x_2.1 1 = y.1) ∧ true = y.2 ∧ True) ∧ True ∧ x_1.2.length - y.1.toNat < x_1.2.length - x_2.1.toNat))) ∧ (bLt x_2.1 (iLen x_1.2) = false → pIn 0 (iLen x_1.2) x.1 ∧ (InR IntKind.i64 ((rGet x_1.2 x.1).headD default).int → (bEq ((rGet ls x_1.1).headD default).int ((rGet x_1.2 x.1).headD default).int = true → True ∧ (bNot x_2.2 = true → pRoom 8 (iLen (x_1.2 ++ [[C.i ((rGet ls x_1.1).tail.tail.headD default).int]])) ∧ InR IntKind.i64 (iAdd x_1.1 1) ∧ (true = true ∧ (fun z => z = z) [SV.agg [SV.sl [Sh.int IntKind.i64, Sh.int IntKind.i64, Sh.int IntKind.i64, Sh.int IntKind.i64] ns, SV.sl [Sh.int IntKind.i64, Sh.int IntKind.i64, Sh.int IntKind.i64, Sh.int IntKind.i64] ls], SV.int IntKind.i64 id, SV.ref 0 0, SV.nils, SV.int IntKind.i64 x.1, SV.undef, SV.undef, SV.undef, SV.blit false, SV.blit true, SV.sl [Sh.int IntKind.i64, Sh.int IntKind.i64, Sh.int IntKind.i64, Sh.int IntKind.i64] ls, SV.int IntKind.i64 (iLen ls), SV.undef, SV.undef, SV.undef, SV.undef, SV.undef, SV.undef, SV.undef, SV.undef, SV.undef]) ∧ (fun z => z = z) [HB.box [SV.sl [Sh.int IntKind.i64, Sh.int IntKind.i64, Sh.int IntKind.i64, Sh.int IntKind.i64] ns, SV.sl [Sh.int IntKind.i64, Sh.int IntKind.i64, Sh.int IntKind.i64, Sh.int IntKind.i64] ls] 25, HB.gone] ∧ ∃ (y : Int × List (List C)), Sp.qJ ls id x.1 y.1 y.2 ∧ true = true ∧ ((IntKind.i64 = IntKind.i64 ∧ iAdd x_1.1 1 = y.1) ∧ (1 = 1 ∧ 1 + 1 = 1 + 1) ∧ True) ∧ (([Sh.int IntKind.i64] = [Sh.int IntKind.i64] ∧ 3 = 3 ∧ 1 + 1 = 1 + 1 ∧ x_1.2 ++ [[C.i ((rGet ls x_1.1).tail.tail.headD default).int]] = y.2) ∧ True) ∧ ls.length - y.1.toNat < ls.length - x_1.1.toNat) ∧ (bNot x_2.2 = false → InR IntKind.i64 (iAdd x_1.1 1) ∧ (true = true ∧ (fun z => z = z) [SV.agg [SV.sl [Sh.int IntKind.i64, Sh.int IntKind.i64, Sh.int IntKind.i64, Sh.int IntKind.i64] ns, SV.sl [Sh.int IntKind.i64, Sh.int IntKind.i64, Sh.int IntKind.i64, Sh.int IntKind.i64] ls], SV.int IntKind.i64 id, SV.ref 0 0, SV.nils, SV.int IntKind.i64 x.1, SV.undef, SV.undef, SV.undef, SV.blit false, SV.blit true, SV.sl [Sh.int IntKind.i64, Sh.int IntKind.i64, Sh.int IntKind.i64, Sh.int IntKind.i64] ls, SV.int IntKind.i64 (iLen ls), SV.undef, SV.undef, SV.undef, SV.undef, SV.undef, SV.undef, SV.undef, SV.undef, SV.undef]) ∧ (fun z => z = z) [HB.box [SV.sl [Sh.int IntKind.i64, Sh.int IntKind.i64, Sh.int IntKind.i64, Sh.int IntKind.i64] ns, SV.sl [Sh.int IntKind.i64, Sh.int IntKind.i64, Sh.int IntKind.i64, Sh.int IntKind.i64] ls] 25, HB.gone] ∧ ∃ (y : Int × List (List C)), Sp.qJ ls id x.1 y.1 y.2 ∧ true = true ∧ ((IntKind.i64 = IntKind.i64 ∧ iAdd x_1.1 1 = y.1) ∧ (1 = 1 ∧ 1 + 1 = 1 + 1) ∧ True) ∧ (([Sh.int IntKind.i64] = [Sh.int IntKind.i64] ∧ 3 = 3 ∧ 1 + 1 = 1 + 1 ∧ x_1.2 = y.2) ∧ True) ∧ ls.length - y.1.toNat < ls.length - x_1.1.toNat)) ∧ (bEq ((rGet ls x_1.1).headD default).int ((rGet x_1.2 x.1).headD default).int = false → InR IntKind.i64 (iAdd x_1.1 1) ∧ (true = true ∧ (fun z => z = z) [SV.agg [SV.sl [Sh.int IntKind.i64, Sh.int IntKind.i64, Sh.int IntKind.i64, Sh.int IntKind.i64] ns, SV.sl [Sh.int IntKind.i64, Sh.int IntKind.i64, Sh.int IntKind.i64, Sh.int IntKind.i64] ls], SV.int IntKind.i64 id, SV.ref 0 0, SV.nils, SV.int IntKind.i64 x.1, SV.undef, SV.undef, SV.undef, SV.blit false, SV.blit true, SV.sl [Sh.int IntKind.i64, Sh.int IntKind.i64, Sh.int IntKind.i64, Sh.int IntKind.i64] ls, SV.int IntKind.i64 (iLen ls), SV.undef, SV.undef, SV.undef, SV.undef, SV.undef, SV.undef, SV.undef, SV.undef, SV.undef]) ∧ (fun z => z = z) [HB.box [SV.sl [Sh.int IntKind.i64, Sh.int IntKind.i64, Sh.int IntKind.i64, Sh.int IntKind.i64] ns, SV.sl [Sh.int IntKind.i64, Sh.int IntKind.i64, Sh.int IntKind.i64, Sh.int IntKind.i64] ls] 25, HB.gone] ∧ ∃ (y : Int × List (List C)), Sp.qJ ls id x.1 y.1 y.2 ∧ true = true ∧ ((IntKind.i64 = IntKind.i64 ∧ iAdd x_1.1 1 = y.1) ∧ (1 = 1 ∧ 1 + 1 = 1 + 1) ∧ True) ∧ (([Sh.int IntKind.i64] = [Sh.int IntKind.i64] ∧ 3 = 3 ∧ 1 + 1 = 1 + 1 ∧ x_1.2 = y.2) ∧ True) ∧ ls.length - y.1.toNat < ls.length - x_1.1.toNat))))) ∧ (bLt x_1.1 (iLen ls) = false → InR IntKind.i64 (iAdd x.1 1) ∧ (true = true ∧ (fun z => z = z) [SV.agg [SV.sl [Sh.int IntKind.i64, Sh.int IntKind.i64, Sh.int IntKind.i64, Sh.int IntKind.i64] ns, SV.sl [Sh.int IntKind.i64, Sh.int IntKind.i64, Sh.int IntKind.i64, Sh.int IntKind.i64] ls], SV.int IntKind.i64 id, SV.ref 0 0, SV.nils, SV.undef, SV.undef, SV.undef, SV.blit false, SV.undef, SV.undef, SV.undef, SV.undef, SV.undef, SV.undef, SV.undef, SV.undef, SV.undef]) ∧ (fun z => z = z) [HB.box [SV.sl [Sh.int IntKind.i64, Sh.int IntKind.i64, Sh.int IntKind.i64, Sh.int IntKind.i64] ns, SV.sl [Sh.int IntKind.i64, Sh.int IntKind.i64, Sh.int IntKind.i64, Sh.int IntKind.i64] ls] 25, HB.gone] ∧ ∃ (y : Int × List (List C)), Sp.qI ls id y.1 y.2 ∧ true = true ∧ ((IntKind.i64 = IntKind.i64 ∧ iAdd x.1 1 = y.1) ∧ (1 = 1 ∧ 0 + 1 = 0 + 1) ∧ True) ∧ (([Sh.int IntKind.i64] = [Sh.int IntKind.i64] ∧ 3 = 3 ∧ 0 + 1 = 0 + 1 ∧ x_1.2 = y.2) ∧ True) ∧ 300 - y.1.toNat < 300 - x.1.toNat)) ∧ (bLt x.1 (iLen x.2) = false → pLe (iLen ns) 9223372036854775807 → (∃ (x_1 : Int × List (List C)), Sp.fI ns (List.drop 1 x.2) x_1.1 x_1.2 ∧ true = true ∧ ((IntKind.i64 = IntKind.i64 ∧ 0 = x_1.1) ∧ (2 = 2 ∧ 0 + 1 = 0 + 1) ∧ True) ∧ ([Sh.int IntKind.i64] = [Sh.int IntKind.i64] ∧ 3 = 3 ∧ 0 + 1 = 0 + 1 ∧ [] = x_1.2) ∧ True) ∧ (∀ (x : Int × List (List C)), true = true ∧ true = true) ∧ ∀ (x_1 : Int × List (List C)), Sp.fI ns (List.drop 1 x.2) x_1.1 x_1.2 → InR IntKind.i64 x_1.1 ∧ True ∧ True → (x_1.2.length ≤ 9223372036854775807 ∧ ∀ (x : List C), x ∈ x_1.2 → WfCs [Sh.int IntKind.i64] x) ∧ True → (bLt x_1.1 (iLen ns) = true → pIn 0 (iLen ns) x_1.1 ∧ (InR IntKind.i64 ((rGet ns x_1.1).headD default).int ∧ InR IntKind.i64 ((rGet ns x_1.1).tail.headD default).int ∧ InR IntKind.i64 ((rGet ns x_1.1).tail.tail.headD default).int ∧ InR IntKind.i64 ((rGet ns x_1.1).tail.tail.tail.headD default).int ∧ True → geB (some 1) none (iLen x.2) ∧ (pLe (iLen (cutRows x.2 (some 1) none)) 9223372036854775807 → (∃ (x_2 : Int × List (List C)), Sp.fJ ns (cutRows x.2 (some 1) none) x_1.1 x_2.1 x_2.2 ∧ true = true ∧ ((IntKind.i64 = IntKind.i64 ∧ 0 = x_2.1) ∧ (2 = 2 ∧ 1 + 1 = 1 + 1) ∧ True) ∧ ([Sh.int IntKind.i64] = [Sh.int IntKind.i64] ∧ 3 = 3 ∧ 1 + 1 = 1 + 1 ∧ x_1.2 = x_2.2) ∧ True) ∧ (∀ (x : Int × List (List C)), true = true ∧ true = true) ∧ ∀ (x_2 : Int × List (List C)), Sp.fJ ns (cutRows x.2 (some 1) none) x_1.1 x_2.1 x_2.2 → InR IntKind.i64 x_2.1 ∧ True ∧ True → (x_2.2.length ≤ 9223372036854775807 ∧ ∀ (x : List C), x ∈ x_2.2 → WfCs [Sh.int IntKind.i64] x) ∧ True → (bLt x_2.1 (iLen (cutRows x.2 (some 1) none)) = true → pIn 0 (iLen (cutRows x.2 (some 1) none)) x_2.1 ∧ (InR IntKind.i64 ((rGet (cutRows x.2 (some 1) none) x_2.1).headD default).int → (bEq ((rGet (cutRows x.2 (some 1) none) x_2.1).headD default).int ((rGet ns x_1.1).headD default).int = true → pRoom 8 (iLen (x_2.2 ++ [[C.i ((rGet (cutRows x.2 (some 1) none) x_2.1).headD default).int]])) ∧ InR IntKind.i64 (iAdd x_2.1 1) ∧ (true = true ∧ (fun z => z = z) [SV.agg [SV.sl [Sh.int IntKind.i64, Sh.int IntKind.i64, Sh.int IntKind.i64, Sh.int IntKind.i64] ns, SV.sl [Sh.int IntKind.i64, Sh.int IntKind.i64, Sh.int IntKind.i64, Sh.int IntKind.i64] ls], SV.int IntKind.i64 id, SV.ref 0 0, SV.nils, SV.sl [Sh.int IntKind.i64] x.2, SV.int IntKind.i64 x.1, SV.any, SV.any, SV.any, SV.ref 3 0, SV.blit false, SV.blit false, SV.any, SV.any, SV.any, SV.any, SV.any, SV.any, SV.any, SV.any, SV.any, SV.sl [Sh.int IntKind.i64, Sh.int IntKind.i64, Sh.int IntKind.i64, Sh.int IntKind.i64] ns, SV.int IntKind.i64 (iLen ns), SV.int IntKind.i64 x_1.1, SV.blit true, SV.sl [Sh.int IntKind.i64] (cutRows x.2 (some 1) none), SV.int IntKind.i64 (iLen (cutRows x.2 (some 1) none))]) ∧ (fun z => z = z) [HB.box [SV.sl [Sh.int IntKind.i64, Sh.int IntKind.i64, Sh.int IntKind.i64, Sh.int IntKind.i64] ns, SV.sl [Sh.int IntKind.i64, Sh.int IntKind.i64, Sh.int IntKind.i64, Sh.int IntKind.i64] ls] 25, HB.froz [Sh.int IntKind.i64] (0 + 1) x.2, HB.gone, HB.box [SV.int IntKind.i64 ((rGet ns x_1.1).headD default).int, SV.int IntKind.i64 ((rGet ns x_1.1).tail.headD default).int, SV.int IntKind.i64 ((rGet ns x_1.1).tail.tail.headD default).int, SV.int IntKind.i64 ((rGet ns x_1.1).tail.tail.tail.headD default).int] 43] ∧ ∃ (y : Int × List (List C)), Sp.fJ ns (cutRows x.2 (some 1) none) x_1.1 y.1 y.2 ∧ true = true ∧ ((IntKind.i64 = IntKind.i64 ∧ iAdd x_2.1 1 = y.1) ∧ (2 = 2 ∧ 1 + 1 = 1 + 1) ∧ True) ∧ (([Sh.int IntKind.i64] = [Sh.int IntKind.i64] ∧ 3 = 3 ∧ 1 + 1 = 1 + 1 ∧ x_2.2 ++ [[C.i ((rGet (cutRows x.2 (some 1) none) x_2.1).headD default).int]] = y.2) ∧ True) ∧ (cutRows x.2 (some 1) none).length - y.1.toNat < (cutRows x.2 (some 1) none).length - x_2.1.toNat) ∧ (bEq ((rGet (cutRows x.2 (some 1) none) x_2.1).headD default).int ((rGet ns x_1.1).headD default).int = false → InR IntKind.i64 (iAdd x_2.1 1) ∧ (true = true ∧ (fun z => z = z) [SV.agg [SV.sl [Sh.int IntKind.i64, Sh.int IntKind.i64, Sh.int IntKind.i64, Sh.int IntKind.i64] ns, SV.sl [Sh.int IntKind.i64, Sh.int IntKind.i64, Sh.int IntKind.i64, Sh.int IntKind.i64] ls], SV.int IntKind.i64 id, SV.ref 0 0, SV.nils, SV.sl [Sh.int IntKind.i64] x.2, SV.int IntKind.i64 x.1, SV.any, SV.any, SV.any, SV.ref 3 0, SV.blit false, SV.blit false, SV.any, SV.any, SV.any, SV.any, SV.any, SV.any, SV.any, SV.any, SV.any, SV.sl [Sh.int IntKind.i64, Sh.int IntKind.i64, Sh.int IntKind.i64, Sh.int IntKind.i64] ns, SV.int IntKind.i64 (iLen ns), SV.int IntKind.i64 x_1.1, SV.blit true, SV.sl [Sh.int IntKind.i64] (cutRows x.2 (some 1) none), SV.int IntKind.i64 (iLen (cutRows x.2 (some 1) none))]) ∧ (fun z => z = z) [HB.box [SV.sl [Sh.int IntKind.i64, Sh.int IntKind.i64, Sh.int IntKind.i64, Sh.int IntKind.i64] ns, SV.sl [Sh.int IntKind.i64, Sh.int IntKind.i64, Sh.int IntKind.i64, Sh.int IntKind.i64] ls] 25, HB.froz [Sh.int IntKind.i64] (0 + 1) x.2, HB.gone, HB.box [SV.int IntKind.i64 ((rGet ns x_1.1).headD default).int, SV.int IntKind.i64 ((rGet ns x_1.1).tail.headD default).int, SV.int IntKind.i64 ((rGet ns x_1.1).tail.tail.headD default).int, SV.int IntKind.i64 ((rGet ns x_1.1).tail.tail.tail.headD default).int] 43] ∧ ∃ (y : Int × List (List C)), Sp.fJ ns (cutRows x.2 (some 1) none) x_1.1 y.1 y.2 ∧ true = true ∧ ((IntKind.i64 = IntKind.i64 ∧ iAdd x_2.1 1 = y.1) ∧ (2 = 2 ∧ 1 + 1 = 1 + 1) ∧ True) ∧ (([Sh.int IntKind.i64] = [Sh.int IntKind.i64] ∧ 3 = 3 ∧ 1 + 1 = 1 + 1 ∧ x_2.2 = y.2) ∧ True) ∧ (cutRows x.2 (some 1) none).length - y.1.toNat < (cutRows x.2 (some 1) none).length - x_2.1.toNat))) ∧ (bLt x_2.1 (iLen (cutRows x.2 (some 1) none)) = false → InR IntKind.i64 (iAdd x_1.1 1) ∧ (true = true ∧ (fun z => z = z) [SV.agg [SV.sl [Sh.int IntKind.i64, Sh.int IntKind.i64, Sh.int IntKind.i64, Sh.int IntKind.i64] ns, SV.sl [Sh.int IntKind.i64, Sh.int IntKind.i64, Sh.int IntKind.i64, Sh.int IntKind.i64] ls], SV.int IntKind.i64 id, SV.ref 0 0, SV.nils, SV.sl [Sh.int IntKind.i64] x.2, SV.int IntKind.i64 x.1, SV.any, SV.any, SV.any, SV.blit false, SV.blit false, SV.any, SV.any, SV.any, SV.any, SV.any, SV.any, SV.any, SV.any, SV.any, SV.sl [Sh.int IntKind.i64, Sh.int IntKind.i64, Sh.int IntKind.i64, Sh.int IntKind.i64] ns, SV.int IntKind.i64 (iLen ns)]) ∧ (fun z => z = z) [HB.box [SV.sl [Sh.int IntKind.i64, Sh.int IntKind.i64, Sh.int IntKind.i64, Sh.int IntKind.i64] ns, SV.sl [Sh.int IntKind.i64, Sh.int IntKind.i64, Sh.int IntKind.i64, Sh.int IntKind.i64] ls] 25, HB.froz [Sh.int IntKind.i64] (0 + 1) x.2, HB.gone] ∧ ∃ (y : Int × List (List C)), Sp.fI ns (List.drop 1 x.2) y.1 y.2 ∧ true = true ∧ ((IntKind.i64 = IntKind.i64 ∧ iAdd x_1.1 1 = y.1) ∧ (2 = 2 ∧ 0 + 1 = 0 + 1) ∧ True) ∧ (([Sh.int IntKind.i64] = [Sh.int IntKind.i64] ∧ 3 = 3 ∧ 0 + 1 = 0 + 1 ∧ x_2.2 = y.2) ∧ True) ∧ ns.length - y.1.toNat < ns.length - x_1.1.toNat)))) ∧ (bLt x_1.1 (iLen ns) = false → (x_1.2 = Sp.rch ns ls id ∧ True) ∧ True))))) := by kernel_rfl
theorem v18 (ns : List (List C)) (ls : List (List C)) (id : Int) : Holds (Wfs [.agg [.sl [.int .i64, .int .i64, .int .i64, .int .i64] ns, .sl [.int .i64, .int .i64, .int .i64, .int .i64] ls], .int .i64 id] → True → vcF Go.Proofs.Try.prog (look tb18) (fun _ => false) (fun _ ii => bif Nat.beq ii 5 then .on (fun sv0 => match sv0.tmps.getD 5 .undef with | .own rr _ => .inv (Int × List (List C)) (fun z => Sp.qI ls id z.1 z.2) (fun z => [(6, .int .i64 z.1), (5, .own rr 0)]) (fun z => [(rr, .row [.int .i64] 3 0 z.2)]) [rr] [0, 1, 2, 4, 5, 6, 8, 9, 11, 12, 14, 16, 19, 25, 29, 30, 31, 32, 35, 36, 37, 38, 59, 67, 68, 69, 70, 74, 75, 76, 77, 83] (fun z => 300 - z.1.toNat) | _ => .unroll 0) else bif Nat.beq ii 8 then .on (fun sv0 => match sv0.tmps.getD 5 .undef, sv0.tmps.getD 6 .undef with | .own rr _, .int _ i0 => .inv (Int × List (List C)) (fun z => Sp.qJ ls id i0 z.1 z.2) (fun z => [(31, .int .i64 z.1), (5, .own rr 0)]) (fun z => [(rr, .row [.int .i64] 3 0 z.2)]) [rr] [0, 1, 2, 4, 5, 6, 8, 9, 11, 12, 14, 16, 19, 25, 29, 30, 31, 32, 35, 36, 37, 38, 59, 67, 68, 69, 70, 74, 75, 76, 77, 83] (fun z => ls.length - z.1.toNat) | _, _ => .unroll 0) else bif Nat.beq ii 12 then .on (fun sv0 => match sv0.tmps.getD 5 .undef with | .own rr _ => (match curOf sv0.heap rr with | some (_, _, out) => (match sv0.tmps.getD 8 .undef with | .ref bb8 _ => (match sv0.heap[bb8]? with | some (.box [.int _ q0, .int _ q1, .int _ q2, .int _ q3] _) => .inv (Int × Bool) (fun z => Sp.bkI out q2 false z.1 z.2) (fun z => [(37, .int .i64 z.1), (9, .bool z.2)]) (fun z => []) [] [0, 1, 2, 4, 5, 6, 8, 9, 11, 12, 14, 16, 19, 25, 29, 30, 31, 32, 35, 36, 37, 38, 59, 67, 68, 69, 70, 74, 75, 76, 77, 83] (fun z => out.length - z.1.toNat) | _ => .unroll 0) | _ => .unroll 0) | none => .unroll 0) | _ => .unroll 0) else bif Nat.beq ii 21 then .settle (.ghost 12 [.int .i64] 3 (.on (fun sv0 => match sv0.tmps.getD 12 .undef, sv0.tmps.getD 5 .undef with | .own oo _, .sl _ rl => .inv (Int × List (List C)) (fun z => Sp.fI ns (rl.drop 1) z.1 z.2) (fun z => [(69, .int .i64 z.1), (12, .own oo 0)]) (fun z => [(oo, .row [.int .i64] 3 0 z.2)]) [oo] [0, 1, 2, 4, 5, 6, 8, 9, 11, 12, 14, 16, 19, 25, 29, 30, 31, 32, 35, 36, 37, 38, 59, 67, 68, 69, 70, 74, 75, 76, 77, 83] (fun z => ns.length - z.1.toNat) | _, _ => .unroll 0))) else bif Nat.beq ii 24 then .on (fun sv0 => match sv0.tmps.getD 12 .undef, sv0.tmps.getD 69 .undef with | .own oo _, .int _ k0 => (match sv0.tmps.getD 74 .undef with | .sl _ tl => .inv (Int × List (List C)) (fun z => Sp.fJ ns tl k0 z.1 z.2) (fun z => [(76, .int .i64 z.1), (12, .own oo 0)]) (fun z => [(oo, .row [.int .i64] 3 0 z.2)]) [oo] [0, 1, 2, 4, 5, 6, 8, 9, 11, 12, 14, 16, 19, 25, 29, 30, 31, 32, 35, 36, 37, 38, 59, 67, 68, 69, 70, 74, 75, 76, 77, 83] (fun z => tl.length - z.1.toNat) | _ => .unroll 0) | _, _ => .unroll 0) else .unroll 0) 6 18 [.agg [.sl [.int .i64, .int .i64, .int .i64, .int .i64] ns, .sl [.int .i64, .int .i64, .int .i64, .int .i64] ls], .int .i64 id] [] (fun sv heap => Gives [(false, [.sl [.int .i64]])] [[.l (Sp.rch ns ls id)]] sv heap)) := by
  refine ⟨fun hw hp => ?_⟩
  rw [e18]
  simp only [Wfs, Wf, InR, and_true] at hw
  simp only [eq_self, true_and, and_true, true_implies, implies_true, iAdd, iSub, iMul, iLen, bEq, bNe, bLt, bLe, bNot, pIn, pLe, pNe, InR, decide_eq_true_eq, decide_eq_false_iff_not, Bool.not_eq_true', Bool.not_eq_false', decide_eq_decide]
  refine ⟨fun h => by unfold Sp.rch; rw [h]; rfl, fun hv => ⟨⟨(0, _), Sp.qI_init, rfl, rfl⟩, ?_⟩⟩
  have V := Sp.vld_small hv
  rintro ⟨i, r⟩ hi _ _ _
  simp only at hi ⊢
  have i0 := hi.1
  have i1 := hi.2.1
  have rl := Sp.qK_len hi.2.2.1
  refine ⟨fun hlt _ => ⟨⟨(0, r), Sp.qJ_init hi hlt, rfl, rfl⟩, ?_⟩, fun hge => ?_⟩
  · rintro ⟨j, r2⟩ hj _ _
    simp only at hj ⊢
    have j0 := hj.2.2.1
    have j1 := hj.2.2.2.1
    have rl2 := Sp.qK_len hj.2.2.2.2.1
    refine ⟨fun hl => ⟨⟨j0, hl⟩, fun _ _ => ⟨⟨(0, false), Sp.bk_init, rfl, rfl⟩, ?_⟩⟩, fun hl => ⟨by omega, (i + 1, r2), Sp.qJ_end hj hl, rfl, rfl, by simp only; omega⟩⟩
    rintro ⟨q, f⟩ hq _
    simp only at hq ⊢
    have q0 := hq.1
    have q1 := hq.2.1
    refine ⟨fun hlq => ⟨⟨q0, hlq⟩, fun _ => ⟨fun hf => ⟨by omega, (q + 1, _), ?_, ⟨rfl, rfl⟩, by simp only; omega⟩, fun hf => ⟨by omega, (q + 1, true), ?_, ⟨rfl, rfl⟩, by simp only; omega⟩⟩⟩, fun hlq => ?_⟩
    · have st := Sp.bk_step hq hlq
      rw [hf, Bool.false_or] at st
      exact st
    · have st := Sp.bk_step hq hlq
      rw [hf, Bool.true_or] at st
      exact st
    have hb := Sp.bk_end hq hlq
    rw [Bool.false_or] at hb
    refine ⟨⟨i0, hj.2.1⟩, fun _ => ⟨fun he => ⟨fun hf => ⟨by simp only [pRoom, List.length_append, List.length_singleton]; omega, by omega, (j + 1, _), Sp.qJ_add hj hl he (by rw [← hf]; exact hb.symm), rfl, rfl, by simp only; omega⟩, fun hf => ⟨by omega, (j + 1, r2), Sp.qJ_skip hj hl (fun _ => by rw [← hf]; exact hb.symm), rfl, rfl, by simp only; omega⟩⟩, fun he => ⟨by omega, (j + 1, r2), Sp.qJ_skip hj hl (fun h => (he h).elim), rfl, rfl, by simp only; omega⟩⟩⟩
  · have fin := fun n => Sp.q_end (n := n) hi hge
    have hn : ((r.drop 1).map Sp.c0).Nodup := by
      have := hi.2.2.1.1
      rw [List.map_drop]
      exact this.sublist (List.drop_sublist _ _)
    have k2 := hi.2.2.1.2.1
    have cu : cutRows r (some 1) none = r.drop 1 := rfl
    rw [cu]
    refine fun _ => ⟨⟨(0, []), Sp.fI_init, rfl, rfl⟩, ?_⟩
    rintro ⟨k, out⟩ hk _ _
    simp only at hk ⊢
    have k0 := hk.1
    have k1 := hk.2.1
    refine ⟨fun hlt => ⟨⟨k0, hlt⟩, fun _ => ⟨by simp only [geB]; omega, fun hdl => ⟨⟨(0, out), Sp.fJ_init hk, rfl, rfl⟩, ?_⟩⟩⟩, fun hge2 => ?_⟩
    · rintro ⟨q, o2⟩ hq _ _
      simp only at hq ⊢
      have q0 := hq.1
      have q1 := hq.2.1
      have ol := Sp.fJ_len hq
      refine ⟨fun hl => ⟨⟨q0, hl⟩, fun _ => ⟨fun he => ⟨by simp only [pRoom, List.length_append, List.length_singleton]; omega, by omega, (q + 1, _), Sp.fJ_yes hn hq hl he, rfl, rfl, by simp only; omega⟩, fun he => ⟨by omega, (q + 1, o2), Sp.fJ_no hq hl he, rfl, rfl, by simp only; omega⟩⟩⟩, fun hl => ⟨by omega, (k + 1, o2), Sp.fJ_end hq hl k0 hlt, rfl, rfl, by simp only; omega⟩⟩
    · rw [hk.2.2, List.take_of_length_le (by omega), Sp.rcf_rch hv fin]
theorem s18 : SoundCt Go.Proofs.Try.prog 18 ct18 :=
  contractH followsMixed (look_sound (show Tb Go.Proofs.Try.prog tb18 from ⟨s15, ⟨s1000031, trivial⟩⟩)) (fun _ => false) (fun a => fun _ ii => bif Nat.beq ii 5 then .on (fun sv0 => match sv0.tmps.getD 5 .undef with | .own rr _ => .inv (Int × List (List C)) (fun z => Sp.qI (cel 1 (arg 0 a)).list (cel 0 (arg 1 a)).int z.1 z.2) (fun z => [(6, .int .i64 z.1), (5, .own rr 0)]) (fun z => [(rr, .row [.int .i64] 3 0 z.2)]) [rr] [0, 1, 2, 4, 5, 6, 8, 9, 11, 12, 14, 16, 19, 25, 29, 30, 31, 32, 35, 36, 37, 38, 59, 67, 68, 69, 70, 74, 75, 76, 77, 83] (fun z => 300 - z.1.toNat) | _ => .unroll 0) else bif Nat.beq ii 8 then .on (fun sv0 => match sv0.tmps.getD 5 .undef, sv0.tmps.getD 6 .undef with | .own rr _, .int _ i0 => .inv (Int × List (List C)) (fun z => Sp.qJ (cel 1 (arg 0 a)).list (cel 0 (arg 1 a)).int i0 z.1 z.2) (fun z => [(31, .int .i64 z.1), (5, .own rr 0)]) (fun z => [(rr, .row [.int .i64] 3 0 z.2)]) [rr] [0, 1, 2, 4, 5, 6, 8, 9, 11, 12, 14, 16, 19, 25, 29, 30, 31, 32, 35, 36, 37, 38, 59, 67, 68, 69, 70, 74, 75, 76, 77, 83] (fun z => (cel 1 (arg 0 a)).list.length - z.1.toNat) | _, _ => .unroll 0) else bif Nat.beq ii 12 then .on (fun sv0 => match sv0.tmps.getD 5 .undef with | .own rr _ => (match curOf sv0.heap rr with | some (_, _, out) => (match sv0.tmps.getD 8 .undef with | .ref bb8 _ => (match sv0.heap[bb8]? with | some (.box [.int _ q0, .int _ q1, .int _ q2, .int _ q3] _) => .inv (Int × Bool) (fun z => Sp.bkI out q2 false z.1 z.2) (fun z => [(37, .int .i64 z.1), (9, .bool z.2)]) (fun z => []) [] [0, 1, 2, 4, 5, 6, 8, 9, 11, 12, 14, 16, 19, 25, 29, 30, 31, 32, 35, 36, 37, 38, 59, 67, 68, 69, 70, 74, 75, 76, 77, 83] (fun z => out.length - z.1.toNat) | _ => .unroll 0) | _ => .unroll 0) | none => .unroll 0) | _ => .unroll 0) else bif Nat.beq ii 21 then .settle (.ghost 12 [.int .i64] 3 (.on (fun sv0 => match sv0.tmps.getD 12 .undef, sv0.tmps.getD 5 .undef with | .own oo _, .sl _ rl => .inv (Int × List (List C)) (fun z => Sp.fI (cel 0 (arg 0 a)).list (rl.drop 1) z.1 z.2) (fun z => [(69, .int .i64 z.1), (12, .own oo 0)]) (fun z => [(oo, .row [.int .i64] 3 0 z.2)]) [oo] [0, 1, 2, 4, 5, 6, 8, 9, 11, 12, 14, 16, 19, 25, 29, 30, 31, 32, 35, 36, 37, 38, 59, 67, 68, 69, 70, 74, 75, 76, 77, 83] (fun z => (cel 0 (arg 0 a)).list.length - z.1.toNat) | _, _ => .unroll 0))) else bif Nat.beq ii 24 then .on (fun sv0 => match sv0.tmps.getD 12 .undef, sv0.tmps.getD 69 .undef with | .own oo _, .int _ k0 => (match sv0.tmps.getD 74 .undef with | .sl _ tl => .inv (Int × List (List C)) (fun z => Sp.fJ (cel 0 (arg 0 a)).list tl k0 z.1 z.2) (fun z => [(76, .int .i64 z.1), (12, .own oo 0)]) (fun z => [(oo, .row [.int .i64] 3 0 z.2)]) [oo] [0, 1, 2, 4, 5, 6, 8, 9, 11, 12, 14, 16, 19, 25, 29, 30, 31, 32, 35, 36, 37, 38, 59, 67, 68, 69, 70, 74, 75, 76, 77, 83] (fun z => tl.length - z.1.toNat) | _ => .unroll 0) | _, _ => .unroll 0) else .unroll 0) 6 18 ct18 rfl (by simp [ct18]) fun a => Eq.mp (by kernel_rfl) (v18 ((cel 0 (arg 0 a)).list) ((cel 1 (arg 0 a)).list) ((cel 0 (arg 1 a)).int))
end Go.Sx

