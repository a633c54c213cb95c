/- Contracts and conditions, continued. -/
import Derived.Test.YtbobgakeaoigeaaSxUse
import Derived.Test.YtbobgakeaoigeaaC22f
import Derived.Test.YtbobgakeaoigeaaC22u
import Derived.KernelRfl
set_option linter.unusedVariables false
set_option linter.unusedSimpArgs false
set_option maxRecDepth 100000
set_option maxHeartbeats 4000000

noncomputable section
namespace Go
open Go.Sx
variable {ns ls out o : List (List C)} {id n k j : Int} {m : List (Int × List C)}
inductive Sp.Rch (ls : List (List C)) (a : Int) : Int → Prop where
  | one (l : List C) (h : l ∈ ls) (e : Sp.c0 l = a) : Sp.Rch ls a (Sp.c2 l)
  | more (l : List C) (h : l ∈ ls) (r : Sp.Rch ls a (Sp.c0 l)) : Sp.Rch ls a (Sp.c2 l)
open Classical in
def Sp.rB (ls : List (List C)) (id n : Int) : Bool := decide (Sp.Rch ls id n)
def Sp.rch (ns ls : List (List C)) (id : Int) : List (List C) := bif Sp.vld ns ls then (ns.filter (fun x => !decide (Sp.c0 x = id) && Sp.rB ls id (Sp.c0 x))).map (fun x => [.i (Sp.c0 x)]) else []
open Classical in
theorem Sp.rB_iff : Sp.rB ls id n = true ↔ Sp.Rch ls id n := by unfold Sp.rB; exact decide_eq_true_iff
/-- What is known of an order, as far as it goes. -/
structure Sp.OrdP (ns ls out : List (List C)) : Prop where
  sub : ∀ x ∈ out, Sp.has ns (Sp.c0 x) = true
  nd : (out.map Sp.c0).Nodup
  dep : ∀ j : Nat, j < out.length → ∀ l ∈ ls, Sp.c2 l = Sp.c0 (out.getD j []) → Sp.has (out.take j) (Sp.c0 l) = true
theorem Sp.has_map : Sp.has out n = true ↔ n ∈ out.map Sp.c0 := by
  rw [Sp.has_iff, List.mem_map]
theorem Sp.ordF_P : ∀ (f : Nat) (out : List (List C)), Sp.OrdP ns ls out → Sp.OrdP ns ls (Sp.ordF ns ls f out)
  | 0, out, h => h
  | f + 1, out, h => by
    rw [Sp.ordF]
    cases hc : decide (Sp.idx (Sp.rdy ls out) ns 0 < 0)
    · rw [decide_eq_false_iff_not] at hc
      simp only [cond_false]
      obtain ⟨r1, r2⟩ := Sp.rdy_at (ls := ls) (ns := ns) (out := out) (by omega)
      have hm := Sp.row_mem (xs := ns) (k := Sp.idx (Sp.rdy ls out) ns 0) (by omega) r1
      generalize rGet ns (Sp.idx (Sp.rdy ls out) ns 0) = x at *
      unfold Sp.rdy at r2
      rw [Bool.and_eq_true, Bool.not_eq_true'] at r2
      have ci : Sp.c0 [C.i (Sp.c0 x)] = Sp.c0 x := rfl
      refine Sp.ordF_P f _ ⟨fun y hy => ?_, ?_, fun j hj l hl he => ?_⟩
      · rcases List.mem_append.1 hy with hy | hy
        · exact h.sub y hy
        · obtain rfl : y = [C.i (Sp.c0 x)] := by simpa using hy
          exact Sp.has_iff.2 ⟨x, hm, rfl⟩
      · rw [List.map_append, List.nodup_append]
        refine ⟨h.nd, by simp, fun a ha b hb => ?_⟩
        obtain rfl : b = Sp.c0 x := by simpa [ci] using hb
        intro e
        subst e
        have := Sp.has_map.2 ha
        rw [r2.1] at this; cases this
      · simp only [List.length_append, List.length_singleton] at hj
        by_cases hjl : j < out.length
        · rw [List.take_append_of_le_length (by omega)]
          refine h.dep j hjl l hl ?_
          rw [he, List.getD_eq_getElem?_getD, List.getElem?_append_left hjl, ← List.getD_eq_getElem?_getD]
        · obtain rfl : j = out.length := by omega
          rw [List.take_left]
          have e2 : (out ++ [[C.i (Sp.c0 x)]]).getD out.length [] = [C.i (Sp.c0 x)] := by
            rw [List.getD_eq_getElem?_getD, List.getElem?_append_right (Nat.le_refl _), Nat.sub_self]; rfl
          rw [e2, ci] at he
          have := List.all_eq_true.1 r2.2 l hl
          rw [Bool.or_eq_true, Bool.not_eq_true', decide_eq_false_iff_not] at this
          rcases this with h1 | h1
          · exact (h1 he).elim
          · exact h1
    · exact h
theorem Sp.ord_P : Sp.OrdP ns ls (Sp.ord ns ls) := Sp.ordF_P _ _ ⟨fun x hx => by (cases hx), by simp, fun j hj => by (cases hj)⟩
theorem Sp.nodup_le : ∀ {B A : List Int}, B.Nodup → (∀ x ∈ B, x ∈ A) → B.length ≤ A.length
  | [], A, _, _ => by simp
  | b :: B, A, h, hs => by
    rw [List.nodup_cons] at h
    have h1 : ∀ x ∈ B, x ∈ A.erase b := fun x hx => (List.mem_erase_of_ne (fun e => h.1 (by rw [← e]; exact hx))).2 (hs x (by simp [hx]))
    have h2 := Sp.nodup_le h.2 h1
    have h3 := List.length_erase_of_mem (hs b (by simp))
    have h4 : 0 < A.length := List.length_pos_of_mem (hs b (by simp))
    simp only [List.length_cons]
    omega
theorem Sp.vld_ordlen (h : Sp.vld ns ls = true) : (Sp.ord ns ls).length = ns.length := by
  unfold Sp.vld at h
  simp only [Bool.and_eq_true, decide_eq_true_eq] at h
  exact h.2
theorem Sp.ord_all (h : Sp.vld ns ls = true) (hn : Sp.has ns n = true) : Sp.has (Sp.ord ns ls) n = true := by
  apply Classical.byContradiction
  intro hc
  have p := Sp.ord_P (ns := ns) (ls := ls)
  have h1 : (n :: (Sp.ord ns ls).map Sp.c0).Nodup := List.nodup_cons.2 ⟨fun hm => hc (Sp.has_map.2 hm), p.nd⟩
  have h2 : ∀ x ∈ n :: (Sp.ord ns ls).map Sp.c0, x ∈ ns.map Sp.c0 := fun x hx => by
    rcases List.mem_cons.1 hx with rfl | hx
    · exact Sp.has_map.1 hn
    · obtain ⟨y, hy, rfl⟩ := List.mem_map.1 hx
      exact Sp.has_map.1 (p.sub y hy)
  have := Sp.nodup_le h1 h2
  simp only [List.length_cons, List.length_map, Sp.vld_ordlen h] at this
  omega
theorem Sp.vld_link (h : Sp.vld ns ls = true) {l : List C} (hl : l ∈ ls) : Sp.has ns (Sp.c0 l) = true ∧ Sp.has ns (Sp.c2 l) = true := by
  obtain ⟨k, k0, k1, rfl⟩ := Sp.mem_row hl
  unfold Sp.vld at h
  simp only [Bool.and_eq_true, decide_eq_true_eq] at h
  have := Sp.allI_iff.1 h.1.2 k k0 k1
  unfold Sp.lokI at this
  simp only [Bool.and_eq_true, Sp.ends_eq, decide_eq_true_eq] at this
  obtain ⟨⟨e, _⟩, _⟩ := this
  refine ⟨?_, ?_⟩
  · cases hh : Sp.has ns (Sp.c0 (rGet ls k))
    · rw [Sp.nd_no hh] at e
      have : Sp.c3 ([] : List C) = 0 := rfl
      omega
    · rfl
  · cases hh : Sp.has ns (Sp.c2 (rGet ls k))
    · rw [Sp.nd_no hh] at e
      have : Sp.c2 ([] : List C) = 0 := rfl
      omega
    · rfl
/-- A link's end comes behind its beginning. -/
theorem Sp.ord_topo (k : Nat) (hk : k < (Sp.ord ns ls).length) {l : List C} (hl : l ∈ ls) (he : Sp.c0 l = Sp.c0 ((Sp.ord ns ls).getD k [])) : Sp.has ((Sp.ord ns ls).take (k + 1)) (Sp.c2 l) = false := by
  have p := Sp.ord_P (ns := ns) (ls := ls)
  cases hh : Sp.has ((Sp.ord ns ls).take (k + 1)) (Sp.c2 l)
  · rfl
  · exfalso
    obtain ⟨x, hx, hx2⟩ := Sp.has_iff.1 hh
    obtain ⟨j, hj, rfl⟩ := List.mem_iff_getElem.1 hx
    rw [List.length_take] at hj
    rw [List.getElem_take] at hx2
    have hj2 : j < (Sp.ord ns ls).length := by omega
    have := p.dep j hj2 l hl (by rw [← hx2, List.getD_eq_getElem?_getD, List.getElem?_eq_getElem hj2]; rfl)
    obtain ⟨y, hy, hy2⟩ := Sp.has_iff.1 this
    obtain ⟨i, hi, rfl⟩ := List.mem_iff_getElem.1 hy
    rw [List.length_take] at hi
    rw [List.getElem_take, he, List.getD_eq_getElem?_getD, List.getElem?_eq_getElem hk, Option.getD_some] at hy2
    have nd := p.nd
    have h1 : ((Sp.ord ns ls).map Sp.c0)[i]'(by rw [List.length_map]; omega) = ((Sp.ord ns ls).map Sp.c0)[k]'(by rw [List.length_map]; omega) := by simpa using hy2
    exact (List.pairwise_iff_getElem.1 nd) i k (by rw [List.length_map]; omega) (by rw [List.length_map]; omega) (by omega) h1
def Sp.inS (out : List (List C)) (id n : Int) : Bool := decide (n = id) || Sp.has out n
def Sp.rmI (m : List (Int × List C)) (out : List (List C)) (id : Int) : Prop := ∀ n, kGet m n [.b false] = [.b (Sp.inS out id n)]
def Sp.rcl (ls o out : List (List C)) (id : Int) : Prop := ∀ l ∈ ls, Sp.has o (Sp.c0 l) = true → Sp.inS out id (Sp.c0 l) = true → Sp.inS out id (Sp.c2 l) = true
def Sp.rsd (ls out : List (List C)) (id : Int) : Prop := (out.map Sp.c0).Nodup ∧ ∀ x ∈ out, Sp.c0 x ≠ id ∧ Sp.Rch ls id (Sp.c0 x)
def Sp.rK (ns ls : List (List C)) (id k : Int) (out : List (List C)) (m : List (Int × List C)) : Prop := 0 ≤ k ∧ k ≤ ((Sp.ord ns ls).length : Int) ∧ Sp.rmI m out id ∧ Sp.rsd ls out id ∧ Sp.rcl ls ((Sp.ord ns ls).take k.toNat) out id
end Go

namespace Go
open Go.Sx
def Sp.rI (ns ls : List (List C)) (id k : Int) (out : List (List C)) (m : List (Int × List C)) : Prop := Sp.rK ns ls id k out m ∧ (out.length : Int) ≤ 256 * k
def Sp.rJ (ns ls : List (List C)) (id k j : Int) (out : List (List C)) (m : List (Int × List C)) : Prop := 0 ≤ j ∧ j ≤ (ls.length : Int) ∧ Sp.rK ns ls id k out m ∧ Sp.rcl (ls.take j.toNat) ((Sp.ord ns ls).take (k + 1).toNat) out id ∧ (out.length : Int) ≤ 256 * k + j
end Go

namespace Go
open Go.Sx
variable {ns ls out o : List (List C)} {id n k j : Int} {m : List (Int × List C)}
theorem Sp.inS_app (a : Int) : Sp.inS (out ++ [[.i a]]) id n = (Sp.inS out id n || decide (a = n)) := by
  unfold Sp.inS
  rw [Sp.has_app, Bool.or_assoc]
theorem Sp.rI_init : Sp.rI ns ls id 0 [] (kPut [] id [.b true]) := by
  refine ⟨⟨by omega, by omega, fun n => ?_, ⟨by simp, fun x hx => by (cases hx)⟩, fun l hl h => ?_⟩, by simp⟩
  · rw [Sp.kGet_put]
    unfold Sp.inS
    by_cases h : id = n
    · rw [if_pos h, decide_eq_true h.symm]; rfl
    · rw [if_neg h, decide_eq_false (fun e => h e.symm), Sp.has_nil]; rfl
  · rw [show (0 : Int).toNat = 0 from rfl, List.take_zero, Sp.has_nil] at h; cases h
theorem Sp.rJ_init (h : Sp.rI ns ls id k out m) : Sp.rJ ns ls id k 0 out m := by
  refine ⟨by omega, by omega, h.1, fun l hl => ?_, by have := h.2; omega⟩
  rw [show (0 : Int).toNat = 0 from rfl, List.take_zero] at hl; cases hl
theorem Sp.has_take (h0 : 0 ≤ k) (hk : k < (o.length : Int)) : Sp.has (o.take (k + 1).toNat) n = (Sp.has (o.take k.toNat) n || decide (Sp.c0 (rGet o k) = n)) := by
  rw [Sp.take_succ h0 hk, Bool.eq_iff_iff, Bool.or_eq_true, Sp.has_iff, Sp.has_iff, decide_eq_true_eq]
  simp only [List.mem_append, List.mem_singleton]
  constructor
  · rintro ⟨x, hx | rfl, e⟩
    · exact .inl ⟨x, hx, e⟩
    · exact .inr e
  · rintro (⟨x, hx, e⟩ | e)
    · exact ⟨x, .inl hx, e⟩
    · exact ⟨_, .inr rfl, e⟩
theorem Sp.rJ_skip (h : Sp.rJ ns ls id k j out m) (hk : k < ((Sp.ord ns ls).length : Int)) (hj : j < (ls.length : Int))
    (hc : Sp.c0 (rGet ls j) = Sp.c0 (rGet (Sp.ord ns ls) k) → Sp.inS out id (Sp.c0 (rGet (Sp.ord ns ls) k)) = true → Sp.inS out id (Sp.c2 (rGet ls j)) = true) : Sp.rJ ns ls id k (j + 1) out m := by
  obtain ⟨p0, p1, p2, p3, p4⟩ := h
  refine ⟨by omega, by omega, p2, fun l hl ho hi => ?_, by omega⟩
  rw [Sp.take_succ p0 hj] at hl
  rcases List.mem_append.1 hl with hl | hl
  · exact p3 l hl ho hi
  · obtain rfl : l = rGet ls j := by simpa using hl
    rw [Sp.has_take p2.1 hk, Bool.or_eq_true, decide_eq_true_eq] at ho
    rcases ho with ho | ho
    · exact p2.2.2.2.2 _ (Sp.row_mem p0 hj) ho hi
    · exact hc ho.symm (by rw [ho]; exact hi)
theorem Sp.rJ_add (h : Sp.rJ ns ls id k j out m) (hk : k < ((Sp.ord ns ls).length : Int)) (hj : j < (ls.length : Int)) (he : Sp.c0 (rGet ls j) = Sp.c0 (rGet (Sp.ord ns ls) k))
    (hi : Sp.inS out id (Sp.c0 (rGet (Sp.ord ns ls) k)) = true) (hn : Sp.inS out id (Sp.c2 (rGet ls j)) = false) :
    Sp.rJ ns ls id k (j + 1) (out ++ [[.i (Sp.c2 (rGet ls j))]]) (kPut m (Sp.c2 (rGet ls j)) [.b true]) := by
  obtain ⟨p0, p1, ⟨k0, k1, r1, r2, r3⟩, p3, p4⟩ := h
  have hm := Sp.row_mem p0 hj
  have topo : Sp.has ((Sp.ord ns ls).take (k + 1).toNat) (Sp.c2 (rGet ls j)) = false := by
    have := Sp.ord_topo (ns := ns) (ls := ls) k.toNat (by omega) hm he
    rwa [show (k + 1).toNat = k.toNat + 1 by omega]
  have topo0 : Sp.has ((Sp.ord ns ls).take k.toNat) (Sp.c2 (rGet ls j)) = false := by
    rw [Sp.has_take k0 hk, Bool.or_eq_false_iff] at topo
    exact topo.1
  have nin : Sp.has out (Sp.c2 (rGet ls j)) = false ∧ Sp.c2 (rGet ls j) ≠ id := by
    unfold Sp.inS at hn
    rw [Bool.or_eq_false_iff, decide_eq_false_iff_not] at hn
    exact ⟨hn.2, hn.1⟩
  have reach : Sp.Rch ls id (Sp.c2 (rGet ls j)) := by
    unfold Sp.inS at hi
    rw [Bool.or_eq_true, decide_eq_true_eq] at hi
    rcases hi with hi | hi
    · exact .one _ hm (he.trans hi)
    · obtain ⟨x, hx, hx2⟩ := Sp.has_iff.1 hi
      have := (r2.2 x hx).2
      rw [hx2, ← he] at this
      exact .more _ hm this
  have grow : ∀ (o' : List (List C)), Sp.has o' (Sp.c2 (rGet ls j)) = false → ∀ l : List C, (Sp.inS out id (Sp.c0 l) = true → Sp.inS out id (Sp.c2 l) = true ∨ l = rGet ls j) → Sp.has o' (Sp.c0 l) = true →
      Sp.inS (out ++ [[.i (Sp.c2 (rGet ls j))]]) id (Sp.c0 l) = true → Sp.inS (out ++ [[.i (Sp.c2 (rGet ls j))]]) id (Sp.c2 l) = true := fun o' ho' l hl h1 h2 => by
    rw [Sp.inS_app, Bool.or_eq_true, decide_eq_true_eq] at h2 ⊢
    rcases h2 with h2 | h2
    · rcases hl h2 with h3 | h3
      · exact .inl h3
      · rw [h3]; exact .inr rfl
    · rw [← h2, ho'] at h1; cases h1
  refine ⟨by omega, by omega, ⟨k0, k1, fun n => ?_, ⟨?_, fun x hx => ?_⟩, fun l hl h1 h2 => grow _ topo0 l (fun h3 => .inl (r3 l hl h1 h3)) h1 h2⟩, fun l hl h1 h2 => ?_, by simp only [List.length_append, List.length_singleton]; omega⟩
  · rw [Sp.kGet_put, Sp.inS_app, r1 n]
    by_cases h : Sp.c2 (rGet ls j) = n
    · rw [if_pos h, decide_eq_true h, Bool.or_true]
    · rw [if_neg h, decide_eq_false h, Bool.or_false]
  · rw [List.map_append, List.nodup_append]
    refine ⟨r2.1, by simp, fun a ha b hb => ?_⟩
    have hb' : b = Sp.c2 (rGet ls j) := List.mem_singleton.1 hb
    intro e
    have := Sp.has_map.2 ha
    rw [e, hb', nin.1] at this; cases this
  · rcases List.mem_append.1 hx with hx | hx
    · exact r2.2 x hx
    · obtain rfl : x = [C.i (Sp.c2 (rGet ls j))] := by simpa using hx
      exact ⟨nin.2, reach⟩
  · refine grow _ topo l (fun h3 => ?_) h1 h2
    rw [Sp.take_succ p0 hj] at hl
    rcases List.mem_append.1 hl with hl | hl
    · exact .inl (p3 l hl h1 h3)
    · exact .inr (by simpa using hl)
theorem Sp.rJ_end (h : Sp.rJ ns ls id k j out m) (hv : Sp.vld ns ls = true) (hk : k < ((Sp.ord ns ls).length : Int)) (hj : ¬ j < (ls.length : Int)) : Sp.rI ns ls id (k + 1) out m := by
  obtain ⟨p0, p1, ⟨k0, k1, r1, r2, r3⟩, p3, p4⟩ := h
  have := (Sp.vld_small hv).2
  rw [List.take_of_length_le (by omega)] at p3
  exact ⟨⟨by omega, by omega, r1, r2, p3⟩, by omega⟩
theorem Sp.asc_eq : ∀ {A B : List Int}, A.Pairwise (· < ·) → B.Pairwise (· < ·) → (∀ x, x ∈ A ↔ x ∈ B) → A = B
  | [], [], _, _, _ => rfl
  | [], b :: B, _, _, h => by have := (h b).2 (by simp); cases this
  | a :: A, [], _, _, h => by have := (h a).1 (by simp); cases this
  | a :: A, b :: B, h1, h2, h => by
    rw [List.pairwise_cons] at h1 h2
    have e : a = b := by
      have ha := (h a).1 (by simp)
      have hb := (h b).2 (by simp)
      rcases List.mem_cons.1 ha with ha | ha
      · exact ha
      · rcases List.mem_cons.1 hb with hb | hb
        · exact hb.symm
        · have := h1.1 b hb
          have := h2.1 a ha
          omega
    subst e
    congr 1
    refine Sp.asc_eq h1.2 h2.2 fun x => ⟨fun hx => ?_, fun hx => ?_⟩
    · rcases List.mem_cons.1 ((h x).1 (by simp [hx])) with rfl | h3
      · have := h1.1 x hx; omega
      · exact h3
    · rcases List.mem_cons.1 ((h x).2 (by simp [hx])) with rfl | h3
      · have := h2.1 x hx; omega
      · exact h3
theorem Sp.srt_asc {A : List Int} (h : A.Nodup) : (A.mergeSort fun x y => decide (x ≤ y)).Pairwise (· < ·) := by
  have h1 : (A.mergeSort fun x y => decide (x ≤ y)).Pairwise (fun x y => decide (x ≤ y) = true) := List.pairwise_mergeSort (fun a b c h1 h2 => by simp only [decide_eq_true_eq] at *; omega) (fun a b => by simp only [Bool.or_eq_true, decide_eq_true_eq]; omega) A
  have h2 : (A.mergeSort fun x y => decide (x ≤ y)).Nodup := (List.mergeSort_perm A _).nodup_iff.2 h
  refine (h1.and h2).imp fun h => ?_
  obtain ⟨h3, h4⟩ := h
  simp only [decide_eq_true_eq] at h3
  omega
theorem Sp.rI_end (h : Sp.rI ns ls id k out m) (hv : Sp.vld ns ls = true) (hk : ¬ k < ((Sp.ord ns ls).length : Int)) : Sp.srt out = Sp.rch ns ls id := by
  obtain ⟨⟨k0, k1, r1, r2, r3⟩, _⟩ := h
  rw [List.take_of_length_le (by omega)] at r3
  have cl : ∀ x, Sp.Rch ls id x → Sp.inS out id x = true := fun x hx => by
    induction hx with
    | one l hl he => exact r3 l hl (Sp.ord_all hv (Sp.vld_link hv hl).1) (by unfold Sp.inS; rw [decide_eq_true he]; rfl)
    | more l hl _ ih => exact r3 l hl (Sp.ord_all hv (Sp.vld_link hv hl).1) ih
  have lk : ∀ x, Sp.Rch ls id x → Sp.has ns x = true := fun x hx => by
    cases hx with
    | one l hl he => exact (Sp.vld_link hv hl).2
    | more l hl _ => exact (Sp.vld_link hv hl).2
  have e : ((out.map Sp.c0).mergeSort fun x y => decide (x ≤ y)) = (ns.filter (fun x => !decide (Sp.c0 x = id) && Sp.rB ls id (Sp.c0 x))).map Sp.c0 := by
    refine Sp.asc_eq (Sp.srt_asc r2.1) ?_ fun x => ?_
    · rw [List.pairwise_map]
      exact (Sp.nok_pw (Sp.vld_nok hv)).filter _
    · rw [List.mem_mergeSort]
      constructor
      · intro hx
        obtain ⟨y, hy, rfl⟩ := List.mem_map.1 hx
        obtain ⟨h1, h2⟩ := r2.2 y hy
        obtain ⟨z, hz, hz2⟩ := Sp.has_iff.1 (lk _ h2)
        rw [← hz2]
        refine List.mem_map.2 ⟨z, List.mem_filter.2 ⟨hz, ?_⟩, rfl⟩
        rw [hz2, decide_eq_false h1, Sp.rB_iff.2 h2]; rfl
      · intro hx
        obtain ⟨z, hz, rfl⟩ := List.mem_map.1 hx
        obtain ⟨h1, h2⟩ := List.mem_filter.1 hz
        rw [Bool.and_eq_true, Bool.not_eq_true', decide_eq_false_iff_not, Sp.rB_iff] at h2
        have := cl _ h2.2
        unfold Sp.inS at this
        rw [decide_eq_false h2.1, Bool.false_or] at this
        exact Sp.has_map.1 this
  unfold Sp.srt Sp.rch
  rw [hv, cond_true, e, List.map_map]
  rfl
end Go

namespace Go.Sx
/-! ### function 17: graph.Reach -/
def ct17 : Ct := { ps := [(true, [.sl [.int .i64, .int .i64, .int .i64, .int .i64], .sl [.int .i64, .int .i64, .int .i64, .int .i64]]), (false, [.int .i64])], rs := [(false, [.sl [.int .i64]])], pre := fun _ => True, out := fun a => [[.l (Sp.rch (cel 0 (arg 0 a)).list (cel 1 (arg 0 a)).list (cel 0 (arg 1 a)).int)]] }
def tb17 : List (Nat × Ct) := [(14, ct14), (37, ct37), (48, ct48)]
def A17 (ns : List (List C)) (ls : List (List C)) (id : Int) : FuncId → Nat → LoopAnn := fun _ ii => bif Nat.beq ii 6 then .ghost 6 [.int .i64] 3 (.on (fun sv0 => match sv0.tmps.getD 6 .undef, sv0.tmps.getD 5 .undef with | .own rr _, .own mk0 _ => .inv (Int × List (List C) × List (Int × List C)) (fun z => Sp.rI ns ls id z.1 z.2.1 z.2.2) (fun z => [(20, .int .i64 z.1), (6, .own rr 0)]) (fun z => [(rr, .row [.int .i64] 3 0 z.2.1), (mk0, .mp .i64 false [.bool] 0 z.2.2)]) [rr, mk0] [0, 1, 2, 4, 5, 6, 8, 10, 13, 18, 19, 20, 21, 25, 26, 27, 28, 46] (fun z => (Sp.ord ns ls).length - z.1.toNat) | _, _ => .unroll 0)) else bif Nat.beq ii 9 then .on (fun sv0 => match sv0.tmps.getD 6 .undef, sv0.tmps.getD 5 .undef, sv0.tmps.getD 20 .undef with | .own rr _, .own mk0 _, .int _ k0 => .inv (Int × List (List C) × List (Int × List C)) (fun z => Sp.rJ ns ls id k0 z.1 z.2.1 z.2.2) (fun z => [(27, .int .i64 z.1), (6, .own rr 0)]) (fun z => [(rr, .row [.int .i64] 3 0 z.2.1), (mk0, .mp .i64 false [.bool] 0 z.2.2)]) [rr, mk0] [0, 1, 2, 4, 5, 6, 8, 10, 13, 18, 19, 20, 21, 25, 26, 27, 28, 46] (fun z => ls.length - z.1.toNat) | _, _, _ => .unroll 0) else .unroll 0
abbrev B17 (ns : List (List C)) (ls : List (List C)) (id : Int) : Prop := vcF Go.Proofs.Try.prog (look tb17) (fun _ => false) (A17 ns ls id) 6 17 [.agg [.sl [.int .i64, .int .i64, .int .i64, .int .i64] ns, .sl [.int .i64, .int .i64, .int .i64, .int .i64] ls], .int .i64 id] [] (fun sv heap => Gives [(false, [.sl [.int .i64]])] [[.l (Sp.rch ns ls id)]] sv heap)
def h17_0 : List (List C) → List (List C) → Int → Int × List (List C) × List (Int × List C) → List SV := fun (ns ls : List (List C)) (id : Int) (x : Int × List (List C) × List (Int × List C)) => [SV.agg [SV.sl [.int .i64, .int .i64, .int .i64, .int .i64] ns, SV.sl [.int .i64, .int .i64, .int .i64, .int .i64] ls], SV.int .i64 id, SV.ref 0 0, SV.nils, SV.own 1 0, SV.int .i64 ((rGet (Sp.ord ns ls) x.1).headD default).int, SV.blit false, SV.sl [.int .i64] (Sp.ord ns ls), SV.int .i64 (iLen (Sp.ord ns ls)), SV.int .i64 x.1, SV.blit true, SV.sl [.int .i64, .int .i64, .int .i64, .int .i64] ls, SV.int .i64 (iLen ls)]
def h17_1 : List (List C) → List (List C) → Int → List SV := fun (ns ls : List (List C)) (id : Int) => [SV.agg [SV.sl [.int .i64, .int .i64, .int .i64, .int .i64] ns, SV.sl [.int .i64, .int .i64, .int .i64, .int .i64] ls], SV.int .i64 id, SV.ref 0 0, SV.nils, SV.own 1 0, SV.blit false, SV.sl [.int .i64] (Sp.ord ns ls), SV.int .i64 (iLen (Sp.ord ns ls))]
theorem e17 (ns : List (List C)) (ls : List (List C)) (id : Int) : B17 ns ls id = (True ∧ (True → True ∧ (bNot (Sp.vld ns ls) = true → ([] = Sp.rch ns ls id ∧ True) ∧ True) ∧ (bNot (Sp.vld ns ls) = false → (pLe (↑ns.length) 1000000 ∧ True) ∧ (((Sp.ord ns ls).length ≤ 9223372036854775807 ∧ ∀ (x : List C), x ∈ Sp.ord ns ls → WfCs [.int .i64] x) → pLe (iLen (Sp.ord ns ls)) 9223372036854775807 → (∃ (x : Int × List (List C) × List (Int × List C)), Sp.rI ns ls id x.1 x.snd.1 x.snd.2 ∧ true = true ∧ ((IntKind.i64 = IntKind.i64 ∧ 0 = x.1) ∧ (2 = 2 ∧ 0 + 1 = 0 + 1) ∧ True) ∧ ([Sh.int .i64] = [Sh.int .i64] ∧ 3 = 3 ∧ 0 + 1 = 0 + 1 ∧ [] = x.snd.1) ∧ (IntKind.i64 = IntKind.i64 ∧ false = false ∧ [Sh.bool] = [Sh.bool] ∧ 0 = 0 ∧ kPut [] id [C.b true] = x.snd.2) ∧ True) ∧ (∀ (x : Int × List (List C) × List (Int × List C)), true = true ∧ true = true) ∧ ∀ (x : Int × List (List C) × List (Int × List C)), Sp.rI ns ls id x.1 x.snd.1 x.snd.2 → InR .i64 x.1 ∧ True ∧ True → (x.snd.1.length ≤ 9223372036854775807 ∧ ∀ (x_1 : List C), x_1 ∈ x.snd.1 → WfCs [.int .i64] x_1) ∧ (∀ (x_1 : Int × List C), x_1 ∈ x.snd.2 → WfCs [.bool] x_1.2) ∧ True → (bLt x.1 (iLen (Sp.ord ns ls)) = true → pIn 0 (iLen (Sp.ord ns ls)) x.1 ∧ (InR .i64 ((rGet (Sp.ord ns ls) x.1).headD default).int → pLe (iLen ls) 9223372036854775807 → (∃ (x_1 : Int × List (List C) × List (Int × List C)), Sp.rJ ns ls id x.1 x_1.1 x_1.snd.1 x_1.snd.2 ∧ true = true ∧ ((IntKind.i64 = IntKind.i64 ∧ 0 = x_1.1) ∧ (2 = 2 ∧ 1 + 1 = 1 + 1) ∧ True) ∧ ([Sh.int .i64] = [Sh.int .i64] ∧ 3 = 3 ∧ 1 + 1 = 1 + 1 ∧ x.snd.1 = x_1.snd.1) ∧ (IntKind.i64 = IntKind.i64 ∧ false = false ∧ [Sh.bool] = [Sh.bool] ∧ 0 = 0 ∧ x.snd.2 = x_1.snd.2) ∧ True) ∧ (∀ (x : Int × List (List C) × List (Int × List C)), true = true ∧ true = true) ∧ ∀ (x_1 : Int × List (List C) × List (Int × List C)), Sp.rJ ns ls id x.1 x_1.1 x_1.snd.1 x_1.snd.2 → InR .i64 x_1.1 ∧ True ∧ True → (x_1.snd.1.length ≤ 9223372036854775807 ∧ ∀ (x : List C), x ∈ x_1.snd.1 → WfCs [.int .i64] x) ∧ (∀ (x : Int × List C), x ∈ x_1.snd.2 → WfCs [.bool] x.2) ∧ True → (bLt x_1.1 (iLen ls) = true → pIn 0 (iLen ls) x_1.1 ∧ (InR .i64 ((rGet ls x_1.1).headD default).int ∧ InR .i64 ((rGet ls x_1.1).tail.headD default).int ∧ InR .i64 ((rGet ls x_1.1).tail.tail.headD default).int ∧ InR .i64 ((rGet ls x_1.1).tail.tail.tail.headD default).int ∧ True → (bEq ((rGet ls x_1.1).headD default).int ((rGet (Sp.ord ns ls) x.1).headD default).int = true → True → (((kGet x_1.snd.2 ((rGet (Sp.ord ns ls) x.1).headD default).int [C.b false]).headD default).bool = true → True → True ∧ (bNot ((kGet x_1.snd.2 ((rGet ls x_1.1).tail.tail.headD default).int [C.b false]).headD default).bool = true → pRoom 8 (iLen (x_1.snd.1 ++ [[C.i ((rGet ls x_1.1).tail.tail.headD default).int]])) ∧ InR .i64 (iAdd x_1.1 1) ∧ (true = true ∧ h17_0 ns ls id x = h17_0 ns ls id x) ∧ (fun z => z = z) [HB.box [SV.sl [.int .i64, .int .i64, .int .i64, .int .i64] ns, SV.sl [.int .i64, .int .i64, .int .i64, .int .i64] ls] 25, HB.gone, HB.gone] ∧ ∃ (y : Int × List (List C) × List (Int × List C)), Sp.rJ ns ls id x.1 y.1 y.snd.1 y.snd.2 ∧ true = true ∧ ((IntKind.i64 = IntKind.i64 ∧ iAdd x_1.1 1 = y.1) ∧ (2 = 2 ∧ 1 + 1 = 1 + 1) ∧ True) ∧ (([Sh.int .i64] = [Sh.int .i64] ∧ 3 = 3 ∧ 1 + 1 = 1 + 1 ∧ x_1.snd.1 ++ [[C.i ((rGet ls x_1.1).tail.tail.headD default).int]] = y.snd.1) ∧ (IntKind.i64 = IntKind.i64 ∧ false = false ∧ [Sh.bool] = [Sh.bool] ∧ 0 = 0 ∧ kPut x_1.snd.2 ((rGet ls x_1.1).tail.tail.headD default).int [C.b true] = y.snd.2) ∧ True) ∧ ls.length - y.1.toNat < ls.length - x_1.1.toNat) ∧ (bNot ((kGet x_1.snd.2 ((rGet ls x_1.1).tail.tail.headD default).int [C.b false]).headD default).bool = false → InR .i64 (iAdd x_1.1 1) ∧ (true = true ∧ h17_0 ns ls id x = h17_0 ns ls id x) ∧ (fun z => z = z) [HB.box [SV.sl [.int .i64, .int .i64, .int .i64, .int .i64] ns, SV.sl [.int .i64, .int .i64, .int .i64, .int .i64] ls] 25, HB.gone, HB.gone] ∧ ∃ (y : Int × List (List C) × List (Int × List C)), Sp.rJ ns ls id x.1 y.1 y.snd.1 y.snd.2 ∧ true = true ∧ ((IntKind.i64 = IntKind.i64 ∧ iAdd x_1.1 1 = y.1) ∧ (2 = 2 ∧ 1 + 1 = 1 + 1) ∧ True) ∧ (([Sh.int .i64] = [Sh.int .i64] ∧ 3 = 3 ∧ 1 + 1 = 1 + 1 ∧ x_1.snd.1 = y.snd.1) ∧ (IntKind.i64 = IntKind.i64 ∧ false = false ∧ [Sh.bool] = [Sh.bool] ∧ 0 = 0 ∧ x_1.snd.2 = y.snd.2) ∧ True) ∧ ls.length - y.1.toNat < ls.length - x_1.1.toNat)) ∧ (((kGet x_1.snd.2 ((rGet (Sp.ord ns ls) x.1).headD default).int [C.b false]).headD default).bool = false → InR .i64 (iAdd x_1.1 1) ∧ (true = true ∧ h17_0 ns ls id x = h17_0 ns ls id x) ∧ (fun z => z = z) [HB.box [SV.sl [.int .i64, .int .i64, .int .i64, .int .i64] ns, SV.sl [.int .i64, .int .i64, .int .i64, .int .i64] ls] 25, HB.gone, HB.gone] ∧ ∃ (y : Int × List (List C) × List (Int × List C)), Sp.rJ ns ls id x.1 y.1 y.snd.1 y.snd.2 ∧ true = true ∧ ((IntKind.i64 = IntKind.i64 ∧ iAdd x_1.1 1 = y.1) ∧ (2 = 2 ∧ 1 + 1 = 1 + 1) ∧ True) ∧ (([Sh.int .i64] = [Sh.int .i64] ∧ 3 = 3 ∧ 1 + 1 = 1 + 1 ∧ x_1.snd.1 = y.snd.1) ∧ (IntKind.i64 = IntKind.i64 ∧ false = false ∧ [Sh.bool] = [Sh.bool] ∧ 0 = 0 ∧ x_1.snd.2 = y.snd.2) ∧ True) ∧ ls.length - y.1.toNat < ls.length - x_1.1.toNat)) ∧ (bEq ((rGet ls x_1.1).headD default).int ((rGet (Sp.ord ns ls) x.1).headD default).int = false → InR .i64 (iAdd x_1.1 1) ∧ (true = true ∧ h17_0 ns ls id x = h17_0 ns ls id x) ∧ (fun z => z = z) [HB.box [SV.sl [.int .i64, .int .i64, .int .i64, .int .i64] ns, SV.sl [.int .i64, .int .i64, .int .i64, .int .i64] ls] 25, HB.gone, HB.gone] ∧ ∃ (y : Int × List (List C) × List (Int × List C)), Sp.rJ ns ls id x.1 y.1 y.snd.1 y.snd.2 ∧ true = true ∧ ((IntKind.i64 = IntKind.i64 ∧ iAdd x_1.1 1 = y.1) ∧ (2 = 2 ∧ 1 + 1 = 1 + 1) ∧ True) ∧ (([Sh.int .i64] = [Sh.int .i64] ∧ 3 = 3 ∧ 1 + 1 = 1 + 1 ∧ x_1.snd.1 = y.snd.1) ∧ (IntKind.i64 = IntKind.i64 ∧ false = false ∧ [Sh.bool] = [Sh.bool] ∧ 0 = 0 ∧ x_1.snd.2 = y.snd.2) ∧ True) ∧ ls.length - y.1.toNat < ls.length - x_1.1.toNat))) ∧ (bLt x_1.1 (iLen ls) = false → InR .i64 (iAdd x.1 1) ∧ (true = true ∧ h17_1 ns ls id = h17_1 ns ls id) ∧ (fun z => z = z) [HB.box [SV.sl [.int .i64, .int .i64, .int .i64, .int .i64] ns, SV.sl [.int .i64, .int .i64, .int .i64, .int .i64] ls] 25, HB.gone, HB.gone] ∧ ∃ (y : Int × List (List C) × List (Int × List C)), Sp.rI ns ls id y.1 y.snd.1 y.snd.2 ∧ true = true ∧ ((IntKind.i64 = IntKind.i64 ∧ iAdd x.1 1 = y.1) ∧ (2 = 2 ∧ 0 + 1 = 0 + 1) ∧ True) ∧ (([Sh.int .i64] = [Sh.int .i64] ∧ 3 = 3 ∧ 0 + 1 = 0 + 1 ∧ x_1.snd.1 = y.snd.1) ∧ (IntKind.i64 = IntKind.i64 ∧ false = false ∧ [Sh.bool] = [Sh.bool] ∧ 0 = 0 ∧ x_1.snd.2 = y.snd.2) ∧ True) ∧ (Sp.ord ns ls).length - y.1.toNat < (Sp.ord ns ls).length - x.1.toNat))) ∧ (bLt x.1 (iLen (Sp.ord ns ls)) = false → pLe (↑x.snd.1.length) 1000000 ∧ (Sp.srt x.snd.1 = Sp.rch ns ls id ∧ True) ∧ True))))) := by kernel_rfl
theorem v17 (ns : List (List C)) (ls : List (List C)) (id : Int) : Holds (Wfs [.agg [.sl [.int .i64, .int .i64, .int .i64, .int .i64] ns, .sl [.int .i64, .int .i64, .int .i64, .int .i64] ls], .int .i64 id] → True → B17 ns ls id) := by
  refine ⟨fun hw hp => ?_⟩
  rw [e17]
  simp only [Wfs, Wf, InR, and_true] at hw
  simp only [eq_self, true_and, and_true, true_implies, implies_true, iAdd, iSub, iMul, iLen, bEq, bNe, bLt, bLe, bNot, pIn, pLe, pNe, InR, decide_eq_true_eq, decide_eq_false_iff_not, Bool.not_eq_true', Bool.not_eq_false', decide_eq_decide]
  have V : Sp.vld ns ls = true → ns.length ≤ 64 ∧ ls.length ≤ 256 := Sp.vld_small
  refine ⟨fun h => by unfold Sp.rch; rw [h]; rfl, fun hv => ⟨by have := V hv; omega, fun _ hol => ⟨⟨(0, [], _), Sp.rI_init, rfl, rfl, rfl⟩, ?_⟩⟩⟩
  have V := V hv
  have ol := Sp.vld_ordlen hv
  rintro ⟨k, out, m⟩ hx _ _
  simp only at hx ⊢
  have k0 := hx.1.1
  have kl := hx.1.2.1
  have ob := hx.2
  refine ⟨fun hk => ⟨⟨k0, hk⟩, fun _ _ => ⟨⟨(0, out, m), Sp.rJ_init hx, rfl, rfl, rfl⟩, ?_⟩⟩, fun hk => ⟨by omega, Sp.rI_end hx hv hk⟩⟩
  rintro ⟨j, out2, m2⟩ hy _ _
  simp only at hy ⊢
  have j0 := hy.1
  have jl := hy.2.1
  have mm := hy.2.2.1.2.2.1
  have ob2 := hy.2.2.2.2
  have cb : ∀ b : Bool, ([C.b b].headD default).bool = b := fun _ => rfl
  simp only [mm _, cb]
  refine ⟨fun hj => ⟨⟨j0, hj⟩, fun _ => ⟨fun he => ⟨fun h1 => ⟨fun h2 => ⟨by simp only [pRoom, List.length_append, List.length_singleton]; omega, ⟨by omega, by omega⟩, (j + 1, _, _), Sp.rJ_add hy hk hj he h1 h2, rfl, ⟨rfl, rfl⟩, by simp only; omega⟩,
    fun h2 => ⟨by omega, (j + 1, out2, m2), Sp.rJ_skip hy hk hj fun _ _ => h2, rfl, ⟨rfl, rfl⟩, by simp only; omega⟩⟩, fun h1 => ⟨by omega, (j + 1, out2, m2), Sp.rJ_skip hy hk hj fun _ h => by (rw [show Sp.inS out2 id (Sp.c0 (rGet (Sp.ord ns ls) k)) = false from h1] at h; cases h), rfl, ⟨rfl, rfl⟩, by simp only; omega⟩⟩,
    fun he => ⟨by omega, (j + 1, out2, m2), Sp.rJ_skip hy hk hj fun h => (he h).elim, rfl, ⟨rfl, rfl⟩, by simp only; omega⟩⟩⟩, fun hj => ⟨by omega, (k + 1, out2, m2), Sp.rJ_end hy hv hk hj, rfl, ⟨rfl, rfl⟩, by simp only; omega⟩⟩
theorem s17 : SoundCt Go.Proofs.Try.prog 17 ct17 :=
  contractH followsMixed (look_sound (show Tb Go.Proofs.Try.prog tb17 from ⟨s14, ⟨s37, ⟨s48, trivial⟩⟩⟩)) (fun _ => false) (fun a => A17 ((cel 0 (arg 0 a)).list) ((cel 1 (arg 0 a)).list) ((cel 0 (arg 1 a)).int)) 6 17 ct17 rfl (by simp [ct17]) fun a => Eq.mp (by kernel_rfl) (v17 ((cel 0 (arg 0 a)).list) ((cel 1 (arg 0 a)).list) ((cel 0 (arg 1 a)).int))
end Go.Sx

