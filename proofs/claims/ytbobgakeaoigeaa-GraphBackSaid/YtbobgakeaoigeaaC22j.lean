/- Contracts and conditions, continued. -/
import Derived.Test.YtbobgakeaoigeaaSxUse
import Derived.Test.YtbobgakeaoigeaaC22i
import Derived.KernelRfl
set_option linter.unusedVariables false
set_option linter.unusedSimpArgs false
set_option maxRecDepth 100000
set_option maxHeartbeats 4000000

noncomputable section
namespace Go
open Go.Sx
variable {ns ls xs out : List (List C)} {i k n o b0 b1 b2 b3 : Int}
theorem Sp.idx_before {p : List C → Bool} : ∀ (xs : List (List C)) (i k : Int), 0 ≤ i → i ≤ k → k < Sp.idx p xs i → p (rGet xs (k - i)) = false
  | [], i, k, h0, h1, h2 => by simp only [Sp.idx] at h2; omega
  | x :: r, i, k, h0, h1, h2 => by
    rw [Sp.idx] at h2
    cases hp : p x
    · rw [hp, cond_false] at h2
      by_cases e : k = i
      · rw [e, Int.sub_self]; exact hp
      · have := Sp.idx_before r (i + 1) k (by omega) (by omega) h2
        unfold rGet at this ⊢
        rw [show (k - i).toNat = (k - (i + 1)).toNat + 1 by omega]
        simpa using this
    · rw [hp, cond_true] at h2; omega
theorem Sp.mem_ins {x y : List C} : x ∈ Sp.ins xs k [y] ↔ x = y ∨ x ∈ xs := by
  unfold Sp.ins
  constructor
  · intro h
    rcases List.mem_append.1 h with h | h
    · rcases List.mem_append.1 h with h | h
      · exact .inr (List.mem_of_mem_take h)
      · exact .inl (List.mem_singleton.1 h)
    · exact .inr (List.mem_of_mem_drop h)
  · rintro (rfl | h)
    · simp
    · rw [← List.take_append_drop k.toNat xs] at h
      rcases List.mem_append.1 h with h | h
      · exact List.mem_append.2 (.inl (List.mem_append.2 (.inl h)))
      · exact List.mem_append.2 (.inr h)
theorem Sp.len_ins {y : List C} : (Sp.ins xs k [y]).length = xs.length + 1 := by
  unfold Sp.ins
  simp only [List.length_append, List.length_take, List.length_drop, List.length_singleton]
  omega
theorem Sp.pw_ins {R : List C → List C → Prop} {y : List C} (h : xs.Pairwise R) (h1 : ∀ x ∈ xs.take k.toNat, R x y) (h2 : ∀ x ∈ xs.drop k.toNat, R y x) : (Sp.ins xs k [y]).Pairwise R := by
  unfold Sp.ins
  rw [← List.take_append_drop k.toNat xs, List.pairwise_append] at h
  obtain ⟨p1, p2, p3⟩ := h
  rw [List.append_assoc, List.pairwise_append]
  refine ⟨p1, ?_, fun a ha b hb => ?_⟩
  · rw [List.singleton_append, List.pairwise_cons]
    exact ⟨h2, p2⟩
  · rcases List.mem_append.1 hb with hb | hb
    · rw [List.mem_singleton.1 hb]; exact h1 a ha
    · exact p3 a ha b hb
def Sp.nfine (x : List C) : Bool := Sp.fine (Sp.c0 x) (Sp.c1 x) (Sp.c2 x) (Sp.c3 x)
def Sp.lends (ns : List (List C)) (l : List C) : Bool := Sp.ends ns (Sp.c0 l) (Sp.c1 l) (Sp.c2 l) (Sp.c3 l)
def Sp.lcl (ns : List (List C)) (x y : List C) : Bool := Sp.cl ns (Sp.c0 y) (Sp.c1 y) (Sp.c2 y) (Sp.c3 y) x
structure Sp.Vl (ns ls : List (List C)) : Prop where
  len : ns.length ≤ 64 ∧ ls.length ≤ 256
  fine : ∀ x ∈ ns, Sp.nfine x = true
  asc : ns.Pairwise (fun a b => Sp.c0 a < Sp.c0 b)
  ends : ∀ l ∈ ls, Sp.lends ns l = true
  srt : ls.Pairwise Sp.rlt
  cl : ls.Pairwise (fun x y => Sp.lcl ns x y = false)
  ord : (Sp.ord ns ls).length = ns.length
theorem Sp.row_get {k : Nat} (h : k < xs.length) : rGet xs (k : Int) = xs[k] := by
  unfold rGet
  rw [List.getD_eq_getElem?_getD, Int.toNat_natCast, List.getElem?_eq_getElem h]; rfl
theorem Sp.vl_of (h : Sp.vld ns ls = true) : Sp.Vl ns ls := by
  have hs := Sp.vld_small h
  have hn := Sp.vld_nok h
  have hpw := Sp.nok_pw hn
  have hsort := Sp.vld_sorted h
  have ho := Sp.vld_ordlen h
  have hl : ∀ k : Int, 0 ≤ k → k < (ls.length : Int) → Sp.lokI ns ls k = true := by
    unfold Sp.vld at h
    simp only [Bool.and_eq_true, decide_eq_true_eq] at h
    exact Sp.allI_iff.1 h.1.2
  refine ⟨hs, fun x hx => ?_, hpw, fun l hl2 => ?_, ?_, ?_, ho⟩
  · obtain ⟨k, k0, k1, rfl⟩ := Sp.mem_row hx
    have := Sp.allI_iff.1 hn k k0 k1
    unfold Sp.nokI at this
    rw [Bool.and_eq_true] at this
    exact this.1
  · obtain ⟨k, k0, k1, rfl⟩ := Sp.mem_row hl2
    have := hl k k0 k1
    unfold Sp.lokI at this
    simp only [Bool.and_eq_true] at this
    exact this.1.1
  · rw [List.pairwise_iff_getElem]
    intro a b ha hb hab
    have := Sp.sorted_at h (show (0 : Int) ≤ (a : Int) by omega) (show (a : Int) < (b : Int) by omega) (by omega)
    rwa [Sp.row_get ha, Sp.row_get hb] at this
  · rw [List.pairwise_iff_getElem]
    intro a b ha hb hab
    have := hl (b : Int) (by omega) (by omega)
    unfold Sp.lokI at this
    simp only [Bool.and_eq_true, Bool.not_eq_true', decide_eq_false_iff_not] at this
    have h2 := (Sp.idx_no (p := Sp.cl ns (Sp.c0 (rGet ls b)) (Sp.c1 (rGet ls b)) (Sp.c2 (rGet ls b)) (Sp.c3 (rGet ls b))) (ls.take (b : Int).toNat) 0 (by omega)).1 (by omega) ls[a] (by
      rw [List.mem_iff_getElem]
      exact ⟨a, by rw [List.length_take]; omega, by rw [List.getElem_take]⟩)
    rw [Sp.row_get hb] at h2
    exact h2
theorem Sp.vl_to (h : Sp.Vl ns ls) : Sp.vld ns ls = true := by
  unfold Sp.vld
  simp only [Bool.and_eq_true, decide_eq_true_eq]
  refine ⟨⟨⟨h.len, Sp.allI_iff.2 fun k k0 k1 => ?_⟩, Sp.allI_iff.2 fun k k0 k1 => ?_⟩, h.ord⟩
  · unfold Sp.nokI
    rw [Bool.and_eq_true, Bool.or_eq_true, decide_eq_true_eq, decide_eq_true_eq]
    refine ⟨h.fine _ (Sp.row_mem k0 k1), ?_⟩
    by_cases e : k ≤ 0
    · exact .inl e
    · refine .inr ?_
      obtain ⟨m, rfl⟩ : ∃ m : Nat, k = ((m + 1 : Nat) : Int) := ⟨(k - 1).toNat, by omega⟩
      rw [show ((m + 1 : Nat) : Int) - 1 = (m : Int) by omega, Sp.row_get (by omega), Sp.row_get (by omega)]
      exact (List.pairwise_iff_getElem.1 h.asc) m (m + 1) (by omega) (by omega) (by omega)
  · unfold Sp.lokI
    simp only [Bool.and_eq_true, Bool.or_eq_true, Bool.not_eq_true', decide_eq_true_eq, decide_eq_false_iff_not]
    refine ⟨⟨h.ends _ (Sp.row_mem k0 k1), ?_⟩, ?_⟩
    · by_cases e : k ≤ 0
      · exact .inl e
      · refine .inr ?_
        obtain ⟨m, rfl⟩ : ∃ m : Nat, k = ((m + 1 : Nat) : Int) := ⟨(k - 1).toNat, by omega⟩
        rw [show ((m + 1 : Nat) : Int) - 1 = (m : Int) by omega, Sp.row_get (by omega), Sp.row_get (by omega)]
        exact (List.pairwise_iff_getElem.1 h.srt) m (m + 1) (by omega) (by omega) (by omega)
    · have := (Sp.idx_no (p := Sp.cl ns (Sp.c0 (rGet ls k)) (Sp.c1 (rGet ls k)) (Sp.c2 (rGet ls k)) (Sp.c3 (rGet ls k))) (ls.take k.toNat) 0 (by omega)).2 fun x hx => by
        obtain ⟨m, rfl⟩ : ∃ m : Nat, k = (m : Int) := ⟨k.toNat, by omega⟩
        obtain ⟨a, ha, rfl⟩ := List.mem_iff_getElem.1 hx
        rw [List.length_take] at ha
        rw [List.getElem_take, Sp.row_get (by omega)]
        exact (List.pairwise_iff_getElem.1 h.cl) a m (by omega) (by omega) (by omega)
      omega
theorem Sp.asc_uniq (h : ns.Pairwise (fun a b => Sp.c0 a < Sp.c0 b)) {x y : List C} (hx : x ∈ ns) (hy : y ∈ ns) (e : Sp.c0 x = Sp.c0 y) : x = y := by
  obtain ⟨a, ha, rfl⟩ := List.mem_iff_getElem.1 hx
  obtain ⟨b, hb, rfl⟩ := List.mem_iff_getElem.1 hy
  rcases Nat.lt_trichotomy a b with hab | hab | hab
  · have := (List.pairwise_iff_getElem.1 h) a b ha hb hab; omega
  · subst hab; rfl
  · have := (List.pairwise_iff_getElem.1 h) b a hb ha hab; omega
theorem Sp.nd_mem (h : ns.Pairwise (fun a b => Sp.c0 a < Sp.c0 b)) {x : List C} (hx : x ∈ ns) : Sp.nd ns (Sp.c0 x) = x := by
  obtain ⟨h1, h2⟩ := Sp.nd_has (ns := ns) (n := Sp.c0 x) (Sp.has_iff.2 ⟨x, hx, rfl⟩)
  exact Sp.asc_uniq h h1 hx h2
/-- Where no way leads back, the order has every node. -/
theorem Sp.ord_full (hnd : (ns.map Sp.c0).Nodup) (hl : ∀ l ∈ ls, Sp.has ns (Sp.c0 l) = true) (r : Int → Nat) (hr : ∀ l ∈ ls, r (Sp.c0 l) < r (Sp.c2 l)) : (Sp.ord ns ls).length = ns.length := by
  have ready : ∀ (out : List (List C)) (f : Nat) (n : Int), r n < f → Sp.has ns n = true → Sp.has out n = false → 0 ≤ Sp.idx (Sp.rdy ls out) ns 0 := by
    intro out f
    induction f with
    | zero => intro n h; omega
    | succ f ih =>
      intro n hf hn ho
      obtain ⟨x, hx, rfl⟩ := Sp.has_iff.1 hn
      cases hfr : Sp.free ls out (Sp.c0 x)
      · unfold Sp.free at hfr
        rw [List.all_eq_false] at hfr
        obtain ⟨l, hlm, hl2⟩ := hfr
        simp only [Bool.or_eq_true, Bool.not_eq_true', decide_eq_false_iff_not, not_or, Decidable.not_not, Bool.not_eq_true] at hl2
        have := hr l hlm
        rw [hl2.1] at this
        exact ih (Sp.c0 l) (by omega) (hl l hlm) hl2.2
      · apply Int.not_lt.1
        intro hc
        have := (Sp.idx_no ns 0 (by omega)).1 hc x hx
        unfold Sp.rdy at this
        rw [ho, hfr] at this; cases this
  have main : ∀ (f : Nat) (out : List (List C)), Sp.OrdP ns ls out → f + out.length = ns.length → (Sp.ordF ns ls f out).length = ns.length := by
    intro f
    induction f with
    | zero => intro out _ h; rw [Sp.ordF]; omega
    | succ f ih =>
      intro out hp h
      have hx : ∃ n, Sp.has ns n = true ∧ Sp.has out n = false := by
        apply Classical.byContradiction
        intro hc
        have : (ns.map Sp.c0).length ≤ (out.map Sp.c0).length := Sp.nodup_le hnd fun x hx => by
          cases ho : Sp.has out x
          · exact (hc ⟨x, Sp.has_map.2 hx, ho⟩).elim
          · exact Sp.has_map.1 ho
        simp only [List.length_map] at this
        omega
      obtain ⟨n, h1, h2⟩ := hx
      have hi := ready out (r n + 1) n (by omega) h1 h2
      have hP := Sp.ordF_P (ns := ns) (ls := ls) 1 out hp
      rw [Sp.ordF, decide_eq_false (by omega), cond_false, Sp.ordF] at hP
      rw [Sp.ordF, decide_eq_false (by omega), cond_false]
      exact ih _ hP (by simp only [List.length_append, List.length_singleton]; omega)
  exact main ns.length [] ⟨fun x hx => by (cases hx), by simp, fun j hj => by (cases hj)⟩ (by simp)
theorem Sp.asc_nd (h : ns.Pairwise (fun a b => Sp.c0 a < Sp.c0 b)) : (ns.map Sp.c0).Nodup := by
  unfold List.Nodup
  rw [List.pairwise_map]
  exact h.imp fun h => by omega
/-- Where a node stands in the order. -/
def Sp.rk (ns ls : List (List C)) (n : Int) : Nat := ((Sp.ord ns ls).map Sp.c0).idxOf n
theorem Sp.rk_get (j : Nat) (hj : j < (Sp.ord ns ls).length) : Sp.rk ns ls (Sp.c0 ((Sp.ord ns ls)[j])) = j := by
  unfold Sp.rk
  have := (Sp.ord_P (ns := ns) (ls := ls)).nd
  have h2 := List.Nodup.idxOf_getElem this j (by rw [List.length_map]; exact hj)
  rwa [List.getElem_map] at h2
theorem Sp.rk_lt (h : Sp.vld ns ls = true) {l : List C} (hl : l ∈ ls) : Sp.rk ns ls (Sp.c0 l) < Sp.rk ns ls (Sp.c2 l) := by
  have h2 := Sp.ord_all h (Sp.vld_link h hl).2
  obtain ⟨y, hy, hy2⟩ := Sp.has_iff.1 h2
  obtain ⟨j, hj, rfl⟩ := List.mem_iff_getElem.1 hy
  have hd := (Sp.ord_P (ns := ns) (ls := ls)).dep j hj l hl (by rw [← hy2, List.getD_eq_getElem?_getD, List.getElem?_eq_getElem hj]; rfl)
  obtain ⟨x, hx, hx2⟩ := Sp.has_iff.1 hd
  obtain ⟨i, hi, rfl⟩ := List.mem_iff_getElem.1 hx
  rw [List.length_take] at hi
  rw [List.getElem_take] at hx2
  rw [← hx2, ← hy2, Sp.rk_get i (by omega), Sp.rk_get j hj]
  omega
theorem Sp.posN_bd : 0 ≤ Sp.posN ns i ∧ Sp.posN ns i ≤ (ns.length : Int) := by
  unfold Sp.posN
  have := Sp.idx_bd (p := Sp.geI i) ns 0
  cases h : decide (Sp.idx (Sp.geI i) ns 0 < 0)
  · rw [decide_eq_false_iff_not] at h; simp only [cond_false]; omega
  · simp only [cond_true]; omega
theorem Sp.posN_lt (k : Int) (h0 : 0 ≤ k) (h1 : k < Sp.posN ns i) : Sp.c0 (rGet ns k) < i := by
  have hb := Sp.posN_bd (ns := ns) (i := i)
  unfold Sp.posN at h1 hb
  cases h : decide (Sp.idx (Sp.geI i) ns 0 < 0)
  · rw [h, cond_false] at h1 hb
    have := Sp.idx_before (p := Sp.geI i) ns 0 k (by omega) h0 h1
    rw [Int.sub_zero] at this
    unfold Sp.geI at this
    rw [Bool.not_eq_false', decide_eq_true_eq] at this
    exact this
  · rw [h, cond_true] at h1
    rw [decide_eq_true_eq] at h
    have := (Sp.idx_no ns 0 (by omega)).1 h _ (Sp.row_mem h0 h1)
    unfold Sp.geI at this
    rw [Bool.not_eq_false', decide_eq_true_eq] at this
    exact this
theorem Sp.posN_ge (h : Sp.posN ns i < (ns.length : Int)) : ¬ Sp.c0 (rGet ns (Sp.posN ns i)) < i := by
  unfold Sp.posN at h ⊢
  cases hd : decide (Sp.idx (Sp.geI i) ns 0 < 0)
  · rw [hd, cond_false] at h
    simp only [cond_false]
    rw [decide_eq_false_iff_not] at hd
    rcases Sp.idx_row (p := Sp.geI i) ns 0 (by omega) with h2 | h2
    · omega
    · rw [Int.sub_zero] at h2
      unfold Sp.geI at h2
      rw [Bool.not_eq_true', decide_eq_false_iff_not] at h2
      exact h2
  · rw [hd, cond_true] at h; omega
theorem Sp.mem_take {x : List C} (h : x ∈ xs.take k.toNat) : ∃ j : Nat, ∃ hj : j < xs.length, (j : Int) < k ∧ x = xs[j] := by
  obtain ⟨j, hj, rfl⟩ := List.mem_iff_getElem.1 h
  rw [List.length_take] at hj
  exact ⟨j, by omega, by omega, by rw [List.getElem_take]⟩
theorem Sp.mem_drop {x : List C} (hk : 0 ≤ k) (h : x ∈ xs.drop k.toNat) : ∃ j : Nat, ∃ hj : j < xs.length, k ≤ (j : Int) ∧ x = xs[j] := by
  obtain ⟨j, hj, rfl⟩ := List.mem_iff_getElem.1 h
  rw [List.length_drop] at hj
  exact ⟨k.toNat + j, by omega, by omega, by rw [List.getElem_drop]⟩
theorem Sp.insN_asc (h : ns.Pairwise (fun a b => Sp.c0 a < Sp.c0 b)) (hh : Sp.has ns i = false) : (Sp.insN ns i k n o).Pairwise (fun a b => Sp.c0 a < Sp.c0 b) := by
  have hb := Sp.posN_bd (ns := ns) (i := i)
  unfold Sp.insN
  refine Sp.pw_ins h (fun x hx => ?_) (fun x hx => ?_)
  · obtain ⟨j, hj, hjk, rfl⟩ := Sp.mem_take hx
    have := Sp.posN_lt (ns := ns) (i := i) (j : Int) (by omega) hjk
    rw [Sp.row_get hj] at this
    exact this
  · obtain ⟨j, hj, hjk, rfl⟩ := Sp.mem_drop hb.1 hx
    have h1 := Sp.posN_ge (ns := ns) (i := i) (by omega)
    have h2 : ¬ Sp.c0 ns[j] = i := fun e => by
      have := Sp.has_iff.2 ⟨ns[j], List.getElem_mem hj, e⟩
      rw [hh] at this; cases this
    obtain ⟨p, hp⟩ : ∃ p : Nat, Sp.posN ns i = (p : Int) := ⟨(Sp.posN ns i).toNat, by omega⟩
    rw [hp] at h1 hjk
    rw [Sp.row_get (by omega)] at h1
    show i < Sp.c0 ns[j]
    by_cases e : p = j
    · subst e; omega
    · have := (List.pairwise_iff_getElem.1 h) p j (by omega) hj (by omega); omega
theorem Sp.add_vl (h : Sp.Vl ns ls) (hf : Sp.fine i k n o = true) (hh : Sp.has ns i = false) (hl : ns.length < 64) : Sp.Vl (Sp.insN ns i k n o) ls := by
  have hv := Sp.vl_to h
  have ha := Sp.insN_asc (k := k) (n := n) (o := o) h.asc hh
  have hm : ∀ x, x ∈ Sp.insN ns i k n o ↔ x = [C.i i, C.i k, C.i n, C.i o] ∨ x ∈ ns := fun x => Sp.mem_ins
  have hnd : ∀ m, Sp.has ns m = true → Sp.nd (Sp.insN ns i k n o) m = Sp.nd ns m := fun m hm' => by
    obtain ⟨h1, h2⟩ := Sp.nd_has hm'
    have := Sp.nd_mem ha ((hm _).2 (.inr h1))
    rwa [h2] at this
  have hhas : ∀ m, Sp.has ns m = true → Sp.has (Sp.insN ns i k n o) m = true := fun m hm' => by
    obtain ⟨x, hx, hx2⟩ := Sp.has_iff.1 hm'
    exact Sp.has_iff.2 ⟨x, (hm _).2 (.inr hx), hx2⟩
  refine ⟨⟨by unfold Sp.insN; rw [Sp.len_ins]; omega, h.len.2⟩, fun x hx => ?_, ha, fun l hl2 => ?_, h.srt, ?_, ?_⟩
  · rcases (hm x).1 hx with rfl | hx
    · exact hf
    · exact h.fine x hx
  · have := h.ends l hl2
    have lk := Sp.vld_link hv hl2
    unfold Sp.lends at this ⊢
    rw [Sp.ends_eq] at this ⊢
    rw [hnd _ lk.1, hnd _ lk.2]
    exact this
  · refine List.Pairwise.imp_of_mem (fun {x y} _ hy hc => ?_) h.cl
    have lk := Sp.vld_link hv hy
    unfold Sp.lcl Sp.cl Sp.clash at hc ⊢
    rw [hnd _ lk.1, hnd _ lk.2]
    exact hc
  · refine Sp.ord_full (Sp.asc_nd ha) (fun l hl2 => hhas _ (Sp.vld_link hv hl2).1) (Sp.rk ns ls) fun l hl2 => Sp.rk_lt hv hl2
theorem Sp.add_vld (h : Sp.vld ns ls = true) (he : Sp.addE ns ls i k n o = 0) : Sp.vld (Sp.addN ns ls i k n o) (Sp.addL ns ls i k n o) = true := by
  obtain ⟨⟨e1, e2⟩, _⟩ := Sp.add_ok he
  rw [← e1, ← e2]
  have hf : Sp.fine i k n o = true := by
    cases hf : Sp.fine i k n o
    · rw [Sp.add1 (.inr hf)] at he; omega
    · rfl
  have hh : Sp.has ns i = false := by
    cases hh : Sp.has ns i
    · rfl
    · rw [Sp.add8 h hf hh] at he; omega
  refine Sp.vl_to (Sp.add_vl (Sp.vl_of h) hf hh ?_)
  apply Nat.lt_of_not_le
  intro h3
  rw [Sp.add3 h hf hh h3] at he; omega
theorem Sp.pos_bd : 0 ≤ Sp.pos ls b0 b1 b2 b3 ∧ Sp.pos ls b0 b1 b2 b3 ≤ (ls.length : Int) := by
  unfold Sp.pos
  have := Sp.idx_bd (p := Sp.ge4 b0 b1 b2 b3) ls 0
  cases h : decide (Sp.idx (Sp.ge4 b0 b1 b2 b3) ls 0 < 0)
  · rw [decide_eq_false_iff_not] at h; simp only [cond_false]; omega
  · simp only [cond_true]; omega
theorem Sp.pos_lt (k : Int) (h0 : 0 ≤ k) (h1 : k < Sp.pos ls b0 b1 b2 b3) : Sp.lt4 b0 b1 b2 b3 (rGet ls k) = true := by
  have hb := Sp.pos_bd (ls := ls) (b0 := b0) (b1 := b1) (b2 := b2) (b3 := b3)
  unfold Sp.pos at h1 hb
  cases h : decide (Sp.idx (Sp.ge4 b0 b1 b2 b3) ls 0 < 0)
  · rw [h, cond_false] at h1 hb
    have := Sp.idx_before (p := Sp.ge4 b0 b1 b2 b3) ls 0 k (by omega) h0 h1
    rw [Int.sub_zero] at this
    unfold Sp.ge4 at this
    rwa [Bool.not_eq_false'] at this
  · rw [h, cond_true] at h1
    rw [decide_eq_true_eq] at h
    have := (Sp.idx_no ls 0 (by omega)).1 h _ (Sp.row_mem h0 h1)
    unfold Sp.ge4 at this
    rwa [Bool.not_eq_false'] at this
theorem Sp.pos_ge (h : Sp.pos ls b0 b1 b2 b3 < (ls.length : Int)) : Sp.lt4 b0 b1 b2 b3 (rGet ls (Sp.pos ls b0 b1 b2 b3)) = false := by
  unfold Sp.pos at h ⊢
  cases hd : decide (Sp.idx (Sp.ge4 b0 b1 b2 b3) ls 0 < 0)
  · rw [hd, cond_false] at h
    simp only [cond_false]
    rw [decide_eq_false_iff_not] at hd
    rcases Sp.idx_row (p := Sp.ge4 b0 b1 b2 b3) ls 0 (by omega) with h2 | h2
    · omega
    · rw [Int.sub_zero] at h2
      unfold Sp.ge4 at h2
      rwa [Bool.not_eq_true'] at h2
  · rw [hd, cond_true] at h; omega
theorem Sp.insL_srt (h : Sp.Vl ns ls) (hh : Sp.h4 ls b0 b1 b2 b3 = false) : (Sp.insL ls b0 b1 b2 b3).Pairwise Sp.rlt := by
  have hb := Sp.pos_bd (ls := ls) (b0 := b0) (b1 := b1) (b2 := b2) (b3 := b3)
  unfold Sp.insL
  refine Sp.pw_ins h.srt (fun x hx => ?_) (fun x hx => ?_)
  · obtain ⟨j, hj, hjk, rfl⟩ := Sp.mem_take hx
    have := Sp.pos_lt (ls := ls) (b0 := b0) (b1 := b1) (b2 := b2) (b3 := b3) (j : Int) (by omega) hjk
    rw [Sp.row_get hj] at this
    unfold Sp.lt4 at this
    rw [decide_eq_true_eq] at this
    exact this
  · obtain ⟨j, hj, hjk, rfl⟩ := Sp.mem_drop hb.1 hx
    have h1 := Sp.pos_ge (ls := ls) (b0 := b0) (b1 := b1) (b2 := b2) (b3 := b3) (by omega)
    obtain ⟨p, hp⟩ : ∃ p : Nat, Sp.pos ls b0 b1 b2 b3 = (p : Int) := ⟨(Sp.pos ls b0 b1 b2 b3).toNat, by omega⟩
    rw [hp] at h1 hjk
    rw [Sp.row_get (by omega)] at h1
    have h2 : ¬ (Sp.c0 ls[j] = b0 ∧ Sp.c1 ls[j] = b1 ∧ Sp.c2 ls[j] = b2 ∧ Sp.c3 ls[j] = b3) := fun e => by
      have := (Sp.h4_iff (ls := ls) (b0 := b0) (b1 := b1) (b2 := b2) (b3 := b3)).2 ⟨(j : Int), by omega, by omega, by rw [Sp.row_get hj]; unfold Sp.is4; exact decide_eq_true e⟩
      rw [hh] at this; cases this
    have h3 : Sp.lt4 b0 b1 b2 b3 ls[j] = false := by
      by_cases e : p = j
      · subst e; exact h1
      · cases hc : Sp.lt4 b0 b1 b2 b3 ls[j]
        · rfl
        · rw [Sp.lt4_trans ((List.pairwise_iff_getElem.1 h.srt) p j (by omega) hj (by omega)) hc] at h1; cases h1
    unfold Sp.lt4 at h3
    rw [decide_eq_false_iff_not, Sp.lcmp_neg] at h3
    show Sp.lcmp b0 b1 b2 b3 _ _ _ _ < 0
    rw [Sp.lcmp_neg]
    omega
theorem Sp.con_parts (h : Sp.vld ns ls = true) (he : Sp.conE ns ls b0 b1 b2 b3 = 0) : Sp.ends ns b0 b1 b2 b3 = true ∧ Sp.h4 ls b0 b1 b2 b3 = false ∧ ls.length < 256 ∧ Sp.crd ns ls b0 b1 b2 b3 = false ∧ ¬ (Sp.ord ns (Sp.insL ls b0 b1 b2 b3)).length < ns.length := by
  have h1 : Sp.ends ns b0 b1 b2 b3 = true := by
    cases hf : Sp.ends ns b0 b1 b2 b3
    · rw [Sp.con7 h hf] at he; omega
    · rfl
  have h2 : Sp.h4 ls b0 b1 b2 b3 = false := by
    cases hf : Sp.h4 ls b0 b1 b2 b3
    · rfl
    · rw [Sp.con8 h h1 hf] at he; omega
  have h3 : ls.length < 256 := by
    apply Nat.lt_of_not_le
    intro hf
    rw [Sp.con3 h h1 h2 hf] at he; omega
  have h4 : Sp.crd ns ls b0 b1 b2 b3 = false := by
    cases hf : Sp.crd ns ls b0 b1 b2 b3
    · rfl
    · rw [Sp.con10 h h1 h2 (by omega) hf] at he; omega
  refine ⟨h1, h2, h3, h4, fun hf => ?_⟩
  rw [Sp.con12 h h1 h2 (by omega) h4 hf] at he; omega
theorem Sp.ord_le : (Sp.ord ns ls).length ≤ ns.length := by
  have := Sp.ordF_len (ns := ns) (ls := ls) ns.length []
  unfold Sp.ord
  simpa using this
theorem Sp.con_vld (h : Sp.vld ns ls = true) (he : Sp.conE ns ls b0 b1 b2 b3 = 0) : Sp.vld (Sp.conN ns ls b0 b1 b2 b3) (Sp.conL ns ls b0 b1 b2 b3) = true := by
  obtain ⟨⟨e1, e2⟩, _⟩ := Sp.con_ok he
  rw [← e1, ← e2]
  obtain ⟨p1, p2, p3, p4, p5⟩ := Sp.con_parts h he
  have v := Sp.vl_of h
  have hm : ∀ x, x ∈ Sp.insL ls b0 b1 b2 b3 ↔ x = [C.i b0, C.i b1, C.i b2, C.i b3] ∨ x ∈ ls := fun x => Sp.mem_ins
  have hc : ∀ x ∈ ls, Sp.cl ns b0 b1 b2 b3 x = false := by
    unfold Sp.crd at p4
    rw [decide_eq_false_iff_not] at p4
    exact (Sp.idx_no ls 0 (by omega)).1 (by omega)
  refine Sp.vl_to ⟨⟨v.len.1, by unfold Sp.insL; rw [Sp.len_ins]; omega⟩, v.fine, v.asc, fun l hl => ?_, Sp.insL_srt v p2, ?_, by have := Sp.ord_le (ns := ns) (ls := Sp.insL ls b0 b1 b2 b3); omega⟩
  · rcases (hm l).1 hl with rfl | hl
    · exact p1
    · exact v.ends l hl
  · unfold Sp.insL
    refine Sp.pw_ins v.cl (fun x hx => hc x (List.mem_of_mem_take hx)) (fun x hx => ?_)
    have hx2 := hc x (List.mem_of_mem_drop hx)
    unfold Sp.lcl Sp.cl Sp.clash at *
    rw [decide_eq_false_iff_not] at hx2 ⊢
    simp only [show Sp.c0 [C.i b0, C.i b1, C.i b2, C.i b3] = b0 from rfl, show Sp.c1 [C.i b0, C.i b1, C.i b2, C.i b3] = b1 from rfl, show Sp.c2 [C.i b0, C.i b1, C.i b2, C.i b3] = b2 from rfl, show Sp.c3 [C.i b0, C.i b1, C.i b2, C.i b3] = b3 from rfl]
    intro hh
    apply hx2
    rcases hh with ⟨q1, q2, q3⟩ | ⟨q1, q2, q3, q4⟩
    · exact .inl ⟨q1.symm, q2.symm, by rw [q1]; exact q3⟩
    · exact .inr ⟨q1.symm, q2.symm, by rw [q1]; exact q3, by rw [q1]; exact q4⟩
theorem Sp.gA_vld : ∀ (m : Nat) (k ns ls : List (List C)), Sp.vld ns ls = true → Sp.vld (Sp.gA m k ns ls).2.1 (Sp.gA m k ns ls).2.2 = true
  | 0, _, _, _, h => h
  | m + 1, k, ns, ls, h => by
    rw [Sp.gA]
    refine Sp.gA_vld m _ _ _ ?_
    unfold Sp.stN Sp.stL
    by_cases e : Sp.stE k ns ls = 0
    · rw [if_pos e, if_pos e]; exact Sp.add_vld h e
    · rw [if_neg e, if_neg e]; exact h
theorem Sp.gB_vld : ∀ (m : Nat) (k ns ls : List (List C)), Sp.vld ns ls = true → Sp.vld (Sp.gB m k ns ls).2.1 (Sp.gB m k ns ls).2.2 = true
  | 0, _, _, _, h => h
  | m + 1, k, ns, ls, h => by
    rw [Sp.gB]
    refine Sp.gB_vld m _ _ _ ?_
    unfold Sp.suN Sp.suL
    by_cases e : Sp.suE k ns ls = 0
    · rw [if_pos e, if_pos e]; exact Sp.con_vld h e
    · rw [if_neg e, if_neg e]; exact h
theorem Sp.mg_vld (l : List (List C)) (a : Int) : Sp.vld (Sp.mgN l a) (Sp.mgL l a) = true := by
  unfold Sp.mgN Sp.mgL Sp.mg
  refine Sp.gB_vld _ _ _ _ ?_
  unfold Sp.mgA
  exact Sp.gA_vld _ _ _ _ (by decide +kernel)
end Go

