import Derived.Test.YtphaelepnjekoaaGreatSxUse
import Derived.Test.YtphaelepnjekoaaGreatZ27q
import Derived.KernelRfl
set_option linter.unusedVariables false
set_option linter.unusedSimpArgs false
set_option maxRecDepth 100000
set_option maxHeartbeats 4000000
namespace Go
open Go.Sx
section
variable {ns ls : List (List C)} {b0 b1 b2 b3 i j : Int}
theorem Sp.lcmp_neg {a0 a1 a2 a3 b0 b1 b2 b3 : Int} : Sp.lcmp a0 a1 a2 a3 b0 b1 b2 b3 < 0 ↔ (a0 < b0 ∨ a0 = b0 ∧ (a1 < b1 ∨ a1 = b1 ∧ (a2 < b2 ∨ a2 = b2 ∧ a3 < b3))) := by
 unfold Sp.lcmp
 repeat' split
 all_goals omega
def Sp.rlt (x y : List C) : Prop := Sp.lcmp (Sp.c0 x) (Sp.c1 x) (Sp.c2 x) (Sp.c3 x) (Sp.c0 y) (Sp.c1 y) (Sp.c2 y) (Sp.c3 y) < 0
end
section
variable {ns ls out o : List (List C)} {id n k j : Int} {m : List (Int × List C)}
structure Sp.OrdP (ns ls out : List (List C)) : Prop where
 sub : ∀ x ∈ out, Sp.has ns (Sp.c0 x) = true
 nd : (out.map Sp.c0).Nodup
 dep : ∀ j : Nat, j < out.length → ∀ l ∈ ls, Sp.c2 l = Sp.c0 (out.getD j []) → Sp.has (out.take j) (Sp.c0 l) = true
theorem Sp.has_map : Sp.has out n = true ↔ n ∈ out.map Sp.c0 := by
 rw [Sp.has_iff, List.mem_map]
theorem Sp.ordF_P : ∀ (f : Nat) (out : List (List C)), Sp.OrdP ns ls out → Sp.OrdP ns ls (Sp.ordF ns ls f out)
 | 0, out, h => h
 | f + 1, out, h => by
  rw [Sp.ordF]
  cases hc : decide (Sp.idx (Sp.rdy ls out) ns 0 < 0)
  · rw [decide_eq_false_iff_not] at hc
    simp only [cond_false]
    obtain ⟨r1, r2⟩ := Sp.rdy_at (ls := ls) (ns := ns) (out := out) (by omega)
    have hm := Sp.row_mem (xs := ns) (k := Sp.idx (Sp.rdy ls out) ns 0) (by omega) r1
    generalize rGet ns (Sp.idx (Sp.rdy ls out) ns 0) = x at *
    unfold Sp.rdy at r2
    rw [Bool.and_eq_true, Bool.not_eq_true'] at r2
    have ci : Sp.c0 [C.i (Sp.c0 x)] = Sp.c0 x := rfl
    refine Sp.ordF_P f _ ⟨fun y hy => ?_, ?_, fun j hj l hl he => ?_⟩
    · rcases List.mem_append.1 hy with hy | hy
      · exact h.sub y hy
      · obtain rfl : y = [C.i (Sp.c0 x)] := by simpa using hy
        exact Sp.has_iff.2 ⟨x, hm, rfl⟩
    · rw [List.map_append, List.nodup_append]
      refine ⟨h.nd, by simp, fun a ha b hb => ?_⟩
      obtain rfl : b = Sp.c0 x := by simpa [ci] using hb
      intro e
      subst e
      have := Sp.has_map.2 ha
      rw [r2.1] at this; cases this
    · simp only [List.length_append, List.length_singleton] at hj
      by_cases hjl : j < out.length
      · rw [List.take_append_of_le_length (by omega)]
        refine h.dep j hjl l hl ?_
        rw [he, List.getD_eq_getElem?_getD, List.getElem?_append_left hjl, ← List.getD_eq_getElem?_getD]
      · obtain rfl : j = out.length := by omega
        rw [List.take_left]
        have e2 : (out ++ [[C.i (Sp.c0 x)]]).getD out.length [] = [C.i (Sp.c0 x)] := by
         rw [List.getD_eq_getElem?_getD, List.getElem?_append_right (Nat.le_refl _), Nat.sub_self]; rfl
        rw [e2, ci] at he
        have := List.all_eq_true.1 r2.2 l hl
        rw [Bool.or_eq_true, Bool.not_eq_true', decide_eq_false_iff_not] at this
        rcases this with h1 | h1
        · exact (h1 he).elim
        · exact h1
  · exact h
theorem Sp.ord_P : Sp.OrdP ns ls (Sp.ord ns ls) := Sp.ordF_P _ _ ⟨fun x hx => by (cases hx), by simp, fun j hj => by (cases hj)⟩
theorem Sp.nodup_le : ∀ {B A : List Int}, B.Nodup → (∀ x ∈ B, x ∈ A) → B.length ≤ A.length
 | [], A, _, _ => by simp
 | b :: B, A, h, hs => by
  rw [List.nodup_cons] at h
  have h1 : ∀ x ∈ B, x ∈ A.erase b := fun x hx => (List.mem_erase_of_ne (fun e => h.1 (by rw [← e]; exact hx))).2 (hs x (by simp [hx]))
  have h2 := Sp.nodup_le h.2 h1
  have h3 := List.length_erase_of_mem (hs b (by simp))
  have h4 : 0 < A.length := List.length_pos_of_mem (hs b (by simp))
  simp only [List.length_cons]
  omega
theorem Sp.vld_ordlen (h : Sp.vld ns ls = true) : (Sp.ord ns ls).length = ns.length := by
 unfold Sp.vld at h
 simp only [Bool.and_eq_true, decide_eq_true_eq] at h
 exact h.2
theorem Sp.ord_all (h : Sp.vld ns ls = true) (hn : Sp.has ns n = true) : Sp.has (Sp.ord ns ls) n = true := by
 apply Classical.byContradiction
 intro hc
 have p := Sp.ord_P (ns := ns) (ls := ls)
 have h1 : (n :: (Sp.ord ns ls).map Sp.c0).Nodup := List.nodup_cons.2 ⟨fun hm => hc (Sp.has_map.2 hm), p.nd⟩
 have h2 : ∀ x ∈ n :: (Sp.ord ns ls).map Sp.c0, x ∈ ns.map Sp.c0 := fun x hx => by
  rcases List.mem_cons.1 hx with rfl | hx
  · exact Sp.has_map.1 hn
  · obtain ⟨y, hy, rfl⟩ := List.mem_map.1 hx
    exact Sp.has_map.1 (p.sub y hy)
 have := Sp.nodup_le h1 h2
 simp only [List.length_cons, List.length_map, Sp.vld_ordlen h] at this
 omega
end
section
variable {ns ls xs out : List (List C)} {i k n o b0 b1 b2 b3 : Int}
def Sp.nfine (x : List C) : Bool := Sp.fine (Sp.c0 x) (Sp.c1 x) (Sp.c2 x) (Sp.c3 x)
def Sp.lends (ns : List (List C)) (l : List C) : Bool := Sp.ends ns (Sp.c0 l) (Sp.c1 l) (Sp.c2 l) (Sp.c3 l)
def Sp.lcl (ns : List (List C)) (x y : List C) : Bool := Sp.cl ns (Sp.c0 y) (Sp.c1 y) (Sp.c2 y) (Sp.c3 y) x
structure Sp.Vl (ns ls : List (List C)) : Prop where
 len : ns.length ≤ 64 ∧ ls.length ≤ 256
 fine : ∀ x ∈ ns, Sp.nfine x = true
 asc : ns.Pairwise (fun a b => Sp.c0 a < Sp.c0 b)
 ends : ∀ l ∈ ls, Sp.lends ns l = true
 srt : ls.Pairwise Sp.rlt
 cl : ls.Pairwise (fun x y => Sp.lcl ns x y = false)
 ord : (Sp.ord ns ls).length = ns.length
theorem Sp.row_get {k : Nat} (h : k < xs.length) : rGet xs (k : Int) = xs[k] := by
 unfold rGet
 rw [List.getD_eq_getElem?_getD, Int.toNat_natCast, List.getElem?_eq_getElem h]; rfl
theorem Sp.vl_to (h : Sp.Vl ns ls) : Sp.vld ns ls = true := by
  unfold Sp.vld
  simp only [Bool.and_eq_true, decide_eq_true_eq]
  refine ⟨⟨⟨h.len, Sp.allI_iff.2 fun k k0 k1 => ?_⟩, Sp.allI_iff.2 fun k k0 k1 => ?_⟩, h.ord⟩
  · unfold Sp.nokI
    rw [Bool.and_eq_true, Bool.or_eq_true, decide_eq_true_eq, decide_eq_true_eq]
    refine ⟨h.fine _ (Sp.row_mem k0 k1), ?_⟩
    by_cases e : k ≤ 0
    · exact .inl e
    · refine .inr ?_
      obtain ⟨m, rfl⟩ : ∃ m : Nat, k = ((m + 1 : Nat) : Int) := ⟨(k - 1).toNat, by omega⟩
      rw [show ((m + 1 : Nat) : Int) - 1 = (m : Int) by omega, Sp.row_get (by omega), Sp.row_get (by omega)]
      exact (List.pairwise_iff_getElem.1 h.asc) m (m + 1) (by omega) (by omega) (by omega)
  · unfold Sp.lokI
    simp only [Bool.and_eq_true, Bool.or_eq_true, Bool.not_eq_true', decide_eq_true_eq, decide_eq_false_iff_not]
    refine ⟨⟨h.ends _ (Sp.row_mem k0 k1), ?_⟩, ?_⟩
    · by_cases e : k ≤ 0
      · exact .inl e
      · refine .inr ?_
        obtain ⟨m, rfl⟩ : ∃ m : Nat, k = ((m + 1 : Nat) : Int) := ⟨(k - 1).toNat, by omega⟩
        rw [show ((m + 1 : Nat) : Int) - 1 = (m : Int) by omega, Sp.row_get (by omega), Sp.row_get (by omega)]
        exact (List.pairwise_iff_getElem.1 h.srt) m (m + 1) (by omega) (by omega) (by omega)
    · have := (Sp.idx_no (p := Sp.cl ns (Sp.c0 (rGet ls k)) (Sp.c1 (rGet ls k)) (Sp.c2 (rGet ls k)) (Sp.c3 (rGet ls k))) (ls.take k.toNat) 0 (by omega)).2 fun x hx => by
        obtain ⟨m, rfl⟩ : ∃ m : Nat, k = (m : Int) := ⟨k.toNat, by omega⟩
        obtain ⟨a, ha, rfl⟩ := List.mem_iff_getElem.1 hx
        rw [List.length_take] at ha
        rw [List.getElem_take, Sp.row_get (by omega)]
        exact (List.pairwise_iff_getElem.1 h.cl) a m (by omega) (by omega) (by omega)
      omega
theorem Sp.asc_uniq (h : ns.Pairwise (fun a b => Sp.c0 a < Sp.c0 b)) {x y : List C} (hx : x ∈ ns) (hy : y ∈ ns) (e : Sp.c0 x = Sp.c0 y) : x = y := by
 obtain ⟨a, ha, rfl⟩ := List.mem_iff_getElem.1 hx
 obtain ⟨b, hb, rfl⟩ := List.mem_iff_getElem.1 hy
 rcases Nat.lt_trichotomy a b with hab | hab | hab
 · have := (List.pairwise_iff_getElem.1 h) a b ha hb hab; omega
 · subst hab; rfl
 · have := (List.pairwise_iff_getElem.1 h) b a hb ha hab; omega
theorem Sp.nd_mem (h : ns.Pairwise (fun a b => Sp.c0 a < Sp.c0 b)) {x : List C} (hx : x ∈ ns) : Sp.nd ns (Sp.c0 x) = x := by
 obtain ⟨h1, h2⟩ := Sp.nd_has (ns := ns) (n := Sp.c0 x) (Sp.has_iff.2 ⟨x, hx, rfl⟩)
 exact Sp.asc_uniq h h1 hx h2
theorem Sp.ord_full (hnd : (ns.map Sp.c0).Nodup) (hl : ∀ l ∈ ls, Sp.has ns (Sp.c0 l) = true) (r : Int → Nat) (hr : ∀ l ∈ ls, r (Sp.c0 l) < r (Sp.c2 l)) : (Sp.ord ns ls).length = ns.length := by
 have ready : ∀ (out : List (List C)) (f : Nat) (n : Int), r n < f → Sp.has ns n = true → Sp.has out n = false → 0 ≤ Sp.idx (Sp.rdy ls out) ns 0 := by
  intro out f
  induction f with
  | zero => intro n h; omega
  | succ f ih =>
   intro n hf hn ho
   obtain ⟨x, hx, rfl⟩ := Sp.has_iff.1 hn
   cases hfr : Sp.free ls out (Sp.c0 x)
   · unfold Sp.free at hfr
     rw [List.all_eq_false] at hfr
     obtain ⟨l, hlm, hl2⟩ := hfr
     simp only [Bool.or_eq_true, Bool.not_eq_true', decide_eq_false_iff_not, not_or, Decidable.not_not, Bool.not_eq_true] at hl2
     have := hr l hlm
     rw [hl2.1] at this
     exact ih (Sp.c0 l) (by omega) (hl l hlm) hl2.2
   · apply Int.not_lt.1
     intro hc
     have := (Sp.idx_no ns 0 (by omega)).1 hc x hx
     unfold Sp.rdy at this
     rw [ho, hfr] at this; cases this
 have main : ∀ (f : Nat) (out : List (List C)), Sp.OrdP ns ls out → f + out.length = ns.length → (Sp.ordF ns ls f out).length = ns.length := by
  intro f
  induction f with
  | zero => intro out _ h; rw [Sp.ordF]; omega
  | succ f ih =>
   intro out hp h
   have hx : ∃ n, Sp.has ns n = true ∧ Sp.has out n = false := by
    apply Classical.byContradiction
    intro hc
    have : (ns.map Sp.c0).length ≤ (out.map Sp.c0).length := Sp.nodup_le hnd fun x hx => by
     cases ho : Sp.has out x
     · exact (hc ⟨x, Sp.has_map.2 hx, ho⟩).elim
     · exact Sp.has_map.1 ho
    simp only [List.length_map] at this
    omega
   obtain ⟨n, h1, h2⟩ := hx
   have hi := ready out (r n + 1) n (by omega) h1 h2
   have hP := Sp.ordF_P (ns := ns) (ls := ls) 1 out hp
   rw [Sp.ordF, decide_eq_false (by omega), cond_false, Sp.ordF] at hP
   rw [Sp.ordF, decide_eq_false (by omega), cond_false]
   exact ih _ hP (by simp only [List.length_append, List.length_singleton]; omega)
 exact main ns.length [] ⟨fun x hx => by (cases hx), by simp, fun j hj => by (cases hj)⟩ (by simp)
theorem Sp.asc_nd (h : ns.Pairwise (fun a b => Sp.c0 a < Sp.c0 b)) : (ns.map Sp.c0).Nodup := by
 unfold List.Nodup
 rw [List.pairwise_map]
 exact h.imp fun h => by omega
end
end Go
namespace Go
open Go.Sx
section
variable {ns ls cs : List (List C)}
def Sp.oid (ns ls : List (List C)) (j : Nat) : Int := Sp.c0 ((Sp.ord ns ls).getD j [])
def Sp.rF (ns ls cs : List (List C)) (k : Nat) : List (List C) × Int := ((Sp.ord ns ls).take k).foldl (Sp.rS ns ls cs) (List.replicate ns.length [.i 0], 0)
theorem Sp.oid_mem {j : Nat} (h : j < (Sp.ord ns ls).length) : (Sp.ord ns ls).getD j [] ∈ Sp.ord ns ls := by
 rw [List.getD_eq_getElem?_getD, List.getElem?_eq_getElem h]; exact List.getElem_mem h
theorem Sp.oid_has {j : Nat} (h : j < (Sp.ord ns ls).length) : Sp.has ns (Sp.oid ns ls j) = true := Sp.ord_P.sub _ (Sp.oid_mem h)
theorem Sp.oid_ne {i j : Nat} (hij : i < j) (h : j < (Sp.ord ns ls).length) : Sp.oid ns ls i ≠ Sp.oid ns ls j := fun e => by
 have nd := (Sp.ord_P (ns := ns) (ls := ls)).nd
 unfold Sp.oid at e
 rw [List.getD_eq_getElem?_getD, List.getElem?_eq_getElem (by omega), List.getD_eq_getElem?_getD, List.getElem?_eq_getElem h] at e
 refine (List.pairwise_iff_getElem.1 nd) i j (by rw [List.length_map]; omega) (by rw [List.length_map]; omega) hij ?_
 simpa using e
theorem Sp.oid_dep {j : Nat} (h : j < (Sp.ord ns ls).length) {l : List C} (hl : l ∈ ls) (e : Sp.c2 l = Sp.oid ns ls j) : ∃ i : Nat, i < j ∧ Sp.c0 l = Sp.oid ns ls i := by
 obtain ⟨y, hy, hy2⟩ := Sp.has_iff.1 (Sp.ord_P.dep j h l hl e)
 obtain ⟨i, hi, rfl⟩ := List.mem_iff_getElem.1 hy
 rw [List.length_take] at hi
 rw [List.getElem_take] at hy2
 refine ⟨i, by omega, ?_⟩
 unfold Sp.oid
 rw [← hy2, List.getD_eq_getElem?_getD, List.getElem?_eq_getElem (by omega)]; rfl
theorem Sp.nix_ne {m n : Int} (hm : Sp.has ns m = true) (hn : Sp.has ns n = true) (h : m ≠ n) : Sp.nix ns m ≠ Sp.nix ns n := fun e => by
 have a := (Sp.nix_has hm).2.2
 have b := (Sp.nix_has hn).2.2
 rw [e] at a
 exact h (a.symm.trans b)
theorem Sp.rF_s {k : Nat} (h : k < (Sp.ord ns ls).length) : Sp.rF ns ls cs (k + 1) = Sp.rS ns ls cs (Sp.rF ns ls cs k) ((Sp.ord ns ls).getD k []) := by
 unfold Sp.rF
 rw [List.take_succ_eq_append_getElem h, List.foldl_append, List.getD_eq_getElem?_getD, List.getElem?_eq_getElem h]; rfl
theorem Sp.rF_len {k : Nat} (h : k ≤ (Sp.ord ns ls).length) : (Sp.rF ns ls cs k).1.length = ns.length := by
 induction k with
 | zero => unfold Sp.rF; simp
 | succ k ih =>
  rw [Sp.rF_s (by omega)]
  unfold Sp.rS
  show (rSet _ _ _).length = _
  unfold rSet
  rw [List.length_set, ih (by omega)]
theorem Sp.rF_get {k : Nat} (h : k < (Sp.ord ns ls).length) {n : Int} (hn : Sp.has ns n = true) :
 Sp.gV (Sp.rF ns ls cs (k + 1)).1 (Sp.nix ns n) = if n = Sp.oid ns ls k then Sp.mxR (Sp.rF ns ls cs k).1 ns ls n + Sp.gV cs (Sp.nix ns n) else Sp.gV (Sp.rF ns ls cs k).1 (Sp.nix ns n) := by
 have hk := Sp.oid_has h
 have ak := Sp.nix_has hk
 have an := Sp.nix_has hn
 have e := Sp.rF_s (cs := cs) h
 have e1 : (Sp.rF ns ls cs (k + 1)).1 = rSet (Sp.rF ns ls cs k).1 (Sp.nix ns (Sp.oid ns ls k)) [.i (Sp.mxR (Sp.rF ns ls cs k).1 ns ls (Sp.oid ns ls k) + Sp.gV cs (Sp.nix ns (Sp.oid ns ls k)))] := by rw [e]; rfl
 rw [e1, Sp.gV_set ak.1 (by rw [Sp.rF_len (by omega)]; exact ak.2.1) an.1]
 by_cases c : n = Sp.oid ns ls k
 · rw [if_pos c, c, if_pos rfl]
 · rw [if_neg c, if_neg (Sp.nix_ne hk hn (fun e => c e.symm))]
theorem Sp.rF_out {k : Nat} (h : k < (Sp.ord ns ls).length) : (Sp.rF ns ls cs (k + 1)).2 = max (Sp.rF ns ls cs k).2 (Sp.gV (Sp.rF ns ls cs (k + 1)).1 (Sp.nix ns (Sp.oid ns ls k))) := by
 rw [Sp.rF_get h (Sp.oid_has h), if_pos rfl, Sp.rF_s h]; rfl
theorem Sp.mxR_fold {b : List (List C)} {id : Int} : ∀ (xs : List (List C)) (a : Int), a ≤ xs.foldl (fun a l => if decide (Sp.c2 l = id) = true then max a (Sp.gV b (Sp.nix ns (Sp.c0 l))) else a) a ∧
 (∀ l ∈ xs, Sp.c2 l = id → Sp.gV b (Sp.nix ns (Sp.c0 l)) ≤ xs.foldl (fun a l => if decide (Sp.c2 l = id) = true then max a (Sp.gV b (Sp.nix ns (Sp.c0 l))) else a) a) ∧
 (∀ M : Int, a ≤ M → (∀ l ∈ xs, Sp.c2 l = id → Sp.gV b (Sp.nix ns (Sp.c0 l)) ≤ M) → xs.foldl (fun a l => if decide (Sp.c2 l = id) = true then max a (Sp.gV b (Sp.nix ns (Sp.c0 l))) else a) a ≤ M)
 | [], a => ⟨Int.le_refl _, fun l h => absurd h (by simp), fun M h _ => h⟩
 | x :: r, a => by
  simp only [List.foldl_cons]
  by_cases c : Sp.c2 x = id
  · rw [decide_eq_true c, if_pos rfl]
    obtain ⟨h1, h2, h3⟩ := Sp.mxR_fold r (max a (Sp.gV b (Sp.nix ns (Sp.c0 x))))
    refine ⟨by omega, fun l hl hc => ?_, fun M h hM => h3 M (by have := hM x (by simp) c; omega) fun l hl hc => hM l (by simp [hl]) hc⟩
    rcases List.mem_cons.1 hl with rfl | hl
    · omega
    · exact h2 l hl hc
  · rw [decide_eq_false c, if_neg (by simp)]
    obtain ⟨h1, h2, h3⟩ := Sp.mxR_fold r a
    refine ⟨h1, fun l hl hc => ?_, fun M h hM => h3 M h fun l hl hc => hM l (by simp [hl]) hc⟩
    rcases List.mem_cons.1 hl with rfl | hl
    · exact absurd hc c
    · exact h2 l hl hc
structure Sp.RL (ns ls cs : List (List C)) (k : Nat) : Prop where
 o0 : 0 ≤ (Sp.rF ns ls cs k).2
 own : ∀ j : Nat, j < k → Sp.gV cs (Sp.nix ns (Sp.oid ns ls j)) ≤ Sp.gV (Sp.rF ns ls cs k).1 (Sp.nix ns (Sp.oid ns ls j))
 le : ∀ j : Nat, j < k → Sp.gV (Sp.rF ns ls cs k).1 (Sp.nix ns (Sp.oid ns ls j)) ≤ (Sp.rF ns ls cs k).2
 lk : ∀ j : Nat, j < k → ∀ l ∈ ls, Sp.c2 l = Sp.oid ns ls j → Sp.gV (Sp.rF ns ls cs k).1 (Sp.nix ns (Sp.c0 l)) + Sp.gV cs (Sp.nix ns (Sp.oid ns ls j)) ≤ Sp.gV (Sp.rF ns ls cs k).1 (Sp.nix ns (Sp.oid ns ls j))
theorem Sp.rl_all : ∀ k : Nat, k ≤ (Sp.ord ns ls).length → Sp.RL ns ls cs k
 | 0, _ => ⟨by unfold Sp.rF; exact Int.le_refl _, fun j h => by omega, fun j h => by omega, fun j h => by omega⟩
 | k + 1, hk => by
  have I := Sp.rl_all k (by omega)
  have hh := fun j (h : j < (Sp.ord ns ls).length) => Sp.oid_has (ns := ns) (ls := ls) h
  have ho := Sp.rF_out (cs := cs) (show k < (Sp.ord ns ls).length by omega)
  have gk := Sp.rF_get (cs := cs) (show k < (Sp.ord ns ls).length by omega) (hh k (by omega))
  rw [if_pos rfl] at gk
  have gj : ∀ j : Nat, j < k → Sp.gV (Sp.rF ns ls cs (k + 1)).1 (Sp.nix ns (Sp.oid ns ls j)) = Sp.gV (Sp.rF ns ls cs k).1 (Sp.nix ns (Sp.oid ns ls j)) := fun j hj => by
   rw [Sp.rF_get (by omega) (hh j (by omega)), if_neg (Sp.oid_ne hj (by omega))]
  obtain ⟨m1, m2, _⟩ := Sp.mxR_fold (ns := ns) (b := (Sp.rF ns ls cs k).1) (id := Sp.oid ns ls k) ls 0
  change 0 ≤ Sp.mxR (Sp.rF ns ls cs k).1 ns ls (Sp.oid ns ls k) at m1
  change ∀ l ∈ ls, Sp.c2 l = Sp.oid ns ls k → Sp.gV (Sp.rF ns ls cs k).1 (Sp.nix ns (Sp.c0 l)) ≤ Sp.mxR (Sp.rF ns ls cs k).1 ns ls (Sp.oid ns ls k) at m2
  have i0 := I.o0
  refine ⟨by omega, fun j hj => ?_, fun j hj => ?_, fun j hj l hl hc => ?_⟩
  · by_cases e : j = k
    · subst e; omega
    · rw [gj j (by omega)]; exact I.own j (by omega)
  · by_cases e : j = k
    · subst e; omega
    · rw [gj j (by omega)]; have := I.le j (by omega); omega
  · obtain ⟨i, hi, e⟩ := Sp.oid_dep (show j < (Sp.ord ns ls).length by omega) hl hc
    rw [e, gj i (by omega)]
    by_cases ej : j = k
    · subst ej
      have := m2 l hl hc
      rw [e] at this
      omega
    · rw [gj j (by omega)]
      have := I.lk j (by omega) l hl hc
      rw [e] at this
      exact this
theorem Sp.crit_lo (hv : Sp.vld ns ls = true) : ∃ b : Int → Int, 0 ≤ Sp.critR ns ls cs ∧ (∀ n, Sp.has ns n = true → Sp.gV cs (Sp.nix ns n) ≤ b n ∧ b n ≤ Sp.critR ns ls cs) ∧
 ∀ l ∈ ls, Sp.has ns (Sp.c2 l) = true → b (Sp.c0 l) + Sp.gV cs (Sp.nix ns (Sp.c2 l)) ≤ b (Sp.c2 l) := by
 have I := Sp.rl_all (cs := cs) (Sp.ord ns ls).length (Nat.le_refl _)
 have e : (Sp.rF ns ls cs (Sp.ord ns ls).length).2 = Sp.critR ns ls cs := by unfold Sp.rF Sp.critR; rw [List.take_length]
 have full : ∀ n, Sp.has ns n = true → ∃ j : Nat, j < (Sp.ord ns ls).length ∧ n = Sp.oid ns ls j := fun n hn => by
  obtain ⟨y, hy, hy2⟩ := Sp.has_iff.1 (Sp.ord_all hv hn)
  obtain ⟨j, hj, rfl⟩ := List.mem_iff_getElem.1 hy
  refine ⟨j, hj, ?_⟩
  unfold Sp.oid
  rw [← hy2, List.getD_eq_getElem?_getD, List.getElem?_eq_getElem hj]; rfl
 refine ⟨fun n => Sp.gV (Sp.rF ns ls cs (Sp.ord ns ls).length).1 (Sp.nix ns n), by rw [← e]; exact I.o0, fun n hn => ?_, fun l hl hn => ?_⟩
 · obtain ⟨j, hj, rfl⟩ := full n hn
   exact ⟨I.own j hj, by rw [← e]; exact I.le j hj⟩
 · obtain ⟨j, hj, hje⟩ := full _ hn
   have := I.lk j hj l hl hje
   rw [← hje] at this
   exact this
theorem Sp.crit_hi {F : Int → Int} {M : Int} (hM : 0 ≤ M) (h0 : ∀ n, 0 ≤ F n) (h1 : ∀ n, Sp.has ns n = true → Sp.gV cs (Sp.nix ns n) ≤ F n ∧ F n ≤ M)
 (h2 : ∀ l ∈ ls, Sp.has ns (Sp.c0 l) = true ∧ (Sp.has ns (Sp.c2 l) = true → F (Sp.c0 l) + Sp.gV cs (Sp.nix ns (Sp.c2 l)) ≤ F (Sp.c2 l))) : Sp.critR ns ls cs ≤ M := by
 have I : ∀ k : Nat, k ≤ (Sp.ord ns ls).length → (Sp.rF ns ls cs k).2 ≤ M ∧ ∀ n, Sp.has ns n = true → Sp.gV (Sp.rF ns ls cs k).1 (Sp.nix ns n) ≤ F n := by
  intro k
  induction k with
  | zero =>
   refine fun _ => ⟨hM, fun n hn => ?_⟩
   have an := Sp.nix_has hn
   have : Sp.gV (Sp.rF ns ls cs 0).1 (Sp.nix ns n) = 0 := by
    unfold Sp.rF Sp.gV rGet
    rw [List.take_zero, List.foldl_nil, List.getD_eq_getElem?_getD, List.getElem?_replicate]
    rw [if_pos (by omega)]; rfl
   rw [this]; exact h0 n
  | succ k ih =>
   intro hk
   obtain ⟨i1, i2⟩ := ih (by omega)
   have ho := Sp.rF_out (cs := cs) (show k < (Sp.ord ns ls).length by omega)
   have hkk := Sp.oid_has (ns := ns) (ls := ls) (show k < (Sp.ord ns ls).length by omega)
   have gall : ∀ n, Sp.has ns n = true → Sp.gV (Sp.rF ns ls cs (k + 1)).1 (Sp.nix ns n) ≤ F n := fun n hn => by
    rw [Sp.rF_get (by omega) hn]
    split
    · obtain ⟨_, _, m3⟩ := Sp.mxR_fold (ns := ns) (b := (Sp.rF ns ls cs k).1) (id := n) ls 0
      have hx := h1 n hn
      have := m3 (F n - Sp.gV cs (Sp.nix ns n)) (by omega) fun l hl hc => by
       obtain ⟨a, b⟩ := h2 l hl
       have := b (by rw [hc]; exact hn)
       rw [hc] at this
       have := i2 _ a
       omega
      change Sp.mxR (Sp.rF ns ls cs k).1 ns ls n ≤ _ at this
      omega
    · exact i2 n hn
   refine ⟨?_, gall⟩
   have := gall _ hkk
   have := (h1 _ hkk).2
   omega
 have e : (Sp.rF ns ls cs (Sp.ord ns ls).length).2 = Sp.critR ns ls cs := by unfold Sp.rF Sp.critR; rw [List.take_length]
 rw [← e]
 exact (I _ (Nat.le_refl _)).1
end
end Go
namespace Go
open Go.Sx
theorem Sp.gN1_in {x : List C} : ∀ {d : Nat}, x ∈ Sp.gN1 d ↔ ∃ k : Nat, k < d ∧ (x = [.i (2 * (k : Int) + 1), .i 3, .i 1, .i 1] ∨ x = [.i (2 * (k : Int) + 2), .i 2, .i 1, .i 0])
 | 0 => by simp [Sp.gN1]
 | d + 1 => by
  simp only [Sp.gN1, List.mem_append, Sp.gN1_in (d := d), List.mem_cons, List.not_mem_nil, or_false]
  constructor
  · rintro (⟨k, hk, h⟩ | h)
    · exact ⟨k, by omega, h⟩
    · exact ⟨d, by omega, h⟩
  · rintro ⟨k, hk, h⟩
    by_cases e : k = d
    · subst e; exact .inr h
    · exact .inl ⟨k, by omega, h⟩
theorem Sp.gN2_in {x : List C} : ∀ {s : Nat}, x ∈ Sp.gN2 s ↔ ∃ j : Nat, j < s ∧ x = [.i (17 + (j : Int)), .i 1, .i 0, .i 1]
 | 0 => by simp [Sp.gN2]
 | s + 1 => by
  simp only [Sp.gN2, List.mem_append, Sp.gN2_in (s := s), List.mem_cons, List.not_mem_nil, or_false]
  constructor
  · rintro (⟨k, hk, h⟩ | h)
    · exact ⟨k, by omega, h⟩
    · exact ⟨s, by omega, h⟩
  · rintro ⟨k, hk, h⟩
    by_cases e : k = s
    · subst e; exact .inr h
    · exact .inl ⟨k, by omega, h⟩
theorem Sp.gL1_in {x : List C} : ∀ {d : Nat}, x ∈ Sp.gL1 d ↔ ∃ k : Nat, k < d ∧ x = [.i (2 * (k : Int) + 1), .i 0, .i (2 * (k : Int) + 2), .i 0]
 | 0 => by simp [Sp.gL1]
 | d + 1 => by
  simp only [Sp.gL1, List.mem_append, Sp.gL1_in (d := d), List.mem_cons, List.not_mem_nil, or_false]
  constructor
  · rintro (⟨k, hk, h⟩ | h)
    · exact ⟨k, by omega, h⟩
    · exact ⟨d, by omega, h⟩
  · rintro ⟨k, hk, h⟩
    by_cases e : k = d
    · subst e; exact .inr h
    · exact .inl ⟨k, by omega, h⟩
section
variable {ds ss : List (List C)}
def Sp.sq (ds ss : List (List C)) (j : Nat) : Int := Sp.nix ds (Sp.c1 (rGet ss (j : Int)))
theorem Sp.gL2_in {x : List C} : ∀ {s : Nat}, x ∈ Sp.gL2 ds ss s ↔ ∃ j : Nat, j < s ∧ x = [.i (17 + (j : Int)), .i 0, .i (2 * Sp.sq ds ss j + 1), .i 0]
 | 0 => by simp [Sp.gL2]
 | s + 1 => by
  simp only [Sp.gL2, List.mem_append, Sp.gL2_in (s := s), List.mem_cons, List.not_mem_nil, or_false]
  constructor
  · rintro (⟨k, hk, h⟩ | h)
    · exact ⟨k, by omega, h⟩
    · exact ⟨s, by omega, h⟩
  · rintro ⟨k, hk, h⟩
    by_cases e : k = s
    · subst e; exact .inr h
    · exact .inl ⟨k, by omega, h⟩
theorem Sp.gN1_asc : ∀ d : Nat, (Sp.gN1 d).Pairwise (fun a b => Sp.c0 a < Sp.c0 b)
 | 0 => List.Pairwise.nil
 | d + 1 => by
  simp only [Sp.gN1]
  rw [List.pairwise_append]
  refine ⟨Sp.gN1_asc d, ?_, fun a ha b hb => ?_⟩
  · rw [List.pairwise_cons]
    refine ⟨fun b hb => ?_, List.pairwise_singleton _ _⟩
    rw [List.mem_singleton.1 hb]
    show 2 * (d : Int) + 1 < 2 * (d : Int) + 2
    omega
  · obtain ⟨k, hk, e⟩ := Sp.gN1_in.1 ha
    have ea : Sp.c0 a = 2 * (k : Int) + 1 ∨ Sp.c0 a = 2 * (k : Int) + 2 := by
     rcases e with rfl | rfl
     · exact .inl rfl
     · exact .inr rfl
    have eb : Sp.c0 b = 2 * (d : Int) + 1 ∨ Sp.c0 b = 2 * (d : Int) + 2 := by
     rcases List.mem_cons.1 hb with rfl | hb
     · exact .inl rfl
     · rw [List.mem_singleton.1 hb]; exact .inr rfl
    omega
theorem Sp.gN2_asc : ∀ s : Nat, (Sp.gN2 s).Pairwise (fun a b => Sp.c0 a < Sp.c0 b)
 | 0 => List.Pairwise.nil
 | s + 1 => by
  simp only [Sp.gN2]
  rw [List.pairwise_append]
  refine ⟨Sp.gN2_asc s, List.pairwise_singleton _ _, fun a ha b hb => ?_⟩
  obtain ⟨k, hk, rfl⟩ := Sp.gN2_in.1 ha
  rw [List.mem_singleton.1 hb]
  show 17 + (k : Int) < 17 + (s : Int)
  omega
theorem Sp.gL1_asc : ∀ d : Nat, (Sp.gL1 d).Pairwise (fun a b => Sp.c0 a < Sp.c0 b)
 | 0 => List.Pairwise.nil
 | d + 1 => by
  simp only [Sp.gL1]
  rw [List.pairwise_append]
  refine ⟨Sp.gL1_asc d, List.pairwise_singleton _ _, fun a ha b hb => ?_⟩
  obtain ⟨k, hk, rfl⟩ := Sp.gL1_in.1 ha
  rw [List.mem_singleton.1 hb]
  show 2 * (k : Int) + 1 < 2 * (d : Int) + 1
  omega
theorem Sp.gL2_asc : ∀ s : Nat, (Sp.gL2 ds ss s).Pairwise (fun a b => Sp.c0 a < Sp.c0 b)
 | 0 => List.Pairwise.nil
 | s + 1 => by
  simp only [Sp.gL2]
  rw [List.pairwise_append]
  refine ⟨Sp.gL2_asc s, List.pairwise_singleton _ _, fun a ha b hb => ?_⟩
  obtain ⟨k, hk, rfl⟩ := Sp.gL2_in.1 ha
  rw [List.mem_singleton.1 hb]
  show 17 + (k : Int) < 17 + (s : Int)
  omega
variable {d s : Nat}
theorem Sp.gN_asc (hd : d ≤ 8) : (Sp.gN1 d ++ Sp.gN2 s).Pairwise (fun a b => Sp.c0 a < Sp.c0 b) := by
 rw [List.pairwise_append]
 refine ⟨Sp.gN1_asc d, Sp.gN2_asc s, fun a ha b hb => ?_⟩
 obtain ⟨k, hk, e⟩ := Sp.gN1_in.1 ha
 obtain ⟨j, hj, rfl⟩ := Sp.gN2_in.1 hb
 show Sp.c0 a < 17 + (j : Int)
 rcases e with rfl | rfl
 · show 2 * (k : Int) + 1 < _; omega
 · show 2 * (k : Int) + 2 < _; omega
theorem Sp.gL_asc (hd : d ≤ 8) : (Sp.gL1 d ++ Sp.gL2 ds ss s).Pairwise (fun a b => Sp.c0 a < Sp.c0 b) := by
 rw [List.pairwise_append]
 refine ⟨Sp.gL1_asc d, Sp.gL2_asc s, fun a ha b hb => ?_⟩
 obtain ⟨k, hk, rfl⟩ := Sp.gL1_in.1 ha
 obtain ⟨j, hj, rfl⟩ := Sp.gL2_in.1 hb
 show 2 * (k : Int) + 1 < 17 + (j : Int)
 omega
theorem Sp.gN_mix {k : Nat} (h : k < d) : [C.i (2 * (k : Int) + 1), .i 3, .i 1, .i 1] ∈ Sp.gN1 d ++ Sp.gN2 s := List.mem_append.2 (.inl (Sp.gN1_in.2 ⟨k, h, .inl rfl⟩))
theorem Sp.gN_dev {k : Nat} (h : k < d) : [C.i (2 * (k : Int) + 2), .i 2, .i 1, .i 0] ∈ Sp.gN1 d ++ Sp.gN2 s := List.mem_append.2 (.inl (Sp.gN1_in.2 ⟨k, h, .inr rfl⟩))
theorem Sp.gN_seat {j : Nat} (h : j < s) : [C.i (17 + (j : Int)), .i 1, .i 0, .i 1] ∈ Sp.gN1 d ++ Sp.gN2 s := List.mem_append.2 (.inr (Sp.gN2_in.2 ⟨j, h, rfl⟩))
theorem Sp.gN_cases {x : List C} (h : x ∈ Sp.gN1 d ++ Sp.gN2 s) : (∃ k : Nat, k < d ∧ (x = [.i (2 * (k : Int) + 1), .i 3, .i 1, .i 1] ∨ x = [.i (2 * (k : Int) + 2), .i 2, .i 1, .i 0])) ∨ ∃ j : Nat, j < s ∧ x = [.i (17 + (j : Int)), .i 1, .i 0, .i 1] := by
 rcases List.mem_append.1 h with h | h
 · exact .inl (Sp.gN1_in.1 h)
 · exact .inr (Sp.gN2_in.1 h)
theorem Sp.gL_cases {x : List C} (h : x ∈ Sp.gL1 d ++ Sp.gL2 ds ss s) : (∃ k : Nat, k < d ∧ x = [.i (2 * (k : Int) + 1), .i 0, .i (2 * (k : Int) + 2), .i 0]) ∨ ∃ j : Nat, j < s ∧ x = [.i (17 + (j : Int)), .i 0, .i (2 * Sp.sq ds ss j + 1), .i 0] := by
 rcases List.mem_append.1 h with h | h
 · exact .inl (Sp.gL1_in.1 h)
 · exact .inr (Sp.gL2_in.1 h)
theorem Sp.gN_nd (hd : d ≤ 8) {x : List C} (h : x ∈ Sp.gN1 d ++ Sp.gN2 s) {n : Int} (e : Sp.c0 x = n) : Sp.nd (Sp.gN1 d ++ Sp.gN2 s) n = x := by
 subst e; exact Sp.nd_mem (Sp.gN_asc hd) h
theorem Sp.nd_mix (hd : d ≤ 8) {k : Nat} (h : k < d) : Sp.nd (Sp.gN1 d ++ Sp.gN2 s) (2 * (k : Int) + 1) = [C.i (2 * (k : Int) + 1), .i 3, .i 1, .i 1] := Sp.gN_nd hd (Sp.gN_mix h) rfl
theorem Sp.nd_dev (hd : d ≤ 8) {k : Nat} (h : k < d) : Sp.nd (Sp.gN1 d ++ Sp.gN2 s) (2 * (k : Int) + 2) = [C.i (2 * (k : Int) + 2), .i 2, .i 1, .i 0] := Sp.gN_nd hd (Sp.gN_dev h) rfl
theorem Sp.nd_seat (hd : d ≤ 8) {j : Nat} (h : j < s) : Sp.nd (Sp.gN1 d ++ Sp.gN2 s) (17 + (j : Int)) = [C.i (17 + (j : Int)), .i 1, .i 0, .i 1] := Sp.gN_nd hd (Sp.gN_seat h) rfl
theorem Sp.g_vld (hd : d ≤ 8) (hs : s ≤ 24) (hq : ∀ j : Nat, j < s → 0 ≤ Sp.sq ds ss j ∧ Sp.sq ds ss j < (d : Int)) : Sp.vld (Sp.gN1 d ++ Sp.gN2 s) (Sp.gL1 d ++ Sp.gL2 ds ss s) = true := by
 have qn : ∀ j : Nat, j < s → ∃ k : Nat, k < d ∧ Sp.sq ds ss j = (k : Int) := fun j hj => ⟨(Sp.sq ds ss j).toNat, by have := hq j hj; omega, by have := hq j hj; omega⟩
 have hn := Sp.gN_asc (s := s) hd
 refine Sp.vl_to ⟨?_, fun x hx => ?_, hn, fun l hl => ?_, ?_, ?_, ?_⟩
 · rw [List.length_append, List.length_append, Sp.gN1_len, Sp.gN2_len, Sp.gL1_len, Sp.gL2_len]; omega
 · rcases Sp.gN_cases hx with ⟨k, hk, rfl | rfl⟩ | ⟨j, hj, rfl⟩
   · show Sp.fine (2 * (k : Int) + 1) 3 1 1 = true
     unfold Sp.fine
     exact decide_eq_true (by omega)
   · show Sp.fine (2 * (k : Int) + 2) 2 1 0 = true
     unfold Sp.fine
     exact decide_eq_true (by omega)
   · show Sp.fine (17 + (j : Int)) 1 0 1 = true
     unfold Sp.fine
     exact decide_eq_true (by omega)
 · unfold Sp.lends Sp.ends
   rcases Sp.gL_cases hl with ⟨k, hk, rfl⟩ | ⟨j, hj, rfl⟩
   · refine decide_eq_true ⟨Int.le_refl 0, ?_, Int.le_refl 0, ?_⟩
     · show (0 : Int) < Sp.c3 (Sp.nd (Sp.gN1 d ++ Sp.gN2 s) (2 * (k : Int) + 1))
       rw [Sp.nd_mix hd hk]; exact Int.one_pos
     · show (0 : Int) < Sp.c2 (Sp.nd (Sp.gN1 d ++ Sp.gN2 s) (2 * (k : Int) + 2))
       rw [Sp.nd_dev hd hk]; exact Int.one_pos
   · obtain ⟨k, hk, e⟩ := qn j hj
     rw [e]
     refine decide_eq_true ⟨Int.le_refl 0, ?_, Int.le_refl 0, ?_⟩
     · show (0 : Int) < Sp.c3 (Sp.nd (Sp.gN1 d ++ Sp.gN2 s) (17 + (j : Int)))
       rw [Sp.nd_seat hd hj]; exact Int.one_pos
     · show (0 : Int) < Sp.c2 (Sp.nd (Sp.gN1 d ++ Sp.gN2 s) (2 * (k : Int) + 1))
       rw [Sp.nd_mix hd hk]; exact Int.one_pos
 · exact (Sp.gL_asc hd).imp fun h => Sp.lcmp_neg.2 (.inl h)
 · rw [List.pairwise_iff_getElem]
   intro a b ha hb hab
   have hlt := (List.pairwise_iff_getElem.1 (Sp.gL_asc (ds := ds) (ss := ss) (s := s) hd)) a b ha hb hab
   have m1 := List.getElem_mem ha
   have m2 := List.getElem_mem hb
   generalize (Sp.gL1 d ++ Sp.gL2 ds ss s)[a] = x at *
   generalize (Sp.gL1 d ++ Sp.gL2 ds ss s)[b] = y at *
   unfold Sp.lcl Sp.cl Sp.clash
   rw [decide_eq_false_iff_not]
   rintro (⟨h1, _, h3⟩ | ⟨h1, _⟩)
   · rcases Sp.gL_cases m2 with ⟨k, hk, rfl⟩ | ⟨j, hj, rfl⟩
     · rcases Sp.gL_cases m1 with ⟨k2, hk2, rfl⟩ | ⟨j2, hj2, rfl⟩
       · have h1 : 2 * (k2 : Int) + 2 = 2 * (k : Int) + 2 := h1
         have hlt : 2 * (k2 : Int) + 1 < 2 * (k : Int) + 1 := hlt
         omega
       · have h1 : 2 * Sp.sq ds ss j2 + 1 = 2 * (k : Int) + 2 := h1
         omega
     · obtain ⟨k, hk, e⟩ := qn j hj
       refine h3 ?_
       rw [e]
       show Sp.c1 (Sp.nd (Sp.gN1 d ++ Sp.gN2 s) (2 * (k : Int) + 1)) = 3
       rw [Sp.nd_mix hd hk]; rfl
   · omega
 · refine Sp.ord_full (Sp.asc_nd hn) (fun l hl => ?_) (fun n => if 17 ≤ n then 0 else if n % 2 = 1 then 1 else 2) fun l hl => ?_
   · rcases Sp.gL_cases hl with ⟨k, hk, rfl⟩ | ⟨j, hj, rfl⟩
     · exact Sp.has_iff.2 ⟨_, Sp.gN_mix hk, rfl⟩
     · exact Sp.has_iff.2 ⟨_, Sp.gN_seat hj, rfl⟩
   · rcases Sp.gL_cases hl with ⟨k, hk, rfl⟩ | ⟨j, hj, rfl⟩
     · show (if 17 ≤ 2 * (k : Int) + 1 then 0 else if (2 * (k : Int) + 1) % 2 = 1 then 1 else 2) < (if 17 ≤ 2 * (k : Int) + 2 then 0 else if (2 * (k : Int) + 2) % 2 = 1 then 1 else 2)
       rw [if_neg (by omega), if_pos (by omega), if_neg (by omega), if_neg (by omega)]; omega
     · have := hq j hj
       show (if 17 ≤ 17 + (j : Int) then 0 else if (17 + (j : Int)) % 2 = 1 then 1 else 2) < (if 17 ≤ 2 * Sp.sq ds ss j + 1 then 0 else if (2 * Sp.sq ds ss j + 1) % 2 = 1 then 1 else 2)
       rw [if_pos (by omega), if_neg (by omega), if_pos (by omega)]; omega
end
end Go
namespace Go
open Go.Sx
theorem Sp.rGet_l {xs ys : List (List C)} {i : Int} (h0 : 0 ≤ i) (h : i < (xs.length : Int)) : rGet (xs ++ ys) i = rGet xs i := by
 unfold rGet
 rw [List.getD_eq_getElem?_getD, List.getElem?_append_left (by omega), List.getD_eq_getElem?_getD]
theorem Sp.rGet_r {xs ys : List (List C)} {i : Int} (h : (xs.length : Int) ≤ i) : rGet (xs ++ ys) i = rGet ys (i - xs.length) := by
 unfold rGet
 rw [List.getD_eq_getElem?_getD, List.getElem?_append_right (by omega), List.getD_eq_getElem?_getD, show i.toNat - xs.length = (i - xs.length).toNat by omega]
theorem Sp.nix_at {ns : List (List C)} (h : ns.Pairwise (fun a b => Sp.c0 a < Sp.c0 b)) {i n : Int} (h0 : 0 ≤ i) (h1 : i < (ns.length : Int)) (e : Sp.c0 (rGet ns i) = n) : Sp.nix ns n = i := by
 have a := Sp.nix_has (Sp.has_iff.2 ⟨_, Sp.row_mem h0 h1, e⟩)
 exact Sp.rget_inj h a.1 a.2.1 h0 h1 (a.2.2.trans e.symm)
theorem Sp.gN1_get : ∀ {d k : Nat}, k < d → rGet (Sp.gN1 d) (2 * (k : Int)) = [.i (2 * (k : Int) + 1), .i 3, .i 1, .i 1] ∧ rGet (Sp.gN1 d) (2 * (k : Int) + 1) = [.i (2 * (k : Int) + 2), .i 2, .i 1, .i 0]
 | d + 1, k, h => by
  simp only [Sp.gN1]
  by_cases e : k < d
  · rw [Sp.rGet_l (by omega) (by rw [Sp.gN1_len]; omega), Sp.rGet_l (by omega) (by rw [Sp.gN1_len]; omega)]
    exact Sp.gN1_get e
  · have : k = d := by omega
    subst this
    rw [Sp.rGet_r (by rw [Sp.gN1_len]; omega), Sp.rGet_r (by rw [Sp.gN1_len]; omega), Sp.gN1_len]
    rw [show 2 * (k : Int) - ((2 * k : Nat) : Int) = 0 by omega, show 2 * (k : Int) + 1 - ((2 * k : Nat) : Int) = 1 by omega]
    exact ⟨rfl, rfl⟩
theorem Sp.gN2_get : ∀ {s j : Nat}, j < s → rGet (Sp.gN2 s) (j : Int) = [.i (17 + (j : Int)), .i 1, .i 0, .i 1]
 | s + 1, j, h => by
  simp only [Sp.gN2]
  by_cases e : j < s
  · rw [Sp.rGet_l (by omega) (by rw [Sp.gN2_len]; omega)]
    exact Sp.gN2_get e
  · have : j = s := by omega
    subst this
    rw [Sp.rGet_r (by rw [Sp.gN2_len]; omega), Sp.gN2_len, Int.sub_self]; rfl
theorem Sp.gC1_get {p : Int} {ds : List (List C)} : ∀ {d k : Nat}, k < d → rGet (Sp.gC1 p ds d) (2 * (k : Int)) = [.i 0] ∧ rGet (Sp.gC1 p ds d) (2 * (k : Int) + 1) = [.i (Sp.cD (Sp.c1 (rGet ds (k : Int))) p)]
 | d + 1, k, h => by
  simp only [Sp.gC1]
  by_cases e : k < d
  · rw [Sp.rGet_l (by omega) (by rw [Sp.gC1_len]; omega), Sp.rGet_l (by omega) (by rw [Sp.gC1_len]; omega)]
    exact Sp.gC1_get e
  · have : k = d := by omega
    subst this
    rw [Sp.rGet_r (by rw [Sp.gC1_len]; omega), Sp.rGet_r (by rw [Sp.gC1_len]; omega), Sp.gC1_len]
    rw [show 2 * (k : Int) - ((2 * k : Nat) : Int) = 0 by omega, show 2 * (k : Int) + 1 - ((2 * k : Nat) : Int) = 1 by omega]
    exact ⟨rfl, rfl⟩
def Sp.sc (p : Int) (ds : List (List C)) (x : List C) : List C := [.i (Sp.cS (Sp.c2 x) (Sp.c1 (rGet ds (Sp.nix ds (Sp.c1 x)))) p)]
theorem Sp.gC2_map {p : Int} {ds ss : List (List C)} : ∀ n : Nat, n ≤ ss.length → Sp.gC2 p ds ss n = (ss.take n).map (Sp.sc p ds)
 | 0, _ => by simp [Sp.gC2]
 | n + 1, h => by
  simp only [Sp.gC2]
  rw [Sp.gC2_map n (by omega), List.take_succ_eq_append_getElem (by omega), List.map_append, Sp.row_get (by omega)]; rfl
theorem Sp.gC2_all {p : Int} {ds ss : List (List C)} : Sp.gC2 p ds ss ss.length = ss.map (Sp.sc p ds) := by rw [Sp.gC2_map _ (Nat.le_refl _), List.take_length]
theorem Sp.rGet_map {f : List C → List C} {xs : List (List C)} {i : Int} (h0 : 0 ≤ i) (h1 : i < (xs.length : Int)) : rGet (xs.map f) i = f (rGet xs i) := by
 rw [Sp.rget_map, if_pos (by omega)]
theorem Sp.cD_bd {ch p : Int} : 0 ≤ Sp.cD ch p ∧ Sp.cD ch p ≤ 1099511627776 := by
 unfold Sp.cD
 by_cases h : (1 ≤ ch ∧ ch ≤ 8) ∧ 16 ≤ p ∧ p ≤ 8192
 · rw [decide_eq_true h, cond_true]
   have h1 : 0 ≤ 8 * ch * p := Int.mul_nonneg (by omega) (by omega)
   have h2 : 8 * ch * p ≤ 64 * 8192 := Int.mul_le_mul (by omega) (by omega) (by omega) (by omega)
   omega
 · rw [decide_eq_false h, cond_false]; omega
theorem Sp.cS_bd {a b p : Int} : 0 ≤ Sp.cS a b p ∧ Sp.cS a b p ≤ 1099511627776 := by
 unfold Sp.cS
 by_cases h : (1 ≤ a ∧ a ≤ 8) ∧ (1 ≤ b ∧ b ≤ 8) ∧ 16 ≤ p ∧ p ≤ 8192
 · rw [decide_eq_true h, cond_true]
   have h0 : 0 ≤ a * b := Int.mul_nonneg (by omega) (by omega)
   have h3 : a * b ≤ 8 * 8 := Int.mul_le_mul (by omega) (by omega) (by omega) (by omega)
   have h1 : 0 ≤ (4 * a + a * b + 2 * b) * p := Int.mul_nonneg (by omega) (by omega)
   have h2 : (4 * a + a * b + 2 * b) * p ≤ 112 * 8192 := Int.mul_le_mul (by omega) (by omega) (by omega) (by omega)
   omega
 · rw [decide_eq_false h, cond_false]; omega
theorem Sp.gC1_in {p : Int} {ds : List (List C)} {x : List C} : ∀ {d : Nat}, x ∈ Sp.gC1 p ds d → 0 ≤ Sp.c0 x ∧ Sp.c0 x ≤ 1099511627776
 | d + 1, h => by
  simp only [Sp.gC1, List.mem_append, List.mem_cons, List.not_mem_nil, or_false] at h
  rcases h with h | rfl | rfl
  · exact Sp.gC1_in h
  · exact ⟨Int.le_refl _, by decide⟩
  · exact Sp.cD_bd
theorem Sp.sum_acc : ∀ (xs : List (List C)) (a : Int), xs.foldl (fun a x => a + Sp.c0 x) a = a + Sp.sum xs
 | [], a => by simp [Sp.sum]
 | x :: r, a => by
  unfold Sp.sum
  rw [List.foldl_cons, List.foldl_cons, Sp.sum_acc r, Sp.sum_acc r]; omega
theorem Sp.sum_app {xs ys : List (List C)} : Sp.sum (xs ++ ys) = Sp.sum xs + Sp.sum ys := by
 show (xs ++ ys).foldl _ 0 = _
 rw [List.foldl_append, Sp.sum_acc]; rfl
section
variable {w c p : Int} {ds ss : List (List C)}
theorem Sp.prop_q (h : Sp.prop w c p ds ss = true) {j : Nat} (hj : j < ss.length) : 0 ≤ Sp.sq ds ss j ∧ Sp.sq ds ss j < (ds.length : Int) := by
 have := Sp.nix_has (Sp.prop_seat h (z := (j : Int)) (by omega) (by omega)).1
 exact ⟨this.1, this.2.1⟩
theorem Sp.ld_prb (h : Sp.prop w c p ds ss = true) : Sp.vld (Sp.bN w c p ds ss) (Sp.bL w c p ds ss) = true ∧ (Sp.bC w c p ds ss).length = (Sp.bN w c p ds ss).length ∧ Sp.idx Sp.badC (Sp.bC w c p ds ss) 0 < 0 ∧ Sp.prb (Sp.bN w c p ds ss) (Sp.bL w c p ds ss) (Sp.bC w c p ds ss) w = true := by
 have hq := Sp.prop_iff.1 h
 have hl := hq.1
 have v : Sp.vld (Sp.bN w c p ds ss) (Sp.bL w c p ds ss) = true := by
  unfold Sp.bN Sp.bL
  rw [h]
  exact Sp.g_vld (by omega) (by omega) fun j hj => Sp.prop_q h hj
 have l : (Sp.bC w c p ds ss).length = (Sp.bN w c p ds ss).length := by
  unfold Sp.bN Sp.bC
  rw [h]
  simp only [cond_true, List.length_append, Sp.gN1_len, Sp.gC1_len, Sp.gN2_len, Sp.gC2_len]
 have b : Sp.idx Sp.badC (Sp.bC w c p ds ss) 0 < 0 := by
  refine (Sp.idx_no _ 0 (by omega)).2 fun x hx => ?_
  have : 0 ≤ Sp.c0 x ∧ Sp.c0 x ≤ 1099511627776 := by
   unfold Sp.bC at hx
   rw [h, cond_true, Sp.gC2_all] at hx
   rcases List.mem_append.1 hx with hx | hx
   · exact Sp.gC1_in hx
   · obtain ⟨y, _, rfl⟩ := List.mem_map.1 hx
     exact Sp.cS_bd
  unfold Sp.badC
  rw [decide_eq_false_iff_not]; omega
 exact ⟨v, l, b, Sp.prb_true.2 ⟨v, l, b, by omega, by omega⟩⟩
theorem Sp.ld_eqn (h : Sp.prop w c p ds ss = true) : Sp.ld w c p ds ss = (Sp.sum (Sp.bC w c p ds ss) + (w - 1) * Sp.critR (Sp.bN w c p ds ss) (Sp.bL w c p ds ss) (Sp.bC w c p ds ss)).tdiv w := by
 obtain ⟨v, l, b, r⟩ := Sp.ld_prb h
 unfold Sp.ld Sp.bnd
 rw [r, cond_true, Sp.crit_eq v]
theorem Sp.cost_at (h : Sp.prop w c p ds ss = true) : (∀ k : Nat, k < ds.length → Sp.gV (Sp.bC w c p ds ss) (Sp.nix (Sp.bN w c p ds ss) (2 * (k : Int) + 1)) = 0 ∧ Sp.gV (Sp.bC w c p ds ss) (Sp.nix (Sp.bN w c p ds ss) (2 * (k : Int) + 2)) = Sp.cD (Sp.c1 (rGet ds (k : Int))) p) ∧
 ∀ j : Nat, j < ss.length → Sp.gV (Sp.bC w c p ds ss) (Sp.nix (Sp.bN w c p ds ss) (17 + (j : Int))) = Sp.c0 (Sp.sc p ds (rGet ss (j : Int))) := by
 have hl := (Sp.prop_iff.1 h).1
 unfold Sp.bN Sp.bC
 rw [h, cond_true, cond_true, Sp.gC2_all]
 have asc := Sp.gN_asc (d := ds.length) (s := ss.length) (by omega)
 have ln : ((Sp.gN1 ds.length ++ Sp.gN2 ss.length).length : Int) = 2 * ds.length + ss.length := by rw [List.length_append, Sp.gN1_len, Sp.gN2_len]; omega
 refine ⟨fun k hk => ?_, fun j hj => ?_⟩
 · have g := Sp.gN1_get hk
   have gc := Sp.gC1_get (p := p) (ds := ds) hk
   rw [Sp.nix_at asc (i := 2 * (k : Int)) (by omega) (by omega) (by rw [Sp.rGet_l (by omega) (by rw [Sp.gN1_len]; omega), g.1]; rfl),
    Sp.nix_at asc (i := 2 * (k : Int) + 1) (by omega) (by omega) (by rw [Sp.rGet_l (by omega) (by rw [Sp.gN1_len]; omega), g.2]; rfl)]
   unfold Sp.gV
   rw [Sp.rGet_l (by omega) (by rw [Sp.gC1_len]; omega), Sp.rGet_l (by omega) (by rw [Sp.gC1_len]; omega), gc.1, gc.2]
   exact ⟨rfl, rfl⟩
 · have g := Sp.gN2_get hj
   rw [Sp.nix_at asc (i := 2 * (ds.length : Int) + (j : Int)) (by omega) (by omega) (by
    rw [Sp.rGet_r (by rw [Sp.gN1_len]; omega), Sp.gN1_len, show 2 * (ds.length : Int) + (j : Int) - ((2 * ds.length : Nat) : Int) = (j : Int) by omega, g]; rfl)]
   unfold Sp.gV
   rw [Sp.rGet_r (by rw [Sp.gC1_len]; omega), Sp.gC1_len, show 2 * (ds.length : Int) + (j : Int) - ((2 * ds.length : Nat) : Int) = (j : Int) by omega, Sp.rGet_map (by omega) (by omega)]
theorem Sp.prop_del (h : Sp.prop w c p ds ss = true) {i : Int} (h0 : 0 ≤ i) (h1 : i < (ss.length : Int)) : Sp.prop w c p ds (Sp.del ss i (i + 1)) = true := by
 obtain ⟨a, b, d⟩ := Sp.prop_iff.1 h
 have dl := Sp.del_len h0 h1
 have da := Sp.del_asc (Sp.sok_asc d) h0 h1
 refine Sp.prop_iff.2 ⟨by omega, b, Sp.allI_all fun k k0 k1 => ?_⟩
 have key : ∀ m : Int, 0 ≤ m → m < (ss.length : Int) → rGet (Sp.del ss i (i + 1)) k = rGet ss m → Sp.sokI ds (Sp.del ss i (i + 1)) k = true := fun m m0 m1 e => by
  have hm := Sp.allI_iff.1 d m m0 m1
  unfold Sp.sokI at hm ⊢
  rw [Bool.and_eq_true, decide_eq_true_eq] at hm ⊢
  rw [e]
  refine ⟨⟨hm.1.1, ?_, hm.1.2.2⟩, hm.2⟩
  by_cases ek : k ≤ 0
  · exact .inl ek
  · refine .inr ?_
    rw [← e]
    exact da (k - 1) k (by omega) (by omega) k1
 have g := Sp.get_del h0 h1 k0
 by_cases e : k < i
 · rw [if_pos e] at g; exact key k k0 (by omega) g
 · rw [if_neg e] at g; exact key (k + 1) (by omega) (by omega) g
end
end Go
namespace Go
open Go.Sx
section
variable {w c p : Int} {ds ss : List (List C)}
theorem Sp.bN_has (h : Sp.prop w c p ds ss = true) {n : Int} : Sp.has (Sp.bN w c p ds ss) n = true ↔ (∃ k : Nat, k < ds.length ∧ (n = 2 * (k : Int) + 1 ∨ n = 2 * (k : Int) + 2)) ∨ ∃ j : Nat, j < ss.length ∧ n = 17 + (j : Int) := by
 unfold Sp.bN
 rw [h, cond_true, Sp.has_iff]
 constructor
 · rintro ⟨x, hx, rfl⟩
   rcases Sp.gN_cases hx with ⟨k, hk, rfl | rfl⟩ | ⟨j, hj, rfl⟩
   · exact .inl ⟨k, hk, .inl rfl⟩
   · exact .inl ⟨k, hk, .inr rfl⟩
   · exact .inr ⟨j, hj, rfl⟩
 · rintro (⟨k, hk, rfl | rfl⟩ | ⟨j, hj, rfl⟩)
   · exact ⟨_, Sp.gN_mix hk, rfl⟩
   · exact ⟨_, Sp.gN_dev hk, rfl⟩
   · exact ⟨_, Sp.gN_seat hj, rfl⟩
theorem Sp.bL_in (h : Sp.prop w c p ds ss = true) {l : List C} : l ∈ Sp.bL w c p ds ss ↔ (∃ k : Nat, k < ds.length ∧ l = [.i (2 * (k : Int) + 1), .i 0, .i (2 * (k : Int) + 2), .i 0]) ∨ ∃ j : Nat, j < ss.length ∧ l = [.i (17 + (j : Int)), .i 0, .i (2 * Sp.sq ds ss j + 1), .i 0] := by
 unfold Sp.bL
 rw [h, cond_true, List.mem_append, Sp.gL1_in, Sp.gL2_in]
theorem Sp.cost_nn (h : Sp.prop w c p ds ss = true) {n : Int} (hn : Sp.has (Sp.bN w c p ds ss) n = true) : 0 ≤ Sp.gV (Sp.bC w c p ds ss) (Sp.nix (Sp.bN w c p ds ss) n) := by
 obtain ⟨c1, c2⟩ := Sp.cost_at h
 rcases (Sp.bN_has h).1 hn with ⟨k, hk, rfl | rfl⟩ | ⟨j, hj, rfl⟩
 · rw [(c1 k hk).1]; exact Int.le_refl _
 · rw [(c1 k hk).2]; exact Sp.cD_bd.1
 · rw [c2 j hj]; exact Sp.cS_bd.1
theorem Sp.crit_del (h : Sp.prop w c p ds ss = true) {i : Int} (h0 : 0 ≤ i) (h1 : i < (ss.length : Int)) :
 Sp.critR (Sp.bN w c p ds (Sp.del ss i (i + 1))) (Sp.bL w c p ds (Sp.del ss i (i + 1))) (Sp.bC w c p ds (Sp.del ss i (i + 1))) ≤ Sp.critR (Sp.bN w c p ds ss) (Sp.bL w c p ds ss) (Sp.bC w c p ds ss) := by
 have h' := Sp.prop_del h h0 h1
 have dl := Sp.del_len h0 h1
 obtain ⟨c1, c2⟩ := Sp.cost_at h
 obtain ⟨d1, d2⟩ := Sp.cost_at h'
 obtain ⟨b, b0, b1, b2⟩ := Sp.crit_lo (cs := Sp.bC w c p ds ss) (Sp.ld_prb h).1
 have hd := (Sp.prop_iff.1 h).1
 have em : ∀ j : Nat, j < (Sp.del ss i (i + 1)).length → (if (j : Int) < i then (j : Int) else (j : Int) + 1).toNat < ss.length ∧ rGet (Sp.del ss i (i + 1)) (j : Int) = rGet ss (((if (j : Int) < i then (j : Int) else (j : Int) + 1).toNat : Nat) : Int) ∧
  17 + (((if (j : Int) < i then (j : Int) else (j : Int) + 1).toNat : Nat) : Int) = (if 17 + (j : Int) - 17 < i then 17 + (j : Int) else 17 + (j : Int) + 1) := fun j hj => by
  have g := Sp.get_del h0 h1 (show (0 : Int) ≤ (j : Int) by omega)
  rw [g]
  split
  · rw [if_pos (by omega), show (((j : Int).toNat : Nat) : Int) = (j : Int) by omega]
    exact ⟨by omega, rfl, rfl⟩
  · rw [if_neg (by omega), show ((((j : Int) + 1).toNat : Nat) : Int) = (j : Int) + 1 by omega]
    exact ⟨by omega, rfl, by omega⟩
 refine Sp.crit_hi (F := fun n => bif Sp.has (Sp.bN w c p ds (Sp.del ss i (i + 1))) n then b (if 17 ≤ n then (if n - 17 < i then n else n + 1) else n) else 0) b0 (fun n => ?_) (fun n hn => ?_) fun l hl => ?_
 · show 0 ≤ bif Sp.has (Sp.bN w c p ds (Sp.del ss i (i + 1))) n then b (if 17 ≤ n then (if n - 17 < i then n else n + 1) else n) else 0
   cases hn : Sp.has (Sp.bN w c p ds (Sp.del ss i (i + 1))) n
   · exact Int.le_refl _
   · rw [cond_true]
     have nn : ∀ m, Sp.has (Sp.bN w c p ds ss) m = true → 0 ≤ b m := fun m hm => by
      have := b1 m hm
      have := Sp.cost_nn h hm
      omega
     refine nn _ ?_
     rcases (Sp.bN_has h').1 hn with ⟨k, hk, rfl | rfl⟩ | ⟨j, hj, rfl⟩
     · rw [if_neg (by omega)]; exact (Sp.bN_has h).2 (.inl ⟨k, hk, .inl rfl⟩)
     · rw [if_neg (by omega)]; exact (Sp.bN_has h).2 (.inl ⟨k, hk, .inr rfl⟩)
     · rw [if_pos (by omega), ← (em j hj).2.2]
       exact (Sp.bN_has h).2 (.inr ⟨_, (em j hj).1, rfl⟩)
 · show _ ≤ (bif Sp.has (Sp.bN w c p ds (Sp.del ss i (i + 1))) n then b (if 17 ≤ n then (if n - 17 < i then n else n + 1) else n) else 0) ∧ (bif Sp.has (Sp.bN w c p ds (Sp.del ss i (i + 1))) n then b (if 17 ≤ n then (if n - 17 < i then n else n + 1) else n) else 0) ≤ _
   rw [hn, cond_true]
   rcases (Sp.bN_has h').1 hn with ⟨k, hk, rfl | rfl⟩ | ⟨j, hj, rfl⟩
   · rw [if_neg (by omega), (d1 k hk).1, ← (c1 k hk).1]
     exact b1 _ ((Sp.bN_has h).2 (.inl ⟨k, hk, .inl rfl⟩))
   · rw [if_neg (by omega), (d1 k hk).2, ← (c1 k hk).2]
     exact b1 _ ((Sp.bN_has h).2 (.inl ⟨k, hk, .inr rfl⟩))
   · obtain ⟨e1, e2, e3⟩ := em j hj
     rw [if_pos (by omega), ← e3, d2 j hj, e2, ← c2 _ e1]
     exact b1 _ ((Sp.bN_has h).2 (.inr ⟨_, e1, rfl⟩))
 · show Sp.has _ (Sp.c0 l) = true ∧ (Sp.has _ (Sp.c2 l) = true → (bif Sp.has _ (Sp.c0 l) then b (if 17 ≤ Sp.c0 l then (if Sp.c0 l - 17 < i then Sp.c0 l else Sp.c0 l + 1) else Sp.c0 l) else 0) + _ ≤ (bif Sp.has _ (Sp.c2 l) then b (if 17 ≤ Sp.c2 l then (if Sp.c2 l - 17 < i then Sp.c2 l else Sp.c2 l + 1) else Sp.c2 l) else 0))
   rcases (Sp.bL_in h').1 hl with ⟨k, hk, rfl⟩ | ⟨j, hj, rfl⟩
   · have a0 : Sp.has (Sp.bN w c p ds (Sp.del ss i (i + 1))) (2 * (k : Int) + 1) = true := (Sp.bN_has h').2 (.inl ⟨k, hk, .inl rfl⟩)
     refine ⟨a0, fun a2 => ?_⟩
     rw [a2]
     change (bif Sp.has (Sp.bN w c p ds (Sp.del ss i (i + 1))) (2 * (k : Int) + 1) then b (if 17 ≤ 2 * (k : Int) + 1 then (if 2 * (k : Int) + 1 - 17 < i then 2 * (k : Int) + 1 else 2 * (k : Int) + 1 + 1) else 2 * (k : Int) + 1) else 0) + Sp.gV _ (Sp.nix _ (2 * (k : Int) + 2)) ≤ (bif true then b (if 17 ≤ 2 * (k : Int) + 2 then (if 2 * (k : Int) + 2 - 17 < i then 2 * (k : Int) + 2 else 2 * (k : Int) + 2 + 1) else 2 * (k : Int) + 2) else 0)
     rw [a0, cond_true, cond_true, if_neg (by omega), if_neg (by omega), (d1 k hk).2, ← (c1 k hk).2]
     exact b2 _ ((Sp.bL_in h).2 (.inl ⟨k, hk, rfl⟩)) ((Sp.bN_has h).2 (.inl ⟨k, hk, .inr rfl⟩))
   · have a0 : Sp.has (Sp.bN w c p ds (Sp.del ss i (i + 1))) (17 + (j : Int)) = true := (Sp.bN_has h').2 (.inr ⟨j, hj, rfl⟩)
     obtain ⟨m, e1, e2, e3⟩ : ∃ m : Nat, m < ss.length ∧ rGet (Sp.del ss i (i + 1)) (j : Int) = rGet ss (m : Int) ∧ 17 + (m : Int) = (if 17 + (j : Int) - 17 < i then 17 + (j : Int) else 17 + (j : Int) + 1) := ⟨_, em j hj⟩
     obtain ⟨q0, q1⟩ := Sp.prop_q h e1
     have eq : Sp.sq ds (Sp.del ss i (i + 1)) j = Sp.sq ds ss m := by unfold Sp.sq; rw [e2]
     refine ⟨a0, fun a2 => ?_⟩
     rw [a2]
     change (bif Sp.has (Sp.bN w c p ds (Sp.del ss i (i + 1))) (17 + (j : Int)) then b (if 17 ≤ 17 + (j : Int) then (if 17 + (j : Int) - 17 < i then 17 + (j : Int) else 17 + (j : Int) + 1) else 17 + (j : Int)) else 0) + Sp.gV _ (Sp.nix _ (2 * Sp.sq ds (Sp.del ss i (i + 1)) j + 1)) ≤ (bif true then b (if 17 ≤ 2 * Sp.sq ds (Sp.del ss i (i + 1)) j + 1 then (if 2 * Sp.sq ds (Sp.del ss i (i + 1)) j + 1 - 17 < i then 2 * Sp.sq ds (Sp.del ss i (i + 1)) j + 1 else 2 * Sp.sq ds (Sp.del ss i (i + 1)) j + 1 + 1) else 2 * Sp.sq ds (Sp.del ss i (i + 1)) j + 1) else 0)
     rw [a0, cond_true, cond_true, if_pos (by omega), ← e3, eq, if_neg (by omega)]
     have hk : (Sp.sq ds ss m).toNat < ds.length := by omega
     have ek : ((Sp.sq ds ss m).toNat : Int) = Sp.sq ds ss m := by omega
     have x1 := (d1 _ hk).1
     have x2 := (c1 _ hk).1
     rw [ek] at x1 x2
     rw [x1, ← x2]
     exact b2 _ ((Sp.bL_in h).2 (.inr ⟨_, e1, rfl⟩)) ((Sp.bN_has h).2 (.inl ⟨_, hk, .inl (by rw [ek]; rfl)⟩))
theorem Sp.sum_del (h : Sp.prop w c p ds ss = true) {i : Int} (h0 : 0 ≤ i) (h1 : i < (ss.length : Int)) : Sp.sum (Sp.bC w c p ds (Sp.del ss i (i + 1))) ≤ Sp.sum (Sp.bC w c p ds ss) := by
 have h' := Sp.prop_del h h0 h1
 unfold Sp.bC
 rw [h, h', cond_true, cond_true, Sp.gC2_all, Sp.gC2_all, Sp.sum_app, Sp.sum_app]
 have e : ss = ss.take i.toNat ++ (rGet ss i :: ss.drop (i + 1).toNat) := by rw [← Sp.drop_cons h0 h1, List.take_append_drop]
 have e2 : Sp.sum (ss.map (Sp.sc p ds)) = Sp.sum ((ss.take i.toNat).map (Sp.sc p ds)) + (Sp.sum [Sp.sc p ds (rGet ss i)] + Sp.sum ((ss.drop (i + 1).toNat).map (Sp.sc p ds))) := by
  conv => lhs; rw [e]
  rw [List.map_append, List.map_cons, Sp.sum_app, ← List.singleton_append, Sp.sum_app]
 have e3 : Sp.sum ((Sp.del ss i (i + 1)).map (Sp.sc p ds)) = Sp.sum ((ss.take i.toNat).map (Sp.sc p ds)) + Sp.sum ((ss.drop (i + 1).toNat).map (Sp.sc p ds)) := by
  unfold Sp.del
  rw [List.map_append, Sp.sum_app]
 have e4 : 0 ≤ Sp.sum [Sp.sc p ds (rGet ss i)] := by
  have : 0 ≤ Sp.c0 (Sp.sc p ds (rGet ss i)) := Sp.cS_bd.1
  simp only [Sp.sum, List.foldl_cons, List.foldl_nil]
  omega
 omega
theorem Sp.ld_del (h : Sp.prop w c p ds ss = true) {i : Int} (h0 : 0 ≤ i) (h1 : i < (ss.length : Int)) : Sp.ld w c p ds (Sp.del ss i (i + 1)) ≤ Sp.ld w c p ds ss := by
 have h' := Sp.prop_del h h0 h1
 have hw := (Sp.prop_iff.1 h).1.1
 rw [Sp.ld_eqn h, Sp.ld_eqn h']
 have s0 := (Sp.sm_bd (Sp.ld_prb h').2.2.1).1
 have s1 := Sp.sum_del h h0 h1
 have k0 := (Sp.crit_bd (Sp.ld_prb h').1 (Sp.ld_prb h').2.1 (Sp.ld_prb h').2.2.1).1
 have k1 := Sp.crit_del h h0 h1
 generalize Sp.critR (Sp.bN w c p ds (Sp.del ss i (i + 1))) (Sp.bL w c p ds (Sp.del ss i (i + 1))) (Sp.bC w c p ds (Sp.del ss i (i + 1))) = x at *
 generalize Sp.critR (Sp.bN w c p ds ss) (Sp.bL w c p ds ss) (Sp.bC w c p ds ss) = y at *
 generalize Sp.sum (Sp.bC w c p ds (Sp.del ss i (i + 1))) = u at *
 generalize Sp.sum (Sp.bC w c p ds ss) = v at *
 have m1 : (w - 1) * x ≤ (w - 1) * y := Int.mul_le_mul_of_nonneg_left k1 (by omega)
 have m0 : 0 ≤ (w - 1) * x := Int.mul_nonneg (by omega) k0
 rw [Int.tdiv_eq_ediv_of_nonneg (by omega), Int.tdiv_eq_ediv_of_nonneg (by omega)]
 exact Int.ediv_le_ediv (by omega) (by omega)
theorem Sp.bval_del (h : Sp.bval w c p ds ss = true) {i : Int} (h0 : 0 ≤ i) (h1 : i < (ss.length : Int)) : Sp.bval w c p ds (Sp.del ss i (i + 1)) = true := by
 have hp := Sp.bval_prop h
 unfold Sp.bval at h ⊢
 rw [Bool.and_eq_true, decide_eq_true_eq] at h ⊢
 have := Sp.ld_del hp h0 h1
 exact ⟨Sp.prop_del hp h0 h1, by omega⟩
end
end Go
namespace Go
open Go.Sx
theorem Sp.ins_len {xs : List (List C)} {y : List C} {k : Int} : (Sp.ins xs k [y]).length = xs.length + 1 := by
 unfold Sp.ins
 simp only [List.length_append, List.length_take, List.length_drop, List.length_singleton]
 omega
theorem Sp.get_ins {xs : List (List C)} {y : List C} {k m : Int} (h0 : 0 ≤ k) (h1 : k ≤ (xs.length : Int)) (m0 : 0 ≤ m) : rGet (Sp.ins xs k [y]) m = if m < k then rGet xs m else if m = k then y else rGet xs (m - 1) := by
 have l1 : (xs.take k.toNat).length = k.toNat := by rw [List.length_take]; omega
 unfold Sp.ins
 rw [List.append_assoc]
 split
 · rw [Sp.rGet_l m0 (by omega)]
   unfold rGet
   rw [List.getD_eq_getElem?_getD, List.getElem?_take, if_pos (by omega), List.getD_eq_getElem?_getD]
 · rw [Sp.rGet_r (by omega), l1]
   split
   · rw [show m - ((k.toNat : Nat) : Int) = 0 by omega]; rfl
   · rw [Sp.rGet_r (by simp only [List.length_singleton]; omega)]
     unfold rGet
     rw [List.getD_eq_getElem?_getD, List.getElem?_drop, List.getD_eq_getElem?_getD]
     rw [show k.toNat + (m - ((k.toNat : Nat) : Int) - (([y] : List (List C)).length : Int)).toNat = (m - 1).toNat by simp only [List.length_singleton]; omega]
theorem Sp.has_no {xs : List (List C)} {n k : Int} (h : Sp.has xs n = false) (h0 : 0 ≤ k) (h1 : k < (xs.length : Int)) : Sp.c0 (rGet xs k) ≠ n := fun e => by
 rw [Sp.has_iff.2 ⟨_, Sp.row_mem h0 h1, e⟩] at h; cases h
section
variable {w c p s0 s1 s2 s3 : Int} {ds ss : List (List C)}
theorem Sp.inS_len : (Sp.inS ss s0 s1 s2 s3).length = ss.length + 1 := Sp.ins_len
theorem Sp.inS_get (ha : Sp.asc ss) {m : Int} (m0 : 0 ≤ m) : rGet (Sp.inS ss s0 s1 s2 s3) m = if m < Sp.bsx ss s0 then rGet ss m else if m = Sp.bsx ss s0 then [.i s0, .i s1, .i s2, .i s3] else rGet ss (m - 1) := by
 have b := Sp.bsx_bd (xs := ss) s0
 exact Sp.get_ins b.1 b.2 m0
theorem Sp.inS_asc (ha : Sp.asc ss) (hh : Sp.has ss s0 = false) : Sp.asc (Sp.inS ss s0 s1 s2 s3) := by
 intro a b a0 ab hb
 rw [Sp.inS_len] at hb
 obtain ⟨k0, k1, k2, k3⟩ := Sp.bsx_ok ha s0
 have n0 : Sp.c0 [C.i s0, .i s1, .i s2, .i s3] = s0 := rfl
 rw [Sp.inS_get ha a0, Sp.inS_get ha (by omega)]
 split
 · split
   · exact ha a b a0 ab (by omega)
   · split
     · rw [n0]; exact k2 a a0 (by omega)
     · have h1 := k2 a a0 (by omega)
       have h2 := k3 (b - 1) (by omega) (by omega)
       omega
 · split
   · rw [if_neg (by omega), if_neg (by omega), n0]
     have h2 := k3 (b - 1) (by omega) (by omega)
     have h3 := Sp.has_no hh (k := b - 1) (by omega) (by omega)
     omega
   · rw [if_neg (by omega), if_neg (by omega)]
     exact ha (a - 1) (b - 1) (by omega) (by omega) (by omega)
theorem Sp.ins_prop (h : Sp.prop w c p ds ss = true) (h2 : ¬ Sp.adB s0 s2 s3 s3) (h3 : Sp.has ss s0 = false) (h4 : Sp.has ds s1 = true) (h5 : ¬ 24 ≤ ss.length) : Sp.prop w c p ds (Sp.inS ss s0 s1 s2 s3) = true := by
 obtain ⟨a, b, d⟩ := Sp.prop_iff.1 h
 have sa := Sp.sok_asc d
 have da := Sp.inS_asc (s1 := s1) (s2 := s2) (s3 := s3) sa h3
 obtain ⟨k0, k1, _, _⟩ := Sp.bsx_ok sa s0
 have ln : (Sp.inS ss s0 s1 s2 s3).length = ss.length + 1 := Sp.inS_len
 refine Sp.prop_iff.2 ⟨by omega, b, Sp.allI_all fun k g0 g1 => ?_⟩
 have ord : k ≤ 0 ∨ Sp.c0 (rGet (Sp.inS ss s0 s1 s2 s3) (k - 1)) < Sp.c0 (rGet (Sp.inS ss s0 s1 s2 s3) k) := by
  by_cases ek : k ≤ 0
  · exact .inl ek
  · exact .inr (da (k - 1) k (by omega) (by omega) g1)
 have key : ∀ m : Int, 0 ≤ m → m < (ss.length : Int) → rGet (Sp.inS ss s0 s1 s2 s3) k = rGet ss m → Sp.sokI ds (Sp.inS ss s0 s1 s2 s3) k = true := fun m m0 m1 e => by
  have hm := Sp.allI_iff.1 d m m0 m1
  unfold Sp.sokI at hm ⊢
  rw [Bool.and_eq_true, decide_eq_true_eq] at hm ⊢
  rw [e] at ord ⊢
  exact ⟨⟨hm.1.1, ord, hm.1.2.2⟩, hm.2⟩
 have g := Sp.inS_get (s0 := s0) (s1 := s1) (s2 := s2) (s3 := s3) sa g0
 by_cases e : k < Sp.bsx ss s0
 · rw [if_pos e] at g; exact key k g0 (by omega) g
 · rw [if_neg e] at g
   by_cases e2 : k = Sp.bsx ss s0
   · rw [if_pos e2] at g
     unfold Sp.sokI
     rw [Bool.and_eq_true, decide_eq_true_eq]
     rw [g] at ord ⊢
     unfold Sp.adB at h2
     have c0 : Sp.c0 [C.i s0, .i s1, .i s2, .i s3] = s0 := rfl
     have c2 : Sp.c2 [C.i s0, .i s1, .i s2, .i s3] = s2 := rfl
     have c3 : Sp.c3 [C.i s0, .i s1, .i s2, .i s3] = s3 := rfl
     exact ⟨⟨by omega, ord, by omega⟩, h4⟩
   · rw [if_neg e2] at g; exact key (k - 1) (by omega) (by omega) g
end
end Go
