import Derived.Test.YtphaelepnjekoaaGreatSxUse
import Derived.Test.YtphaelepnjekoaaGreatZ27b
import Derived.KernelRfl
set_option linter.unusedVariables false
set_option linter.unusedSimpArgs false
set_option maxRecDepth 100000
set_option maxHeartbeats 4000000
namespace Go
open Go.Sx
def Sp.mxR (b ns ls : List (List C)) (id : Int) : Int := ls.foldl (fun a l => if decide (Sp.c2 l = id) = true then max a (Sp.gV b (Sp.nix ns (Sp.c0 l))) else a) 0
def Sp.rS (ns ls cs : List (List C)) (st : List (List C) × Int) (x : List C) : List (List C) × Int :=
 (rSet st.1 (Sp.nix ns (Sp.c0 x)) [.i (Sp.mxR st.1 ns ls (Sp.c0 x) + Sp.gV cs (Sp.nix ns (Sp.c0 x)))], max st.2 (Sp.mxR st.1 ns ls (Sp.c0 x) + Sp.gV cs (Sp.nix ns (Sp.c0 x))))
def Sp.critR (ns ls cs : List (List C)) : Int := ((Sp.ord ns ls).foldl (Sp.rS ns ls cs) (List.replicate ns.length [.i 0], 0)).2
def Sp.critE (ns ls cs : List (List C)) : Int := bif Sp.prb ns ls cs 1 then Sp.critR ns ls cs else 0
def Sp.rrI (ns ls cs : List (List C)) (k : Int) (b : List (List C)) (out : Int) : Prop := 0 ≤ k ∧ k ≤ ((Sp.ord ns ls).length : Int) ∧ ((Sp.ord ns ls).take k.toNat).foldl (Sp.rS ns ls cs) (List.replicate ns.length [.i 0], 0) = (b, out) ∧ Sp.okB ns.length k b ∧ 0 ≤ out ∧ out ≤ k * 1099511627776
def Sp.riI (b ns ls : List (List C)) (id k j a : Int) : Prop := 0 ≤ j ∧ j ≤ (ls.length : Int) ∧ a = Sp.mxR b ns (ls.take j.toNat) id ∧ 0 ≤ a ∧ a ≤ k * 1099511627776
end Go
namespace Go
open Go.Sx
theorem Sp.rget_pw {ns : List (List C)} (h : ns.Pairwise (fun a b => Sp.c0 a < Sp.c0 b)) {i j : Int} (h0 : 0 ≤ i) (hij : i < j) (hj : j < (ns.length : Int)) : Sp.c0 (rGet ns i) < Sp.c0 (rGet ns j) := by
 rw [List.pairwise_iff_getElem] at h
 have := h i.toNat j.toNat (by omega) (by omega) (by omega)
 unfold rGet
 rw [List.getD_eq_getElem?_getD, List.getD_eq_getElem?_getD, List.getElem?_eq_getElem (by omega), List.getElem?_eq_getElem (by omega)]
 exact this
theorem Sp.rget_inj {ns : List (List C)} (h : ns.Pairwise (fun a b => Sp.c0 a < Sp.c0 b)) {i j : Int} (h0 : 0 ≤ i) (hi : i < (ns.length : Int)) (g0 : 0 ≤ j) (hj : j < (ns.length : Int)) (he : Sp.c0 (rGet ns i) = Sp.c0 (rGet ns j)) : i = j := by
 rcases Int.lt_trichotomy i j with h1 | h1 | h1
 · have := Sp.rget_pw h h0 h1 hj; omega
 · exact h1
 · have := Sp.rget_pw h g0 h1 hi; omega
theorem Sp.nix_has {ns : List (List C)} {n : Int} (h : Sp.has ns n = true) : 0 ≤ Sp.nix ns n ∧ Sp.nix ns n < (ns.length : Int) ∧ Sp.c0 (rGet ns (Sp.nix ns n)) = n := by
 unfold Sp.has at h
 rw [decide_eq_true_eq] at h
 have hb := Sp.idx_bd (p := Sp.isI n) ns 0
 have hr := Sp.idx_row (p := Sp.isI n) ns 0 (by omega)
 unfold Sp.nix at h ⊢
 refine ⟨h, by omega, ?_⟩
 rcases hr with hr | hr
 · omega
 · rw [Int.sub_zero] at hr
   unfold Sp.isI at hr
   rwa [decide_eq_true_eq] at hr
theorem Sp.pla_nix {ns : List (List C)} (hp : ns.Pairwise (fun a b => Sp.c0 a < Sp.c0 b)) {n : Int} (h : Sp.has ns n = true) : Sp.pla ns n = Sp.nix ns n := by
 obtain ⟨a0, a1, a2⟩ := Sp.pla_has h
 obtain ⟨b0, b1, b2⟩ := Sp.nix_has h
 exact Sp.rget_inj hp a0 a1 b0 b1 (by rw [a2, b2])
theorem Sp.ordF_nd {ns ls : List (List C)} : ∀ (n : Nat) (out : List (List C)), (∀ k : Nat, k < out.length → Sp.has (out.take k) (Sp.c0 (rGet out k)) = false) → ∀ k : Nat, k < (Sp.ordF ns ls n out).length → Sp.has ((Sp.ordF ns ls n out).take k) (Sp.c0 (rGet (Sp.ordF ns ls n out) k)) = false
  | 0, out, h => by simpa [Sp.ordF] using h
  | n + 1, out, h => by
    simp only [Sp.ordF]
    cases hd : decide (Sp.idx (Sp.rdy ls out) ns 0 < 0)
    · simp only [cond_false]
      refine Sp.ordF_nd n _ fun k hk => ?_
      rw [decide_eq_false_iff_not] at hd
      rw [List.length_append, List.length_singleton] at hk
      by_cases hkl : k < out.length
      · have e1 : rGet (out ++ [[C.i (Sp.c0 (rGet ns (Sp.idx (Sp.rdy ls out) ns 0)))]]) (k : Int) = rGet out (k : Int) := by
          unfold rGet
          simp only [List.getD_eq_getElem?_getD]
          rw [List.getElem?_append_left (by omega)]
        rw [e1, List.take_append_of_le_length (by omega)]
        exact h k hkl
      · obtain rfl : k = out.length := by omega
        have e1 : rGet (out ++ [[C.i (Sp.c0 (rGet ns (Sp.idx (Sp.rdy ls out) ns 0)))]]) (out.length : Int) = [C.i (Sp.c0 (rGet ns (Sp.idx (Sp.rdy ls out) ns 0)))] := by
          unfold rGet
          rw [List.getD_eq_getElem?_getD, List.getElem?_append_right (by omega)]; simp
        rw [e1, List.take_left']
        · have hr := Sp.idx_row (p := Sp.rdy ls out) ns 0 (by omega)
          rcases hr with hr | hr
          · omega
          · rw [Int.sub_zero] at hr
            unfold Sp.rdy at hr
            rw [Bool.and_eq_true, Bool.not_eq_true'] at hr
            exact hr.1
        · rfl
    · simp only [cond_true]; exact h
theorem Sp.ord_nd {ns ls : List (List C)} {k : Int} (h0 : 0 ≤ k) (h1 : k < ((Sp.ord ns ls).length : Int)) : Sp.has ((Sp.ord ns ls).take k.toNat) (Sp.c0 (rGet (Sp.ord ns ls) k)) = false := by
 have := Sp.ordF_nd (ns := ns) (ls := ls) ns.length [] (by simp) k.toNat (by unfold Sp.ord at h1; omega)
 rw [show ((k.toNat : Nat) : Int) = k by omega] at this
 exact this
def Sp.lit1 (b : List (List C)) : Prop := ∀ r ∈ b, ∃ v, r = [C.i v]
theorem Sp.rSet_rSet {b : List (List C)} {i : Int} {u v : List C} : rSet (rSet b i u) i v = rSet b i v := by unfold rSet; rw [List.set_set]
theorem Sp.rSet_self {b : List (List C)} (hl : Sp.lit1 b) {i : Int} (h0 : 0 ≤ i) (h1 : i < (b.length : Int)) : rSet b i [C.i (Sp.gV b i)] = b := by
 obtain ⟨v, hv⟩ := hl _ (Sp.rGet_mem h0 h1)
 have e : [C.i (Sp.gV b i)] = rGet b i := by unfold Sp.gV; rw [hv]; rfl
 rw [e]
 unfold rSet rGet
 refine List.ext_getElem? fun j => ?_
 rw [List.getElem?_set]
 split
 · rename_i hj
   rw [if_pos (by omega), List.getD_eq_getElem?_getD, ← hj, List.getElem?_eq_getElem (by omega)]; rfl
 · rfl
theorem Sp.lit_set {b : List (List C)} (hl : Sp.lit1 b) {i v : Int} : Sp.lit1 (rSet b i [C.i v]) := fun r hr => by
 rcases List.mem_or_eq_of_mem_set hr with hr | rfl
 · exact hl r hr
 · exact ⟨v, rfl⟩
theorem Sp.cr1_eq {b : List (List C)} {i : Int} (h0 : 0 ≤ i) (h1 : i < (b.length : Int)) (hz : Sp.gV b i = 0) : ∀ (bs : List (List C)) (a : Int), 0 ≤ a → (∀ x ∈ bs, 0 ≤ Sp.c0 x) →
 Sp.cr1 (rSet b i [C.i a]) i bs = rSet b i [C.i (bs.foldl (fun a x => max a (Sp.gV b (Sp.c0 x))) a)] ∧ 0 ≤ bs.foldl (fun a x => max a (Sp.gV b (Sp.c0 x))) a
 | [], a, ha, _ => ⟨rfl, ha⟩
 | x :: r, a, ha, hx => by
  have hl : i < ((rSet b i [C.i a]).length : Int) := by unfold rSet; rw [List.length_set]; exact h1
  have e1 : Sp.gV (rSet b i [C.i a]) i = a := by rw [Sp.gV_set h0 h1 h0, if_pos rfl]
  have e2 : max a (Sp.gV (rSet b i [C.i a]) (Sp.c0 x)) = max a (Sp.gV b (Sp.c0 x)) := by
   rw [Sp.gV_set h0 h1 (hx x (by simp))]
   split
   · rename_i he
     rw [← he, hz]; omega
   · rfl
  have ih := Sp.cr1_eq h0 h1 hz r (max a (Sp.gV b (Sp.c0 x))) (by omega) fun y hy => hx y (by simp [hy])
  unfold Sp.cr1 at ih ⊢
  simp only [List.foldl_cons]
  rw [e1, e2, Sp.rSet_rSet]
  exact ih
theorem Sp.foldl_if {f : List C → Int} {p : List C → Bool} : ∀ (ls : List (List C)) (a : Int), ls.foldl (fun a l => if p l = true then max a (f l) else a) a = (ls.filter p).foldl (fun a l => max a (f l)) a
 | [], a => rfl
 | x :: r, a => by
  simp only [List.foldl_cons]
  cases h : p x
  · rw [List.filter_cons_of_neg (by simp [h]), if_neg (by simp), Sp.foldl_if r]
  · rw [List.filter_cons_of_pos h, if_pos rfl, List.foldl_cons, Sp.foldl_if r]
theorem Sp.foldl_eq {f g : List C → Int} : ∀ (ls : List (List C)) (a : Int), (∀ l ∈ ls, f l = g l) → ls.foldl (fun a l => max a (f l)) a = ls.foldl (fun a l => max a (g l)) a
 | [], a, _ => rfl
 | x :: r, a, h => by
  simp only [List.foldl_cons]
  rw [h x (by simp), Sp.foldl_eq r _ fun l hl => h l (by simp [hl])]
theorem Sp.step_eq {ns ls cs : List (List C)} (hv : Sp.vld ns ls = true) {b : List (List C)} {out : Int} {x : List C} (hl : b.length = ns.length) (h1 : Sp.lit1 b) (hx : Sp.has ns (Sp.c0 x) = true) (hz : Sp.gV b (Sp.nix ns (Sp.c0 x)) = 0) :
 Sp.crS cs (Sp.befR (Sp.pla ns) ls ns.length ls.length) (b, out) [C.i (Sp.pla ns (Sp.c0 x))] = Sp.rS ns ls cs (b, out) x := by
 have hp := Sp.nok_pw (Sp.vld_nok hv)
 have e := Sp.pla_nix hp hx
 obtain ⟨n0, n1, n2⟩ := Sp.nix_has hx
 have c0i : ∀ n, Sp.c0 [C.i n] = n := fun _ => rfl
 have cl : ∀ n : List (List C), (C.l n).list = n := fun _ => rfl
 simp only [Sp.crS, Sp.rS, Sp.crB, c0i, e]
 rw [Sp.bef_get n0 n1]
 simp only [List.headD_cons, cl, Int.toNat_natCast, List.take_length]
 have main : Sp.cr1 b (Sp.nix ns (Sp.c0 x)) (Sp.befM (Sp.pla ns) ls (Sp.nix ns (Sp.c0 x))) = rSet b (Sp.nix ns (Sp.c0 x)) [C.i (Sp.mxR b ns ls (Sp.c0 x))] ∧ 0 ≤ Sp.mxR b ns ls (Sp.c0 x) := by
  have hbs : ∀ y ∈ Sp.befM (Sp.pla ns) ls (Sp.nix ns (Sp.c0 x)), 0 ≤ Sp.c0 y := fun y hy => by
   unfold Sp.befM at hy
   rw [List.mem_map] at hy
   obtain ⟨l, _, rfl⟩ := hy
   exact Sp.pla_bd.1
  have := Sp.cr1_eq n0 (by omega) hz (Sp.befM (Sp.pla ns) ls (Sp.nix ns (Sp.c0 x))) 0 (by omega) hbs
  rw [← hz, Sp.rSet_self h1 n0 (by omega)] at this
  rw [hz] at this
  have em : (Sp.befM (Sp.pla ns) ls (Sp.nix ns (Sp.c0 x))).foldl (fun a x => max a (Sp.gV b (Sp.c0 x))) 0 = Sp.mxR b ns ls (Sp.c0 x) := by
   unfold Sp.befM Sp.mxR
   rw [List.foldl_map]
   have ef : ls.filter (fun l => decide (Sp.pla ns (Sp.c2 l) = Sp.nix ns (Sp.c0 x))) = ls.filter (fun l => decide (Sp.c2 l = Sp.c0 x)) := by
    refine List.filter_congr fun l hl => ?_
    obtain ⟨q, q0, q1, rfl⟩ := Sp.mem_rGet hl
    have hh := (Sp.vld_link hv q0 q1).2
    rw [decide_eq_decide, Sp.pla_nix hp hh]
    obtain ⟨_, _, m2⟩ := Sp.nix_has hh
    constructor
    · intro h; rw [h] at m2; rw [← m2, n2]
    · intro h; rw [h]
   rw [ef, Sp.foldl_if (f := fun l => Sp.gV b (Sp.nix ns (Sp.c0 l))) (p := fun l => decide (Sp.c2 l = Sp.c0 x))]
   refine Sp.foldl_eq _ _ fun l hl => ?_
   obtain ⟨q, q0, q1, rfl⟩ := Sp.mem_rGet (List.mem_filter.1 hl).1
   rw [c0i, Sp.pla_nix hp (Sp.vld_link hv q0 q1).1]
  rw [em] at this
  exact this
 rw [main.1, Sp.rSet_rSet]
 have g : ∀ v, Sp.gV (rSet b (Sp.nix ns (Sp.c0 x)) [C.i v]) (Sp.nix ns (Sp.c0 x)) = v := fun v => by rw [Sp.gV_set n0 (by omega) n0, if_pos rfl]
 rw [g, g]
theorem Sp.rS_inv {ns ls cs : List (List C)} (hv : Sp.vld ns ls = true) : ∀ (k : Nat), k ≤ (Sp.ord ns ls).length →
 (((Sp.ord ns ls).take k).map (fun x => [C.i (Sp.pla ns (Sp.c0 x))])).foldl (Sp.crS cs (Sp.befR (Sp.pla ns) ls ns.length ls.length)) (List.replicate ns.length [.i 0], 0) = ((Sp.ord ns ls).take k).foldl (Sp.rS ns ls cs) (List.replicate ns.length [.i 0], 0) ∧
 (((Sp.ord ns ls).take k).foldl (Sp.rS ns ls cs) (List.replicate ns.length [.i 0], 0)).1.length = ns.length ∧ Sp.lit1 (((Sp.ord ns ls).take k).foldl (Sp.rS ns ls cs) (List.replicate ns.length [.i 0], 0)).1 ∧
 ∀ n, Sp.has ns n = true → Sp.has ((Sp.ord ns ls).take k) n = false → Sp.gV (((Sp.ord ns ls).take k).foldl (Sp.rS ns ls cs) (List.replicate ns.length [.i 0], 0)).1 (Sp.nix ns n) = 0
 | 0, _ => by
  refine ⟨by simp, by simp, fun r hr => ⟨0, by simpa using (List.mem_replicate.1 hr).2⟩, fun n hn _ => ?_⟩
  obtain ⟨n0, n1, _⟩ := Sp.nix_has hn
  simp only [List.take_zero, List.foldl_nil]
  unfold Sp.gV rGet
  rw [List.getD_eq_getElem?_getD, List.getElem?_replicate, if_pos (by omega)]; rfl
 | k + 1, hk => by
  obtain ⟨e, hl, h1, hz⟩ := Sp.rS_inv (cs := cs) hv k (by omega)
  have hk' : (k : Int) < ((Sp.ord ns ls).length : Int) := by omega
  have et : (Sp.ord ns ls).take (k + 1) = (Sp.ord ns ls).take k ++ [rGet (Sp.ord ns ls) (k : Int)] := by
   have := Sp.take_succ (xs := Sp.ord ns ls) (k := (k : Int)) (by omega) hk'
   simpa using this
  have hx := Sp.ord_has (ns := ns) (ls := ls) _ (Sp.rGet_mem (xs := Sp.ord ns ls) (z := (k : Int)) (by omega) hk')
  have hnd := Sp.ord_nd (ns := ns) (ls := ls) (k := (k : Int)) (by omega) hk'
  rw [Int.toNat_natCast] at hnd
  rw [et]
  generalize rGet (Sp.ord ns ls) (k : Int) = x at *
  obtain ⟨n0, n1, n2⟩ := Sp.nix_has hx
  rw [List.map_append, List.foldl_append, List.foldl_append, e]
  simp only [List.map_cons, List.map_nil, List.foldl_cons, List.foldl_nil]
  generalize hst : ((Sp.ord ns ls).take k).foldl (Sp.rS ns ls cs) (List.replicate ns.length [.i 0], 0) = st at *
  obtain ⟨b, out⟩ := st
  refine ⟨Sp.step_eq hv hl h1 hx (hz _ hx hnd), by simp only [Sp.rS, rSet, List.length_set]; exact hl, Sp.lit_set h1, fun n hn hno => ?_⟩
  have hne : n ≠ Sp.c0 x := fun h => by
   have : Sp.has ((Sp.ord ns ls).take k ++ [x]) n = true := Sp.has_iff.2 ⟨x, by simp, h.symm⟩
   rw [this] at hno; cases hno
  have hno' : Sp.has ((Sp.ord ns ls).take k) n = false := by
   rw [Bool.eq_false_iff]; intro h
   obtain ⟨y, hy, hyn⟩ := Sp.has_iff.1 h
   have : Sp.has ((Sp.ord ns ls).take k ++ [x]) n = true := Sp.has_iff.2 ⟨y, by simp [hy], hyn⟩
   rw [this] at hno; cases hno
  obtain ⟨m0, m1, m2⟩ := Sp.nix_has hn
  simp only [Sp.rS]
  rw [Sp.gV_set n0 (by simp only at hl; omega) m0, if_neg (fun h => hne (by rw [← m2, ← h, n2]))]
  exact hz n hn hno'
theorem Sp.crit_eq {ns ls cs : List (List C)} (hv : Sp.vld ns ls = true) : Sp.critP ns ls cs = Sp.critR ns ls cs := by
 have := (Sp.rS_inv (cs := cs) hv (Sp.ord ns ls).length (Nat.le_refl _)).1
 rw [List.take_length] at this
 unfold Sp.critP Sp.critR
 rw [this]
theorem Sp.rr_init {ns ls cs : List (List C)} : Sp.rrI ns ls cs 0 (List.replicate ns.length [.i 0]) 0 := by
 refine ⟨by omega, by omega, by simp, ⟨by simp, fun i h0 h1 => ?_⟩, by omega, by omega⟩
 have : Sp.gV (List.replicate ns.length [C.i 0]) i = 0 := by
  unfold Sp.gV rGet
  rw [List.getD_eq_getElem?_getD, List.getElem?_replicate, if_pos (by omega)]; rfl
 omega
theorem Sp.ri_init {b ns ls : List (List C)} {id k : Int} (hk : 0 ≤ k) : Sp.riI b ns ls id k 0 0 := ⟨by omega, by omega, by simp [Sp.mxR], by omega, by omega⟩
theorem Sp.ri_yes {b ns ls : List (List C)} {id k j a : Int} (h : Sp.riI b ns ls id k j a) (hj : j < (ls.length : Int)) (hc : Sp.c2 (rGet ls j) = id) (hg : 0 ≤ Sp.gV b (Sp.nix ns (Sp.c0 (rGet ls j))) ∧ Sp.gV b (Sp.nix ns (Sp.c0 (rGet ls j))) ≤ k * 1099511627776) :
 Sp.riI b ns ls id k (j + 1) (max a (Sp.gV b (Sp.nix ns (Sp.c0 (rGet ls j))))) := by
 obtain ⟨j0, j1, e, a0, a1⟩ := h
 refine ⟨by omega, by omega, ?_, by omega, by omega⟩
 rw [Sp.take_succ j0 hj]
 unfold Sp.mxR at e ⊢
 rw [List.foldl_append, ← e]
 simp only [List.foldl_cons, List.foldl_nil]
 rw [if_pos (decide_eq_true hc)]
theorem Sp.ri_no {b ns ls : List (List C)} {id k j a : Int} (h : Sp.riI b ns ls id k j a) (hj : j < (ls.length : Int)) (hc : ¬ Sp.c2 (rGet ls j) = id) : Sp.riI b ns ls id k (j + 1) a := by
 obtain ⟨j0, j1, e, a0, a1⟩ := h
 refine ⟨by omega, by omega, ?_, by omega, by omega⟩
 rw [Sp.take_succ j0 hj]
 unfold Sp.mxR at e ⊢
 rw [List.foldl_append, ← e]
 simp only [List.foldl_cons, List.foldl_nil]
 rw [if_neg (by rw [decide_eq_false hc]; simp)]
theorem Sp.ri_end {b ns ls : List (List C)} {id k j a : Int} (h : Sp.riI b ns ls id k j a) (hj : ¬ j < (ls.length : Int)) : a = Sp.mxR b ns ls id ∧ 0 ≤ a ∧ a ≤ k * 1099511627776 := by
 obtain ⟨j0, j1, e, a0, a1⟩ := h
 rw [List.take_of_length_le (by omega)] at e
 exact ⟨e, a0, a1⟩
theorem Sp.rr_step {ns ls cs b : List (List C)} {k out a : Int} (h : Sp.rrI ns ls cs k b out) (hk : k < ((Sp.ord ns ls).length : Int)) (hx : Sp.has ns (Sp.c0 (rGet (Sp.ord ns ls) k)) = true)
 (hc : 0 ≤ Sp.gV cs (Sp.nix ns (Sp.c0 (rGet (Sp.ord ns ls) k))) ∧ Sp.gV cs (Sp.nix ns (Sp.c0 (rGet (Sp.ord ns ls) k))) ≤ 1099511627776)
 (ha : a = Sp.mxR b ns ls (Sp.c0 (rGet (Sp.ord ns ls) k)) ∧ 0 ≤ a ∧ a ≤ k * 1099511627776) :
 Sp.rrI ns ls cs (k + 1) (rSet b (Sp.nix ns (Sp.c0 (rGet (Sp.ord ns ls) k))) [.i (a + Sp.gV cs (Sp.nix ns (Sp.c0 (rGet (Sp.ord ns ls) k))))]) (max out (a + Sp.gV cs (Sp.nix ns (Sp.c0 (rGet (Sp.ord ns ls) k))))) := by
 obtain ⟨k0, k1, e, ob, o0, o1⟩ := h
 obtain ⟨n0, n1, n2⟩ := Sp.nix_has hx
 refine ⟨by omega, by omega, ?_, Sp.okB_set (Sp.okB_up ob) n0 n1 (by omega), by omega, by omega⟩
 rw [Sp.take_succ k0 hk, List.foldl_append, e]
 simp only [List.foldl_cons, List.foldl_nil, Sp.rS]
 rw [← ha.1]
theorem Sp.rr_end {ns ls cs b : List (List C)} {k out : Int} (h : Sp.rrI ns ls cs k b out) (hk : ¬ k < ((Sp.ord ns ls).length : Int)) : out = Sp.critR ns ls cs := by
 obtain ⟨k0, k1, e, _⟩ := h
 rw [List.take_of_length_le (by omega)] at e
 unfold Sp.critR
 rw [e]
theorem Sp.prb_false {ns ls cs : List (List C)} {w : Int} (h : ¬ (Sp.vld ns ls = true ∧ cs.length = ns.length ∧ Sp.idx Sp.badC cs 0 < 0 ∧ 1 ≤ w ∧ w ≤ 8)) : Sp.prb ns ls cs w = false := by
 unfold Sp.prb
 rw [Bool.eq_false_iff]; intro h2; apply h
 simp only [Bool.and_eq_true, decide_eq_true_eq] at h2
 exact ⟨h2.1.1, h2.1.2.1, h2.1.2.2, h2.2.1, h2.2.2⟩
theorem Sp.prb_true {ns ls cs : List (List C)} {w : Int} : Sp.prb ns ls cs w = true ↔ (Sp.vld ns ls = true ∧ cs.length = ns.length ∧ Sp.idx Sp.badC cs 0 < 0 ∧ 1 ≤ w ∧ w ≤ 8) := by
 unfold Sp.prb
 simp only [Bool.and_eq_true, decide_eq_true_eq]
 constructor
 · intro h2; exact ⟨h2.1.1, h2.1.2.1, h2.1.2.2, h2.2.1, h2.2.2⟩
 · intro h; exact ⟨⟨h.1, h.2.1, h.2.2.1⟩, h.2.2.2.1, h.2.2.2.2⟩
theorem Sp.sm_bd {cs : List (List C)} (hidx : Sp.idx Sp.badC cs 0 < 0) : 0 ≤ Sp.sum cs ∧ Sp.sum cs ≤ cs.length * 1099511627776 := by
 have : ∀ k : Nat, k ≤ cs.length → Sp.smI cs k (Sp.sum (cs.take k)) := fun k => by
  induction k with
  | zero => intro _; exact Sp.sm_init
  | succ k ih =>
   intro hk
   have h1 := ih (by omega)
   have h2 := Sp.sm_step h1 (by omega) (Sp.good_at hidx (by omega) (by omega))
   have e := h2.2.2.1
   rw [e] at h2
   rw [show ((k : Int) + 1).toNat = k + 1 by omega] at h2
   exact_mod_cast h2
 have h := this cs.length (Nat.le_refl _)
 rw [List.take_length] at h
 exact ⟨h.2.2.2.1, h.2.2.2.2⟩
theorem Sp.ri_all {b ns ls cs : List (List C)} {id k : Int} (hv : Sp.vld ns ls = true) (hb : Sp.okB ns.length k b) (hk : 0 ≤ k) : ∀ j : Nat, j ≤ ls.length → ∃ a, Sp.riI b ns ls id k j a
 | 0, _ => ⟨0, Sp.ri_init hk⟩
 | j + 1, hj => by
  obtain ⟨a, h⟩ := Sp.ri_all (id := id) (cs := cs) hv hb hk j (by omega)
  have e : (((j + 1 : Nat)) : Int) = (j : Int) + 1 := by omega
  rw [e]
  by_cases hc : Sp.c2 (rGet ls (j : Int)) = id
  · obtain ⟨n0, n1, _⟩ := Sp.nix_has (Sp.vld_link hv (z := (j : Int)) (by omega) (by omega)).1
    exact ⟨_, Sp.ri_yes h (by omega) hc (hb.2 _ n0 n1)⟩
  · exact ⟨_, Sp.ri_no h (by omega) hc⟩
theorem Sp.rr_all {ns ls cs : List (List C)} (hv : Sp.vld ns ls = true) (hlen : cs.length = ns.length) (hidx : Sp.idx Sp.badC cs 0 < 0) : ∀ k : Nat, k ≤ (Sp.ord ns ls).length → ∃ b out, Sp.rrI ns ls cs k b out
 | 0, _ => ⟨_, _, Sp.rr_init⟩
 | k + 1, hk => by
  obtain ⟨b, out, h⟩ := Sp.rr_all (cs := cs) hv hlen hidx k (by omega)
  have e : (((k + 1 : Nat)) : Int) = (k : Int) + 1 := by omega
  rw [e]
  have hx := Sp.ord_has (ns := ns) (ls := ls) _ (Sp.rGet_mem (xs := Sp.ord ns ls) (z := (k : Int)) (by omega) (by omega))
  obtain ⟨n0, n1, _⟩ := Sp.nix_has hx
  obtain ⟨a, ha⟩ := Sp.ri_all (id := Sp.c0 (rGet (Sp.ord ns ls) (k : Int))) (cs := cs) hv h.2.2.2.1 h.1 ls.length (Nat.le_refl _)
  exact ⟨_, _, Sp.rr_step h (by omega) hx (Sp.good_at hidx n0 (by omega)) (Sp.ri_end ha (by omega))⟩
theorem Sp.crit_bd {ns ls cs : List (List C)} (hv : Sp.vld ns ls = true) (hlen : cs.length = ns.length) (hidx : Sp.idx Sp.badC cs 0 < 0) : 0 ≤ Sp.critR ns ls cs ∧ Sp.critR ns ls cs ≤ 64 * 1099511627776 := by
 obtain ⟨b, out, h⟩ := Sp.rr_all (cs := cs) hv hlen hidx _ (Nat.le_refl _)
 have e := Sp.rr_end h (by omega)
 have V := Sp.vld_small hv
 have := Sp.ord_le (ns := ns) (ls := ls)
 obtain ⟨k0, k1, _, _, o0, o1⟩ := h
 rw [← e]
 omega
end Go
namespace Go.Sx
def ct39 : Ct := { ps := [(true, [.sl [.int .i64, .int .i64, .int .i64, .int .i64], .sl [.int .i64, .int .i64, .int .i64, .int .i64]]), (false, [.int .i64])], rs := [(false, [.int .i64])], pre := fun _ => True, out := fun a => [[.i (Sp.nix (cel 0 (arg 0 a)).list (cel 0 (arg 1 a)).int)]] }
def tb39 : List (Nat × Ct) := []
def A39 (ns : List (List C)) (id : Int) : FuncId → Nat → LoopAnn := fun _ ii => bif Nat.beq ii 2 then .inv (Int) (fun z => Sp.at (Sp.isI id) ns z) (fun z => [(5, .int .i64 z)]) (fun z => []) [] [0, 1, 2, 4, 5, 10, 20] (fun z => ns.length - z.toNat) else .unroll 0
abbrev B39 (ns : List (List C)) (ls : List (List C)) (id : Int) : Prop := vcF Go.Proofs.Tryz.prog (look tb39) (fun _ => false) (A39 ns id) 6 39 [.agg [.sl [.int .i64, .int .i64, .int .i64, .int .i64] ns, .sl [.int .i64, .int .i64, .int .i64, .int .i64] ls], .int .i64 id] [] (fun sv heap => Gives [(false, [.int .i64])] [[.i (Sp.nix ns id)]] sv heap)
theorem e39 (ns : List (List C)) (ls : List (List C)) (id : Int) : B39 ns ls id = ((∃ (x : Int), Sp.at (Sp.isI id) ns x ∧ true = true ∧ ((IntKind.i64 = IntKind.i64 ∧ 0 = x) ∧ True) ∧ True) ∧ (∀ (x : Int), true = true ∧ true = true) ∧ ∀ (x : Int), Sp.at (Sp.isI id) ns x → InR .i64 x ∧ True → True → pLe (iLen ns) 9223372036854775807 → (bLt x (iLen ns) = true → pIn 0 (iLen ns) x ∧ (InR .i64 (q0 (rGet ns x)) → (bEq (q0 (rGet ns x)) id = true → (x = Sp.nix ns id ∧ True) ∧ True) ∧ (bEq (q0 (rGet ns x)) id = false → InR .i64 (iAdd x 1) ∧ (true = true ∧ (fun z => z = z) [SV.agg [SV.sl [.int .i64, .int .i64, .int .i64, .int .i64] ns, SV.sl [.int .i64, .int .i64, .int .i64, .int .i64] ls], SV.int .i64 id, SV.ref 0 0]) ∧ (fun z => z = z) [HB.box [SV.sl [.int .i64, .int .i64, .int .i64, .int .i64] ns, SV.sl [.int .i64, .int .i64, .int .i64, .int .i64] ls] 50] ∧ ∃ (y : Int), Sp.at (Sp.isI id) ns y ∧ true = true ∧ ((IntKind.i64 = IntKind.i64 ∧ iAdd x 1 = y) ∧ True) ∧ True ∧ ns.length - y.toNat < ns.length - x.toNat))) ∧ (bLt x (iLen ns) = false → (-1 = Sp.nix ns id ∧ True) ∧ True)) := by kernel_rfl
theorem v39 (ns : List (List C)) (ls : List (List C)) (id : Int) : Holds (Wfs [.agg [.sl [.int .i64, .int .i64, .int .i64, .int .i64] ns, .sl [.int .i64, .int .i64, .int .i64, .int .i64] ls], .int .i64 id] → True → B39 ns ls id) := by
 refine ⟨fun hw hp => ?_⟩
 rw [e39]
 delta q0
 simp only [Wfs, Wf, InR, and_true] at hw
 simp only [eq_self, true_and, and_true, true_implies, implies_true, iAdd, iSub, iMul, iLen, bEq, bNe, bLt, bLe, bNot, pIn, pLe, pNe, InR, decide_eq_true_eq, decide_eq_false_iff_not, Bool.not_eq_true', Bool.not_eq_false', decide_eq_decide]
 refine ⟨⟨0, Sp.at_init, rfl⟩, fun x hx hx1 hlen => ⟨fun hlt => ⟨⟨hx.1, hlt⟩, fun _ => ⟨fun hh => ?_, fun hh => ⟨by omega, x + 1, Sp.at_step hx hlt (decide_eq_false hh), rfl, by have := hx.1; omega⟩⟩⟩, fun hge => ?_⟩⟩
 · exact (Sp.at_hit hx hlt (decide_eq_true hh)).symm
 · exact (Sp.at_end hx hge).symm
theorem s39 : SoundCt Go.Proofs.Tryz.prog 39 ct39 :=
 contractH followsMixed (look_sound (show Tb Go.Proofs.Tryz.prog tb39 from trivial)) (fun _ => false) (fun a => A39 ((cel 0 (arg 0 a)).list) ((cel 0 (arg 1 a)).int)) 6 39 ct39 rfl (by simp [ct39]) fun a => Eq.mp (by kernel_rfl) (v39 ((cel 0 (arg 0 a)).list) ((cel 1 (arg 0 a)).list) ((cel 0 (arg 1 a)).int))
end Go.Sx
namespace Go.Sx
def ct34 : Ct := { ps := [(true, [.sl [.int .i64, .int .i64, .int .i64, .int .i64], .sl [.int .i64, .int .i64, .int .i64, .int .i64]]), (false, [.sl [.int .i64]]), (false, [.int .i64])], rs := [(false, [.bool])], pre := fun _ => True, out := fun a => [[.b (Sp.prb (cel 0 (arg 0 a)).list (cel 1 (arg 0 a)).list (cel 0 (arg 1 a)).list (cel 0 (arg 2 a)).int)]] }
def tb34 : List (Nat × Ct) := [(58, ct58)]
def A34 (cs : List (List C)) : FuncId → Nat → LoopAnn := fun _ ii => bif Nat.beq ii 4 then .inv (Int) (fun z => Sp.at Sp.badC cs z) (fun z => [(7, .int .i64 z)]) (fun z => []) [] [0, 1, 2, 3, 6, 7, 26, 30, 44] (fun z => cs.length - z.toNat) else .unroll 0
abbrev B34 (ns : List (List C)) (ls : List (List C)) (cs : List (List C)) (w : Int) : Prop := vcF Go.Proofs.Tryz.prog (look tb34) (fun _ => false) (A34 cs) 6 34 [.agg [.sl [.int .i64, .int .i64, .int .i64, .int .i64] ns, .sl [.int .i64, .int .i64, .int .i64, .int .i64] ls], .sl [.int .i64] cs, .int .i64 w] [] (fun sv heap => Gives [(false, [.bool])] [[.b (Sp.prb ns ls cs w)]] sv heap)
def h34_0 : List (List C) → List (List C) → List (List C) → Int → List SV := fun (ns ls cs : List (List C)) (w : Int) => [SV.agg [SV.sl [.int .i64, .int .i64, .int .i64, .int .i64] ns, SV.sl [.int .i64, .int .i64, .int .i64, .int .i64] ls], SV.sl [.int .i64] cs, SV.int .i64 w, SV.ref 0 0, SV.blit false]
theorem e34 (ns : List (List C)) (ls : List (List C)) (cs : List (List C)) (w : Int) : B34 ns ls cs w = (True ∧ (True → True ∧ (bNot (Sp.vld ns ls) = false → pLe (iLen cs) 9223372036854775807 → pLe (iLen ns) 9223372036854775807 → (bNe (iLen cs) (iLen ns) = false → (bLt w 1 = false → (bLt 8 w = true → (false = Sp.prb ns ls cs w ∧ True) ∧ True) ∧ (bLt 8 w = false → (∃ (x : Int), Sp.at Sp.badC cs x ∧ true = true ∧ ((IntKind.i64 = IntKind.i64 ∧ 0 = x) ∧ True) ∧ True) ∧ (∀ (x : Int), true = true ∧ true = true) ∧ ∀ (x : Int), Sp.at Sp.badC cs x → InR .i64 x ∧ True → True → pLe (iLen cs) 9223372036854775807 → (bLt x (iLen cs) = true → pIn 0 (iLen cs) x ∧ (InR .i64 (q0 (rGet cs x)) → (bLt (q0 (rGet cs x)) 0 = false → pIn 0 (iLen cs) x ∧ (InR .i64 (q0 (rGet cs x)) → (bLt 1099511627776 (q0 (rGet cs x)) = true → (false = Sp.prb ns ls cs w ∧ True) ∧ True) ∧ (bLt 1099511627776 (q0 (rGet cs x)) = false → InR .i64 (iAdd x 1) ∧ (true = true ∧ h34_0 ns ls cs w = h34_0 ns ls cs w) ∧ (fun z => z = z) [HB.box [SV.sl [.int .i64, .int .i64, .int .i64, .int .i64] ns, SV.sl [.int .i64, .int .i64, .int .i64, .int .i64] ls] 50] ∧ ∃ (y : Int), Sp.at Sp.badC cs y ∧ true = true ∧ ((IntKind.i64 = IntKind.i64 ∧ iAdd x 1 = y) ∧ True) ∧ True ∧ cs.length - y.toNat < cs.length - x.toNat))) ∧ (bLt (q0 (rGet cs x)) 0 = true → (false = Sp.prb ns ls cs w ∧ True) ∧ True))) ∧ (bLt x (iLen cs) = false → (true = Sp.prb ns ls cs w ∧ True) ∧ True))) ∧ (bLt w 1 = true → (false = Sp.prb ns ls cs w ∧ True) ∧ True)) ∧ (bNe (iLen cs) (iLen ns) = true → (false = Sp.prb ns ls cs w ∧ True) ∧ True)) ∧ (bNot (Sp.vld ns ls) = true → (false = Sp.prb ns ls cs w ∧ True) ∧ True))) := by kernel_rfl
theorem v34 (ns : List (List C)) (ls : List (List C)) (cs : List (List C)) (w : Int) : Holds (Wfs [.agg [.sl [.int .i64, .int .i64, .int .i64, .int .i64] ns, .sl [.int .i64, .int .i64, .int .i64, .int .i64] ls], .sl [.int .i64] cs, .int .i64 w] → True → B34 ns ls cs w) := by
 refine ⟨fun hw hp => ?_⟩
 rw [e34]
 delta q0
 simp only [Wfs, Wf, InR, and_true] at hw
 simp only [eq_self, true_and, and_true, true_implies, implies_true, iAdd, iSub, iMul, iLen, bEq, bNe, bLt, bLe, bNot, pIn, pLe, pNe, InR, decide_eq_true_eq, decide_eq_false_iff_not, Bool.not_eq_true', Bool.not_eq_false', decide_eq_decide]
 have BF : ∀ x : Int, ((rGet cs x).headD default).int < 0 ∨ 1099511627776 < ((rGet cs x).headD default).int → Sp.badC (rGet cs x) = true := fun x h => by unfold Sp.badC; rw [decide_eq_true_eq]; exact h
 refine ⟨fun hv hcl hnl => ⟨fun hlen => ⟨fun h1 => ⟨fun h8 => (Sp.prb_false fun h => by omega).symm, fun h8 => ⟨⟨0, Sp.at_init, rfl⟩, fun x hx hx1 _ => ⟨fun hlt => ⟨⟨hx.1, hlt⟩, fun _ => ⟨fun hn => ⟨⟨hx.1, hlt⟩, fun _ => ⟨fun hb => ?_, fun hb => ⟨by omega, x + 1, Sp.at_step hx hlt ?_, rfl, by have := hx.1; omega⟩⟩⟩, fun hn => ?_⟩⟩, fun hge => ?_⟩⟩⟩, fun h => (Sp.prb_false fun h => by omega).symm⟩, fun h => (Sp.prb_false fun h => by omega).symm⟩, fun h => (Sp.prb_false fun h2 => by rw [h] at h2; exact absurd h2.1 (by simp)).symm⟩
 · have := Sp.at_hit hx hlt (BF x (.inr hb))
   have := hx.1
   exact (Sp.prb_false fun h => by omega).symm
 · unfold Sp.badC; rw [decide_eq_false_iff_not]; exact fun h => h.elim hn hb
 · have := Sp.at_hit hx hlt (BF x (.inl hn))
   have := hx.1
   exact (Sp.prb_false fun h => by omega).symm
 · have := Sp.at_end hx hge
   exact (Sp.prb_true.2 ⟨hv, by omega, by omega, by omega, by omega⟩).symm
theorem s34 : SoundCt Go.Proofs.Tryz.prog 34 ct34 :=
 contractH followsMixed (look_sound (show Tb Go.Proofs.Tryz.prog tb34 from ⟨s58, trivial⟩)) (fun _ => false) (fun a => A34 ((cel 0 (arg 1 a)).list)) 6 34 ct34 rfl (by simp [ct34]) fun a => Eq.mp (by kernel_rfl) (v34 ((cel 0 (arg 0 a)).list) ((cel 1 (arg 0 a)).list) ((cel 0 (arg 1 a)).list) ((cel 0 (arg 2 a)).int))
end Go.Sx
namespace Go.Sx
def ct88 : Ct := { ps := [(true, [.sl [.int .i64, .int .i64, .int .i64, .int .i64], .sl [.int .i64, .int .i64, .int .i64, .int .i64]]), (false, [.sl [.int .i64]])], rs := [(false, [.int .i64])], pre := fun _ => True, out := fun a => [[.i (Sp.critE (cel 0 (arg 0 a)).list (cel 1 (arg 0 a)).list (cel 0 (arg 1 a)).list)]] }
def tb88 : List (Nat × Ct) := [(34, ct34), (35, ct35), (39, ct39)]
def A88 (ns : List (List C)) (ls : List (List C)) (cs : List (List C)) : FuncId → Nat → LoopAnn := fun _ ii => bif Nat.beq ii 7 then .on (fun sv0 => match sv0.tmps.getD 7 .undef with | .own rb _ => .inv (Int × List (List C) × Int) (fun z => Sp.rrI ns ls cs z.1 z.2.1 z.2.2) (fun z => [(9, .int .i64 z.1), (8, .int .i64 z.2.2)]) (fun z => [(rb, .row [.int .i64] 3 0 z.2.1)]) [rb] ([0, 1, 2, 4, 5, 7, 8, 9, 10, 11, 12, 16, 29, 42, 55] ++ [1000000 + rb]) (fun z => (Sp.ord ns ls).length - z.1.toNat) | _ => .unroll 0) else bif Nat.beq ii 11 then .on (fun sv0 => match sv0.tmps.getD 7 .undef, sv0.tmps.getD 9 .undef with | .own rb _, .int _ kq => (match sv0.heap[rb]? with | some (.row _ _ _ b0) => .inv (Int × Int) (fun z => Sp.riI b0 ns ls (Sp.c0 (rGet (Sp.ord ns ls) kq)) kq z.1 z.2) (fun z => [(12, .int .i64 z.1), (11, .int .i64 z.2)]) (fun z => []) [] [0, 1, 2, 4, 5, 7, 8, 9, 10, 11, 12, 16, 29, 42, 55] (fun z => ls.length - z.1.toNat) | _ => .unroll 0) | _, _ => .unroll 0) else .unroll 0
abbrev B88 (ns : List (List C)) (ls : List (List C)) (cs : List (List C)) : Prop := vcF Go.Proofs.Tryz.prog (look tb88) (fun _ => false) (A88 ns ls cs) 6 88 [.agg [.sl [.int .i64, .int .i64, .int .i64, .int .i64] ns, .sl [.int .i64, .int .i64, .int .i64, .int .i64] ls], .sl [.int .i64] cs] [] (fun sv heap => Gives [(false, [.int .i64])] [[.i (Sp.critE ns ls cs)]] sv heap)
def h88_0 : List (List C) → List (List C) → List (List C) → Int × List (List C) × Int → List SV := fun (ns ls cs : List (List C)) (x : Int × List (List C) × Int) => [SV.agg [SV.sl [.int .i64, .int .i64, .int .i64, .int .i64] ns, SV.sl [.int .i64, .int .i64, .int .i64, .int .i64] ls], SV.sl [.int .i64] cs, SV.ref 0 0, SV.lit .i64 0, SV.sl [.int .i64] (Sp.ordE ns ls), SV.own 1 0, SV.int .i64 x.snd.2, SV.int .i64 x.1, SV.int .i64 (Sp.nix ns ((rGet (Sp.ordE ns ls) x.1).headD default).int), SV.blit false, SV.blit true]
def h88_1 : List (List C) → List (List C) → Int × List (List C) × Int → List HB := fun (ns ls : List (List C)) (x : Int × List (List C) × Int) => [HB.box [SV.sl [.int .i64, .int .i64, .int .i64, .int .i64] ns, SV.sl [.int .i64, .int .i64, .int .i64, .int .i64] ls] 50, HB.row [.int .i64] 3 0 x.snd.1]
def h88_2 : List (List C) → List (List C) → List (List C) → List SV := fun (ns ls cs : List (List C)) => [SV.agg [SV.sl [.int .i64, .int .i64, .int .i64, .int .i64] ns, SV.sl [.int .i64, .int .i64, .int .i64, .int .i64] ls], SV.sl [.int .i64] cs, SV.ref 0 0, SV.lit .i64 0, SV.sl [.int .i64] (Sp.ordE ns ls), SV.own 1 0, SV.blit false, SV.undef]
def m88_0 (ns : List (List C)) (ls : List (List C)) (x : Int × List (List C) × Int) : Int := (Sp.nix ns (q0 (rGet (Sp.ordE ns ls) x.1)))
def m88_1 : Prop := IntKind.i64 = IntKind.i64
theorem e88 (ns : List (List C)) (ls : List (List C)) (cs : List (List C)) : B88 ns ls cs = (True ∧ (True → True ∧ (bNot (Sp.prb ns ls cs 1) = true → (0 = Sp.critE ns ls cs ∧ True) ∧ True) ∧ (bNot (Sp.prb ns ls cs 1) = false → True ∧ (((WL [.int .i64] (Sp.ordE ns ls))) ∧ InR .i64 (Sp.vE ns ls) ∧ True → pLe (iLen ns) 9223372036854775807 → (pLe 0 (iLen ns) ∧ pLe (iLen ns) (iLen ns) ∧ pRoom 8 (iLen ns)) ∧ (∃ (x : Int × List (List C) × Int), Sp.rrI ns ls cs x.1 x.snd.1 x.snd.2 ∧ true = true ∧ ((m88_1 ∧ 0 = x.1) ∧ (m88_1 ∧ 0 = x.snd.2) ∧ True) ∧ ([Sh.int .i64] = [Sh.int .i64] ∧ 3 = 3 ∧ 0 = 0 ∧ List.replicate (iLen ns).toNat [C.i 0] = x.snd.1) ∧ True) ∧ (∀ (x : Int × List (List C) × Int), true = true ∧ true = true) ∧ ∀ (x : Int × List (List C) × Int), Sp.rrI ns ls cs x.1 x.snd.1 x.snd.2 → InR .i64 x.1 ∧ InR .i64 x.snd.2 ∧ True → ((WL [.int .i64] x.snd.1)) ∧ True → pLe (iLen (Sp.ordE ns ls)) 9223372036854775807 → (bLt x.1 (iLen (Sp.ordE ns ls)) = true → pIn 0 (iLen (Sp.ordE ns ls)) x.1 ∧ (InR .i64 (q0 (rGet (Sp.ordE ns ls) x.1)) → True ∧ (InR .i64 (m88_0 ns ls x) → (∃ (x_1 : Int × Int), Sp.riI x.snd.1 ns ls (Sp.c0 (rGet (Sp.ord ns ls) x.1)) x.1 x_1.1 x_1.2 ∧ true = true ∧ ((m88_1 ∧ 0 = x_1.1) ∧ (m88_1 ∧ 0 = x_1.2) ∧ True) ∧ True) ∧ (∀ (x : Int × Int), true = true ∧ true = true) ∧ ∀ (x_1 : Int × Int), Sp.riI x.snd.1 ns ls (Sp.c0 (rGet (Sp.ord ns ls) x.1)) x.1 x_1.1 x_1.2 → InR .i64 x_1.1 ∧ InR .i64 x_1.2 ∧ True → True → pLe (iLen ls) 9223372036854775807 → (bLt x_1.1 (iLen ls) = true → pIn 0 (iLen ls) x_1.1 ∧ (InR .i64 (q2 (rGet ls x_1.1)) → pIn 0 (iLen (Sp.ordE ns ls)) x.1 ∧ (InR .i64 (q0 (rGet (Sp.ordE ns ls) x.1)) → (bEq (q2 (rGet ls x_1.1)) (q0 (rGet (Sp.ordE ns ls) x.1)) = true → pIn 0 (iLen ls) x_1.1 ∧ (InR .i64 (q0 (rGet ls x_1.1)) → True ∧ (InR .i64 (Sp.nix ns (q0 (rGet ls x_1.1))) → pIn 0 (iLen x.snd.1) (Sp.nix ns (q0 (rGet ls x_1.1))) ∧ (InR .i64 (q0 (rGet x.snd.1 (Sp.nix ns (q0 (rGet ls x_1.1))))) → InR .i64 (iAdd x_1.1 1) ∧ (true = true ∧ h88_0 ns ls cs x = h88_0 ns ls cs x) ∧ h88_1 ns ls x = h88_1 ns ls x ∧ ∃ (y : Int × Int), Sp.riI x.snd.1 ns ls (Sp.c0 (rGet (Sp.ord ns ls) x.1)) x.1 y.1 y.2 ∧ true = true ∧ ((m88_1 ∧ iAdd x_1.1 1 = y.1) ∧ (m88_1 ∧ iMax x_1.2 (q0 (rGet x.snd.1 (Sp.nix ns (q0 (rGet ls x_1.1))))) = y.2) ∧ True) ∧ True ∧ ls.length - y.1.toNat < ls.length - x_1.1.toNat)))) ∧ (bEq (q2 (rGet ls x_1.1)) (q0 (rGet (Sp.ordE ns ls) x.1)) = false → InR .i64 (iAdd x_1.1 1) ∧ (true = true ∧ h88_0 ns ls cs x = h88_0 ns ls cs x) ∧ h88_1 ns ls x = h88_1 ns ls x ∧ ∃ (y : Int × Int), Sp.riI x.snd.1 ns ls (Sp.c0 (rGet (Sp.ord ns ls) x.1)) x.1 y.1 y.2 ∧ true = true ∧ ((m88_1 ∧ iAdd x_1.1 1 = y.1) ∧ (m88_1 ∧ x_1.2 = y.2) ∧ True) ∧ True ∧ ls.length - y.1.toNat < ls.length - x_1.1.toNat)))) ∧ (bLt x_1.1 (iLen ls) = false → pIn 0 (iLen cs) (m88_0 ns ls x) ∧ (InR .i64 (q0 (rGet cs (m88_0 ns ls x))) → InR .i64 (iAdd x_1.2 (q0 (rGet cs (m88_0 ns ls x)))) ∧ pIn 0 (iLen x.snd.1) (m88_0 ns ls x) ∧ pIn 0 (iLen (rSet x.snd.1 (m88_0 ns ls x) [C.i (iAdd x_1.2 (q0 (rGet cs (m88_0 ns ls x))))])) (m88_0 ns ls x) ∧ (InR .i64 (q0 (rGet (rSet x.snd.1 (m88_0 ns ls x) [C.i (iAdd x_1.2 (q0 (rGet cs (m88_0 ns ls x))))]) (m88_0 ns ls x))) → InR .i64 (iAdd x.1 1) ∧ (true = true ∧ h88_2 ns ls cs = h88_2 ns ls cs) ∧ (fun z => z = z) [HB.box [SV.sl [.int .i64, .int .i64, .int .i64, .int .i64] ns, SV.sl [.int .i64, .int .i64, .int .i64, .int .i64] ls] 50, HB.gone] ∧ ∃ (y : Int × List (List C) × Int), Sp.rrI ns ls cs y.1 y.snd.1 y.snd.2 ∧ true = true ∧ ((m88_1 ∧ iAdd x.1 1 = y.1) ∧ (m88_1 ∧ iMax x.snd.2 (q0 (rGet (rSet x.snd.1 (m88_0 ns ls x) [C.i (iAdd x_1.2 (q0 (rGet cs (m88_0 ns ls x))))]) (m88_0 ns ls x))) = y.snd.2) ∧ True) ∧ (([Sh.int .i64] = [Sh.int .i64] ∧ 3 = 3 ∧ 0 = 0 ∧ rSet x.snd.1 (m88_0 ns ls x) [C.i (iAdd x_1.2 (q0 (rGet cs (m88_0 ns ls x))))] = y.snd.1) ∧ True) ∧ (Sp.ord ns ls).length - y.1.toNat < (Sp.ord ns ls).length - x.1.toNat)))))) ∧ (bLt x.1 (iLen (Sp.ordE ns ls)) = false → (x.snd.2 = Sp.critE ns ls cs ∧ True) ∧ True))))) := by kernel_rfl
theorem v88 (ns : List (List C)) (ls : List (List C)) (cs : List (List C)) : Holds (Wfs [.agg [.sl [.int .i64, .int .i64, .int .i64, .int .i64] ns, .sl [.int .i64, .int .i64, .int .i64, .int .i64] ls], .sl [.int .i64] cs] → True → B88 ns ls cs) := by
 refine ⟨fun hw hp => ?_⟩
 rw [e88]
 delta WL q0 q2 m88_0 m88_1
 simp only [Wfs, Wf, InR, and_true] at hw
 simp only [eq_self, true_and, and_true, true_implies, implies_true, iAdd, iSub, iMul, iLen, bEq, bNe, bLt, bLe, bNot, pIn, pLe, pNe, InR, decide_eq_true_eq, decide_eq_false_iff_not, Bool.not_eq_true', Bool.not_eq_false', decide_eq_decide]
 refine ⟨fun h => by unfold Sp.critE; rw [h]; rfl, fun hpb hol hnl => ?_⟩
 obtain ⟨hv, hlen, hidx, _, _⟩ := Sp.prb_true.1 hpb
 have V := Sp.vld_small hv
 have eo : Sp.ordE ns ls = Sp.ord ns ls := by unfold Sp.ordE; rw [hv]; rfl
 have ol := Sp.ord_le (ns := ns) (ls := ls)
 rw [eo]
 refine ⟨⟨by omega, by omega, by simp only [pRoom]; omega⟩, ⟨(0, _, 0), Sp.rr_init, ⟨rfl, rfl⟩, rfl⟩, ?_⟩
 rintro ⟨k, b, out⟩ hr _ _ _
 simp only at hr ⊢
 have k0 := hr.1
 have okb := hr.2.2.2.1
 have bl := okb.1
 have ob := hr.2.2.2.2
 refine ⟨fun hk => ?_, fun hk => ?_⟩
 · have hx := Sp.ord_has (ns := ns) (ls := ls) _ (Sp.rGet_mem (xs := Sp.ord ns ls) (z := k) k0 hk)
   obtain ⟨n0, n1, n2⟩ := Sp.nix_has hx
   have n1b : Sp.nix ns (Sp.c0 (rGet (Sp.ord ns ls) k)) < (b.length : Int) := by omega
   have n1c : Sp.nix ns (Sp.c0 (rGet (Sp.ord ns ls) k)) < (cs.length : Int) := by omega
   refine ⟨⟨k0, hk⟩, fun _ _ => ⟨⟨(0, 0), Sp.ri_init k0, rfl, rfl⟩, ?_⟩⟩
   rintro ⟨j, a⟩ hj _ _
   simp only at hj ⊢
   have j0 := hj.1
   have ab := hj.2.2.2
   refine ⟨fun hjl => ⟨⟨j0, hjl⟩, fun _ => ⟨⟨k0, hk⟩, fun _ => ⟨fun hc => ?_, fun hc => ⟨by omega, (j + 1, a), Sp.ri_no hj hjl hc, ⟨rfl, rfl⟩, by simp only; omega⟩⟩⟩⟩, fun hjg => ?_⟩
   · obtain ⟨m0, m1, _⟩ := Sp.nix_has (Sp.vld_link hv j0 hjl).1
     have m1b : Sp.nix ns (Sp.c0 (rGet ls j)) < (b.length : Int) := by omega
     exact ⟨⟨j0, hjl⟩, fun _ _ => ⟨⟨m0, m1b⟩, fun _ => ⟨by omega, (j + 1, _), Sp.ri_yes hj hjl hc (okb.2 _ m0 m1), ⟨rfl, rfl⟩, by simp only; omega⟩⟩⟩
   · have ha := Sp.ri_end hj hjg
     have hgc := Sp.good_at hidx n0 n1c
     have st := Sp.rr_step hr hk hx hgc ha
     have eg : ∀ v, Sp.gV (rSet b (Sp.nix ns (Sp.c0 (rGet (Sp.ord ns ls) k))) [C.i v]) (Sp.nix ns (Sp.c0 (rGet (Sp.ord ns ls) k))) = v := fun v => by rw [Sp.gV_set n0 n1b n0, if_pos rfl]
     have rl : ∀ v, ((rSet b (Sp.nix ns (Sp.c0 (rGet (Sp.ord ns ls) k))) v).length : Int) = (b.length : Int) := fun v => by unfold rSet; rw [List.length_set]
     refine ⟨⟨n0, n1c⟩, fun _ => ⟨?_, ⟨n0, n1b⟩, ⟨n0, Int.lt_of_lt_of_le n1b (Int.le_of_eq (rl _).symm)⟩, fun _ => ⟨by omega, (k + 1, _, _), st, ⟨rfl, ?_⟩, rfl, by simp only; omega⟩⟩⟩
     · show -9223372036854775808 ≤ a + Sp.gV cs (Sp.nix ns (Sp.c0 (rGet (Sp.ord ns ls) k))) ∧ a + Sp.gV cs (Sp.nix ns (Sp.c0 (rGet (Sp.ord ns ls) k))) ≤ 9223372036854775807
       have h1 := ha.2
       unfold Sp.gV
       omega
     · exact congrArg (max out) (eg _)
 · rw [Sp.rr_end hr hk]
   unfold Sp.critE; rw [hpb]; rfl
theorem s88 : SoundCt Go.Proofs.Tryz.prog 88 ct88 :=
 contractH followsMixed (look_sound (show Tb Go.Proofs.Tryz.prog tb88 from ⟨s34, ⟨s35, ⟨s39, trivial⟩⟩⟩)) (fun _ => false) (fun a => A88 ((cel 0 (arg 0 a)).list) ((cel 1 (arg 0 a)).list) ((cel 0 (arg 1 a)).list)) 6 88 ct88 rfl (by simp [ct88]) fun a => Eq.mp (by kernel_rfl) (v88 ((cel 0 (arg 0 a)).list) ((cel 1 (arg 0 a)).list) ((cel 0 (arg 1 a)).list))
end Go.Sx
namespace Go.Sx
def ct68 : Ct := { ps := [(true, [.sl [.int .i64, .int .i64, .int .i64, .int .i64], .sl [.int .i64, .int .i64, .int .i64, .int .i64]]), (false, [.sl [.int .i64]]), (false, [.int .i64])], rs := [(false, [.int .i64])], pre := fun _ => True, out := fun a => [[.i (Sp.bnd (cel 0 (arg 0 a)).list (cel 1 (arg 0 a)).list (cel 0 (arg 1 a)).list (cel 0 (arg 2 a)).int)]] }
def tb68 : List (Nat × Ct) := [(34, ct34), (88, ct88)]
def A68 (cs : List (List C)) : FuncId → Nat → LoopAnn := fun _ ii => bif Nat.beq ii 5 then .inv (Int × Int) (fun z => Sp.smI cs z.1 z.2) (fun z => [(8, .int .i64 z.1), (7, .int .i64 z.2)]) (fun z => []) [] [0, 1, 2, 3, 6, 7, 8, 13, 17] (fun z => cs.length - z.1.toNat) else .unroll 0
abbrev B68 (ns : List (List C)) (ls : List (List C)) (cs : List (List C)) (w : Int) : Prop := vcF Go.Proofs.Tryz.prog (look tb68) (fun _ => false) (A68 cs) 6 68 [.agg [.sl [.int .i64, .int .i64, .int .i64, .int .i64] ns, .sl [.int .i64, .int .i64, .int .i64, .int .i64] ls], .sl [.int .i64] cs, .int .i64 w] [] (fun sv heap => Gives [(false, [.int .i64])] [[.i (Sp.bnd ns ls cs w)]] sv heap)
def h68_0 : List (List C) → List (List C) → List (List C) → Int → List SV := fun (ns ls cs : List (List C)) (w : Int) => [SV.agg [SV.sl [.int .i64, .int .i64, .int .i64, .int .i64] ns, SV.sl [.int .i64, .int .i64, .int .i64, .int .i64] ls], SV.sl [.int .i64] cs, SV.int .i64 w, SV.ref 0 0, SV.lit .i64 0, SV.blit false]
theorem e68 (ns : List (List C)) (ls : List (List C)) (cs : List (List C)) (w : Int) : B68 ns ls cs w = (True ∧ (True → True ∧ (bNot (Sp.prb ns ls cs w) = true → (0 = Sp.bnd ns ls cs w ∧ True) ∧ True) ∧ (bNot (Sp.prb ns ls cs w) = false → (∃ (x : Int × Int), Sp.smI cs x.1 x.2 ∧ true = true ∧ ((IntKind.i64 = IntKind.i64 ∧ 0 = x.1) ∧ (IntKind.i64 = IntKind.i64 ∧ 0 = x.2) ∧ True) ∧ True) ∧ (∀ (x : Int × Int), true = true ∧ true = true) ∧ ∀ (x : Int × Int), Sp.smI cs x.1 x.2 → InR .i64 x.1 ∧ InR .i64 x.2 ∧ True → True → pLe (iLen cs) 9223372036854775807 → (bLt x.1 (iLen cs) = true → pIn 0 (iLen cs) x.1 ∧ (InR .i64 (q0 (rGet cs x.1)) → InR .i64 (iAdd x.2 (q0 (rGet cs x.1))) ∧ InR .i64 (iAdd x.1 1) ∧ (true = true ∧ h68_0 ns ls cs w = h68_0 ns ls cs w) ∧ (fun z => z = z) [HB.box [SV.sl [.int .i64, .int .i64, .int .i64, .int .i64] ns, SV.sl [.int .i64, .int .i64, .int .i64, .int .i64] ls] 50] ∧ ∃ (y : Int × Int), Sp.smI cs y.1 y.2 ∧ true = true ∧ ((IntKind.i64 = IntKind.i64 ∧ iAdd x.1 1 = y.1) ∧ (IntKind.i64 = IntKind.i64 ∧ iAdd x.2 (q0 (rGet cs x.1)) = y.2) ∧ True) ∧ True ∧ cs.length - y.1.toNat < cs.length - x.1.toNat)) ∧ (bLt x.1 (iLen cs) = false → InR .i64 (iSub w 1) ∧ True ∧ (InR .i64 (Sp.critE ns ls cs) → InR .i64 (iMul (iSub w 1) (Sp.critE ns ls cs)) ∧ InR .i64 (iAdd x.2 (iMul (iSub w 1) (Sp.critE ns ls cs))) ∧ (pNe w 0 ∧ InR .i64 (iQuo (iAdd x.2 (iMul (iSub w 1) (Sp.critE ns ls cs))) w)) ∧ (iQuo (iAdd x.2 (iMul (iSub w 1) (Sp.critE ns ls cs))) w = Sp.bnd ns ls cs w ∧ True) ∧ True))))) := by kernel_rfl
theorem v68 (ns : List (List C)) (ls : List (List C)) (cs : List (List C)) (w : Int) : Holds (Wfs [.agg [.sl [.int .i64, .int .i64, .int .i64, .int .i64] ns, .sl [.int .i64, .int .i64, .int .i64, .int .i64] ls], .sl [.int .i64] cs, .int .i64 w] → True → B68 ns ls cs w) := by
 refine ⟨fun hw hp => ?_⟩
 rw [e68]
 delta q0
 simp only [Wfs, Wf, InR, and_true] at hw
 simp only [eq_self, true_and, and_true, true_implies, implies_true, iAdd, iSub, iMul, iLen, bEq, bNe, bLt, bLe, bNot, pIn, pLe, pNe, InR, decide_eq_true_eq, decide_eq_false_iff_not, Bool.not_eq_true', Bool.not_eq_false', decide_eq_decide]
 refine ⟨fun h => by unfold Sp.bnd; rw [h]; rfl, fun hpb => ⟨⟨(0, 0), Sp.sm_init, rfl, rfl⟩, ?_⟩⟩
 obtain ⟨hv, hlen, hidx, w1, w8⟩ := Sp.prb_true.1 hpb
 have V := Sp.vld_small hv
 have hp1 : Sp.prb ns ls cs 1 = true := Sp.prb_true.2 ⟨hv, hlen, hidx, by omega, by omega⟩
 have ec : Sp.critE ns ls cs = Sp.critR ns ls cs := by unfold Sp.critE; rw [hp1]; rfl
 have cb := Sp.crit_bd hv hlen hidx
 rw [ec]
 rintro ⟨j, a⟩ hs hs1 _
 simp only at hs hs1 ⊢
 have j0 := hs.1
 refine ⟨fun hjl => ?_, fun hjg => ⟨by omega, fun _ => ?_⟩⟩
 · have g := Sp.good_at hidx j0 hjl
   have s1 := Sp.sm_step hs hjl g
   have s2 := s1.2.2.2
   refine ⟨⟨j0, hjl⟩, fun _ => ⟨?_, by omega, (j + 1, _), s1, ⟨rfl, rfl⟩, by simp only; omega⟩⟩
   show -9223372036854775808 ≤ a + Sp.c0 (rGet cs j) ∧ a + Sp.c0 (rGet cs j) ≤ 9223372036854775807
   omega
 · have hsum := Sp.sm_end hs hjg
   have sb := hs.2.2.2
   have jm := hs.2.1
   have m0 : 0 ≤ (w - 1) * Sp.critR ns ls cs := Int.mul_nonneg (by omega) (by omega)
   have m1 : (w - 1) * Sp.critR ns ls cs ≤ 7 * (64 * 1099511627776) := Int.mul_le_mul (by omega) (by omega) (by omega) (by omega)
   have hq0 : 0 ≤ iQuo (a + (w - 1) * Sp.critR ns ls cs) w := Int.tdiv_nonneg (a := a + (w - 1) * Sp.critR ns ls cs) (b := w) (by omega) (by omega)
   have hq1 : iQuo (a + (w - 1) * Sp.critR ns ls cs) w ≤ a + (w - 1) * Sp.critR ns ls cs := by
    show (a + (w - 1) * Sp.critR ns ls cs).tdiv w ≤ _
    rw [Int.tdiv_eq_ediv_of_nonneg (by omega)]
    exact Int.ediv_le_self _ (by omega)
   refine ⟨⟨by omega, by omega⟩, ⟨by omega, by omega⟩, ⟨by omega, ⟨by omega, by omega⟩⟩, ?_⟩
   unfold Sp.bnd
   rw [hpb, cond_true, ← hsum, Sp.crit_eq hv]
theorem s68 : SoundCt Go.Proofs.Tryz.prog 68 ct68 :=
 contractH followsMixed (look_sound (show Tb Go.Proofs.Tryz.prog tb68 from ⟨s34, ⟨s88, trivial⟩⟩)) (fun _ => false) (fun a => A68 ((cel 0 (arg 1 a)).list)) 6 68 ct68 rfl (by simp [ct68]) fun a => Eq.mp (by kernel_rfl) (v68 ((cel 0 (arg 0 a)).list) ((cel 1 (arg 0 a)).list) ((cel 0 (arg 1 a)).list) ((cel 0 (arg 2 a)).int))
end Go.Sx
