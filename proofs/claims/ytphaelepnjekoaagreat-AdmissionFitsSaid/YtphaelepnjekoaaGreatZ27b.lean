import Derived.Test.YtphaelepnjekoaaGreatSxUse
import Derived.Test.YtphaelepnjekoaaGreatZ27a
import Derived.Test.YtphaelepnjekoaaGreatSxNest
import Derived.KernelRfl
set_option linter.unusedVariables false
set_option linter.unusedSimpArgs false
set_option maxRecDepth 100000
set_option maxHeartbeats 4000000
namespace Go
open Go.Sx
def Sp.plaR (xs : List (List C)) (n i a : Int) : Int :=
 match xs with
 | [] => a
 | x :: r => Sp.plaR r n (i + 1) (if Sp.c0 x = n then i else a)
def Sp.pla (xs : List (List C)) (n : Int) : Int := Sp.plaR xs n 0 0
def Sp.pmI (ns : List (List C)) (k : Int) (m : List (Int × List C)) : Prop := 0 ≤ k ∧ k ≤ (ns.length : Int) ∧ ∀ n, kGet m n [.i 0] = [.i (Sp.pla (ns.take k.toNat) n)]
def Sp.osI (ns o : List (List C)) (k : Int) (out : List (List C)) : Prop := 0 ≤ k ∧ k ≤ (o.length : Int) ∧ out = (o.take k.toNat).map (fun x => [.i (Sp.pla ns (Sp.c0 x))])
def Sp.gm (ms : List (Int × List C)) (n : Int) : Int := ((kGet ms n [.i 0]).headD default).int
def Sp.befM (f : Int → Int) (ls : List (List C)) (j : Int) : List (List C) := (ls.filter (fun l => decide (f (Sp.c2 l) = j))).map (fun l => [.i (f (Sp.c0 l))])
def Sp.befR (f : Int → Int) (ls : List (List C)) (n : Nat) (z : Int) : List (List C) := (List.range n).map (fun (j : Nat) => [C.l (Sp.befM f (ls.take z.toNat) (j : Int))])
def Sp.gV (b : List (List C)) (i : Int) : Int := Sp.c0 (rGet b i)
def Sp.cr1 (b : List (List C)) (i : Int) (bs : List (List C)) : List (List C) := bs.foldl (fun b x => rSet b i [.i (max (Sp.gV b i) (Sp.gV b (Sp.c0 x)))]) b
def Sp.crB (b : List (List C)) (i : Int) (bs : List (List C)) (cs : List (List C)) : List (List C) := rSet (Sp.cr1 b i bs) i [.i (Sp.gV (Sp.cr1 b i bs) i + Sp.gV cs i)]
def Sp.crS (cs bf : List (List C)) (st : List (List C) × Int) (x : List C) : List (List C) × Int :=
 (Sp.crB st.1 (Sp.c0 x) ((rGet bf (Sp.c0 x)).headD default).list cs, max st.2 (Sp.gV (Sp.crB st.1 (Sp.c0 x) ((rGet bf (Sp.c0 x)).headD default).list cs) (Sp.c0 x)))
def Sp.okB (n : Nat) (k : Int) (b : List (List C)) : Prop := b.length = n ∧ ∀ i : Int, 0 ≤ i → i < (n : Int) → 0 ≤ Sp.gV b i ∧ Sp.gV b i ≤ k * 1099511627776
def Sp.crI (cs bf os : List (List C)) (n : Nat) (k : Int) (b : List (List C)) (out : Int) : Prop := 0 ≤ k ∧ k ≤ (os.length : Int) ∧ (os.take k.toNat).foldl (Sp.crS cs bf) (List.replicate n [.i 0], 0) = (b, out) ∧ Sp.okB n k b ∧ 0 ≤ out ∧ out ≤ k * 1099511627776
def Sp.cnI (b0 : List (List C)) (i : Int) (bs : List (List C)) (n : Nat) (k j : Int) (b : List (List C)) : Prop := 0 ≤ j ∧ j ≤ (bs.length : Int) ∧ b = Sp.cr1 b0 i (bs.take j.toNat) ∧ Sp.okB n k b
def Sp.sum (cs : List (List C)) : Int := cs.foldl (fun a x => a + Sp.c0 x) 0
def Sp.smI (cs : List (List C)) (k a : Int) : Prop := 0 ≤ k ∧ k ≤ (cs.length : Int) ∧ a = Sp.sum (cs.take k.toNat) ∧ 0 ≤ a ∧ a ≤ k * 1099511627776
def Sp.badC (x : List C) : Bool := decide (Sp.c0 x < 0 ∨ 1099511627776 < Sp.c0 x)
def Sp.prb (ns ls cs : List (List C)) (w : Int) : Bool := Sp.vld ns ls && (decide (cs.length = ns.length) && decide (Sp.idx Sp.badC cs 0 < 0)) && decide (1 ≤ w ∧ w ≤ 8)
def Sp.critP (ns ls cs : List (List C)) : Int := (((Sp.ord ns ls).map (fun x => [C.i (Sp.pla ns (Sp.c0 x))])).foldl (Sp.crS cs (Sp.befR (Sp.pla ns) ls ns.length ls.length)) (List.replicate ns.length [.i 0], 0)).2
def Sp.bnd (ns ls cs : List (List C)) (w : Int) : Int := bif Sp.prb ns ls cs w then (Sp.sum cs + (w - 1) * Sp.critP ns ls cs).tdiv w else 0
end Go
namespace Go
open Go.Sx
theorem Sp.plaR_snoc {n : Int} {x : List C} : ∀ (xs : List (List C)) (i a : Int), Sp.plaR (xs ++ [x]) n i a = if Sp.c0 x = n then i + xs.length else Sp.plaR xs n i a
 | [], i, a => by simp [Sp.plaR]
 | y :: r, i, a => by
  simp only [List.cons_append, Sp.plaR, Sp.plaR_snoc r]
  split
  · simp only [List.length_cons]; omega
  · rfl
theorem Sp.pm_init {ns : List (List C)} : Sp.pmI ns 0 [] := ⟨by omega, by omega, fun n => by simp [kGet, Sp.pla, Sp.plaR]⟩
theorem Sp.pm_step {ns : List (List C)} {i : Int} {m : List (Int × List C)} (h : Sp.pmI ns i m) (hi : i < (ns.length : Int)) : Sp.pmI ns (i + 1) (kPut m (Sp.c0 (rGet ns i)) [.i i]) := by
 obtain ⟨h0, h1, h2⟩ := h
 refine ⟨by omega, by omega, fun n => ?_⟩
 rw [Sp.kGet_put, Sp.take_succ h0 hi, Sp.pla, Sp.plaR_snoc, h2 n]
 split
 · rw [List.length_take]
   congr 2
   omega
 · rfl
theorem Sp.pm_end {ns : List (List C)} {i : Int} {m : List (Int × List C)} (h : Sp.pmI ns i m) (hi : ¬ i < (ns.length : Int)) : Sp.gm m = Sp.pla ns ∧ ∀ n, kGet m n [.i 0] = [.i (Sp.pla ns n)] := by
 obtain ⟨h0, h1, h2⟩ := h
 rw [List.take_of_length_le (by omega)] at h2
 exact ⟨funext fun n => by unfold Sp.gm; rw [h2 n]; rfl, h2⟩
theorem Sp.plaR_bd {n : Int} : ∀ (xs : List (List C)) (i a : Int), 0 ≤ i → (Sp.plaR xs n i a = a ∧ Sp.has xs n = false) ∨ (i ≤ Sp.plaR xs n i a ∧ Sp.plaR xs n i a < i + xs.length ∧ Sp.c0 (rGet xs (Sp.plaR xs n i a - i)) = n)
 | [], i, a, h => .inl ⟨rfl, by rw [Bool.eq_false_iff]; intro h; rw [Sp.has_iff] at h; obtain ⟨x, hx, _⟩ := h; simp at hx⟩
 | x :: r, i, a, h => by
  simp only [Sp.plaR]
  rcases Sp.plaR_bd r (i + 1) (if Sp.c0 x = n then i else a) (by omega) with ⟨h1, h2⟩ | ⟨h1, h2, h3⟩
  · rw [h1]
    split
    · rename_i hc
      right
      refine ⟨by omega, by simp only [List.length_cons]; omega, ?_⟩
      simpa [rGet] using hc
    · rename_i hc
      left
      refine ⟨rfl, ?_⟩
      rw [Bool.eq_false_iff]; intro h4
      rw [Sp.has_iff] at h4
      obtain ⟨y, hy, hyn⟩ := h4
      rcases List.mem_cons.1 hy with rfl | hy
      · exact hc hyn
      · have : Sp.has r n = true := Sp.has_iff.2 ⟨y, hy, hyn⟩
        rw [h2] at this; cases this
  · right
    refine ⟨by omega, by simp only [List.length_cons]; omega, ?_⟩
    unfold rGet at h3 ⊢
    rw [show (Sp.plaR r n (i + 1) (if Sp.c0 x = n then i else a) - i).toNat = (Sp.plaR r n (i + 1) (if Sp.c0 x = n then i else a) - (i + 1)).toNat + 1 by omega]
    simpa using h3
theorem Sp.pla_has {ns : List (List C)} {n : Int} (h : Sp.has ns n = true) : 0 ≤ Sp.pla ns n ∧ Sp.pla ns n < (ns.length : Int) ∧ Sp.c0 (rGet ns (Sp.pla ns n)) = n := by
 rcases Sp.plaR_bd (n := n) ns 0 0 (by omega) with ⟨_, h2⟩ | ⟨h1, h2, h3⟩
 · rw [h] at h2; cases h2
 · unfold Sp.pla
   rw [Int.sub_zero] at h3
   exact ⟨h1, by omega, h3⟩
theorem Sp.pla_bd {ns : List (List C)} {n : Int} : 0 ≤ Sp.pla ns n ∧ Sp.pla ns n ≤ (ns.length : Int) := by
 rcases Sp.plaR_bd (n := n) ns 0 0 (by omega) with ⟨h1, h2⟩ | ⟨h1, h2, h3⟩
 · unfold Sp.pla; omega
 · unfold Sp.pla; omega
theorem Sp.os_init {ns o : List (List C)} : Sp.osI ns o 0 [] := ⟨by omega, by omega, by simp⟩
theorem Sp.os_step {ns o out : List (List C)} {k : Int} (h : Sp.osI ns o k out) (hk : k < (o.length : Int)) : Sp.osI ns o (k + 1) (out ++ [[.i (Sp.pla ns (Sp.c0 (rGet o k)))]]) := by
 obtain ⟨h0, h1, h2⟩ := h
 refine ⟨by omega, by omega, ?_⟩
 rw [Sp.take_succ h0 hk, h2]
 simp
theorem Sp.os_end {ns o out : List (List C)} {k : Int} (h : Sp.osI ns o k out) (hk : ¬ k < (o.length : Int)) : out = o.map (fun x => [.i (Sp.pla ns (Sp.c0 x))]) := by
 obtain ⟨h0, h1, h2⟩ := h
 rw [h2, List.take_of_length_le (by omega)]
theorem Sp.os_len {ns o out : List (List C)} {k : Int} (h : Sp.osI ns o k out) : (out.length : Int) = k := by
 obtain ⟨h0, h1, h2⟩ := h
 rw [h2, List.length_map, List.length_take]; omega
theorem Sp.bef_init {f : Int → Int} {ls : List (List C)} {n : Nat} : Sp.befR f ls n 0 = List.replicate n [.l []] := by
 unfold Sp.befR
 refine List.ext_getElem? fun j => ?_
 simp only [List.getElem?_map, List.getElem?_replicate, List.getElem?_range]
 by_cases hj : j < n
 · simp [hj, Sp.befM]
 · simp [hj]
theorem Sp.bef_len {f : Int → Int} {ls : List (List C)} {n : Nat} {z : Int} : (Sp.befR f ls n z).length = n := by simp [Sp.befR]
theorem Sp.bef_get {f : Int → Int} {ls : List (List C)} {n : Nat} {z j : Int} (h0 : 0 ≤ j) (h1 : j < (n : Int)) : rGet (Sp.befR f ls n z) j = [.l (Sp.befM f (ls.take z.toNat) j)] := by
 unfold rGet Sp.befR
 rw [List.getD_eq_getElem?_getD, List.getElem?_map, List.getElem?_range (by omega)]
 simp only [Option.map_some, Option.getD_some]
 rw [show ((j.toNat : Nat) : Int) = j by omega]
theorem Sp.bef_step {f : Int → Int} {ls : List (List C)} {n : Nat} {z : Int} (h0 : 0 ≤ z) (h1 : z < (ls.length : Int)) (h2 : 0 ≤ f (Sp.c2 (rGet ls z))) (h3 : f (Sp.c2 (rGet ls z)) < (n : Int)) :
 Sp.befR f ls n (z + 1) = rSet (Sp.befR f ls n z) (f (Sp.c2 (rGet ls z))) [.l (Sp.befM f (ls.take z.toNat) (f (Sp.c2 (rGet ls z))) ++ [[.i (f (Sp.c0 (rGet ls z)))]])] := by
 refine List.ext_getElem? fun j => ?_
 unfold rSet
 rw [List.getElem?_set]
 have hl : (Sp.befR f ls n z).length = n := Sp.bef_len
 simp only [hl]
 unfold Sp.befR
 rw [List.getElem?_map, List.getElem?_map]
 by_cases hj : j < n
 · rw [List.getElem?_range hj]
   simp only [Option.map_some]
   rw [Sp.take_succ h0 h1]
   generalize rGet ls z = q at *
   by_cases he : (f (Sp.c2 q)).toNat = j
   · rw [if_pos he, if_pos (by omega)]
     have he' : (j : Int) = f (Sp.c2 q) := by omega
     rw [he']
     simp [Sp.befM, List.filter_append]
   · rw [if_neg he]
     have he' : ¬ f (Sp.c2 q) = (j : Int) := by omega
     simp [Sp.befM, List.filter_append, he']
 · rw [List.getElem?_eq_none (l := List.range n) (by simp; omega)]
   split
   · omega
   · rfl
theorem Sp.befM_len {f : Int → Int} {ls : List (List C)} {j : Int} : (Sp.befM f ls j).length ≤ ls.length := by
 unfold Sp.befM; rw [List.length_map]; exact List.length_filter_le _ _
theorem Sp.ends_has {ns : List (List C)} {a b c d : Int} (h : Sp.ends ns a b c d = true) : Sp.has ns a = true ∧ Sp.has ns c = true := by
 have k0 : ∀ i, Sp.has ns i = false → Sp.nd ns i = [] := fun i h => by
  unfold Sp.has at h
  rw [decide_eq_false_iff_not] at h
  unfold Sp.nd
  rw [decide_eq_true (by omega)]; rfl
 unfold Sp.ends at h
 rw [decide_eq_true_eq] at h
 constructor
 · cases hh : Sp.has ns a
   · rw [k0 a hh] at h
     have : Sp.c3 [] = 0 := rfl
     omega
   · rfl
 · cases hh : Sp.has ns c
   · rw [k0 c hh] at h
     have : Sp.c2 [] = 0 := rfl
     omega
   · rfl
theorem Sp.vld_link {ns ls : List (List C)} (h : Sp.vld ns ls = true) {z : Int} (h0 : 0 ≤ z) (h1 : z < (ls.length : Int)) : Sp.has ns (Sp.c0 (rGet ls z)) = true ∧ Sp.has ns (Sp.c2 (rGet ls z)) = true := by
 unfold Sp.vld at h
 simp only [Bool.and_eq_true] at h
 have := Sp.allI_iff.1 h.1.2 z h0 h1
 unfold Sp.lokI at this
 simp only [Bool.and_eq_true] at this
 exact Sp.ends_has this.1.1
theorem Sp.mem_rGet {xs : List (List C)} {x : List C} (h : x ∈ xs) : ∃ z : Int, 0 ≤ z ∧ z < (xs.length : Int) ∧ rGet xs z = x := by
 obtain ⟨i, hi, rfl⟩ := List.getElem_of_mem h
 exact ⟨i, by omega, by omega, by simp [rGet, hi]⟩
theorem Sp.rGet_mem {xs : List (List C)} {z : Int} (h0 : 0 ≤ z) (h1 : z < (xs.length : Int)) : rGet xs z ∈ xs := by
 unfold rGet
 rw [List.getD_eq_getElem?_getD, List.getElem?_eq_getElem (by omega), Option.getD_some]
 exact List.getElem_mem _
theorem Sp.ordF_has {ns ls : List (List C)} : ∀ (n : Nat) (out : List (List C)), (∀ x ∈ out, Sp.has ns (Sp.c0 x) = true) → ∀ x ∈ Sp.ordF ns ls n out, Sp.has ns (Sp.c0 x) = true
 | 0, out, h => by simpa [Sp.ordF] using h
 | n + 1, out, h => by
  simp only [Sp.ordF]
  cases hd : decide (Sp.idx (Sp.rdy ls out) ns 0 < 0)
  · simp only [cond_false]
    refine Sp.ordF_has n _ fun x hx => ?_
    rcases List.mem_append.1 hx with hx | hx
    · exact h x hx
    · rw [List.mem_singleton] at hx
      subst hx
      rw [decide_eq_false_iff_not] at hd
      have hb := Sp.idx_bd (p := Sp.rdy ls out) ns 0
      exact Sp.has_iff.2 ⟨_, Sp.rGet_mem (z := Sp.idx (Sp.rdy ls out) ns 0) (by omega) (by omega), rfl⟩
  · simp only [cond_true]; exact h
theorem Sp.ord_has {ns ls : List (List C)} : ∀ x ∈ Sp.ord ns ls, Sp.has ns (Sp.c0 x) = true := Sp.ordF_has _ [] (by simp)
theorem Sp.ord_le {ns ls : List (List C)} : (Sp.ord ns ls).length ≤ ns.length := by
 have := Sp.ordF_len (ns := ns) (ls := ls) ns.length []
 simpa [Sp.ord] using this
theorem Sp.gV_set {b : List (List C)} {i j v : Int} (h0 : 0 ≤ i) (h1 : i < (b.length : Int)) (hj : 0 ≤ j) : Sp.gV (rSet b i [.i v]) j = if i = j then v else Sp.gV b j := by
 unfold Sp.gV rGet rSet
 rw [List.getD_eq_getElem?_getD, List.getD_eq_getElem?_getD, List.getElem?_set]
 by_cases h : i = j
 · subst h
   rw [if_pos rfl, if_pos rfl, if_pos (by omega)]; rfl
 · rw [if_neg (by omega), if_neg h]
theorem Sp.okB_set {n : Nat} {k v i : Int} {b : List (List C)} (h : Sp.okB n k b) (h0 : 0 ≤ i) (h1 : i < (n : Int)) (hv : 0 ≤ v ∧ v ≤ k * 1099511627776) : Sp.okB n k (rSet b i [.i v]) := by
 refine ⟨by unfold rSet; rw [List.length_set]; exact h.1, fun j j0 j1 => ?_⟩
 rw [Sp.gV_set h0 (by rw [h.1]; exact h1) j0]
 split
 · exact hv
 · exact h.2 j j0 j1
theorem Sp.okB_up {n : Nat} {k : Int} {b : List (List C)} (h : Sp.okB n k b) : Sp.okB n (k + 1) b := ⟨h.1, fun i h0 h1 => by have := h.2 i h0 h1; omega⟩
theorem Sp.cn_init {b : List (List C)} {i : Int} {bs : List (List C)} {n : Nat} {k : Int} (h : Sp.okB n k b) : Sp.cnI b i bs n k 0 b := ⟨by omega, by omega, by simp [Sp.cr1], h⟩
theorem Sp.cn_step {b0 b : List (List C)} {i : Int} {bs : List (List C)} {n : Nat} {k j : Int} (h : Sp.cnI b0 i bs n k j b) (hj : j < (bs.length : Int)) (h0 : 0 ≤ i) (h1 : i < (n : Int)) (g0 : 0 ≤ Sp.c0 (rGet bs j)) (g1 : Sp.c0 (rGet bs j) < (n : Int)) :
 Sp.cnI b0 i bs n k (j + 1) (rSet b i [.i (max (Sp.gV b i) (Sp.gV b (Sp.c0 (rGet bs j))))]) := by
 obtain ⟨j0, j1, e, hb⟩ := h
 refine ⟨by omega, by omega, ?_, Sp.okB_set hb h0 h1 ?_⟩
 · rw [Sp.take_succ j0 hj]
   unfold Sp.cr1 at e ⊢
   rw [List.foldl_append, ← e]; rfl
 · have a := hb.2 i h0 h1
   have c := hb.2 _ g0 g1
   omega
theorem Sp.cn_end {b0 b : List (List C)} {i : Int} {bs : List (List C)} {n : Nat} {k j : Int} (h : Sp.cnI b0 i bs n k j b) (hj : ¬ j < (bs.length : Int)) : b = Sp.cr1 b0 i bs ∧ Sp.okB n k b := by
 obtain ⟨j0, j1, e, hb⟩ := h
 rw [List.take_of_length_le (by omega)] at e
 exact ⟨e, hb⟩
theorem Sp.cr_init {cs bf os : List (List C)} {n : Nat} : Sp.crI cs bf os n 0 (List.replicate n [.i 0]) 0 := by
 refine ⟨by omega, by omega, by simp, ⟨by simp, fun i h0 h1 => ?_⟩, by omega, by omega⟩
 have : Sp.gV (List.replicate n [C.i 0]) i = 0 := by
  unfold Sp.gV rGet
  rw [List.getD_eq_getElem?_getD, List.getElem?_replicate, if_pos (by omega)]; rfl
 omega
theorem Sp.cr_step {cs bf os b b' : List (List C)} {n : Nat} {k j out : Int} (h : Sp.crI cs bf os n k b out) (hk : k < (os.length : Int)) (h0 : 0 ≤ Sp.c0 (rGet os k)) (h1 : Sp.c0 (rGet os k) < (n : Int))
 (hc : 0 ≤ Sp.gV cs (Sp.c0 (rGet os k)) ∧ Sp.gV cs (Sp.c0 (rGet os k)) ≤ 1099511627776)
 (hb : Sp.cnI b (Sp.c0 (rGet os k)) ((rGet bf (Sp.c0 (rGet os k))).headD default).list n k j b') (hj : ¬ j < (((rGet bf (Sp.c0 (rGet os k))).headD default).list.length : Int)) :
 Sp.crI cs bf os n (k + 1) (rSet b' (Sp.c0 (rGet os k)) [.i (Sp.gV b' (Sp.c0 (rGet os k)) + Sp.gV cs (Sp.c0 (rGet os k)))]) (max out (Sp.gV (rSet b' (Sp.c0 (rGet os k)) [.i (Sp.gV b' (Sp.c0 (rGet os k)) + Sp.gV cs (Sp.c0 (rGet os k)))]) (Sp.c0 (rGet os k)))) := by
 obtain ⟨k0, k1, e, ob, o0, o1⟩ := h
 obtain ⟨e1, ob'⟩ := Sp.cn_end hb hj
 have hg := ob'.2 _ h0 h1
 have hs : Sp.okB n (k + 1) (rSet b' (Sp.c0 (rGet os k)) [.i (Sp.gV b' (Sp.c0 (rGet os k)) + Sp.gV cs (Sp.c0 (rGet os k)))]) := Sp.okB_set (Sp.okB_up ob') h0 h1 (by omega)
 have hs' := hs.2 _ h0 h1
 refine ⟨by omega, by omega, ?_, hs, by omega, by omega⟩
 rw [Sp.take_succ k0 hk, List.foldl_append, e]
 simp only [List.foldl_cons, List.foldl_nil, Sp.crS, Sp.crB]
 rw [← e1]
theorem Sp.sm_init {cs : List (List C)} : Sp.smI cs 0 0 := ⟨by omega, by omega, by simp [Sp.sum], by omega, by omega⟩
theorem Sp.sm_step {cs : List (List C)} {k a : Int} (h : Sp.smI cs k a) (hk : k < (cs.length : Int)) (hc : 0 ≤ Sp.c0 (rGet cs k) ∧ Sp.c0 (rGet cs k) ≤ 1099511627776) : Sp.smI cs (k + 1) (a + Sp.c0 (rGet cs k)) := by
 obtain ⟨k0, k1, e, a0, a1⟩ := h
 refine ⟨by omega, by omega, ?_, by omega, by omega⟩
 rw [Sp.take_succ k0 hk]
 unfold Sp.sum at e ⊢
 rw [List.foldl_append, ← e]; rfl
theorem Sp.sm_end {cs : List (List C)} {k a : Int} (h : Sp.smI cs k a) (hk : ¬ k < (cs.length : Int)) : a = Sp.sum cs := by
 obtain ⟨k0, k1, e, _⟩ := h
 rw [e, List.take_of_length_le (by omega)]
theorem Sp.good_at {cs : List (List C)} (h : Sp.idx Sp.badC cs 0 < 0) {z : Int} (h0 : 0 ≤ z) (h1 : z < (cs.length : Int)) : 0 ≤ Sp.c0 (rGet cs z) ∧ Sp.c0 (rGet cs z) ≤ 1099511627776 := by
 have := (Sp.idx_no cs 0 (by omega)).1 h _ (Sp.rGet_mem h0 h1)
 unfold Sp.badC at this
 rw [decide_eq_false_iff_not] at this
 omega
end Go
namespace Go.Sx
def ct82 : Ct := { ps := [(false, [.int .i64])], rs := [(false, [.bool])], pre := fun _ => True, out := fun a => [[.b (Sp.badC [.i (cel 0 (arg 0 a)).int])]] }
def tb82 : List (Nat × Ct) := []
def A82  : FuncId → Nat → LoopAnn := fun _ _ => LoopAnn.unroll 200
abbrev B82 (c : Int) : Prop := vcF Go.Proofs.Tryz.prog (look tb82) (fun _ => false) (A82) 6 82 [.int .i64 c] [] (fun sv heap => Gives [(false, [.bool])] [[.b (Sp.badC [.i c])]] sv heap)
theorem e82 (c : Int) : B82 c = ((bLt c 0 = false → (bLt 1099511627776 c = Sp.badC [C.i c] ∧ True) ∧ True) ∧ (bLt c 0 = true → (true = Sp.badC [C.i c] ∧ True) ∧ True)) := by kernel_rfl
theorem v82 (c : Int) : Holds (Wfs [.int .i64 c] → True → B82 c) := by
 refine ⟨fun hw hp => ?_⟩
 rw [e82]
 have e : Sp.badC [.i c] = decide (c < 0 ∨ 1099511627776 < c) := rfl
 rw [e]
 simp only [bLt, decide_eq_true_eq, decide_eq_false_iff_not, eq_self, true_and, and_true, true_implies]
 exact ⟨fun h => by rw [Bool.eq_iff_iff, decide_eq_true_eq, decide_eq_true_eq]; omega, fun h => by symm; rw [decide_eq_true_eq]; omega⟩
theorem s82 : SoundCt Go.Proofs.Tryz.prog 82 ct82 :=
 contractH followsMixed (look_sound (show Tb Go.Proofs.Tryz.prog tb82 from trivial)) (fun _ => false) (fun _ => A82) 6 82 ct82 rfl (by simp [ct82]) fun a => Eq.mp (by kernel_rfl) (v82 ((cel 0 (arg 0 a)).int))
end Go.Sx
namespace Go.Sx
def ct3000126 : Ct := { ps := [], rs := [], pre := fun _ => False, out := fun _ => [] }
theorem s3000126 : SoundCt Go.Proofs.Tryz.prog 3000126 ct3000126 :=
 ⟨fun _ _ h => False.elim h, fun _ _ _ _ _ _ _ _ _ h _ => False.elim h, fun t e h => (by cases h), fun t e r _ h => (by cases h), fun t e _ _ h => (by cases h)⟩
end Go.Sx
namespace Go.Sx
def ct41 : Ct := { ps := [(true, [.sl [.int .i64, .int .i64, .int .i64, .int .i64], .sl [.int .i64, .int .i64, .int .i64, .int .i64]]), (false, [.sl [.int .i64]]), (false, [.int .i64])], rs := [(false, [.int .i64])], pre := fun _ => True, out := fun a => [[.i (Sp.bnd (cel 0 (arg 0 a)).list (cel 1 (arg 0 a)).list (cel 0 (arg 1 a)).list (cel 0 (arg 2 a)).int)]] }
def tb41 : List (Nat × Ct) := [(83, ct83), (85, ct85), (82, ct82), (3000126, ct3000126)]
def A41 (ns : List (List C)) (ls : List (List C)) (cs : List (List C)) (w : Int) : FuncId → Nat → LoopAnn := fun ff ii => bif Nat.beq ff 64 then ( bif Nat.beq ii 1000004 then .cut Unit (fun _ => Sp.vld ns ls = true ∧ cs.length = ns.length ∧ Sp.idx Sp.badC cs 0 < 0 ∧ 1 ≤ w ∧ w ≤ 8) (fun _ => []) (fun _ => []) [] [0, 1, 2, 3, 6, 7, 8, 9, 10, 11, 12, 15, 17, 18, 42, 53, 54, 55, 56, 73, 74, 75, 76, 96, 97, 98, 99] else bif Nat.beq ii 6 then .on (fun sv0 => (match sv0.tmps.getD 9 .undef with | .ref kp _ => (match sv0.heap[kp]? with | some (.box [x0, x1, x2, .own km cm, x4, .own kb cb] tp) => .inv (Int × List (Int × List C)) (fun z => Sp.pmI ns z.1 z.2) (fun z => [(55, .int .i64 z.1)]) (fun z => [(km, .mp .i64 false [.int .i64] 0 z.2)]) [km] [0, 1, 2, 3, 6, 7, 8, 9, 10, 11, 12, 15, 17, 18, 42, 53, 54, 55, 56, 73, 74, 75, 76, 96, 97, 98, 99] (fun z => ns.length - z.1.toNat) | _ => .unroll 0) | _ => .unroll 0)) else bif Nat.beq ii 12 then .ghostB 9 4 [.int .i64] 3 (.on (fun sv0 => match sv0.tmps.getD 9 .undef, sv0.tmps.getD 73 .undef with | .ref kp _, .sl _ oq => (match sv0.heap[kp]? with | some (.box [x0, x1, x2, .own km cm, .own ko co, .own kb cb] tp) => .inv (Int × List (List C)) (fun z => Sp.osI ns oq z.1 z.2) (fun z => [(75, .int .i64 z.1)]) (fun z => [(ko, .row [.int .i64] 3 0 z.2), (kp, .box [x0, x1, x2, .own km cm, .own ko 0, .own kb cb] tp)]) [ko, kp] [0, 1, 2, 3, 6, 7, 8, 9, 10, 11, 12, 15, 17, 18, 42, 53, 54, 55, 56, 73, 74, 75, 76, 96, 97, 98, 99] (fun z => oq.length - z.1.toNat) | _ => .unroll 0) | _, _ => .unroll 0)) else bif Nat.beq ii 17 then .hand (nestHand (fun sv0 => match sv0.tmps.getD 9 .undef, sv0.tmps.getD 96 .undef with | .ref kp _, .sl _ lq => (match sv0.heap[kp]? with | some (.box [_, _, _, .own km _, _, .own kb _] _) => (match sv0.heap[km]? with | some (.mp _ _ _ _ ms) => some { kb := kb, kp := [0, 1, 2, 3, 6, 7, 8, 9, 10, 11, 12, 15, 17, 18, 42, 53, 54, 55, 56, 73, 74, 75, 76, 96, 97, 98, 99], e := [.int .i64], ty := 3, X := Int, pre := fun z => 0 ≤ z ∧ z ≤ (lq.length : Int), fin := fun z => ¬ z < (lq.length : Int), ts := fun z => [(98, .int .i64 z)], sel := fun z => Sp.gm ms (Sp.c2 (rGet lq z)), rows := fun nn z => Sp.befR (Sp.gm ms) lq nn z, mu := fun z => lq.length - z.toNat } | _ => none) | _ => none) | _, _ => none)) else .unroll 0) else bif Nat.beq ff 100 then (.inv (Int) (fun z => Sp.at Sp.badC cs z) (fun z => [(8, .int .i64 z)]) (fun z => []) [] [0, 1, 4, 5, 7, 8, 9, 16] (fun z => cs.length - z.toNat)) else bif Nat.beq ff 65 then ( bif Nat.beq ii 4 then .on (fun sv0 => (match sv0.tmps.getD 0 .undef, sv0.tmps.getD 3 .undef with | .ref kp _, .own rb _ => (match sv0.heap[kp]? with | some (.box [_, _, _, _, .own ko _, .own kb _] _) => (match sv0.heap[ko]?, sv0.heap[kb]?, sv0.heap[rb]? with | some (.row _ _ _ oq), some (.row _ _ _ bq), some (.row _ _ _ b0) => .inv (Int × List (List C) × Int) (fun z => Sp.crI cs bq oq ns.length z.1 z.2.1 z.2.2) (fun z => [(21, .int .i64 z.1), (4, .int .i64 z.2.2)]) (fun z => [(rb, .row [.int .i64] 3 0 z.2.1)]) [rb] ([0, 2, 3, 4, 6, 8, 19, 20, 21, 22, 31, 32, 33, 34] ++ [1000000 + rb]) (fun z => oq.length - z.1.toNat) | _, _, _ => .unroll 0) | _ => .unroll 0) | _, _ => .unroll 0)) else bif Nat.beq ii 7 then .on (fun sv0 => match sv0.tmps.getD 6 .undef, sv0.tmps.getD 31 .undef, sv0.tmps.getD 21 .undef with | .int _ iq, .sl _ lq, .int _ kq => (match sv0.tmps.getD 0 .undef, sv0.tmps.getD 3 .undef with | .ref kp _, .own rb _ => (match sv0.heap[kp]? with | some (.box [_, _, _, _, .own ko _, .own kb _] _) => (match sv0.heap[ko]?, sv0.heap[kb]?, sv0.heap[rb]? with | some (.row _ _ _ oq), some (.row _ _ _ bq), some (.row _ _ _ b0) => .inv (Int × List (List C)) (fun z => Sp.cnI b0 iq lq ns.length kq z.1 z.2) (fun z => [(33, .int .i64 z.1)]) (fun z => [(rb, .row [.int .i64] 3 0 z.2)]) [rb] ([0, 2, 3, 4, 6, 8, 19, 20, 21, 22, 31, 32, 33, 34] ++ [1000000 + rb]) (fun z => lq.length - z.1.toNat) | _, _, _ => .unroll 0) | _ => .unroll 0) | _, _ => .unroll 0) | _, _, _ => .unroll 0) else .unroll 0) else ( bif Nat.beq ii 6 then .inv (Int × Int) (fun z => Sp.smI cs z.1 z.2) (fun z => [(23, .int .i64 z.1), (9, .int .i64 z.2)]) (fun z => []) [] [0, 1, 2, 3, 6, 7, 8, 9, 11, 20, 21, 22, 23, 24] (fun z => cs.length - z.1.toNat) else .unroll 0)
abbrev B41 (ns : List (List C)) (ls : List (List C)) (cs : List (List C)) (w : Int) : Prop := vcF Go.Proofs.Tryz.prog (look tb41) (fun _ => false) (A41 ns ls cs w) 8 41 [.agg [.sl [.int .i64, .int .i64, .int .i64, .int .i64] ns, .sl [.int .i64, .int .i64, .int .i64, .int .i64] ls], .sl [.int .i64] cs, .int .i64 w] [] (fun sv heap => Gives [(false, [.int .i64])] [[.i (Sp.bnd ns ls cs w)]] sv heap)
def h41_0 : List (List C) → List (List C) → List (List C) → Int → List SV := fun (ns ls cs : List (List C)) (w : Int) => [SV.agg [SV.sl [.int .i64, .int .i64, .int .i64, .int .i64] ns, SV.sl [.int .i64, .int .i64, .int .i64, .int .i64] ls], SV.sl [.int .i64] cs, SV.int .i64 w, SV.ref 1 0, SV.fn 82 [], SV.undef, SV.undef, SV.undef, SV.undef, SV.undef, SV.undef, SV.undef, SV.undef, SV.undef, SV.undef, SV.undef, SV.undef, SV.undef, SV.undef, SV.undef, SV.undef, SV.undef, SV.undef, SV.undef]
def h41_1 : List (List C) → List (List C) → List HB := fun (ns ls : List (List C)) => [HB.box [SV.sl [.int .i64, .int .i64, .int .i64, .int .i64] ns, SV.sl [.int .i64, .int .i64, .int .i64, .int .i64] ls] 50, HB.box [SV.sl [.int .i64, .int .i64, .int .i64, .int .i64] ns, SV.sl [.int .i64, .int .i64, .int .i64, .int .i64] ls] 50]
def h41_2 : List (List C) → List (List C) → List (List C) → Int → List SV := fun (ns ls cs : List (List C)) (w : Int) => [SV.agg [SV.sl [.int .i64, .int .i64, .int .i64, .int .i64] ns, SV.sl [.int .i64, .int .i64, .int .i64, .int .i64] ls], SV.sl [.int .i64] cs, SV.int .i64 w, SV.ref 1 0, SV.any, SV.any, SV.fn 82 [], SV.ref 4 0, SV.undef, SV.undef, SV.undef, SV.undef, SV.any, SV.sl [.int .i64, .int .i64, .int .i64, .int .i64] ns, SV.int .i64 (iLen ns), SV.undef, SV.undef, SV.undef, SV.undef, SV.undef, SV.undef, SV.undef, SV.undef]
def h41_3 : List (List C) → List (List C) → List (List C) → List HB := fun (ns ls cs : List (List C)) => [HB.box [SV.sl [.int .i64, .int .i64, .int .i64, .int .i64] ns, SV.sl [.int .i64, .int .i64, .int .i64, .int .i64] ls] 50, HB.box [SV.sl [.int .i64, .int .i64, .int .i64, .int .i64] ns, SV.sl [.int .i64, .int .i64, .int .i64, .int .i64] ls] 50, HB.gone, HB.hrow 22 0 (iLen ns).toNat (-1) SV.any fun (x : Nat) => Value.slice none 0 0, HB.box [SV.sl [.int .i64, .int .i64, .int .i64, .int .i64] ns, SV.sl [.int .i64, .int .i64, .int .i64, .int .i64] ls, SV.sl [.int .i64] cs, SV.own 2 0, SV.nils, SV.own 3 0] 128]
def h41_4 : List (List C) → List (List C) → List (List C) → Int → Int × List (Int × List C) → List SV := fun (ns ls cs : List (List C)) (w : Int) (x : Int × List (Int × List C)) => [SV.agg [SV.sl [.int .i64, .int .i64, .int .i64, .int .i64] ns, SV.sl [.int .i64, .int .i64, .int .i64, .int .i64] ls], SV.sl [.int .i64] cs, SV.int .i64 w, SV.ref 1 0, SV.any, SV.any, SV.fn 82 [], SV.ref 4 0, SV.any, SV.any, SV.sl [.int .i64] (Sp.ordE ns ls), SV.undef, SV.undef, SV.any, SV.sl [.int .i64, .int .i64, .int .i64, .int .i64] ns, SV.int .i64 (iLen ns), SV.int .i64 x.1, SV.blit false, SV.sl [.int .i64] (Sp.ordE ns ls), SV.int .i64 (iLen (Sp.ordE ns ls)), SV.undef, SV.undef, SV.undef, SV.undef]
def h41_5 : List (List C) → List (List C) → Int × List (Int × List C) → List HB := fun (ns ls : List (List C)) (x : Int × List (Int × List C)) => [HB.box [SV.sl [.int .i64, .int .i64, .int .i64, .int .i64] ns, SV.sl [.int .i64, .int .i64, .int .i64, .int .i64] ls] 50, HB.box [SV.sl [.int .i64, .int .i64, .int .i64, .int .i64] ns, SV.sl [.int .i64, .int .i64, .int .i64, .int .i64] ls] 50, HB.mp .i64 false [Sh.int .i64] 0 x.2, HB.hrow 22 0 (iLen ns).toNat (-1) SV.any fun (x : Nat) => Value.slice none 0 0, HB.gone, HB.gone]
def h41_6 : List (List C) → List (List C) → List (List C) → Int → List SV := fun (ns ls cs : List (List C)) (w : Int) => [SV.agg [SV.sl [.int .i64, .int .i64, .int .i64, .int .i64] ns, SV.sl [.int .i64, .int .i64, .int .i64, .int .i64] ls], SV.sl [.int .i64] cs, SV.int .i64 w, SV.ref 0 0, SV.lit .i64 0, SV.ref 4 0, SV.blit true, SV.blit false, SV.sl [.int .i64] cs, SV.int .i64 (iLen cs)]
def h41_7 : List (List C) → List (List C) → List (List C) → Int × List (Int × List C) → Int × List (List C) → Int → List HB := fun (ns ls cs : List (List C)) (x : Int × List (Int × List C)) (x_1 : Int × List (List C)) (x_2 : Int) => [HB.box [SV.sl [.int .i64, .int .i64, .int .i64, .int .i64] ns, SV.sl [.int .i64, .int .i64, .int .i64, .int .i64] ls] 50, HB.box [SV.sl [.int .i64, .int .i64, .int .i64, .int .i64] ns, SV.sl [.int .i64, .int .i64, .int .i64, .int .i64] ls] 50, HB.mp .i64 false [Sh.int .i64] 0 x.2, HB.row [Sh.sl [Sh.int .i64]] 22 0 (Sp.befR (Sp.gm x.2) ls (iLen ns).toNat x_2), HB.box [SV.sl [.int .i64, .int .i64, .int .i64, .int .i64] ns, SV.sl [.int .i64, .int .i64, .int .i64, .int .i64] ls, SV.sl [.int .i64] cs, SV.own 2 0, SV.own 5 (0 + 1), SV.own 3 0] 128, HB.row [.int .i64] 3 (0 + 1) x_1.2]
def h41_8 : List (List C) → List (List C) → Int × List (Int × List C) → Int × List (List C) → Int → Int × List (List C) × Int → List SV := fun (ns ls : List (List C)) (x : Int × List (Int × List C)) (x_1 : Int × List (List C)) (x_2 : Int) (x_3 : Int × List (List C) × Int) => [SV.ref 4 0, SV.lit .i64 0, SV.own 6 0, SV.int .i64 x_3.snd.2, SV.int .i64 ((rGet x_1.2 x_3.1).headD default).int, SV.own 5 (0 + 1), SV.int .i64 (iLen x_1.2), SV.int .i64 x_3.1, SV.blit true, SV.sl [.int .i64] ((rGet (Sp.befR (Sp.gm x.2) ls (iLen ns).toNat x_2) ((rGet x_1.2 x_3.1).headD default).int).headD default).list, SV.int .i64 (iLen ((rGet (Sp.befR (Sp.gm x.2) ls (iLen ns).toNat x_2) ((rGet x_1.2 x_3.1).headD default).int).headD default).list), SV.undef]
def h41_9 : List (List C) → List (List C) → List (List C) → Int × List (Int × List C) → Int × List (List C) → Int → List HB := fun (ns ls cs : List (List C)) (x : Int × List (Int × List C)) (x_1 : Int × List (List C)) (x_2 : Int) => [HB.box [SV.sl [.int .i64, .int .i64, .int .i64, .int .i64] ns, SV.sl [.int .i64, .int .i64, .int .i64, .int .i64] ls] 50, HB.box [SV.sl [.int .i64, .int .i64, .int .i64, .int .i64] ns, SV.sl [.int .i64, .int .i64, .int .i64, .int .i64] ls] 50, HB.mp .i64 false [Sh.int .i64] 0 x.2, HB.row [Sh.sl [Sh.int .i64]] 22 0 (Sp.befR (Sp.gm x.2) ls (iLen ns).toNat x_2), HB.box [SV.sl [.int .i64, .int .i64, .int .i64, .int .i64] ns, SV.sl [.int .i64, .int .i64, .int .i64, .int .i64] ls, SV.sl [.int .i64] cs, SV.own 2 0, SV.own 5 (0 + 1), SV.own 3 0] 128, HB.row [.int .i64] 3 (0 + 1) x_1.2, HB.gone]
def h41_10 : List (List C) → List (List C) → List (List C) → Int → Int × List (Int × List C) → Int × List (List C) → List SV := fun (ns ls cs : List (List C)) (w : Int) (x : Int × List (Int × List C)) (x_1 : Int × List (List C)) => [SV.agg [SV.sl [.int .i64, .int .i64, .int .i64, .int .i64] ns, SV.sl [.int .i64, .int .i64, .int .i64, .int .i64] ls], SV.sl [.int .i64] cs, SV.int .i64 w, SV.ref 1 0, SV.any, SV.any, SV.fn 82 [], SV.ref 4 0, SV.any, SV.any, SV.sl [.int .i64] (Sp.ordE ns ls), SV.any, SV.any, SV.sl [.int .i64, .int .i64, .int .i64, .int .i64] ns, SV.int .i64 (iLen ns), SV.int .i64 x.1, SV.blit false, SV.sl [.int .i64] (Sp.ordE ns ls), SV.int .i64 (iLen (Sp.ordE ns ls)), SV.int .i64 x_1.1, SV.blit false, SV.sl [.int .i64, .int .i64, .int .i64, .int .i64] ls, SV.int .i64 (iLen ls)]
def h41_11 : List (List C) → List (List C) → List (List C) → Int × List (Int × List C) → Int × List (List C) → List HB := fun (ns ls cs : List (List C)) (x : Int × List (Int × List C)) (x_1 : Int × List (List C)) => [HB.box [SV.sl [.int .i64, .int .i64, .int .i64, .int .i64] ns, SV.sl [.int .i64, .int .i64, .int .i64, .int .i64] ls] 50, HB.box [SV.sl [.int .i64, .int .i64, .int .i64, .int .i64] ns, SV.sl [.int .i64, .int .i64, .int .i64, .int .i64] ls] 50, HB.mp .i64 false [Sh.int .i64] 0 x.2, HB.gone, HB.box [SV.sl [.int .i64, .int .i64, .int .i64, .int .i64] ns, SV.sl [.int .i64, .int .i64, .int .i64, .int .i64] ls, SV.sl [.int .i64] cs, SV.own 2 0, SV.own 5 (0 + 1), SV.own 3 0] 128, HB.row [.int .i64] 3 (0 + 1) x_1.2]
def m41_0 (ns : List (List C)) (ls : List (List C)) (x : Int × List (Int × List C)) (x_1 : Int × List (List C)) (x_2 : Int) (x_4 : Int × List (List C) × Int) : List C := (rGet (Sp.befR (Sp.gm x.2) ls (iLen ns).toNat x_2) (q0 (rGet x_1.2 x_4.1)))
def m41_1 (ns : List (List C)) (ls : List (List C)) (x : Int × List (Int × List C)) (x_2 : Int) : List (List C) := (Sp.befR (Sp.gm x.2) ls (iLen ns).toNat x_2)
def m41_2 : Prop := IntKind.i64 = IntKind.i64
def m41_3 (ns : List (List C)) (ls : List (List C)) (cs : List (List C)) (w : Int) : Prop := (bLt w 1 = false → (bLt 8 w = true → True ∧ (0 = Sp.bnd ns ls cs w ∧ True) ∧ True) ∧ (bLt 8 w = false → (true = true ∧ h41_0 ns ls cs w = h41_0 ns ls cs w) ∧ h41_1 ns ls = h41_1 ns ls ∧ ∃ (y : Unit), (Sp.vld ns ls = true ∧ cs.length = ns.length ∧ Sp.idx Sp.badC cs 0 < 0 ∧ 1 ≤ w ∧ w ≤ 8) ∧ true = true ∧ True ∧ True)) ∧ (bLt w 1 = true → True ∧ (0 = Sp.bnd ns ls cs w ∧ True) ∧ True)
def m41_5 (x_1 : Int × List (List C)) (x_4 : Int × List (List C) × Int) : Int := (q0 (rGet x_1.2 x_4.1))
def m41_6 : Prop := [Sh.int .i64] = [Sh.int .i64]
def m41_7 : Prop := true = true ∧ true = true
def m41_8 : List Sh := [Sh.int .i64, Sh.int .i64, Sh.int .i64, Sh.int .i64]
def m41_4 (ns : List (List C)) (ls : List (List C)) (cs : List (List C)) : Prop := (((m41_8 = m41_8 ∧ ns = ns) ∧ (m41_8 = m41_8 ∧ ls = ls) ∧ (m41_6 ∧ cs = cs) ∧ (2 = 2 ∧ 0 = 0) ∧ (5 = 5 ∧ 0 + 1 = 0 + 1) ∧ (3 = 3 ∧ 0 = 0) ∧ True) ∧ 128 = 128) ∧ True
def m41_9 (ls : List (List C)) (x : Int × List (Int × List C)) (x_2 : Int) : Int := (q0 (kGet x.2 (q2 (rGet ls x_2)) [C.i 0]))
theorem e41 (ns : List (List C)) (ls : List (List C)) (cs : List (List C)) (w : Int) : B41 ns ls cs w = ((∀ (x : Unit), m41_7) ∧ (True ∧ (True → True ∧ (bNot (Sp.vld ns ls) = false → pLe (iLen cs) 9223372036854775807 → pLe (iLen ns) 9223372036854775807 → (bNe (iLen cs) (iLen ns) = false → pLe (iLen cs) 9223372036854775807 → (∃ (x : Int), Sp.at Sp.badC cs x ∧ true = true ∧ ((m41_2 ∧ 0 = x) ∧ True) ∧ True) ∧ (∀ (x : Int), m41_7) ∧ ∀ (x : Int), Sp.at Sp.badC cs x → InR .i64 x ∧ True → True → (bLt x (iLen cs) = true → pIn 0 (iLen cs) x ∧ (InR .i64 (q0 (rGet cs x)) → True ∧ (True → (Sp.badC [C.i (q0 (rGet cs x))] = true → (bLe 0 x = false → (m41_3 ns ls cs w)) ∧ (bLe 0 x = true → True ∧ (0 = Sp.bnd ns ls cs w ∧ True) ∧ True)) ∧ (Sp.badC [C.i (q0 (rGet cs x))] = false → InR .i64 (iAdd x 1) ∧ (true = true ∧ [SV.sl [.int .i64] cs, SV.fn 82 [], SV.int .i64 (iLen cs)] = [SV.sl [.int .i64] cs, SV.fn 82 [], SV.int .i64 (iLen cs)]) ∧ h41_1 ns ls = h41_1 ns ls ∧ ∃ (y : Int), Sp.at Sp.badC cs y ∧ true = true ∧ ((m41_2 ∧ iAdd x 1 = y) ∧ True) ∧ True ∧ cs.length - y.toNat < cs.length - x.toNat)))) ∧ (bLt x (iLen cs) = false → (m41_3 ns ls cs w))) ∧ (bNe (iLen cs) (iLen ns) = true → True ∧ (0 = Sp.bnd ns ls cs w ∧ True) ∧ True)) ∧ (bNot (Sp.vld ns ls) = true → True ∧ (0 = Sp.bnd ns ls cs w ∧ True) ∧ True))) ∧ ∀ (x : Unit), Sp.vld ns ls = true ∧ cs.length = ns.length ∧ Sp.idx Sp.badC cs 0 < 0 ∧ 1 ≤ w ∧ w ≤ 8 → True → True → pLe (iLen ns) 9223372036854775807 → (pLe 0 (iLen ns) ∧ pLe (iLen ns) (iLen ns) ∧ pRoom 24 (iLen ns)) ∧ (pLe (iLen ns) 9223372036854775807 → (∃ (x : Int × List (Int × List C)), Sp.pmI ns x.1 x.2 ∧ true = true ∧ ((m41_2 ∧ 0 = x.1) ∧ True) ∧ (m41_2 ∧ false = false ∧ m41_6 ∧ 0 = 0 ∧ [] = x.2) ∧ True) ∧ (∀ (x : Int × List (Int × List C)), m41_7) ∧ ∀ (x : Int × List (Int × List C)), Sp.pmI ns x.1 x.2 → InR .i64 x.1 ∧ True → (∀ (x_1 : Int × List C), x_1 ∈ x.2 → WfCs [.int .i64] x_1.2) ∧ True → (bLt x.1 (iLen ns) = true → pIn 0 (iLen ns) x.1 ∧ (InR .i64 (q0 (rGet ns x.1)) ∧ InR .i64 (q1 (rGet ns x.1)) ∧ InR .i64 (q2 (rGet ns x.1)) ∧ InR .i64 (q3 (rGet ns x.1)) ∧ True → InR .i64 (iAdd x.1 1) ∧ (true = true ∧ h41_2 ns ls cs w = h41_2 ns ls cs w) ∧ h41_3 ns ls cs = h41_3 ns ls cs ∧ ∃ (y : Int × List (Int × List C)), Sp.pmI ns y.1 y.2 ∧ true = true ∧ ((m41_2 ∧ iAdd x.1 1 = y.1) ∧ True) ∧ ((m41_2 ∧ false = false ∧ m41_6 ∧ 0 = 0 ∧ kPut x.2 (q0 (rGet ns x.1)) [C.i x.1] = y.2) ∧ True) ∧ ns.length - y.1.toNat < ns.length - x.1.toNat)) ∧ (bLt x.1 (iLen ns) = false → True ∧ (((WL [.int .i64] (Sp.ordE ns ls))) ∧ InR .i64 (Sp.vE ns ls) ∧ True → pLe (iLen (Sp.ordE ns ls)) 9223372036854775807 → (∃ (x : Int × List (List C)), Sp.osI ns (Sp.ordE ns ls) x.1 x.2 ∧ true = true ∧ ((m41_2 ∧ 0 = x.1) ∧ True) ∧ (m41_6 ∧ 3 = 3 ∧ 0 + 1 = 0 + 1 ∧ [] = x.2) ∧ (m41_4 ns ls cs)) ∧ (∀ (x : Int × List (List C)), m41_7) ∧ ∀ (x_1 : Int × List (List C)), Sp.osI ns (Sp.ordE ns ls) x_1.1 x_1.2 → InR .i64 x_1.1 ∧ True → ((WL [.int .i64] x_1.2)) ∧ (((WL [.int .i64, .int .i64, .int .i64, .int .i64] ns)) ∧ ((WL [.int .i64, .int .i64, .int .i64, .int .i64] ls)) ∧ ((WL [.int .i64] cs)) ∧ True ∧ True ∧ True ∧ True) ∧ True → (bLt x_1.1 (iLen (Sp.ordE ns ls)) = true → pIn 0 (iLen (Sp.ordE ns ls)) x_1.1 ∧ (InR .i64 (q0 (rGet (Sp.ordE ns ls) x_1.1)) → InR .i64 (q0 (kGet x.2 (q0 (rGet (Sp.ordE ns ls) x_1.1)) [C.i 0])) → pRoom 8 (iLen (x_1.2 ++ [[C.i (q0 (kGet x.2 (q0 (rGet (Sp.ordE ns ls) x_1.1)) [C.i 0]))]])) ∧ InR .i64 (iAdd x_1.1 1) ∧ (true = true ∧ h41_4 ns ls cs w x = h41_4 ns ls cs w x) ∧ h41_5 ns ls x = h41_5 ns ls x ∧ ∃ (y : Int × List (List C)), Sp.osI ns (Sp.ordE ns ls) y.1 y.2 ∧ true = true ∧ ((m41_2 ∧ iAdd x_1.1 1 = y.1) ∧ True) ∧ ((m41_6 ∧ 3 = 3 ∧ 0 + 1 = 0 + 1 ∧ x_1.2 ++ [[C.i (q0 (kGet x.2 (q0 (rGet (Sp.ordE ns ls) x_1.1)) [C.i 0]))]] = y.2) ∧ (m41_4 ns ls cs)) ∧ (Sp.ordE ns ls).length - y.1.toNat < (Sp.ordE ns ls).length - x_1.1.toNat)) ∧ (bLt x_1.1 (iLen (Sp.ordE ns ls)) = false → pLe (iLen ls) 9223372036854775807 → true = true ∧ ((-1 = -1 ∧ (fun (x : Nat) => Value.slice none 0 0) = fun (x : Nat) => Value.slice none 0 0) ∧ (iLen ns).toNat ≤ 9223372036854775807) ∧ (∃ (x_2 : Int), (0 ≤ x_2 ∧ x_2 ≤ ↑ls.length) ∧ Sp.befR (Sp.gm x.2) ls (iLen ns).toNat x_2 = List.replicate (iLen ns).toNat [C.l []] ∧ (m41_2 ∧ 0 = x_2) ∧ True) ∧ (∀ (f : Nat → Value) (x : Int), m41_7) ∧ ∀ (f : Nat → Value) (x_2 : Int), 0 ≤ x_2 ∧ x_2 ≤ ↑ls.length → InR .i64 x_2 ∧ True → (m41_1 ns ls x x_2).length = (iLen ns).toNat → (¬x_2 < ↑ls.length → (bLt x_2 (iLen ls) = true → pIn 0 (iLen ls) x_2 ∧ (InR .i64 (q0 (rGet ls x_2)) ∧ InR .i64 (q1 (rGet ls x_2)) ∧ InR .i64 (q2 (rGet ls x_2)) ∧ InR .i64 (q3 (rGet ls x_2)) ∧ True → InR .i64 (m41_9 ls x x_2) → pIn 0 (↑(iLen ns).toNat) (m41_9 ls x x_2) ∧ (m41_9 ls x x_2) = -1 ∧ (InR .i64 (q0 (kGet x.2 (q0 (rGet ls x_2)) [C.i 0])) → False))) ∧ (bLt x_2 (iLen ls) = false → (22 = 22 ∧ 0 = 0 ∧ (iLen ns).toNat = (iLen ns).toNat ∧ -1 = -1) ∧ f = f ∧ True ∧ (pLe (iLen cs) 9223372036854775807 → (∃ (x : Int × Int), Sp.smI cs x.1 x.2 ∧ true = true ∧ ((m41_2 ∧ 0 = x.1) ∧ (m41_2 ∧ 0 = x.2) ∧ True) ∧ True) ∧ (∀ (x : Int × Int), m41_7) ∧ ∀ (x_3 : Int × Int), Sp.smI cs x_3.1 x_3.2 → InR .i64 x_3.1 ∧ InR .i64 x_3.2 ∧ True → True → (bLt x_3.1 (iLen cs) = true → pIn 0 (iLen cs) x_3.1 ∧ (InR .i64 (q0 (rGet cs x_3.1)) → InR .i64 (iAdd x_3.2 (q0 (rGet cs x_3.1))) ∧ InR .i64 (iAdd x_3.1 1) ∧ (true = true ∧ h41_6 ns ls cs w = h41_6 ns ls cs w) ∧ h41_7 ns ls cs x x_1 x_2 = h41_7 ns ls cs x x_1 x_2 ∧ ∃ (y : Int × Int), Sp.smI cs y.1 y.2 ∧ true = true ∧ ((m41_2 ∧ iAdd x_3.1 1 = y.1) ∧ (m41_2 ∧ iAdd x_3.2 (q0 (rGet cs x_3.1)) = y.2) ∧ True) ∧ True ∧ cs.length - y.1.toNat < cs.length - x_3.1.toNat)) ∧ (bLt x_3.1 (iLen cs) = false → InR .i64 (iSub w 1) ∧ (pLe (iLen ns) 9223372036854775807 → (pLe 0 (iLen ns) ∧ pLe (iLen ns) (iLen ns) ∧ pRoom 8 (iLen ns)) ∧ (pLe (iLen x_1.2) 9223372036854775807 → (∃ (x_4 : Int × List (List C) × Int), Sp.crI cs (m41_1 ns ls x x_2) x_1.2 ns.length x_4.1 x_4.snd.1 x_4.snd.2 ∧ true = true ∧ ((m41_2 ∧ 0 = x_4.1) ∧ (m41_2 ∧ 0 = x_4.snd.2) ∧ True) ∧ (m41_6 ∧ 3 = 3 ∧ 0 = 0 ∧ List.replicate (iLen ns).toNat [C.i 0] = x_4.snd.1) ∧ True) ∧ (∀ (x : Int × List (List C) × Int), m41_7) ∧ ∀ (x_4 : Int × List (List C) × Int), Sp.crI cs (m41_1 ns ls x x_2) x_1.2 ns.length x_4.1 x_4.snd.1 x_4.snd.2 → InR .i64 x_4.1 ∧ InR .i64 x_4.snd.2 ∧ True → ((WL [.int .i64] x_4.snd.1)) ∧ True → (bLt x_4.1 (iLen x_1.2) = true → pIn 0 (iLen x_1.2) x_4.1 ∧ (InR .i64 (m41_5 x_1 x_4) → pIn 0 (iLen (m41_1 ns ls x x_2)) (m41_5 x_1 x_4) ∧ ((((m41_0 ns ls x x_1 x_2 x_4).headD default).list.length ≤ 9223372036854775807 ∧ ∀ (x_5 : List C), x_5 ∈ ((m41_0 ns ls x x_1 x_2 x_4).headD default).list → WfCs [.int .i64] x_5) → pLe (iLen ((m41_0 ns ls x x_1 x_2 x_4).headD default).list) 9223372036854775807 → (∃ (x_5 : Int × List (List C)), Sp.cnI x_4.snd.1 (m41_5 x_1 x_4) ((m41_0 ns ls x x_1 x_2 x_4).headD default).list ns.length x_4.1 x_5.1 x_5.2 ∧ true = true ∧ ((m41_2 ∧ 0 = x_5.1) ∧ True) ∧ (m41_6 ∧ 3 = 3 ∧ 0 = 0 ∧ x_4.snd.1 = x_5.2) ∧ True) ∧ (∀ (x : Int × List (List C)), m41_7) ∧ ∀ (x_5 : Int × List (List C)), Sp.cnI x_4.snd.1 (m41_5 x_1 x_4) ((m41_0 ns ls x x_1 x_2 x_4).headD default).list ns.length x_4.1 x_5.1 x_5.2 → InR .i64 x_5.1 ∧ True → ((WL [.int .i64] x_5.2)) ∧ True → (bLt x_5.1 (iLen ((m41_0 ns ls x x_1 x_2 x_4).headD default).list) = true → pIn 0 (iLen ((m41_0 ns ls x x_1 x_2 x_4).headD default).list) x_5.1 ∧ (InR .i64 (q0 (rGet ((m41_0 ns ls x x_1 x_2 x_4).headD default).list x_5.1)) → pIn 0 (iLen x_5.2) (m41_5 x_1 x_4) ∧ (InR .i64 (q0 (rGet x_5.2 (m41_5 x_1 x_4))) → pIn 0 (iLen x_5.2) (q0 (rGet ((m41_0 ns ls x x_1 x_2 x_4).headD default).list x_5.1)) ∧ (InR .i64 (q0 (rGet x_5.2 (q0 (rGet ((m41_0 ns ls x x_1 x_2 x_4).headD default).list x_5.1)))) → pIn 0 (iLen x_5.2) (m41_5 x_1 x_4) ∧ InR .i64 (iAdd x_5.1 1) ∧ (true = true ∧ h41_8 ns ls x x_1 x_2 x_4 = h41_8 ns ls x x_1 x_2 x_4) ∧ h41_9 ns ls cs x x_1 x_2 = h41_9 ns ls cs x x_1 x_2 ∧ ∃ (y : Int × List (List C)), Sp.cnI x_4.snd.1 (m41_5 x_1 x_4) ((m41_0 ns ls x x_1 x_2 x_4).headD default).list ns.length x_4.1 y.1 y.2 ∧ true = true ∧ ((m41_2 ∧ iAdd x_5.1 1 = y.1) ∧ True) ∧ ((m41_6 ∧ 3 = 3 ∧ 0 = 0 ∧ rSet x_5.2 (m41_5 x_1 x_4) [C.i (iMax (q0 (rGet x_5.2 (m41_5 x_1 x_4))) (q0 (rGet x_5.2 (q0 (rGet ((m41_0 ns ls x x_1 x_2 x_4).headD default).list x_5.1)))))] = y.2) ∧ True) ∧ ((m41_0 ns ls x x_1 x_2 x_4).headD default).list.length - y.1.toNat < ((m41_0 ns ls x x_1 x_2 x_4).headD default).list.length - x_5.1.toNat)))) ∧ (bLt x_5.1 (iLen ((m41_0 ns ls x x_1 x_2 x_4).headD default).list) = false → pIn 0 (iLen x_5.2) (m41_5 x_1 x_4) ∧ (InR .i64 (q0 (rGet x_5.2 (m41_5 x_1 x_4))) → pIn 0 (iLen cs) (m41_5 x_1 x_4) ∧ (InR .i64 (q0 (rGet cs (m41_5 x_1 x_4))) → InR .i64 (iAdd (q0 (rGet x_5.2 (m41_5 x_1 x_4))) (q0 (rGet cs (m41_5 x_1 x_4)))) ∧ pIn 0 (iLen x_5.2) (m41_5 x_1 x_4) ∧ pIn 0 (iLen (rSet x_5.2 (m41_5 x_1 x_4) [C.i (iAdd (q0 (rGet x_5.2 (m41_5 x_1 x_4))) (q0 (rGet cs (m41_5 x_1 x_4))))])) (m41_5 x_1 x_4) ∧ (InR .i64 (q0 (rGet (rSet x_5.2 (m41_5 x_1 x_4) [C.i (iAdd (q0 (rGet x_5.2 (m41_5 x_1 x_4))) (q0 (rGet cs (m41_5 x_1 x_4))))]) (m41_5 x_1 x_4))) → InR .i64 (iAdd x_4.1 1) ∧ (true = true ∧ (fun z => z = z) [SV.ref 4 0, SV.lit .i64 0, SV.own 6 0, SV.own 5 (0 + 1), SV.int .i64 (iLen x_1.2), SV.undef]) ∧ h41_9 ns ls cs x x_1 x_2 = h41_9 ns ls cs x x_1 x_2 ∧ ∃ (y : Int × List (List C) × Int), Sp.crI cs (m41_1 ns ls x x_2) x_1.2 ns.length y.1 y.snd.1 y.snd.2 ∧ true = true ∧ ((m41_2 ∧ iAdd x_4.1 1 = y.1) ∧ (m41_2 ∧ iMax x_4.snd.2 (q0 (rGet (rSet x_5.2 (m41_5 x_1 x_4) [C.i (iAdd (q0 (rGet x_5.2 (m41_5 x_1 x_4))) (q0 (rGet cs (m41_5 x_1 x_4))))]) (m41_5 x_1 x_4))) = y.snd.2) ∧ True) ∧ ((m41_6 ∧ 3 = 3 ∧ 0 = 0 ∧ rSet x_5.2 (m41_5 x_1 x_4) [C.i (iAdd (q0 (rGet x_5.2 (m41_5 x_1 x_4))) (q0 (rGet cs (m41_5 x_1 x_4))))] = y.snd.1) ∧ True) ∧ x_1.2.length - y.1.toNat < x_1.2.length - x_4.1.toNat))))))) ∧ (bLt x_4.1 (iLen x_1.2) = false → InR .i64 (iMul (iSub w 1) x_4.snd.2) ∧ InR .i64 (iAdd x_3.2 (iMul (iSub w 1) x_4.snd.2)) ∧ (pNe w 0 ∧ InR .i64 (iQuo (iAdd x_3.2 (iMul (iSub w 1) x_4.snd.2)) w)) ∧ (iQuo (iAdd x_3.2 (iMul (iSub w 1) x_4.snd.2)) w = Sp.bnd ns ls cs w ∧ True) ∧ True))))))) ∧ (¬¬x_2 < ↑ls.length → (0 ≤ Sp.gm x.2 (Sp.c2 (rGet ls x_2)) ∧ Sp.gm x.2 (Sp.c2 (rGet ls x_2)) < ↑(iLen ns).toNat) ∧ (bLt x_2 (iLen ls) = true → pIn 0 (iLen ls) x_2 ∧ (InR .i64 (q0 (rGet ls x_2)) ∧ InR .i64 (q1 (rGet ls x_2)) ∧ InR .i64 (q2 (rGet ls x_2)) ∧ InR .i64 (q3 (rGet ls x_2)) ∧ True → InR .i64 (m41_9 ls x x_2) → pIn 0 (↑(iLen ns).toNat) (m41_9 ls x x_2) ∧ (m41_9 ls x x_2) = Sp.gm x.2 (Sp.c2 (rGet ls x_2)) ∧ (InR .i64 (q0 (kGet x.2 (q0 (rGet ls x_2)) [C.i 0])) → pRoom 8 (iLen (((rGet (m41_1 ns ls x x_2) (Sp.gm x.2 (Sp.c2 (rGet ls x_2)))).headD default).list ++ [[C.i (q0 (kGet x.2 (q0 (rGet ls x_2)) [C.i 0]))]])) ∧ pIn 0 (↑(iLen ns).toNat) (m41_9 ls x x_2) ∧ (m41_9 ls x x_2) = Sp.gm x.2 (Sp.c2 (rGet ls x_2)) ∧ InR .i64 (iAdd x_2 1) ∧ (true = true ∧ h41_10 ns ls cs w x x_1 = h41_10 ns ls cs w x x_1) ∧ h41_11 ns ls cs x x_1 = h41_11 ns ls cs x x_1 ∧ (22 = 22 ∧ 0 = 0 ∧ (iLen ns).toNat = (iLen ns).toNat ∧ Sp.gm x.2 (Sp.c2 (rGet ls x_2)) = Sp.gm x.2 (Sp.c2 (rGet ls x_2)) ∧ 6 = 6 ∧ 0 + 1 = 0 + 1 ∧ m41_6 ∧ 3 = 3) ∧ f = f ∧ ∃ (y : Int), (0 ≤ y ∧ y ≤ ↑ls.length) ∧ Sp.befR (Sp.gm x.2) ls (iLen ns).toNat y = rSet (m41_1 ns ls x x_2) (Sp.gm x.2 (Sp.c2 (rGet ls x_2))) [C.l (((rGet (m41_1 ns ls x x_2) (Sp.gm x.2 (Sp.c2 (rGet ls x_2)))).headD default).list ++ [[C.i (q0 (kGet x.2 (q0 (rGet ls x_2)) [C.i 0]))]])] ∧ ((m41_2 ∧ iAdd x_2 1 = y) ∧ True) ∧ ls.length - y.toNat < ls.length - x_2.toNat))) ∧ (bLt x_2 (iLen ls) = false → False))))))) := by kernel_rfl
theorem v41 (ns : List (List C)) (ls : List (List C)) (cs : List (List C)) (w : Int) : Holds (Wfs [.agg [.sl [.int .i64, .int .i64, .int .i64, .int .i64] ns, .sl [.int .i64, .int .i64, .int .i64, .int .i64] ls], .sl [.int .i64] cs, .int .i64 w] → True → B41 ns ls cs w) := by
  refine ⟨fun hw hp => ?_⟩
  rw [e41]
  delta WL q0 q1 q2 q3 m41_0 m41_1 m41_2 m41_3 m41_5 m41_6 m41_7 m41_8 m41_4 m41_9
  simp only [Wfs, Wf, InR, and_true] at hw
  simp only [eq_self, true_and, and_true, true_implies, implies_true, iAdd, iSub, iMul, iLen, bEq, bNe, bLt, bLe, bNot, pIn, pLe, pNe, InR, decide_eq_true_eq, decide_eq_false_iff_not, Bool.not_eq_true', Bool.not_eq_false', decide_eq_decide]
  have F1 : ¬ (Sp.vld ns ls = true ∧ cs.length = ns.length ∧ Sp.idx Sp.badC cs 0 < 0 ∧ 1 ≤ w ∧ w ≤ 8) → 0 = Sp.bnd ns ls cs w := fun h => by
    have : Sp.prb ns ls cs w = false := by
      unfold Sp.prb
      rw [Bool.eq_false_iff]; intro h2; apply h
      simp only [Bool.and_eq_true, decide_eq_true_eq] at h2
      exact ⟨h2.1.1, h2.1.2.1, h2.1.2.2, h2.2.1, h2.2.2⟩
    unfold Sp.bnd; rw [this]; rfl
  constructor
  · refine ⟨fun hv hcl hnl => ⟨fun hlen _ => ⟨⟨0, Sp.at_init, rfl⟩, fun x hx hx1 => ⟨fun hlt => ⟨⟨hx.1, hlt⟩, fun _ => ⟨fun hbad => ⟨fun h => absurd hx.1 h, fun _ => F1 fun h => ?_⟩, fun hok => ⟨by omega, x + 1, Sp.at_step hx hlt hok, rfl, by have := hx.1; omega⟩⟩⟩, fun hge => ?_⟩⟩, fun h => F1 fun h2 => by omega⟩, fun h => F1 fun h2 => by rw [h] at h2; exact absurd h2.1 (by simp)⟩
    · have := Sp.at_hit hx hlt hbad
      have := hx.1
      omega
    · have hi := Sp.at_end hx hge
      exact ⟨fun h1 => ⟨fun h8 => F1 fun h => by omega, fun h8 => ⟨(), hv, by omega, by omega, by omega, by omega⟩⟩, fun h => F1 fun h2 => by omega⟩
  · rintro _ ⟨hv, hlen, hidx, w1, w8⟩ hnl
    have V := Sp.vld_small hv
    refine ⟨⟨by omega, by omega, by simp only [pRoom]; omega⟩, fun _ => ⟨⟨(0, []), Sp.pm_init, rfl, rfl⟩, ?_⟩⟩
    rintro ⟨i, m⟩ hm _ _
    simp only at hm ⊢
    have i0 := hm.1
    refine ⟨fun hil => ⟨⟨i0, hil⟩, fun _ => ⟨by omega, (i + 1, _), Sp.pm_step hm hil, rfl, rfl, by simp only; omega⟩⟩, fun hig _ hol => ?_⟩
    obtain ⟨hgm, hk⟩ := Sp.pm_end hm hig
    have ci : ∀ n : Int, (C.i n).int = n := fun _ => rfl
    have cl : ∀ n : List (List C), (C.l n).list = n := fun _ => rfl
    have eo : Sp.ordE ns ls = Sp.ord ns ls := by unfold Sp.ordE; rw [hv]; rfl
    have ol := Sp.ord_le (ns := ns) (ls := ls)
    rw [eo] at hol ⊢
    simp only [hk, hgm, List.headD_cons, ci, Int.toNat_natCast]
    refine ⟨⟨(0, []), Sp.os_init, rfl, rfl⟩, ?_⟩
    rintro ⟨k, os⟩ ho _ hwf
    simp only at ho hwf ⊢
    have k0 := ho.1
    have osl := Sp.os_len ho
    have osm : (os.length : Int) ≤ 64 := by have := ho.2.1; omega
    have pb : ∀ n, 0 ≤ Sp.pla ns n ∧ Sp.pla ns n ≤ (ns.length : Int) := fun n => Sp.pla_bd
    refine ⟨fun hko => ⟨⟨k0, hko⟩, fun _ _ => ⟨by simp only [pRoom, List.length_append, List.length_singleton]; omega, by omega, (k + 1, _), Sp.os_step ho hko, rfl, rfl, by simp only; omega⟩⟩, fun hkg hll => ⟨by omega, ⟨0, ⟨by omega, by omega⟩, Sp.bef_init, rfl⟩, fun f z hz hz1 hbl => ⟨fun hfin => ⟨fun h => absurd h hfin, fun _ hcl => ⟨⟨(0, 0), Sp.sm_init, rfl, rfl⟩, ?_⟩⟩, fun hgo => ?_⟩⟩⟩
    · have hos := Sp.os_end ho hkg
      have zl : z = (ls.length : Int) := by omega
      rintro ⟨j, a⟩ hs hs1
      simp only at hs hs1 ⊢
      have j0 := hs.1
      refine ⟨fun hjl => ?_, fun hjg => ⟨by omega, fun _ => ⟨⟨by omega, by omega, by simp only [pRoom]; omega⟩, fun _ => ⟨⟨(0, _, 0), Sp.cr_init, ⟨rfl, rfl⟩, rfl⟩, ?_⟩⟩⟩⟩
      · have g := Sp.good_at hidx j0 hjl
        have s1 := Sp.sm_step hs hjl g
        have s2 := s1.2.2.2
        refine ⟨⟨j0, hjl⟩, fun _ => ⟨?_, by omega, (j + 1, _), s1, ⟨rfl, rfl⟩, by simp only; omega⟩⟩
        show -9223372036854775808 ≤ a + Sp.c0 (rGet cs j) ∧ a + Sp.c0 (rGet cs j) ≤ 9223372036854775807
        omega
      · have hsum := Sp.sm_end hs hjg
        have sb := hs.2.2.2
        rintro ⟨k2, b, out⟩ hc hc1 hwb
        simp only at hc hc1 hwb ⊢
        have k20 := hc.1
        have okb := hc.2.2.2.1
        have ob := hc.2.2.2.2
        refine ⟨fun hk2 => ?_, fun hk2 => ?_⟩
        · have hx : 0 ≤ Sp.c0 (rGet os k2) ∧ Sp.c0 (rGet os k2) < (ns.length : Int) := by
            have hmem := Sp.rGet_mem k20 hk2
            generalize rGet os k2 = q at hmem ⊢
            rw [hos, List.mem_map] at hmem
            obtain ⟨y, hy, he⟩ := hmem
            rw [← he]
            have := Sp.pla_has (Sp.ord_has y hy)
            show 0 ≤ Sp.pla ns (Sp.c0 y) ∧ Sp.pla ns (Sp.c0 y) < _
            omega
          have hbs : ∀ j : Int, 0 ≤ j → j < (((rGet (Sp.befR (Sp.pla ns) ls ns.length z) (Sp.c0 (rGet os k2))).headD default).list.length : Int) → 0 ≤ Sp.c0 (rGet ((rGet (Sp.befR (Sp.pla ns) ls ns.length z) (Sp.c0 (rGet os k2))).headD default).list j) ∧ Sp.c0 (rGet ((rGet (Sp.befR (Sp.pla ns) ls ns.length z) (Sp.c0 (rGet os k2))).headD default).list j) < (ns.length : Int) := by
            intro j j0 j1
            rw [Sp.bef_get hx.1 hx.2] at j1 ⊢
            simp only [List.headD_cons, cl] at j1 ⊢
            have hmem := Sp.rGet_mem j0 j1
            generalize rGet (Sp.befM (Sp.pla ns) (ls.take z.toNat) (Sp.c0 (rGet os k2))) j = u at hmem ⊢
            unfold Sp.befM at hmem
            rw [List.mem_map] at hmem
            obtain ⟨y, hy, he⟩ := hmem
            obtain ⟨q, q0, q1, rfl⟩ := Sp.mem_rGet (List.mem_of_mem_take (List.mem_filter.1 hy).1)
            rw [← he]
            have := Sp.pla_has (Sp.vld_link hv q0 q1).1
            show 0 ≤ Sp.pla ns (Sp.c0 (rGet ls q)) ∧ Sp.pla ns (Sp.c0 (rGet ls q)) < _
            omega
          have hgc := Sp.good_at hidx hx.1 (by omega)
          have bl := okb.1
          have ll : ((rGet (Sp.befR (Sp.pla ns) ls ns.length z) (Sp.c0 (rGet os k2))).headD default).list.length ≤ ls.length := by
            rw [Sp.bef_get hx.1 hx.2]
            simp only [List.headD_cons, cl]
            have := Sp.befM_len (f := Sp.pla ns) (ls := ls.take z.toNat) (j := Sp.c0 (rGet os k2))
            rw [List.length_take] at this
            omega
          refine ⟨⟨k20, hk2⟩, fun _ => ⟨⟨hx.1, by rw [Sp.bef_len]; exact hx.2⟩, fun _ _ => ⟨⟨(0, b), Sp.cn_init okb, rfl, rfl⟩, ?_⟩⟩⟩
          rintro ⟨j2, b'⟩ hcn _ _
          simp only at hcn ⊢
          have j20 := hcn.1
          have okb' := hcn.2.2.2
          have b'l := okb'.1
          refine ⟨fun hj2 => ?_, fun hj2 => ?_⟩
          · have hy := hbs j2 j20 hj2
            exact ⟨⟨j20, hj2⟩, fun _ => ⟨⟨hx.1, by rw [b'l]; exact hx.2⟩, fun _ => ⟨⟨hy.1, by rw [b'l]; exact hy.2⟩, fun _ => ⟨⟨hx.1, by rw [b'l]; exact hx.2⟩, by omega, (j2 + 1, _), Sp.cn_step hcn hj2 hx.1 hx.2 hy.1 hy.2, rfl, rfl, by simp only; omega⟩⟩⟩⟩
          · have st := Sp.cr_step hc hk2 hx.1 hx.2 hgc hcn hj2
            have gb := okb'.2 _ hx.1 hx.2
            have hxl : Sp.c0 (rGet os k2) < (cs.length : Int) := by omega
            have rl : ∀ v, (rSet b' (Sp.c0 (rGet os k2)) v).length = ns.length := fun v => by unfold rSet; rw [List.length_set]; exact b'l
            refine ⟨⟨hx.1, by rw [b'l]; exact hx.2⟩, fun _ => ⟨⟨hx.1, hxl⟩, fun _ => ⟨?_, ⟨hx.1, by rw [b'l]; exact hx.2⟩, ⟨hx.1, Int.lt_of_lt_of_le hx.2 (Int.le_of_eq (by rw [show ((ns.length : Nat) : Int) = _ from congrArg Int.ofNat (rl _).symm]; rfl))⟩, fun _ => ⟨by omega, (k2 + 1, _, _), st, ⟨rfl, rfl⟩, rfl, by simp only; omega⟩⟩⟩⟩
            show -9223372036854775808 ≤ Sp.gV b' (Sp.c0 (rGet os k2)) + Sp.gV cs (Sp.c0 (rGet os k2)) ∧ Sp.gV b' (Sp.c0 (rGet os k2)) + Sp.gV cs (Sp.c0 (rGet os k2)) ≤ 9223372036854775807
            unfold Sp.gV at gb ⊢
            omega
        · have m0 : 0 ≤ (w - 1) * out := Int.mul_nonneg (by omega) (by omega)
          have m1 : (w - 1) * out ≤ 7 * (64 * 1099511627776) := Int.mul_le_mul (by omega) (by have := hc.2.1; omega) (by omega) (by omega)
          have hq0 : 0 ≤ iQuo (a + (w - 1) * out) w := Int.tdiv_nonneg (a := a + (w - 1) * out) (b := w) (by omega) (by omega)
          have hq1 : iQuo (a + (w - 1) * out) w ≤ a + (w - 1) * out := by
            show (a + (w - 1) * out).tdiv w ≤ _
            rw [Int.tdiv_eq_ediv_of_nonneg (by omega)]
            exact Int.ediv_le_self _ (by omega)
          have jm := hs.2.1
          refine ⟨⟨by omega, by omega⟩, ⟨by omega, by omega⟩, ⟨by omega, ⟨by omega, by omega⟩⟩, ?_⟩
          have hout : out = Sp.critP ns ls cs := by
            have e := hc.2.2.1
            rw [List.take_of_length_le (by omega)] at e
            unfold Sp.critP
            rw [← hos, ← zl, e]
          have hp : Sp.prb ns ls cs w = true := by
            unfold Sp.prb
            simp only [Bool.and_eq_true, decide_eq_true_eq]
            exact ⟨⟨hv, hlen, hidx⟩, w1, w8⟩
          unfold Sp.bnd
          rw [hp, cond_true, ← hsum, ← hout]
    · have hzl : z < (ls.length : Int) := by omega
      obtain ⟨ha, hb⟩ := Sp.vld_link hv hz.1 hzl
      have hp := Sp.pla_has hb
      have hp' := Sp.pla_has ha
      refine ⟨⟨hp.1, hp.2.1⟩, fun _ => ⟨⟨hz.1, hzl⟩, fun _ _ => ⟨⟨hp.1, hp.2.1⟩, rfl, fun _ => ⟨?_, ⟨hp.1, hp.2.1⟩, rfl, by omega, z + 1, ⟨by omega, by omega⟩, ?_, rfl, by omega⟩⟩⟩, fun h => hgo h⟩
      · rw [Sp.bef_get hp.1 hp.2.1]
        simp only [List.headD_cons, cl, pRoom, List.length_append, List.length_singleton]
        have := Sp.befM_len (f := Sp.pla ns) (ls := ls.take z.toNat) (j := Sp.pla ns (Sp.c2 (rGet ls z)))
        rw [List.length_take] at this
        omega
      · rw [Sp.bef_get hp.1 hp.2.1]
        exact Sp.bef_step hz.1 hzl hp.1 hp.2.1
theorem s41 : SoundCt Go.Proofs.Tryz.prog 41 ct41 :=
 contractH followsMixed (look_sound (show Tb Go.Proofs.Tryz.prog tb41 from ⟨s83, ⟨s85, ⟨s82, ⟨s3000126, trivial⟩⟩⟩⟩)) (fun _ => false) (fun a => A41 ((cel 0 (arg 0 a)).list) ((cel 1 (arg 0 a)).list) ((cel 0 (arg 1 a)).list) ((cel 0 (arg 2 a)).int)) 8 41 ct41 rfl (by simp [ct41]) fun a => Eq.mp (by kernel_rfl) (v41 ((cel 0 (arg 0 a)).list) ((cel 1 (arg 0 a)).list) ((cel 0 (arg 1 a)).list) ((cel 0 (arg 2 a)).int))
end Go.Sx
