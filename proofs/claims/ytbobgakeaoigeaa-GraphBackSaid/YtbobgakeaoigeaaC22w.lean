/- Contracts and conditions, continued. -/
import Derived.Test.YtbobgakeaoigeaaSxUse
import Derived.Test.YtbobgakeaoigeaaC22r
import Derived.KernelRfl
set_option linter.unusedVariables false
set_option linter.unusedSimpArgs false
set_option maxRecDepth 100000
set_option maxHeartbeats 4000000

noncomputable section
namespace Go
open Go.Sx
variable {ns ls xs ys : List (List C)} {i j k id b0 b1 b2 b3 : Int} {p : List C → Bool}
theorem Sp.r4_r4 (x : List C) : Sp.r4 (Sp.r4 x) = Sp.r4 x := rfl
theorem Sp.r4_inj {x y : List C} : Sp.r4 x = Sp.r4 y ↔ (Sp.c0 x = Sp.c0 y ∧ Sp.c1 x = Sp.c1 y ∧ Sp.c2 x = Sp.c2 y ∧ Sp.c3 x = Sp.c3 y) := by
  unfold Sp.r4
  simp
theorem Sp.sm4_of (h : xs.map Sp.r4 = ys.map Sp.r4) : Sp.sm4 xs ys = true := by
  have hl : xs.length = ys.length := by
    have := congrArg List.length h
    simpa using this
  unfold Sp.sm4
  rw [decide_eq_true hl, Bool.true_and]
  refine Sp.allI_iff.2 fun k k0 k1 => ?_
  obtain ⟨m, rfl⟩ : ∃ m : Nat, k = (m : Int) := ⟨k.toNat, by omega⟩
  unfold Sp.eq4
  rw [decide_eq_true_eq, Sp.row_get (by omega), Sp.row_get (by omega)]
  have h1 : (xs.map Sp.r4)[m]? = (ys.map Sp.r4)[m]? := by rw [h]
  rw [List.getElem?_map, List.getElem?_map, List.getElem?_eq_getElem (show m < xs.length by omega), List.getElem?_eq_getElem (show m < ys.length by omega)] at h1
  simp only [Option.map_some, Option.some.injEq] at h1
  exact Sp.r4_inj.1 h1
theorem Sp.sameG_of {na la nb lb : List (List C)} (h1 : na.map Sp.r4 = nb.map Sp.r4) (h2 : la.map Sp.r4 = lb.map Sp.r4) : Sp.sameG na la nb lb = true := by
  have a := Sp.sm4_of h1
  have b := Sp.sm4_of h2
  unfold Sp.sm4 at a b
  unfold Sp.sameG
  rw [a, b]; rfl
theorem Sp.sameG_refl : Sp.sameG ns ls ns ls = true := Sp.sameG_of rfl rfl
/-- Where a link stands, if it is there. -/
theorem Sp.pos_is (hv : Sp.vld ns ls = true) (h4 : Sp.h4 ls b0 b1 b2 b3 = true) : ∃ q : Nat, ∃ hq : q < ls.length, Sp.pos ls b0 b1 b2 b3 = (q : Int) ∧ Sp.is4 b0 b1 b2 b3 ls[q] = true := by
  obtain ⟨k, k0, k1, k2⟩ := Sp.h4_iff.1 h4
  obtain ⟨q, rfl⟩ : ∃ q : Nat, k = (q : Int) := ⟨k.toNat, by omega⟩
  have hq : q < ls.length := by omega
  refine ⟨q, hq, ?_, by rwa [Sp.row_get hq] at k2⟩
  have hb := Sp.pos_bd (ls := ls) (b0 := b0) (b1 := b1) (b2 := b2) (b3 := b3)
  unfold Sp.is4 at k2
  rw [decide_eq_true_eq] at k2
  have hl : ¬ Sp.lt4 b0 b1 b2 b3 (rGet ls (q : Int)) = true := by
    unfold Sp.lt4
    rw [decide_eq_true_eq, Sp.lcmp_neg]
    omega
  have h1 : ¬ (q : Int) < Sp.pos ls b0 b1 b2 b3 := fun h => hl (Sp.pos_lt (q : Int) (by omega) h)
  have h2 : ¬ Sp.pos ls b0 b1 b2 b3 < (q : Int) := fun h => by
    have h3 := Sp.pos_ge (ls := ls) (b0 := b0) (b1 := b1) (b2 := b2) (b3 := b3) (by omega)
    have h4 := Sp.sorted_at hv hb.1 h (by omega)
    unfold Sp.lt4 at h3
    rw [decide_eq_false_iff_not, Sp.lcmp_neg] at h3
    unfold Sp.rlt at h4
    rw [Sp.lcmp_neg] at h4
    omega
  omega
/-- Taking away the one place is keeping all others. -/
theorem Sp.del_keep (hv : Sp.vld ns ls = true) (h4 : Sp.h4 ls b0 b1 b2 b3 = true) : (Sp.delL ls b0 b1 b2 b3).map Sp.r4 = (Sp.keepL ls b0 b1 b2 b3).map Sp.r4 := by
  obtain ⟨q, hq, hp, his⟩ := Sp.pos_is hv h4
  have v := Sp.vl_of hv
  have ne : ∀ j : Nat, ∀ hj : j < ls.length, j ≠ q → Sp.is4 b0 b1 b2 b3 ls[j] = false := fun j hj hne => by
    cases hh : Sp.is4 b0 b1 b2 b3 ls[j]
    · rfl
    · exfalso
      unfold Sp.is4 at hh his
      rw [decide_eq_true_eq] at hh his
      rcases Nat.lt_or_gt_of_ne hne with h | h
      · have := (List.pairwise_iff_getElem.1 v.srt) j q hj hq h
        unfold Sp.rlt at this
        rw [Sp.lcmp_neg] at this
        omega
      · have := (List.pairwise_iff_getElem.1 v.srt) q j hq hj h
        unfold Sp.rlt at this
        rw [Sp.lcmp_neg] at this
        omega
  have e : ls.filter (fun x => !Sp.is4 b0 b1 b2 b3 x) = ls.take q ++ ls.drop (q + 1) := by
    have h1 : ls = ls.take q ++ (ls[q] :: ls.drop (q + 1)) := by
      rw [List.getElem_cons_drop, List.take_append_drop]
    have f1 : (ls.take q).filter (fun x => !Sp.is4 b0 b1 b2 b3 x) = ls.take q := List.filter_eq_self.2 fun x hx => by
      obtain ⟨j, hj, rfl⟩ := List.mem_iff_getElem.1 hx
      rw [List.length_take] at hj
      rw [List.getElem_take, ne j (by omega) (by omega)]; rfl
    have f2 : (ls.drop (q + 1)).filter (fun x => !Sp.is4 b0 b1 b2 b3 x) = ls.drop (q + 1) := List.filter_eq_self.2 fun x hx => by
      obtain ⟨j, hj, rfl⟩ := List.mem_iff_getElem.1 hx
      rw [List.length_drop] at hj
      rw [List.getElem_drop, ne (q + 1 + j) (by omega) (by omega)]; rfl
    conv => lhs; rw [h1]
    rw [List.filter_append, List.filter_cons, f1, f2, his]
    rfl
  unfold Sp.delL Sp.del Sp.keepL
  rw [hp, e, List.map_map]
  rfl
theorem Sp.dis_same (hv : Sp.vld ns ls = true) (b0 b1 b2 b3 : Int) : Sp.sameG (Sp.disN ns ls b0 b1 b2 b3) (Sp.disL ns ls b0 b1 b2 b3) (Sp.disN ns ls b0 b1 b2 b3) (Sp.rdL ns ls b0 b1 b2 b3) = true := by
  refine Sp.sameG_of rfl ?_
  unfold Sp.disL Sp.rdL
  cases h4 : Sp.h4 ls b0 b1 b2 b3
  · rw [Sp.dis7 hv h4]; rfl
  · rw [Sp.dis0 hv h4]
    exact Sp.del_keep hv h4
theorem Sp.dis_same' (b0 b1 b2 b3 : Int) : Sp.sameG (Sp.disN ns ls b0 b1 b2 b3) (Sp.disL ns ls b0 b1 b2 b3) (Sp.disN ns ls b0 b1 b2 b3) (Sp.rdL ns ls b0 b1 b2 b3) = true := by
  cases hv : Sp.vld ns ls
  · unfold Sp.disN Sp.disL Sp.rdL
    rw [Sp.dis1 hv]; rfl
  · exact Sp.dis_same hv b0 b1 b2 b3
/-- What slices.DeleteFunc leaves: what stands before the first that goes, as it lay, and of the rest what stays. -/
def Sp.dfn (p : List C → Bool) (xs : List (List C)) : List (List C) := xs.takeWhile p ++ Sp.flt p (xs.dropWhile p)
theorem Sp.dfn_flt : (Sp.dfn p xs).map Sp.r4 = (Sp.flt p xs).map Sp.r4 := by
  unfold Sp.dfn Sp.flt
  rw [List.map_append, List.map_map, List.map_map]
  have e : xs.filter p = xs.takeWhile p ++ (xs.dropWhile p).filter p := by
    conv => lhs; rw [← List.takeWhile_append_dropWhile (p := p) (l := xs)]
    rw [List.filter_append]
    congr 1
    exact List.filter_eq_self.2 fun x hx => List.all_eq_true.1 List.all_takeWhile x hx
  rw [e, List.map_append]
  rfl
/-- What was connected, disconnected: the same graph. -/
theorem Sp.con_dis (hv : Sp.vld ns ls = true) (he : Sp.conE ns ls b0 b1 b2 b3 = 0) :
    Sp.disE (Sp.conN ns ls b0 b1 b2 b3) (Sp.conL ns ls b0 b1 b2 b3) b0 b1 b2 b3 = 0 ∧ Sp.sameG (Sp.disN (Sp.conN ns ls b0 b1 b2 b3) (Sp.conL ns ls b0 b1 b2 b3) b0 b1 b2 b3) (Sp.disL (Sp.conN ns ls b0 b1 b2 b3) (Sp.conL ns ls b0 b1 b2 b3) b0 b1 b2 b3) ns ls = true := by
  have hw := Sp.con_vld hv he
  obtain ⟨p1, p2, p3, p4, p5⟩ := Sp.con_parts hv he
  obtain ⟨⟨e1, e2⟩, _⟩ := Sp.con_ok he
  rw [← e1, ← e2] at hw ⊢
  have hb := Sp.pos_bd (ls := ls) (b0 := b0) (b1 := b1) (b2 := b2) (b3 := b3)
  obtain ⟨q, hq⟩ : ∃ q : Nat, Sp.pos ls b0 b1 b2 b3 = (q : Int) := ⟨(Sp.pos ls b0 b1 b2 b3).toNat, by omega⟩
  have hql : q ≤ ls.length := by omega
  have hI : Sp.insL ls b0 b1 b2 b3 = ls.take q ++ [[C.i b0, C.i b1, C.i b2, C.i b3]] ++ ls.drop q := by
    unfold Sp.insL Sp.ins
    rw [hq]; rfl
  have hm : [C.i b0, C.i b1, C.i b2, C.i b3] ∈ Sp.insL ls b0 b1 b2 b3 := by rw [hI]; simp
  have hh : Sp.h4 (Sp.insL ls b0 b1 b2 b3) b0 b1 b2 b3 = true := by
    obtain ⟨k, k0, k1, k2⟩ := Sp.mem_row hm
    exact Sp.h4_iff.2 ⟨k, k0, k1, by rw [← k2]; unfold Sp.is4; exact decide_eq_true ⟨rfl, rfl, rfl, rfl⟩⟩
  have hd := Sp.dis0 hw hh
  refine ⟨hd, ?_⟩
  obtain ⟨⟨d1, d2⟩, _⟩ := Sp.dis_ok hd
  rw [← d1, ← d2]
  have hat : Sp.at (Sp.ge4 b0 b1 b2 b3) (Sp.insL ls b0 b1 b2 b3) (q : Int) := by
    refine Sp.at_of q (by rw [hI]; simp only [List.length_append, List.length_take, List.length_singleton, List.length_drop]; omega) fun k k0 k1 => ?_
    obtain ⟨m, rfl⟩ : ∃ m : Nat, k = (m : Int) := ⟨k.toNat, by omega⟩
    have e : rGet (Sp.insL ls b0 b1 b2 b3) (m : Int) = rGet ls (m : Int) := by
      rw [hI, List.append_assoc]
      unfold rGet
      rw [List.getD_eq_getElem?_getD, List.getD_eq_getElem?_getD, Int.toNat_natCast, List.getElem?_append_left (by rw [List.length_take]; omega), List.getElem?_take_of_lt (by omega)]
    rw [e]
    unfold Sp.ge4
    rw [Sp.pos_lt (m : Int) (by omega) (by omega)]; rfl
  have hpos : Sp.pos (Sp.insL ls b0 b1 b2 b3) b0 b1 b2 b3 = (q : Int) := by
    refine Sp.pos_hit hat (by rw [hI]; simp only [List.length_append, List.length_take, List.length_singleton, List.length_drop]; omega) ?_
    have e : rGet (Sp.insL ls b0 b1 b2 b3) (q : Int) = [C.i b0, C.i b1, C.i b2, C.i b3] := by
      rw [hI, Sp.row_get (by simp only [List.length_append, List.length_take, List.length_singleton, List.length_drop]; omega)]
      rw [List.getElem_append_left (by simp only [List.length_append, List.length_take, List.length_singleton]; omega), List.getElem_append_right (by rw [List.length_take]; omega)]
      simp
    rw [e]
    unfold Sp.lt4
    rw [decide_eq_false_iff_not, Sp.lcmp_neg]
    show ¬ (b0 < b0 ∨ b0 = b0 ∧ (b1 < b1 ∨ b1 = b1 ∧ (b2 < b2 ∨ b2 = b2 ∧ b3 < b3)))
    omega
  have hdel : Sp.delL (Sp.insL ls b0 b1 b2 b3) b0 b1 b2 b3 = ls := by
    unfold Sp.delL Sp.del
    rw [hpos, hI]
    have t1 : ((q : Int)).toNat = q := rfl
    have t2 : ((q : Int) + 1).toNat = q + 1 := rfl
    rw [t1, t2, List.append_assoc, List.take_append_of_le_length (by rw [List.length_take]; omega), List.take_take, Nat.min_self]
    rw [List.drop_append, List.drop_eq_nil_of_le (by rw [List.length_take]; omega), List.nil_append, show q + 1 - (ls.take q).length = 1 by rw [List.length_take]; omega]
    exact List.take_append_drop q ls
  rw [hdel]
  exact Sp.sameG_refl
end Go
namespace Go
open Go.Sx
variable {ns ls xs : List (List C)} {i k n o id : Int} {p : List C → Bool}
theorem Sp.mn_fine {l : List (List C)} (h0 : 1 ≤ id) (h1 : id ≤ 2147483647) : Sp.fine id (Sp.mnK l) (Sp.mnI l) (Sp.mnO l) = true := by
  have d5 := Sp.dN_bd (l := l) (n := 5) (by omega)
  have d3 := Sp.dN_bd (l := Sp.dT l 5) (n := 3) (by omega)
  unfold Sp.fine Sp.mnK Sp.mnI Sp.mnO
  generalize Sp.dN l 5 = a at *
  generalize Sp.dN (Sp.dT l 5) 3 = b at *
  rw [decide_eq_true_eq]
  rcases (show a = 0 ∨ a = 1 ∨ a = 2 ∨ a = 3 ∨ a = 4 by omega) with rfl | rfl | rfl | rfl | rfl <;> simp <;> omega
theorem Sp.gA_bd : ∀ (m c : Nat) (k ns ls : List (List C)), (∀ x ∈ ns, Sp.c0 x ≤ 12) → ns.length ≤ c → (∀ x ∈ (Sp.gA m k ns ls).2.1, Sp.c0 x ≤ 12) ∧ (Sp.gA m k ns ls).2.1.length ≤ c + m
  | 0, c, k, ns, ls, h1, h2 => ⟨h1, h2⟩
  | m + 1, c, k, ns, ls, h1, h2 => by
    rw [Sp.gA]
    have d := Sp.dN_bd (l := k) (n := 12) (by omega)
    have key : (∀ x ∈ Sp.stN k ns ls, Sp.c0 x ≤ 12) ∧ (Sp.stN k ns ls).length ≤ c + 1 := by
      unfold Sp.stN
      by_cases e : Sp.stE k ns ls = 0
      · rw [if_pos e]
        have := (Sp.add_ok e).1.1
        rw [← this]
        unfold Sp.insN
        refine ⟨fun x hx => ?_, by rw [Sp.len_ins]; omega⟩
        rcases Sp.mem_ins.1 hx with rfl | hx
        · show 1 + Sp.dN k 12 ≤ 12
          omega
        · exact h1 x hx
      · rw [if_neg e]
        exact ⟨h1, by omega⟩
    have := Sp.gA_bd m (c + 1) (Sp.mnT (Sp.dT k 12)) (Sp.stN k ns ls) (Sp.stL k ns ls) key.1 key.2
    exact ⟨this.1, by have := this.2; omega⟩
theorem Sp.gB_nodes : ∀ (m : Nat) (k ns ls : List (List C)), (Sp.gB m k ns ls).2.1 = ns
  | 0, _, _, _ => rfl
  | m + 1, k, ns, ls => by
    rw [Sp.gB, Sp.gB_nodes m]
    unfold Sp.suN
    by_cases e : Sp.suE k ns ls = 0
    · rw [if_pos e]
      exact (Sp.con_ok e).1.1.symm
    · rw [if_neg e]
theorem Sp.mg_bd (l : List (List C)) : (∀ x ∈ Sp.mgN l 9, Sp.c0 x ≤ 12) ∧ (Sp.mgN l 9).length ≤ 9 := by
  unfold Sp.mgN Sp.mg
  rw [Sp.gB_nodes]
  unfold Sp.mgA
  have d := Sp.dN_bd (l := l) (n := 9 + 1) (by omega)
  have := Sp.gA_bd (Sp.dN l (9 + 1)).toNat 0 (Sp.dT l (9 + 1)) [] [] (fun x hx => by cases hx) (by simp)
  exact ⟨this.1, by have := this.2; omega⟩
theorem Sp.flt_all (h : ∀ x ∈ xs, p x = true) : Sp.flt p xs = xs.map Sp.r4 := by
  unfold Sp.flt
  rw [List.filter_eq_self.2 h]
theorem Sp.r4_map : (xs.map Sp.r4).map Sp.r4 = xs.map Sp.r4 := by rw [List.map_map]; rfl
/-- What was added, removed: the same graph. -/
theorem Sp.add_rem (hv : Sp.vld ns ls = true) (he : Sp.addE ns ls i k n o = 0) (hf : Sp.fine i k n o = true) (hh : Sp.has ns i = false) :
    Sp.remE (Sp.addN ns ls i k n o) (Sp.addL ns ls i k n o) i = 0 ∧ (Sp.flt (Sp.neI i) (Sp.addN ns ls i k n o)).map Sp.r4 = ns.map Sp.r4 ∧ (Sp.flt (Sp.neL i) (Sp.addL ns ls i k n o)).map Sp.r4 = ls.map Sp.r4 := by
  have hw := Sp.add_vld hv he
  obtain ⟨⟨e1, e2⟩, _⟩ := Sp.add_ok he
  rw [← e1, ← e2] at hw ⊢
  have hn : ∀ x ∈ ns, Sp.c0 x ≠ i := fun x hx e => by
    have := Sp.has_iff.2 ⟨x, hx, e⟩
    rw [hh] at this; cases this
  have hi : Sp.has (Sp.insN ns i k n o) i = true := Sp.has_iff.2 ⟨_, Sp.mem_ins.2 (.inl rfl), rfl⟩
  refine ⟨Sp.rem0 hw hi, ?_, ?_⟩
  · unfold Sp.insN Sp.ins Sp.flt
    rw [List.filter_append, List.filter_append, Sp.r4_map]
    have f1 : (ns.take (Sp.posN ns i).toNat).filter (Sp.neI i) = ns.take (Sp.posN ns i).toNat := List.filter_eq_self.2 fun x hx => by
      unfold Sp.neI
      rw [decide_eq_false (hn x (List.mem_of_mem_take hx))]; rfl
    have f2 : (ns.drop (Sp.posN ns i).toNat).filter (Sp.neI i) = ns.drop (Sp.posN ns i).toNat := List.filter_eq_self.2 fun x hx => by
      unfold Sp.neI
      rw [decide_eq_false (hn x (List.mem_of_mem_drop hx))]; rfl
    have f3 : [[C.i i, C.i k, C.i n, C.i o]].filter (Sp.neI i) = [] := by
      rw [List.filter_cons]
      unfold Sp.neI
      rw [show Sp.c0 [C.i i, C.i k, C.i n, C.i o] = i from rfl, decide_eq_true rfl]
      rfl
    rw [f1, f2, f3, List.append_nil, List.take_append_drop]
  · rw [Sp.flt_all (fun x hx => ?_), Sp.r4_map]
    obtain ⟨h1, h2⟩ := Sp.vld_link hv hx
    unfold Sp.neL
    have q1 : Sp.c0 x ≠ i := fun e => by rw [e, hh] at h1; cases h1
    have q2 : Sp.c2 x ≠ i := fun e => by rw [e, hh] at h2; cases h2
    rw [decide_eq_false q1, decide_eq_false q2]; rfl
end Go
namespace Go
open Go.Sx
variable {ns ls xs : List (List C)} {i k n o id : Int} {p : List C → Bool}
theorem Sp.pw_dfn {R : List C → List C → Prop} (hR : ∀ x y, R (Sp.r4 x) (Sp.r4 y) ↔ R x y) (h : xs.Pairwise R) : (Sp.dfn p xs).Pairwise R := by
  have h1 : ((Sp.dfn p xs).map Sp.r4).Pairwise R := by
    rw [Sp.dfn_flt]
    unfold Sp.flt
    rw [Sp.r4_map, List.pairwise_map]
    exact (h.filter p).imp fun h => (hR _ _).2 h
  rw [List.pairwise_map] at h1
  exact h1.imp fun h => (hR _ _).1 h
theorem Sp.mem_dfn {x : List C} (h : x ∈ Sp.dfn p xs) : ∃ y ∈ xs, p y = true ∧ Sp.r4 x = Sp.r4 y := by
  have h1 : Sp.r4 x ∈ (Sp.dfn p xs).map Sp.r4 := List.mem_map.2 ⟨x, h, rfl⟩
  rw [Sp.dfn_flt] at h1
  unfold Sp.flt at h1
  rw [Sp.r4_map] at h1
  obtain ⟨y, hy, he⟩ := List.mem_map.1 h1
  exact ⟨y, (List.mem_filter.1 hy).1, (List.mem_filter.1 hy).2, he.symm⟩
theorem Sp.dfn_mem {y : List C} (h : y ∈ xs) (hp : p y = true) : ∃ x ∈ Sp.dfn p xs, Sp.r4 x = Sp.r4 y := by
  have h1 : Sp.r4 y ∈ (Sp.dfn p xs).map Sp.r4 := by
    rw [Sp.dfn_flt]
    unfold Sp.flt
    rw [Sp.r4_map]
    exact List.mem_map.2 ⟨y, List.mem_filter.2 ⟨h, hp⟩, rfl⟩
  obtain ⟨x, hx, he⟩ := List.mem_map.1 h1
  exact ⟨x, hx, he⟩
theorem Sp.dfn_len : (Sp.dfn p xs).length = (xs.filter p).length := by
  have := congrArg List.length (Sp.dfn_flt (p := p) (xs := xs))
  unfold Sp.flt at this
  simpa using this
theorem Sp.dfn_has : Sp.has (Sp.dfn (Sp.neI id) ns) n = true ↔ Sp.has ns n = true ∧ n ≠ id := by
  rw [Sp.has_iff, Sp.has_iff]
  constructor
  · rintro ⟨x, hx, rfl⟩
    obtain ⟨y, hy, hp, he⟩ := Sp.mem_dfn hx
    have := (Sp.r4_inj.1 he).1
    unfold Sp.neI at hp
    rw [Bool.not_eq_true', decide_eq_false_iff_not] at hp
    exact ⟨⟨y, hy, this.symm⟩, by rw [this]; exact hp⟩
  · rintro ⟨⟨y, hy, rfl⟩, hne⟩
    obtain ⟨x, hx, he⟩ := Sp.dfn_mem (p := Sp.neI id) hy (by unfold Sp.neI; rw [decide_eq_false hne]; rfl)
    exact ⟨x, hx, (Sp.r4_inj.1 he).1⟩
theorem Sp.dfn_nd (h : ns.Pairwise (fun a b => Sp.c0 a < Sp.c0 b)) (hh : Sp.has ns n = true) (hne : n ≠ id) : Sp.r4 (Sp.nd (Sp.dfn (Sp.neI id) ns) n) = Sp.r4 (Sp.nd ns n) := by
  obtain ⟨h1, h2⟩ := Sp.nd_has (Sp.dfn_has.2 ⟨hh, hne⟩)
  obtain ⟨y, hy, hp, he⟩ := Sp.mem_dfn h1
  have e0 : Sp.c0 y = n := by rw [← h2]; exact (Sp.r4_inj.1 he).1.symm
  have := Sp.nd_mem h hy
  rw [e0] at this
  rw [this, he]
/-- A valid graph without a node and its links is valid. -/
theorem Sp.rem_vl (h : Sp.Vl ns ls) (id : Int) : Sp.Vl (Sp.dfn (Sp.neI id) ns) (Sp.dfn (Sp.neL id) ls) := by
  have hv := Sp.vl_to h
  have ha : (Sp.dfn (Sp.neI id) ns).Pairwise (fun a b => Sp.c0 a < Sp.c0 b) := Sp.pw_dfn (fun _ _ => Iff.rfl) h.asc
  have lk : ∀ l ∈ Sp.dfn (Sp.neL id) ls, ∃ y ∈ ls, Sp.r4 l = Sp.r4 y ∧ Sp.has ns (Sp.c0 l) = true ∧ Sp.c0 l ≠ id ∧ Sp.has ns (Sp.c2 l) = true ∧ Sp.c2 l ≠ id := fun l hl => by
    obtain ⟨y, hy, hp, he⟩ := Sp.mem_dfn hl
    obtain ⟨q0, q1, q2, q3⟩ := Sp.r4_inj.1 he
    have v := Sp.vld_link hv hy
    unfold Sp.neL at hp
    rw [Bool.and_eq_true, Bool.not_eq_true', Bool.not_eq_true', decide_eq_false_iff_not, decide_eq_false_iff_not] at hp
    exact ⟨y, hy, he, by rw [q0]; exact v.1, by rw [q0]; exact hp.1, by rw [q2]; exact v.2, by rw [q2]; exact hp.2⟩
  refine ⟨⟨?_, ?_⟩, fun x hx => ?_, ha, fun l hl => ?_, Sp.pw_dfn (fun _ _ => Iff.rfl) h.srt, ?_, ?_⟩
  · rw [Sp.dfn_len]; have := List.length_filter_le (Sp.neI id) ns; have := h.len.1; omega
  · rw [Sp.dfn_len]; have := List.length_filter_le (Sp.neL id) ls; have := h.len.2; omega
  · obtain ⟨y, hy, hp, he⟩ := Sp.mem_dfn hx
    obtain ⟨q0, q1, q2, q3⟩ := Sp.r4_inj.1 he
    have := h.fine y hy
    unfold Sp.nfine at this ⊢
    rw [q0, q1, q2, q3]; exact this
  · obtain ⟨y, hy, he, r1, r2, r3, r4⟩ := lk l hl
    obtain ⟨q0, q1, q2, q3⟩ := Sp.r4_inj.1 he
    have := h.ends y hy
    have n0 := (Sp.r4_inj.1 (Sp.dfn_nd h.asc r1 r2)).2.2.2
    have n2 := (Sp.r4_inj.1 (Sp.dfn_nd h.asc r3 r4)).2.2.1
    unfold Sp.lends at this ⊢
    rw [Sp.ends_eq] at this ⊢
    rw [n0, n2, q0, q1, q2, q3]; exact this
  · have h1 : (Sp.dfn (Sp.neL id) ls).Pairwise (fun x y => Sp.lcl ns x y = false) := Sp.pw_dfn (fun _ _ => Iff.rfl) h.cl
    refine List.Pairwise.imp_of_mem (fun {x y} _ hy hc => ?_) h1
    obtain ⟨z, hz, he, r1, r2, r3, r4⟩ := lk y hy
    have n0 := (Sp.r4_inj.1 (Sp.dfn_nd h.asc r1 r2)).2.1
    have n2 := (Sp.r4_inj.1 (Sp.dfn_nd h.asc r3 r4)).2.1
    unfold Sp.lcl Sp.cl Sp.clash at hc ⊢
    rw [n0, n2]; exact hc
  · refine Sp.ord_full (Sp.asc_nd ha) (fun l hl => ?_) (Sp.rk ns ls) fun l hl => ?_
    · obtain ⟨y, hy, he, r1, r2, r3, r4⟩ := lk l hl
      exact Sp.dfn_has.2 ⟨r1, r2⟩
    · obtain ⟨y, hy, he, r1, r2, r3, r4⟩ := lk l hl
      obtain ⟨q0, q1, q2, q3⟩ := Sp.r4_inj.1 he
      rw [q0, q2]
      exact Sp.rk_lt hv hy
theorem Sp.rem_vld (h : Sp.vld ns ls = true) (id : Int) : Sp.vld (Sp.dfn (Sp.neI id) ns) (Sp.dfn (Sp.neL id) ls) = true := Sp.vl_to (Sp.rem_vl (Sp.vl_of h) id)
theorem Sp.filter_one : ∀ {xs : List (List C)}, xs.Pairwise (fun a b => Sp.c0 a < Sp.c0 b) → Sp.has xs id = true → (xs.filter (Sp.neI id)).length + 1 = xs.length
  | [], _, h => by cases h
  | x :: r, hp, h => by
    rw [List.pairwise_cons] at hp
    rw [Sp.has_cons, Bool.or_eq_true, decide_eq_true_eq] at h
    by_cases e : Sp.c0 x = id
    · have hr : r.filter (Sp.neI id) = r := List.filter_eq_self.2 fun y hy => by
        have := hp.1 y hy
        unfold Sp.neI
        rw [decide_eq_false (by omega)]; rfl
      rw [List.filter_cons]
      have : Sp.neI id x = false := by unfold Sp.neI; rw [decide_eq_true e]; rfl
      rw [this, hr]
      simp
    · have : Sp.neI id x = true := by unfold Sp.neI; rw [decide_eq_false e]; rfl
      rw [List.filter_cons, this]
      have := Sp.filter_one hp.2 (h.resolve_left e)
      simp only [if_true, List.length_cons]
      omega
theorem Sp.rem_len (h : Sp.vld ns ls = true) (hh : Sp.has ns id = true) : (Sp.ord (Sp.dfn (Sp.neI id) ns) (Sp.dfn (Sp.neL id) ls)).length + 1 = (Sp.ord ns ls).length := by
  rw [Sp.vld_ordlen (Sp.rem_vld h id), Sp.vld_ordlen h, Sp.dfn_len]
  exact Sp.filter_one (Sp.vl_of h).asc hh
end Go

