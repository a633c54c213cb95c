/- Contracts and conditions, continued. -/
import Derived.Test.YtbobgakeaoigeaaSxUse
import Derived.Test.YtbobgakeaoigeaaC22z
import Derived.KernelRfl
set_option linter.unusedVariables false
set_option linter.unusedSimpArgs false
set_option maxRecDepth 100000
set_option maxHeartbeats 4000000

noncomputable section

namespace Go
open Go.Sx
def Sp.r1 (x : List C) : List C := [.i (Sp.c0 x)]
def Sp.f1I (id : Int) (xs : List (List C)) (j : Int) (out : List (List C)) : Prop := 0 ≤ j ∧ j ≤ (xs.length : Int) ∧ out = ((xs.take j.toNat).filter (Sp.neI id)).map Sp.r1
def Sp.gbN (ns ls : List (List C)) (i k n o : Int) : Prop := Sp.vld ns ls = true ∧ Sp.fine i k n o = true ∧ 13 ≤ i ∧ (∀ x ∈ ns, Sp.c0 x ≤ 12) ∧ ns.length ≤ 9
def Sp.gbM (ns ls : List (List C)) : Prop := Sp.vld ns ls = true ∧ 0 < (ns.length : Int)
end Go

namespace Go
open Go.Sx
variable {ns ls ns' ls' xs ys out out' : List (List C)} {i j k id c : Int} {q q' p : Int → Bool}
def Sp.rq (ls out : List (List C)) (k : Int) : Bool := !Sp.has out k && Sp.free ls out k
theorem Sp.idx_find : ∀ (xs : List (List C)) (i : Int), 0 ≤ i → (xs.map Sp.c0).find? q = (if Sp.idx (fun x => q (Sp.c0 x)) xs i < 0 then none else some (Sp.c0 (rGet xs (Sp.idx (fun x => q (Sp.c0 x)) xs i - i))))
  | [], i, _ => rfl
  | x :: r, i, h => by
    have e : Sp.idx (fun x => q (Sp.c0 x)) (x :: r) i = bif q (Sp.c0 x) then i else Sp.idx (fun x => q (Sp.c0 x)) r (i + 1) := rfl
    rw [e, List.map_cons, List.find?_cons]
    cases hq : q (Sp.c0 x)
    · simp only [cond_false]
      rw [Sp.idx_find r (i + 1) (by omega)]
      rcases Sp.idx_bd (p := fun x => q (Sp.c0 x)) r (i + 1) with h1 | h1
      · rw [if_pos (by omega), if_pos (by omega)]
      · rw [if_neg (by omega), if_neg (by omega)]
        congr 2
        unfold rGet
        rw [show (Sp.idx (fun x => q (Sp.c0 x)) r (i + 1) - i).toNat = (Sp.idx (fun x => q (Sp.c0 x)) r (i + 1) - (i + 1)).toNat + 1 by omega]
        simp
    · simp only [cond_true]
      rw [if_neg (by omega), Int.sub_self]; rfl
theorem Sp.ordF_find (n : Nat) : Sp.ordF ns ls (n + 1) out = (match (ns.map Sp.c0).find? (Sp.rq ls out) with | none => out | some c => Sp.ordF ns ls n (out ++ [[.i c]])) := by
  have hr : (fun x => Sp.rq ls out (Sp.c0 x)) = Sp.rdy ls out := rfl
  have h := Sp.idx_find (q := Sp.rq ls out) ns 0 (by omega)
  rw [hr] at h
  rw [h, Sp.ordF]
  by_cases hi : Sp.idx (Sp.rdy ls out) ns 0 < 0
  · rw [if_pos hi, decide_eq_true hi]; rfl
  · rw [if_neg hi, decide_eq_false hi, Int.sub_zero]; rfl
theorem Sp.ordF_done (h : ∀ k ∈ ns.map Sp.c0, Sp.rq ls out k = false) : ∀ f, Sp.ordF ns ls f out = out
  | 0 => rfl
  | f + 1 => by
    rw [Sp.ordF_find, List.find?_eq_none.2 fun k hk => by rw [h k hk]; simp]
theorem Sp.find_flt (hq : ∀ k, p k = true → q' k = q k) : ∀ (l : List Int), l.find? q = some c → p c = true → (l.filter p).find? q' = some c
  | [], h, _ => by cases h
  | x :: r, h, hp => by
    rw [List.find?_cons] at h
    rw [List.filter_cons]
    cases hx : q x
    · rw [hx] at h
      have ih := Sp.find_flt hq r h hp
      cases px : p x
      · simpa using ih
      · rw [if_pos rfl, List.find?_cons, hq x px, hx]; exact ih
    · rw [hx] at h
      obtain rfl : x = c := by simpa using h
      rw [hp, if_pos rfl, List.find?_cons, hq x hp, hx]
theorem Sp.rem_lt (hc : c ∈ ns.map Sp.c0) (ho : Sp.has out c = false) : Sp.rem ns (out ++ [[.i c]]) + 1 ≤ Sp.rem ns out := by
  obtain ⟨x, hx, rfl⟩ := List.mem_map.1 hc
  unfold Sp.rem
  refine Sp.filter_lt (x := x) (fun y _ hy => ?_) hx (by rw [ho]; rfl) (by rw [Sp.has_app]; simp)
  rw [Sp.has_app] at hy
  cases hb : Sp.has out (Sp.c0 y) <;> simp_all
theorem Sp.rem_zero (h : Sp.rem ns out = 0) : ∀ k ∈ ns.map Sp.c0, Sp.has out k = true := fun k hk => by
  obtain ⟨x, hx, rfl⟩ := List.mem_map.1 hk
  cases hh : Sp.has out (Sp.c0 x)
  · unfold Sp.rem at h
    have := List.length_eq_zero_iff.1 h
    have hm : x ∈ ns.filter (fun x => !Sp.has out (Sp.c0 x)) := List.mem_filter.2 ⟨hx, by rw [hh]; rfl⟩
    rw [this] at hm; cases hm
  · rfl
/-- Without a node from which no links lead away: the same order without it. -/
theorem Sp.ord_less (hn : ns'.map Sp.c0 = (ns.map Sp.c0).filter (fun k => !decide (k = id)))
    (hl : ∀ out out' : List (List C), (∀ j, j ≠ id → Sp.has out j = Sp.has out' j) → ∀ k, k ≠ id → Sp.free ls out k = Sp.free ls' out' k) :
    ∀ (f f' : Nat) (out out' : List (List C)), (∀ j, j ≠ id → Sp.has out j = Sp.has out' j) → Sp.rem ns out ≤ f → Sp.rem ns' out' ≤ f' →
      ∃ t : List (List C), Sp.ordF ns ls f out = out ++ t ∧ Sp.ordF ns' ls' f' out' = out' ++ t.filter (Sp.neI id) := by
  have hq : ∀ out out' : List (List C), (∀ j, j ≠ id → Sp.has out j = Sp.has out' j) → ∀ k, (!decide (k = id)) = true → Sp.rq ls' out' k = Sp.rq ls out k := fun out out' ho k hk => by
    have hne : k ≠ id := by simpa using hk
    unfold Sp.rq
    rw [ho k hne, hl out out' ho k hne]
  have done : ∀ (f f' : Nat) (out out' : List (List C)), (∀ j, j ≠ id → Sp.has out j = Sp.has out' j) → (∀ k ∈ ns.map Sp.c0, Sp.rq ls out k = false) →
      ∃ t : List (List C), Sp.ordF ns ls f out = out ++ t ∧ Sp.ordF ns' ls' f' out' = out' ++ t.filter (Sp.neI id) := fun f f' out out' ho h => by
    refine ⟨[], by rw [Sp.ordF_done h, List.append_nil], ?_⟩
    rw [Sp.ordF_done fun k hk => ?_, List.filter_nil, List.append_nil]
    rw [hn] at hk
    obtain ⟨h1, h2⟩ := List.mem_filter.1 hk
    rw [hq out out' ho k h2]
    exact h k h1
  intro f
  induction f with
  | zero =>
    intro f' out out' ho h0 h1
    exact done 0 f' out out' ho fun k hk => by
      unfold Sp.rq
      rw [Sp.rem_zero (by omega) k hk]; rfl
  | succ f ih =>
    intro f' out out' ho h0 h1
    cases hf : (ns.map Sp.c0).find? (Sp.rq ls out) with
    | none => exact done (f + 1) f' out out' ho fun k hk => by simpa using List.find?_eq_none.1 hf k hk
    | some c =>
      have hc := List.mem_of_find?_eq_some hf
      have hr := List.find?_some hf
      have hho : Sp.has out c = false := by unfold Sp.rq at hr; simp at hr; exact hr.1
      have hlt := Sp.rem_lt hc hho
      rw [Sp.ordF_find, hf]
      simp only
      by_cases e : c = id
      · obtain ⟨t, t1, t2⟩ := ih f' (out ++ [[.i c]]) out' (fun j hj => by rw [Sp.has_app, decide_eq_false (by omega), Bool.or_false]; exact ho j hj) (by omega) h1
        refine ⟨[.i c] :: t, by rw [t1, List.append_assoc]; rfl, ?_⟩
        rw [t2, List.filter_cons]
        have : Sp.neI id [.i c] = false := by unfold Sp.neI; rw [decide_eq_true (show Sp.c0 [C.i c] = id from e)]; rfl
        rw [this]; rfl
      · have hf' : (ns'.map Sp.c0).find? (Sp.rq ls' out') = some c := by
          rw [hn]
          exact Sp.find_flt (fun k hk => hq out out' ho k hk) _ hf (by rw [decide_eq_false e]; rfl)
        have hc' := List.mem_of_find?_eq_some hf'
        have hlt' := Sp.rem_lt hc' (by rw [← ho c e]; exact hho)
        obtain ⟨g, rfl⟩ : ∃ g, f' = g + 1 := ⟨f' - 1, by omega⟩
        obtain ⟨t, t1, t2⟩ := ih g (out ++ [[.i c]]) (out' ++ [[.i c]]) (fun j hj => by rw [Sp.has_app, Sp.has_app, ho j hj]) (by omega) (by omega)
        refine ⟨[.i c] :: t, by rw [t1, List.append_assoc]; rfl, ?_⟩
        rw [Sp.ordF_find, hf']
        simp only
        rw [t2, List.filter_cons]
        have : Sp.neI id [.i c] = true := by unfold Sp.neI; rw [decide_eq_false (show ¬ Sp.c0 [C.i c] = id from e)]; rfl
        rw [this, if_pos rfl, List.append_assoc]; rfl
theorem Sp.dfn_c0 (f : List C → Bool) (xs : List (List C)) : (Sp.dfn f xs).map Sp.c0 = (xs.filter f).map Sp.c0 := by
  have h := congrArg (List.map Sp.c0) (Sp.dfn_flt (p := f) (xs := xs))
  unfold Sp.flt at h
  rw [Sp.r4_map, List.map_map, List.map_map] at h
  exact h
/-- The order without a node that leads nowhere. -/
theorem Sp.ord_rem (hno : ∀ l ∈ ls, Sp.c0 l ≠ id) : Sp.ord (Sp.dfn (Sp.neI id) ns) (Sp.dfn (Sp.neL id) ls) = (Sp.ord ns ls).filter (Sp.neI id) := by
  obtain ⟨t, t1, t2⟩ := Sp.ord_less (ns := ns) (ls := ls) (ns' := Sp.dfn (Sp.neI id) ns) (ls' := Sp.dfn (Sp.neL id) ls) (id := id) (by
      rw [Sp.dfn_c0, List.filter_map]; rfl)
    (fun out out' ho k hk => by
      unfold Sp.free
      rw [Bool.eq_iff_iff, List.all_eq_true, List.all_eq_true]
      constructor
      · intro h x hx
        obtain ⟨y, hy, hp, he⟩ := Sp.mem_dfn hx
        obtain ⟨q0, _, q2, _⟩ := Sp.r4_inj.1 he
        have := h y hy
        rw [q0, q2, ← ho _ (hno y hy)]; exact this
      · intro h y hy
        by_cases e : Sp.c2 y = id
        · rw [decide_eq_false (by rw [e]; exact fun h => hk h.symm)]; rfl
        · obtain ⟨x, hx, he⟩ := Sp.dfn_mem (p := Sp.neL id) hy (by unfold Sp.neL; rw [decide_eq_false (hno y hy), decide_eq_false e]; rfl)
          obtain ⟨q0, _, q2, _⟩ := Sp.r4_inj.1 he
          have := h x hx
          rw [q0, q2, ← ho _ (hno y hy)] at this; exact this)
    ns.length (Sp.dfn (Sp.neI id) ns).length [] [] (fun _ _ => rfl) (by rw [Sp.rem_nil]; exact Nat.le_refl _) (by rw [Sp.rem_nil]; exact Nat.le_refl _)
  rw [List.nil_append] at t1 t2
  show Sp.ordF _ _ _ [] = (Sp.ordF _ _ _ []).filter _
  rw [t1, t2]
theorem Sp.ints_of (h : xs.map Sp.c0 = ys.map Sp.c0) : Sp.ints xs ys = true := by
  have hl : xs.length = ys.length := by simpa using congrArg List.length h
  unfold Sp.ints
  rw [decide_eq_true hl, Bool.true_and, Sp.allI_iff]
  intro k k0 k1
  obtain ⟨m, rfl⟩ : ∃ m : Nat, k = (m : Int) := ⟨k.toNat, by omega⟩
  unfold Sp.eqI
  rw [decide_eq_true_eq, Sp.row_get (by omega), Sp.row_get (by omega)]
  have h1 : (xs.map Sp.c0)[m]? = (ys.map Sp.c0)[m]? := by rw [h]
  rw [List.getElem?_map, List.getElem?_map, List.getElem?_eq_getElem (show m < xs.length by omega), List.getElem?_eq_getElem (show m < ys.length by omega)] at h1
  simpa using h1
theorem Sp.rch_no (hv : Sp.vld ns ls = true) (h : ((Sp.rch ns ls id).length : Int) ≤ 0) : ∀ l ∈ ls, Sp.c0 l ≠ id := fun l hl e => by
  have hr := Sp.Rch.one (a := id) l hl e
  have := (Sp.mem_rch hv).2 ⟨Sp.Rch_ne hv hr, hr⟩
  obtain ⟨x, hx, _⟩ := Sp.has_iff.1 this
  have := List.length_pos_of_mem hx
  omega
theorem Sp.rch_gone : ((Sp.rch ns (Sp.dfn (Sp.neL id) ls) id).length : Int) = 0 := by
  cases hv : Sp.vld ns (Sp.dfn (Sp.neL id) ls)
  · rw [Sp.rch_nil hv]; rfl
  · have no : ∀ n, ¬ Sp.Rch (Sp.dfn (Sp.neL id) ls) id n := fun n h => by
      induction h with
      | one l hl he =>
        obtain ⟨y, hy, hp, hr⟩ := Sp.mem_dfn hl
        unfold Sp.neL at hp
        rw [← (Sp.r4_inj.1 hr).1, decide_eq_true he] at hp
        cases hp
      | more l hl _ ih => exact ih
    have : Sp.rch ns (Sp.dfn (Sp.neL id) ls) id = [] := List.eq_nil_iff_forall_not_mem.2 fun x hx => no _ ((Sp.mem_rch hv).1 (Sp.has_iff.2 ⟨x, hx, rfl⟩)).2
    rw [this]; rfl
theorem Sp.inp_gone : ((Sp.inpE ns (Sp.dfn (Sp.neL id) ls) id).length : Int) = 0 := by
  unfold Sp.inpE
  cases Sp.vld ns (Sp.dfn (Sp.neL id) ls)
  · rfl
  · have : (Sp.dfn (Sp.neL id) ls).filter (fun l => decide (Sp.c2 l = id)) = [] := List.filter_eq_nil_iff.2 fun l hl h => by
      obtain ⟨y, hy, hp, hr⟩ := Sp.mem_dfn hl
      unfold Sp.neL at hp
      rw [← (Sp.r4_inj.1 hr).2.2.1, h, Bool.not_true, Bool.and_false] at hp
      cases hp
    rw [cond_true, Sp.inp, this]; rfl
theorem Sp.f1_init : Sp.f1I id xs 0 [] := ⟨by omega, by omega, rfl⟩
theorem Sp.f1_yes (h : Sp.f1I id xs j out) (hj : j < (xs.length : Int)) (hn : ¬ Sp.c0 (rGet xs j) = id) : Sp.f1I id xs (j + 1) (out ++ [Sp.r1 (rGet xs j)]) := by
  obtain ⟨h0, h1, h2⟩ := h
  refine ⟨by omega, by omega, ?_⟩
  rw [h2, Sp.take_succ h0 hj, List.filter_append, List.map_append, List.filter_cons]
  have : Sp.neI id (rGet xs j) = true := by unfold Sp.neI; rw [decide_eq_false hn]; rfl
  rw [this]; rfl
theorem Sp.f1_no (h : Sp.f1I id xs j out) (hj : j < (xs.length : Int)) (hn : Sp.c0 (rGet xs j) = id) : Sp.f1I id xs (j + 1) out := by
  obtain ⟨h0, h1, h2⟩ := h
  refine ⟨by omega, by omega, ?_⟩
  rw [h2, Sp.take_succ h0 hj, List.filter_append, List.map_append, List.filter_cons]
  have : Sp.neI id (rGet xs j) = false := by unfold Sp.neI; rw [decide_eq_true hn]; rfl
  rw [this]; simp
theorem Sp.f1_len (h : Sp.f1I id xs j out) : out.length ≤ xs.length := by
  obtain ⟨h0, h1, h2⟩ := h
  rw [h2, List.length_map]
  have := List.length_filter_le (Sp.neI id) (xs.take j.toNat)
  rw [List.length_take] at this
  omega
theorem Sp.f1_end (h : Sp.f1I id (Sp.ord ns ls) j out) (hj : ¬ j < ((Sp.ord ns ls).length : Int)) (hno : ∀ l ∈ ls, Sp.c0 l ≠ id) : Sp.ints out (Sp.ord (Sp.dfn (Sp.neI id) ns) (Sp.dfn (Sp.neL id) ls)) = true := by
  obtain ⟨h0, h1, h2⟩ := h
  refine Sp.ints_of ?_
  rw [h2, Sp.ord_rem hno, List.take_of_length_le (by omega), List.map_map]; rfl
end Go

namespace Go.Sx
/-! ### function 8: law22.GraphBack -/
def tb8 : List (Nat × Ct) := [(9, ct9), (11, ct11), (22, ct22), (27, ct27), (28, ct28), (24, ct24), (26, ct26), (33, ct33), (29, ct29), (31, ct31), (12, ct12), (14, ct14), (20, ct20), (17, ct17), (16, ct16)]
def A8  : FuncId → Nat → LoopAnn := fun _ ii => bif Nat.beq ii 25 then .ghost 26 [.int .i64] 3 (.on (fun sv0 => match sv0.tmps.getD 26 .undef, sv0.tmps.getD 134 .undef, sv0.tmps.getD 19 .undef with | .own rr _, .sl _ bq, .int _ iq => .inv (Int × List (List C)) (fun z => Sp.f1I iq bq z.1 z.2) (fun z => [(136, .int .i64 z.1), (26, .own rr 0)]) (fun z => [(rr, .row [.int .i64] 3 0 z.2)]) [rr] [0, 1, 2, 6, 7, 8, 9, 10, 11, 12, 13, 14, 15, 16, 17, 18, 19, 20, 21, 22, 24, 25, 26, 28, 30, 49, 63, 88, 92, 133, 134, 135, 136, 137, 142] (fun z => bq.length - z.1.toNat) | _, _, _ => .unroll 0)) else bif Nat.beq ii 1000011 then .on (fun sv0 => match sv0.tmps.getD 7 .undef, sv0.tmps.getD 10 .undef with | .ref gb _, .ref nb _ => .cut (List (List C) × List (List C) × Int × Int × Int × Int) (fun z => Sp.gbN z.1 z.2.1 z.2.2.1 z.2.2.2.1 z.2.2.2.2.1 z.2.2.2.2.2) (fun _ => []) (fun z => [(gb, .box [.sl [.int .i64, .int .i64, .int .i64, .int .i64] z.1, .sl [.int .i64, .int .i64, .int .i64, .int .i64] z.2.1] 25), (nb, .box [.int .i64 z.2.2.1, .int .i64 z.2.2.2.1, .int .i64 z.2.2.2.2.1, .int .i64 z.2.2.2.2.2] 43)]) [gb, nb] [0, 1, 2, 6, 7, 8, 9, 10, 11, 12, 13, 14, 15, 16, 17, 18, 19, 20, 21, 22, 24, 25, 26, 28, 30, 49, 63, 88, 92, 133, 134, 135, 136, 137, 142] | _, _ => .unroll 0) else bif Nat.beq ii 1000017 then .on (fun sv0 => match sv0.tmps.getD 7 .undef with | .ref gb _ => .cut (List (List C) × List (List C)) (fun z => Sp.gbM z.1 z.2) (fun _ => []) (fun z => [(gb, .box [.sl [.int .i64, .int .i64, .int .i64, .int .i64] z.1, .sl [.int .i64, .int .i64, .int .i64, .int .i64] z.2] 25)]) [gb] [0, 1, 2, 6, 7, 8, 9, 10, 11, 12, 13, 14, 15, 16, 17, 18, 19, 20, 21, 22, 24, 25, 26, 28, 30, 49, 63, 88, 92, 133, 134, 135, 136, 137, 142] | _ => .unroll 0) else .unroll 0
abbrev B8 (s : List (List C)) (t : List (List C)) (n : Int) : Prop := vcF Go.Proofs.Try.prog (look tb8) (fun _ => false) (A8) 8 8 [.sl [.int .u8] s, .sl [.int .u8] t, .int .u8 n] [] (fun sv _ => isTrue sv)
def h8_0 : List (List C) → List (List C) → Int → List SV := fun (s t : List (List C)) (n : Int) => [SV.sl [.int .u8] s, SV.sl [.int .u8] t, SV.int .u8 n, SV.ref 0 0, SV.ref 1 0, SV.ref 2 0, SV.ref 3 0, SV.undef, SV.undef, SV.undef, SV.undef, SV.undef, SV.undef, SV.undef, SV.undef, SV.undef, SV.undef, SV.undef, SV.undef, SV.blit false, SV.undef, SV.undef, SV.undef, SV.undef, SV.undef, SV.undef, SV.undef, SV.undef]
def h8_1 : List (List C) → List HB := fun (t : List (List C)) => [HB.gone, HB.box [SV.sl [.int .u8] (Sp.mnT (Sp.dT (Sp.lkT (cutRows t none (some (iMin (iLen t) 300)))) 5))] 75, HB.box [SV.int .i64 (Sp.lkA (cutRows t none (some (iMin (iLen t) 300)))), SV.int .i64 (Sp.lkB (cutRows t none (some (iMin (iLen t) 300)))), SV.int .i64 (Sp.lkC (cutRows t none (some (iMin (iLen t) 300)))), SV.int .i64 (Sp.lkD (cutRows t none (some (iMin (iLen t) 300))))] 45, HB.gone]
def h8_2 : List (List C) → List (List C) → Int → List (List C) × List (List C) × Int × Int × Int × Int → List SV := fun (s t : List (List C)) (n : Int) (x : List (List C) × List (List C) × Int × Int × Int × Int) => [SV.sl [.int .u8] s, SV.sl [.int .u8] t, SV.int .u8 n, SV.ref 0 0, SV.ref 1 0, SV.ref 2 0, SV.ref 3 0, SV.any, SV.any, SV.any, SV.any, SV.ref 4 0, SV.int .i64 (Sp.addE x.1 x.snd.1 x.snd.snd.1 x.snd.snd.snd.1 x.snd.snd.snd.snd.1 x.snd.snd.snd.snd.2), SV.ref 5 0, SV.int .i64 (Sp.remE (Sp.addN x.1 x.snd.1 x.snd.snd.1 x.snd.snd.snd.1 x.snd.snd.snd.snd.1 x.snd.snd.snd.snd.2) (Sp.addL x.1 x.snd.1 x.snd.snd.1 x.snd.snd.snd.1 x.snd.snd.snd.snd.1 x.snd.snd.snd.snd.2) x.snd.snd.1), SV.undef, SV.undef, SV.undef, SV.undef, SV.undef, SV.undef, SV.undef, SV.undef, SV.blit false, SV.any, SV.any, SV.blit false, SV.undef, SV.undef, SV.undef, SV.undef, SV.undef, SV.undef]
def h8_3 : List (List C) → List (List C) × List (List C) × Int × Int × Int × Int → List HB := fun (t : List (List C)) (x : List (List C) × List (List C) × Int × Int × Int × Int) => [HB.gone, HB.box [SV.sl [.int .u8] (Sp.mnT (Sp.dT (Sp.lkT (cutRows t none (some (iMin (iLen t) 300)))) 5))] 75, HB.box [SV.int .i64 (Sp.lkA (cutRows t none (some (iMin (iLen t) 300)))), SV.int .i64 (Sp.lkB (cutRows t none (some (iMin (iLen t) 300)))), SV.int .i64 (Sp.lkC (cutRows t none (some (iMin (iLen t) 300)))), SV.int .i64 (Sp.lkD (cutRows t none (some (iMin (iLen t) 300))))] 45, HB.box [SV.int .i64 x.snd.snd.1, SV.int .i64 x.snd.snd.snd.1, SV.int .i64 x.snd.snd.snd.snd.1, SV.int .i64 x.snd.snd.snd.snd.2] 43, HB.box [SV.sl [.int .i64, .int .i64, .int .i64, .int .i64] (Sp.addN x.1 x.snd.1 x.snd.snd.1 x.snd.snd.snd.1 x.snd.snd.snd.snd.1 x.snd.snd.snd.snd.2), SV.sl [.int .i64, .int .i64, .int .i64, .int .i64] (Sp.addL x.1 x.snd.1 x.snd.snd.1 x.snd.snd.snd.1 x.snd.snd.snd.snd.1 x.snd.snd.snd.snd.2)] 25, HB.box [SV.sl [.int .i64, .int .i64, .int .i64, .int .i64] (Sp.rgN (Sp.addN x.1 x.snd.1 x.snd.snd.1 x.snd.snd.snd.1 x.snd.snd.snd.snd.1 x.snd.snd.snd.snd.2) (Sp.addL x.1 x.snd.1 x.snd.snd.1 x.snd.snd.snd.1 x.snd.snd.snd.snd.1 x.snd.snd.snd.snd.2) x.snd.snd.1), SV.sl [.int .i64, .int .i64, .int .i64, .int .i64] (Sp.rgL (Sp.addN x.1 x.snd.1 x.snd.snd.1 x.snd.snd.snd.1 x.snd.snd.snd.snd.1 x.snd.snd.snd.snd.2) (Sp.addL x.1 x.snd.1 x.snd.snd.1 x.snd.snd.snd.1 x.snd.snd.snd.snd.1 x.snd.snd.snd.snd.2) x.snd.snd.1)] 25]
def h8_4 : List (List C) → List (List C) → Int → List (List C) × List (List C) × Int × Int × Int × Int → List (List C) × List (List C) → List SV := fun (s t : List (List C)) (n : Int) (x : List (List C) × List (List C) × Int × Int × Int × Int) (x_1 : List (List C) × List (List C)) => [SV.sl [.int .u8] s, SV.sl [.int .u8] t, SV.int .u8 n, SV.any, SV.ref 0 0, SV.ref 1 0, SV.ref 2 0, SV.ref 3 0, SV.any, SV.any, SV.any, SV.any, SV.ref 4 0, SV.int .i64 (Sp.addE x.1 x.snd.1 x.snd.snd.1 x.snd.snd.snd.1 x.snd.snd.snd.snd.1 x.snd.snd.snd.snd.2), SV.ref 5 0, SV.int .i64 (Sp.remE (Sp.addN x.1 x.snd.1 x.snd.snd.1 x.snd.snd.snd.1 x.snd.snd.snd.snd.1 x.snd.snd.snd.snd.2) (Sp.addL x.1 x.snd.1 x.snd.snd.1 x.snd.snd.snd.1 x.snd.snd.snd.snd.1 x.snd.snd.snd.snd.2) x.snd.snd.1), SV.int .i64 ((rGet x_1.1 (iRem n (iLen x_1.1))).headD default).int, SV.ref 6 0, SV.int .i64 (Sp.remE x_1.1 x_1.2 ((rGet x_1.1 (iRem n (iLen x_1.1))).headD default).int), SV.sl [.int .i64] (Sp.ordE x_1.1 x_1.2), SV.sl [.int .i64] (Sp.ordE (Sp.rgN x_1.1 x_1.2 ((rGet x_1.1 (iRem n (iLen x_1.1))).headD default).int) (Sp.rgL x_1.1 x_1.2 ((rGet x_1.1 (iRem n (iLen x_1.1))).headD default).int)), SV.int .i64 (Sp.vE (Sp.rgN x_1.1 x_1.2 ((rGet x_1.1 (iRem n (iLen x_1.1))).headD default).int) (Sp.rgL x_1.1 x_1.2 ((rGet x_1.1 (iRem n (iLen x_1.1))).headD default).int)), SV.blit false, SV.any, SV.any, SV.blit false, SV.any, SV.blit false, SV.sl [.int .i64] (Sp.ordE x_1.1 x_1.2), SV.int .i64 (iLen (Sp.ordE x_1.1 x_1.2))]
def h8_5 : List (List C) → Int → List (List C) × List (List C) × Int × Int × Int × Int → List (List C) × List (List C) → List HB := fun (t : List (List C)) (n : Int) (x : List (List C) × List (List C) × Int × Int × Int × Int) (x_1 : List (List C) × List (List C)) => [HB.box [SV.sl [.int .i64, .int .i64, .int .i64, .int .i64] x_1.1, SV.sl [.int .i64, .int .i64, .int .i64, .int .i64] x_1.2] 25, HB.box [SV.sl [.int .u8] (Sp.mnT (Sp.dT (Sp.lkT (cutRows t none (some (iMin (iLen t) 300)))) 5))] 75, HB.box [SV.int .i64 (Sp.lkA (cutRows t none (some (iMin (iLen t) 300)))), SV.int .i64 (Sp.lkB (cutRows t none (some (iMin (iLen t) 300)))), SV.int .i64 (Sp.lkC (cutRows t none (some (iMin (iLen t) 300)))), SV.int .i64 (Sp.lkD (cutRows t none (some (iMin (iLen t) 300))))] 45, HB.box [SV.int .i64 x.snd.snd.1, SV.int .i64 x.snd.snd.snd.1, SV.int .i64 x.snd.snd.snd.snd.1, SV.int .i64 x.snd.snd.snd.snd.2] 43, HB.box [SV.sl [.int .i64, .int .i64, .int .i64, .int .i64] (Sp.addN x.1 x.snd.1 x.snd.snd.1 x.snd.snd.snd.1 x.snd.snd.snd.snd.1 x.snd.snd.snd.snd.2), SV.sl [.int .i64, .int .i64, .int .i64, .int .i64] (Sp.addL x.1 x.snd.1 x.snd.snd.1 x.snd.snd.snd.1 x.snd.snd.snd.snd.1 x.snd.snd.snd.snd.2)] 25, HB.box [SV.sl [.int .i64, .int .i64, .int .i64, .int .i64] (Sp.rgN (Sp.addN x.1 x.snd.1 x.snd.snd.1 x.snd.snd.snd.1 x.snd.snd.snd.snd.1 x.snd.snd.snd.snd.2) (Sp.addL x.1 x.snd.1 x.snd.snd.1 x.snd.snd.snd.1 x.snd.snd.snd.snd.1 x.snd.snd.snd.snd.2) x.snd.snd.1), SV.sl [.int .i64, .int .i64, .int .i64, .int .i64] (Sp.rgL (Sp.addN x.1 x.snd.1 x.snd.snd.1 x.snd.snd.snd.1 x.snd.snd.snd.snd.1 x.snd.snd.snd.snd.2) (Sp.addL x.1 x.snd.1 x.snd.snd.1 x.snd.snd.snd.1 x.snd.snd.snd.snd.1 x.snd.snd.snd.snd.2) x.snd.snd.1)] 25, HB.box [SV.sl [.int .i64, .int .i64, .int .i64, .int .i64] (Sp.rgN x_1.1 x_1.2 ((rGet x_1.1 (iRem n (iLen x_1.1))).headD default).int), SV.sl [.int .i64, .int .i64, .int .i64, .int .i64] (Sp.rgL x_1.1 x_1.2 ((rGet x_1.1 (iRem n (iLen x_1.1))).headD default).int)] 25, HB.gone]
theorem e8 (s : List (List C)) (t : List (List C)) (n : Int) : B8 s t n = (True ∧ (True → True ∧ (bNot true = true → false = true) ∧ (bNot true = false → True ∧ (((Sp.mgN (Sp.s300 s) 9).length ≤ 9223372036854775807 ∧ ∀ (x : List C), x ∈ Sp.mgN (Sp.s300 s) 9 → WfCs [.int .i64, .int .i64, .int .i64, .int .i64] x) ∧ ((Sp.mgL (Sp.s300 s) 9).length ≤ 9223372036854775807 ∧ ∀ (x : List C), x ∈ Sp.mgL (Sp.s300 s) 9 → WfCs [.int .i64, .int .i64, .int .i64, .int .i64] x) ∧ True → pLe (iLen t) 9223372036854775807 → geB none (some (iMin (iLen t) 300)) (iLen t) ∧ True ∧ (InR .i64 (Sp.lkA (cutRows t none (some (iMin (iLen t) 300)))) ∧ InR .i64 (Sp.lkB (cutRows t none (some (iMin (iLen t) 300)))) ∧ InR .i64 (Sp.lkC (cutRows t none (some (iMin (iLen t) 300)))) ∧ InR .i64 (Sp.lkD (cutRows t none (some (iMin (iLen t) 300)))) ∧ True → (pLe 1 5 ∧ True) ∧ (InR .i64 (Sp.dN (Sp.lkT (cutRows t none (some (iMin (iLen t) 300)))) 5) → InR .i64 (iAdd 13 (Sp.dN (Sp.lkT (cutRows t none (some (iMin (iLen t) 300)))) 5)) ∧ True ∧ (InR .i64 (iAdd 13 (Sp.dN (Sp.lkT (cutRows t none (some (iMin (iLen t) 300)))) 5)) ∧ InR .i64 (Sp.mnK (Sp.dT (Sp.lkT (cutRows t none (some (iMin (iLen t) 300)))) 5)) ∧ InR .i64 (Sp.mnI (Sp.dT (Sp.lkT (cutRows t none (some (iMin (iLen t) 300)))) 5)) ∧ InR .i64 (Sp.mnO (Sp.dT (Sp.lkT (cutRows t none (some (iMin (iLen t) 300)))) 5)) ∧ True → (∀ (x : List (List C) × List (List C) × Int × Int × Int × Int), true = true ∧ true = true) ∧ (True ∧ ((((Sp.conN (Sp.mgN (Sp.s300 s) 9) (Sp.mgL (Sp.s300 s) 9) (Sp.lkA (cutRows t none (some (iMin (iLen t) 300)))) (Sp.lkB (cutRows t none (some (iMin (iLen t) 300)))) (Sp.lkC (cutRows t none (some (iMin (iLen t) 300)))) (Sp.lkD (cutRows t none (some (iMin (iLen t) 300))))).length ≤ 9223372036854775807 ∧ ∀ (x : List C), x ∈ Sp.conN (Sp.mgN (Sp.s300 s) 9) (Sp.mgL (Sp.s300 s) 9) (Sp.lkA (cutRows t none (some (iMin (iLen t) 300)))) (Sp.lkB (cutRows t none (some (iMin (iLen t) 300)))) (Sp.lkC (cutRows t none (some (iMin (iLen t) 300)))) (Sp.lkD (cutRows t none (some (iMin (iLen t) 300)))) → WfCs [.int .i64, .int .i64, .int .i64, .int .i64] x) ∧ ((Sp.conL (Sp.mgN (Sp.s300 s) 9) (Sp.mgL (Sp.s300 s) 9) (Sp.lkA (cutRows t none (some (iMin (iLen t) 300)))) (Sp.lkB (cutRows t none (some (iMin (iLen t) 300)))) (Sp.lkC (cutRows t none (some (iMin (iLen t) 300)))) (Sp.lkD (cutRows t none (some (iMin (iLen t) 300))))).length ≤ 9223372036854775807 ∧ ∀ (x : List C), x ∈ Sp.conL (Sp.mgN (Sp.s300 s) 9) (Sp.mgL (Sp.s300 s) 9) (Sp.lkA (cutRows t none (some (iMin (iLen t) 300)))) (Sp.lkB (cutRows t none (some (iMin (iLen t) 300)))) (Sp.lkC (cutRows t none (some (iMin (iLen t) 300)))) (Sp.lkD (cutRows t none (some (iMin (iLen t) 300)))) → WfCs [.int .i64, .int .i64, .int .i64, .int .i64] x) ∧ True) ∧ InR .i64 (Sp.conE (Sp.mgN (Sp.s300 s) 9) (Sp.mgL (Sp.s300 s) 9) (Sp.lkA (cutRows t none (some (iMin (iLen t) 300)))) (Sp.lkB (cutRows t none (some (iMin (iLen t) 300)))) (Sp.lkC (cutRows t none (some (iMin (iLen t) 300)))) (Sp.lkD (cutRows t none (some (iMin (iLen t) 300))))) ∧ True → (bEq (Sp.conE (Sp.mgN (Sp.s300 s) 9) (Sp.mgL (Sp.s300 s) 9) (Sp.lkA (cutRows t none (some (iMin (iLen t) 300)))) (Sp.lkB (cutRows t none (some (iMin (iLen t) 300)))) (Sp.lkC (cutRows t none (some (iMin (iLen t) 300)))) (Sp.lkD (cutRows t none (some (iMin (iLen t) 300))))) 0 = true → True ∧ ((((Sp.disN (Sp.conN (Sp.mgN (Sp.s300 s) 9) (Sp.mgL (Sp.s300 s) 9) (Sp.lkA (cutRows t none (some (iMin (iLen t) 300)))) (Sp.lkB (cutRows t none (some (iMin (iLen t) 300)))) (Sp.lkC (cutRows t none (some (iMin (iLen t) 300)))) (Sp.lkD (cutRows t none (some (iMin (iLen t) 300))))) (Sp.conL (Sp.mgN (Sp.s300 s) 9) (Sp.mgL (Sp.s300 s) 9) (Sp.lkA (cutRows t none (some (iMin (iLen t) 300)))) (Sp.lkB (cutRows t none (some (iMin (iLen t) 300)))) (Sp.lkC (cutRows t none (some (iMin (iLen t) 300)))) (Sp.lkD (cutRows t none (some (iMin (iLen t) 300))))) (Sp.lkA (cutRows t none (some (iMin (iLen t) 300)))) (Sp.lkB (cutRows t none (some (iMin (iLen t) 300)))) (Sp.lkC (cutRows t none (some (iMin (iLen t) 300)))) (Sp.lkD (cutRows t none (some (iMin (iLen t) 300))))).length ≤ 9223372036854775807 ∧ ∀ (x : List C), x ∈ Sp.disN (Sp.conN (Sp.mgN (Sp.s300 s) 9) (Sp.mgL (Sp.s300 s) 9) (Sp.lkA (cutRows t none (some (iMin (iLen t) 300)))) (Sp.lkB (cutRows t none (some (iMin (iLen t) 300)))) (Sp.lkC (cutRows t none (some (iMin (iLen t) 300)))) (Sp.lkD (cutRows t none (some (iMin (iLen t) 300))))) (Sp.conL (Sp.mgN (Sp.s300 s) 9) (Sp.mgL (Sp.s300 s) 9) (Sp.lkA (cutRows t none (some (iMin (iLen t) 300)))) (Sp.lkB (cutRows t none (some (iMin (iLen t) 300)))) (Sp.lkC (cutRows t none (some (iMin (iLen t) 300)))) (Sp.lkD (cutRows t none (some (iMin (iLen t) 300))))) (Sp.lkA (cutRows t none (some (iMin (iLen t) 300)))) (Sp.lkB (cutRows t none (some (iMin (iLen t) 300)))) (Sp.lkC (cutRows t none (some (iMin (iLen t) 300)))) (Sp.lkD (cutRows t none (some (iMin (iLen t) 300)))) → WfCs [.int .i64, .int .i64, .int .i64, .int .i64] x) ∧ ((Sp.disL (Sp.conN (Sp.mgN (Sp.s300 s) 9) (Sp.mgL (Sp.s300 s) 9) (Sp.lkA (cutRows t none (some (iMin (iLen t) 300)))) (Sp.lkB (cutRows t none (some (iMin (iLen t) 300)))) (Sp.lkC (cutRows t none (some (iMin (iLen t) 300)))) (Sp.lkD (cutRows t none (some (iMin (iLen t) 300))))) (Sp.conL (Sp.mgN (Sp.s300 s) 9) (Sp.mgL (Sp.s300 s) 9) (Sp.lkA (cutRows t none (some (iMin (iLen t) 300)))) (Sp.lkB (cutRows t none (some (iMin (iLen t) 300)))) (Sp.lkC (cutRows t none (some (iMin (iLen t) 300)))) (Sp.lkD (cutRows t none (some (iMin (iLen t) 300))))) (Sp.lkA (cutRows t none (some (iMin (iLen t) 300)))) (Sp.lkB (cutRows t none (some (iMin (iLen t) 300)))) (Sp.lkC (cutRows t none (some (iMin (iLen t) 300)))) (Sp.lkD (cutRows t none (some (iMin (iLen t) 300))))).length ≤ 9223372036854775807 ∧ ∀ (x : List C), x ∈ Sp.disL (Sp.conN (Sp.mgN (Sp.s300 s) 9) (Sp.mgL (Sp.s300 s) 9) (Sp.lkA (cutRows t none (some (iMin (iLen t) 300)))) (Sp.lkB (cutRows t none (some (iMin (iLen t) 300)))) (Sp.lkC (cutRows t none (some (iMin (iLen t) 300)))) (Sp.lkD (cutRows t none (some (iMin (iLen t) 300))))) (Sp.conL (Sp.mgN (Sp.s300 s) 9) (Sp.mgL (Sp.s300 s) 9) (Sp.lkA (cutRows t none (some (iMin (iLen t) 300)))) (Sp.lkB (cutRows t none (some (iMin (iLen t) 300)))) (Sp.lkC (cutRows t none (some (iMin (iLen t) 300)))) (Sp.lkD (cutRows t none (some (iMin (iLen t) 300))))) (Sp.lkA (cutRows t none (some (iMin (iLen t) 300)))) (Sp.lkB (cutRows t none (some (iMin (iLen t) 300)))) (Sp.lkC (cutRows t none (some (iMin (iLen t) 300)))) (Sp.lkD (cutRows t none (some (iMin (iLen t) 300)))) → WfCs [.int .i64, .int .i64, .int .i64, .int .i64] x) ∧ True) ∧ InR .i64 (Sp.disE (Sp.conN (Sp.mgN (Sp.s300 s) 9) (Sp.mgL (Sp.s300 s) 9) (Sp.lkA (cutRows t none (some (iMin (iLen t) 300)))) (Sp.lkB (cutRows t none (some (iMin (iLen t) 300)))) (Sp.lkC (cutRows t none (some (iMin (iLen t) 300)))) (Sp.lkD (cutRows t none (some (iMin (iLen t) 300))))) (Sp.conL (Sp.mgN (Sp.s300 s) 9) (Sp.mgL (Sp.s300 s) 9) (Sp.lkA (cutRows t none (some (iMin (iLen t) 300)))) (Sp.lkB (cutRows t none (some (iMin (iLen t) 300)))) (Sp.lkC (cutRows t none (some (iMin (iLen t) 300)))) (Sp.lkD (cutRows t none (some (iMin (iLen t) 300))))) (Sp.lkA (cutRows t none (some (iMin (iLen t) 300)))) (Sp.lkB (cutRows t none (some (iMin (iLen t) 300)))) (Sp.lkC (cutRows t none (some (iMin (iLen t) 300)))) (Sp.lkD (cutRows t none (some (iMin (iLen t) 300))))) ∧ True → (bNe (Sp.disE (Sp.conN (Sp.mgN (Sp.s300 s) 9) (Sp.mgL (Sp.s300 s) 9) (Sp.lkA (cutRows t none (some (iMin (iLen t) 300)))) (Sp.lkB (cutRows t none (some (iMin (iLen t) 300)))) (Sp.lkC (cutRows t none (some (iMin (iLen t) 300)))) (Sp.lkD (cutRows t none (some (iMin (iLen t) 300))))) (Sp.conL (Sp.mgN (Sp.s300 s) 9) (Sp.mgL (Sp.s300 s) 9) (Sp.lkA (cutRows t none (some (iMin (iLen t) 300)))) (Sp.lkB (cutRows t none (some (iMin (iLen t) 300)))) (Sp.lkC (cutRows t none (some (iMin (iLen t) 300)))) (Sp.lkD (cutRows t none (some (iMin (iLen t) 300))))) (Sp.lkA (cutRows t none (some (iMin (iLen t) 300)))) (Sp.lkB (cutRows t none (some (iMin (iLen t) 300)))) (Sp.lkC (cutRows t none (some (iMin (iLen t) 300)))) (Sp.lkD (cutRows t none (some (iMin (iLen t) 300))))) 0 = false → True ∧ (True → True ∧ (bNot (Sp.sameG (Sp.disN (Sp.conN (Sp.mgN (Sp.s300 s) 9) (Sp.mgL (Sp.s300 s) 9) (Sp.lkA (cutRows t none (some (iMin (iLen t) 300)))) (Sp.lkB (cutRows t none (some (iMin (iLen t) 300)))) (Sp.lkC (cutRows t none (some (iMin (iLen t) 300)))) (Sp.lkD (cutRows t none (some (iMin (iLen t) 300))))) (Sp.conL (Sp.mgN (Sp.s300 s) 9) (Sp.mgL (Sp.s300 s) 9) (Sp.lkA (cutRows t none (some (iMin (iLen t) 300)))) (Sp.lkB (cutRows t none (some (iMin (iLen t) 300)))) (Sp.lkC (cutRows t none (some (iMin (iLen t) 300)))) (Sp.lkD (cutRows t none (some (iMin (iLen t) 300))))) (Sp.lkA (cutRows t none (some (iMin (iLen t) 300)))) (Sp.lkB (cutRows t none (some (iMin (iLen t) 300)))) (Sp.lkC (cutRows t none (some (iMin (iLen t) 300)))) (Sp.lkD (cutRows t none (some (iMin (iLen t) 300))))) (Sp.disL (Sp.conN (Sp.mgN (Sp.s300 s) 9) (Sp.mgL (Sp.s300 s) 9) (Sp.lkA (cutRows t none (some (iMin (iLen t) 300)))) (Sp.lkB (cutRows t none (some (iMin (iLen t) 300)))) (Sp.lkC (cutRows t none (some (iMin (iLen t) 300)))) (Sp.lkD (cutRows t none (some (iMin (iLen t) 300))))) (Sp.conL (Sp.mgN (Sp.s300 s) 9) (Sp.mgL (Sp.s300 s) 9) (Sp.lkA (cutRows t none (some (iMin (iLen t) 300)))) (Sp.lkB (cutRows t none (some (iMin (iLen t) 300)))) (Sp.lkC (cutRows t none (some (iMin (iLen t) 300)))) (Sp.lkD (cutRows t none (some (iMin (iLen t) 300))))) (Sp.lkA (cutRows t none (some (iMin (iLen t) 300)))) (Sp.lkB (cutRows t none (some (iMin (iLen t) 300)))) (Sp.lkC (cutRows t none (some (iMin (iLen t) 300)))) (Sp.lkD (cutRows t none (some (iMin (iLen t) 300))))) (Sp.mgN (Sp.s300 s) 9) (Sp.mgL (Sp.s300 s) 9)) = true → false = true) ∧ (bNot (Sp.sameG (Sp.disN (Sp.conN (Sp.mgN (Sp.s300 s) 9) (Sp.mgL (Sp.s300 s) 9) (Sp.lkA (cutRows t none (some (iMin (iLen t) 300)))) (Sp.lkB (cutRows t none (some (iMin (iLen t) 300)))) (Sp.lkC (cutRows t none (some (iMin (iLen t) 300)))) (Sp.lkD (cutRows t none (some (iMin (iLen t) 300))))) (Sp.conL (Sp.mgN (Sp.s300 s) 9) (Sp.mgL (Sp.s300 s) 9) (Sp.lkA (cutRows t none (some (iMin (iLen t) 300)))) (Sp.lkB (cutRows t none (some (iMin (iLen t) 300)))) (Sp.lkC (cutRows t none (some (iMin (iLen t) 300)))) (Sp.lkD (cutRows t none (some (iMin (iLen t) 300))))) (Sp.lkA (cutRows t none (some (iMin (iLen t) 300)))) (Sp.lkB (cutRows t none (some (iMin (iLen t) 300)))) (Sp.lkC (cutRows t none (some (iMin (iLen t) 300)))) (Sp.lkD (cutRows t none (some (iMin (iLen t) 300))))) (Sp.disL (Sp.conN (Sp.mgN (Sp.s300 s) 9) (Sp.mgL (Sp.s300 s) 9) (Sp.lkA (cutRows t none (some (iMin (iLen t) 300)))) (Sp.lkB (cutRows t none (some (iMin (iLen t) 300)))) (Sp.lkC (cutRows t none (some (iMin (iLen t) 300)))) (Sp.lkD (cutRows t none (some (iMin (iLen t) 300))))) (Sp.conL (Sp.mgN (Sp.s300 s) 9) (Sp.mgL (Sp.s300 s) 9) (Sp.lkA (cutRows t none (some (iMin (iLen t) 300)))) (Sp.lkB (cutRows t none (some (iMin (iLen t) 300)))) (Sp.lkC (cutRows t none (some (iMin (iLen t) 300)))) (Sp.lkD (cutRows t none (some (iMin (iLen t) 300))))) (Sp.lkA (cutRows t none (some (iMin (iLen t) 300)))) (Sp.lkB (cutRows t none (some (iMin (iLen t) 300)))) (Sp.lkC (cutRows t none (some (iMin (iLen t) 300)))) (Sp.lkD (cutRows t none (some (iMin (iLen t) 300))))) (Sp.mgN (Sp.s300 s) 9) (Sp.mgL (Sp.s300 s) 9)) = false → (true = true ∧ h8_0 s t n = h8_0 s t n) ∧ h8_1 t = h8_1 t ∧ ∃ (y : List (List C) × List (List C) × Int × Int × Int × Int), Sp.gbN y.1 y.snd.1 y.snd.snd.1 y.snd.snd.snd.1 y.snd.snd.snd.snd.1 y.snd.snd.snd.snd.2 ∧ true = true ∧ True ∧ ((([Sh.int .i64, Sh.int .i64, Sh.int .i64, Sh.int .i64] = [Sh.int .i64, Sh.int .i64, Sh.int .i64, Sh.int .i64] ∧ Sp.mgN (Sp.s300 s) 9 = y.1) ∧ ([Sh.int .i64, Sh.int .i64, Sh.int .i64, Sh.int .i64] = [Sh.int .i64, Sh.int .i64, Sh.int .i64, Sh.int .i64] ∧ Sp.mgL (Sp.s300 s) 9 = y.snd.1) ∧ True) ∧ 25 = 25) ∧ (((IntKind.i64 = IntKind.i64 ∧ iAdd 13 (Sp.dN (Sp.lkT (cutRows t none (some (iMin (iLen t) 300)))) 5) = y.snd.snd.1) ∧ (IntKind.i64 = IntKind.i64 ∧ Sp.mnK (Sp.dT (Sp.lkT (cutRows t none (some (iMin (iLen t) 300)))) 5) = y.snd.snd.snd.1) ∧ (IntKind.i64 = IntKind.i64 ∧ Sp.mnI (Sp.dT (Sp.lkT (cutRows t none (some (iMin (iLen t) 300)))) 5) = y.snd.snd.snd.snd.1) ∧ (IntKind.i64 = IntKind.i64 ∧ Sp.mnO (Sp.dT (Sp.lkT (cutRows t none (some (iMin (iLen t) 300)))) 5) = y.snd.snd.snd.snd.2) ∧ True) ∧ 43 = 43) ∧ True))) ∧ (bNe (Sp.disE (Sp.conN (Sp.mgN (Sp.s300 s) 9) (Sp.mgL (Sp.s300 s) 9) (Sp.lkA (cutRows t none (some (iMin (iLen t) 300)))) (Sp.lkB (cutRows t none (some (iMin (iLen t) 300)))) (Sp.lkC (cutRows t none (some (iMin (iLen t) 300)))) (Sp.lkD (cutRows t none (some (iMin (iLen t) 300))))) (Sp.conL (Sp.mgN (Sp.s300 s) 9) (Sp.mgL (Sp.s300 s) 9) (Sp.lkA (cutRows t none (some (iMin (iLen t) 300)))) (Sp.lkB (cutRows t none (some (iMin (iLen t) 300)))) (Sp.lkC (cutRows t none (some (iMin (iLen t) 300)))) (Sp.lkD (cutRows t none (some (iMin (iLen t) 300))))) (Sp.lkA (cutRows t none (some (iMin (iLen t) 300)))) (Sp.lkB (cutRows t none (some (iMin (iLen t) 300)))) (Sp.lkC (cutRows t none (some (iMin (iLen t) 300)))) (Sp.lkD (cutRows t none (some (iMin (iLen t) 300))))) 0 = true → false = true))) ∧ (bEq (Sp.conE (Sp.mgN (Sp.s300 s) 9) (Sp.mgL (Sp.s300 s) 9) (Sp.lkA (cutRows t none (some (iMin (iLen t) 300)))) (Sp.lkB (cutRows t none (some (iMin (iLen t) 300)))) (Sp.lkC (cutRows t none (some (iMin (iLen t) 300)))) (Sp.lkD (cutRows t none (some (iMin (iLen t) 300))))) 0 = false → (true = true ∧ h8_0 s t n = h8_0 s t n) ∧ h8_1 t = h8_1 t ∧ ∃ (y : List (List C) × List (List C) × Int × Int × Int × Int), Sp.gbN y.1 y.snd.1 y.snd.snd.1 y.snd.snd.snd.1 y.snd.snd.snd.snd.1 y.snd.snd.snd.snd.2 ∧ true = true ∧ True ∧ ((([Sh.int .i64, Sh.int .i64, Sh.int .i64, Sh.int .i64] = [Sh.int .i64, Sh.int .i64, Sh.int .i64, Sh.int .i64] ∧ Sp.mgN (Sp.s300 s) 9 = y.1) ∧ ([Sh.int .i64, Sh.int .i64, Sh.int .i64, Sh.int .i64] = [Sh.int .i64, Sh.int .i64, Sh.int .i64, Sh.int .i64] ∧ Sp.mgL (Sp.s300 s) 9 = y.snd.1) ∧ True) ∧ 25 = 25) ∧ (((IntKind.i64 = IntKind.i64 ∧ iAdd 13 (Sp.dN (Sp.lkT (cutRows t none (some (iMin (iLen t) 300)))) 5) = y.snd.snd.1) ∧ (IntKind.i64 = IntKind.i64 ∧ Sp.mnK (Sp.dT (Sp.lkT (cutRows t none (some (iMin (iLen t) 300)))) 5) = y.snd.snd.snd.1) ∧ (IntKind.i64 = IntKind.i64 ∧ Sp.mnI (Sp.dT (Sp.lkT (cutRows t none (some (iMin (iLen t) 300)))) 5) = y.snd.snd.snd.snd.1) ∧ (IntKind.i64 = IntKind.i64 ∧ Sp.mnO (Sp.dT (Sp.lkT (cutRows t none (some (iMin (iLen t) 300)))) 5) = y.snd.snd.snd.snd.2) ∧ True) ∧ 43 = 43) ∧ True))) ∧ ∀ (x : List (List C) × List (List C) × Int × Int × Int × Int), Sp.gbN x.1 x.snd.1 x.snd.snd.1 x.snd.snd.snd.1 x.snd.snd.snd.snd.1 x.snd.snd.snd.snd.2 → True → ((x.1.length ≤ 9223372036854775807 ∧ ∀ (x_1 : List C), x_1 ∈ x.1 → WfCs [.int .i64, .int .i64, .int .i64, .int .i64] x_1) ∧ (x.snd.1.length ≤ 9223372036854775807 ∧ ∀ (x_1 : List C), x_1 ∈ x.snd.1 → WfCs [.int .i64, .int .i64, .int .i64, .int .i64] x_1) ∧ True) ∧ (InR .i64 x.snd.snd.1 ∧ InR .i64 x.snd.snd.snd.1 ∧ InR .i64 x.snd.snd.snd.snd.1 ∧ InR .i64 x.snd.snd.snd.snd.2 ∧ True) ∧ True → True ∧ ((((Sp.addN x.1 x.snd.1 x.snd.snd.1 x.snd.snd.snd.1 x.snd.snd.snd.snd.1 x.snd.snd.snd.snd.2).length ≤ 9223372036854775807 ∧ ∀ (x_1 : List C), x_1 ∈ Sp.addN x.1 x.snd.1 x.snd.snd.1 x.snd.snd.snd.1 x.snd.snd.snd.snd.1 x.snd.snd.snd.snd.2 → WfCs [.int .i64, .int .i64, .int .i64, .int .i64] x_1) ∧ ((Sp.addL x.1 x.snd.1 x.snd.snd.1 x.snd.snd.snd.1 x.snd.snd.snd.snd.1 x.snd.snd.snd.snd.2).length ≤ 9223372036854775807 ∧ ∀ (x_1 : List C), x_1 ∈ Sp.addL x.1 x.snd.1 x.snd.snd.1 x.snd.snd.snd.1 x.snd.snd.snd.snd.1 x.snd.snd.snd.snd.2 → WfCs [.int .i64, .int .i64, .int .i64, .int .i64] x_1) ∧ True) ∧ InR .i64 (Sp.addE x.1 x.snd.1 x.snd.snd.1 x.snd.snd.snd.1 x.snd.snd.snd.snd.1 x.snd.snd.snd.snd.2) ∧ True → True ∧ ((((Sp.rgN (Sp.addN x.1 x.snd.1 x.snd.snd.1 x.snd.snd.snd.1 x.snd.snd.snd.snd.1 x.snd.snd.snd.snd.2) (Sp.addL x.1 x.snd.1 x.snd.snd.1 x.snd.snd.snd.1 x.snd.snd.snd.snd.1 x.snd.snd.snd.snd.2) x.snd.snd.1).length ≤ 9223372036854775807 ∧ ∀ (x_1 : List C), x_1 ∈ Sp.rgN (Sp.addN x.1 x.snd.1 x.snd.snd.1 x.snd.snd.snd.1 x.snd.snd.snd.snd.1 x.snd.snd.snd.snd.2) (Sp.addL x.1 x.snd.1 x.snd.snd.1 x.snd.snd.snd.1 x.snd.snd.snd.snd.1 x.snd.snd.snd.snd.2) x.snd.snd.1 → WfCs [.int .i64, .int .i64, .int .i64, .int .i64] x_1) ∧ ((Sp.rgL (Sp.addN x.1 x.snd.1 x.snd.snd.1 x.snd.snd.snd.1 x.snd.snd.snd.snd.1 x.snd.snd.snd.snd.2) (Sp.addL x.1 x.snd.1 x.snd.snd.1 x.snd.snd.snd.1 x.snd.snd.snd.snd.1 x.snd.snd.snd.snd.2) x.snd.snd.1).length ≤ 9223372036854775807 ∧ ∀ (x_1 : List C), x_1 ∈ Sp.rgL (Sp.addN x.1 x.snd.1 x.snd.snd.1 x.snd.snd.snd.1 x.snd.snd.snd.snd.1 x.snd.snd.snd.snd.2) (Sp.addL x.1 x.snd.1 x.snd.snd.1 x.snd.snd.snd.1 x.snd.snd.snd.snd.1 x.snd.snd.snd.snd.2) x.snd.snd.1 → WfCs [.int .i64, .int .i64, .int .i64, .int .i64] x_1) ∧ True) ∧ InR .i64 (Sp.remE (Sp.addN x.1 x.snd.1 x.snd.snd.1 x.snd.snd.snd.1 x.snd.snd.snd.snd.1 x.snd.snd.snd.snd.2) (Sp.addL x.1 x.snd.1 x.snd.snd.1 x.snd.snd.snd.1 x.snd.snd.snd.snd.1 x.snd.snd.snd.snd.2) x.snd.snd.1) ∧ True → (bNe (Sp.addE x.1 x.snd.1 x.snd.snd.1 x.snd.snd.snd.1 x.snd.snd.snd.snd.1 x.snd.snd.snd.snd.2) 0 = false → (bNe (Sp.remE (Sp.addN x.1 x.snd.1 x.snd.snd.1 x.snd.snd.snd.1 x.snd.snd.snd.snd.1 x.snd.snd.snd.snd.2) (Sp.addL x.1 x.snd.1 x.snd.snd.1 x.snd.snd.snd.1 x.snd.snd.snd.snd.1 x.snd.snd.snd.snd.2) x.snd.snd.1) 0 = false → True ∧ (True → True ∧ (bNot (Sp.sameG (Sp.rgN (Sp.addN x.1 x.snd.1 x.snd.snd.1 x.snd.snd.snd.1 x.snd.snd.snd.snd.1 x.snd.snd.snd.snd.2) (Sp.addL x.1 x.snd.1 x.snd.snd.1 x.snd.snd.snd.1 x.snd.snd.snd.snd.1 x.snd.snd.snd.snd.2) x.snd.snd.1) (Sp.rgL (Sp.addN x.1 x.snd.1 x.snd.snd.1 x.snd.snd.snd.1 x.snd.snd.snd.snd.1 x.snd.snd.snd.snd.2) (Sp.addL x.1 x.snd.1 x.snd.snd.1 x.snd.snd.snd.1 x.snd.snd.snd.snd.1 x.snd.snd.snd.snd.2) x.snd.snd.1) x.1 x.snd.1) = true → false = true) ∧ (bNot (Sp.sameG (Sp.rgN (Sp.addN x.1 x.snd.1 x.snd.snd.1 x.snd.snd.snd.1 x.snd.snd.snd.snd.1 x.snd.snd.snd.snd.2) (Sp.addL x.1 x.snd.1 x.snd.snd.1 x.snd.snd.snd.1 x.snd.snd.snd.snd.1 x.snd.snd.snd.snd.2) x.snd.snd.1) (Sp.rgL (Sp.addN x.1 x.snd.1 x.snd.snd.1 x.snd.snd.snd.1 x.snd.snd.snd.snd.1 x.snd.snd.snd.snd.2) (Sp.addL x.1 x.snd.1 x.snd.snd.1 x.snd.snd.snd.1 x.snd.snd.snd.snd.1 x.snd.snd.snd.snd.2) x.snd.snd.1) x.1 x.snd.1) = false → (∀ (x : List (List C) × List (List C)), true = true ∧ true = true) ∧ (pLe (iLen x.1) 9223372036854775807 → (bEq (iLen x.1) 0 = true → true = true) ∧ (bEq (iLen x.1) 0 = false → (true = true ∧ h8_2 s t n x = h8_2 s t n x) ∧ h8_3 t x = h8_3 t x ∧ ∃ (y : List (List C) × List (List C)), Sp.gbM y.1 y.2 ∧ true = true ∧ True ∧ ((([Sh.int .i64, Sh.int .i64, Sh.int .i64, Sh.int .i64] = [Sh.int .i64, Sh.int .i64, Sh.int .i64, Sh.int .i64] ∧ x.1 = y.1) ∧ ([Sh.int .i64, Sh.int .i64, Sh.int .i64, Sh.int .i64] = [Sh.int .i64, Sh.int .i64, Sh.int .i64, Sh.int .i64] ∧ x.snd.1 = y.2) ∧ True) ∧ 25 = 25) ∧ True)) ∧ ∀ (x_1 : List (List C) × List (List C)), Sp.gbM x_1.1 x_1.2 → True → ((x_1.1.length ≤ 9223372036854775807 ∧ ∀ (x : List C), x ∈ x_1.1 → WfCs [.int .i64, .int .i64, .int .i64, .int .i64] x) ∧ (x_1.2.length ≤ 9223372036854775807 ∧ ∀ (x : List C), x ∈ x_1.2 → WfCs [.int .i64, .int .i64, .int .i64, .int .i64] x) ∧ True) ∧ True → pLe (iLen x_1.1) 9223372036854775807 → pNe (iLen x_1.1) 0 ∧ pIn 0 (iLen x_1.1) (iRem n (iLen x_1.1)) ∧ (InR .i64 ((rGet x_1.1 (iRem n (iLen x_1.1))).headD default).int → True ∧ ((((Sp.rgN x_1.1 x_1.2 ((rGet x_1.1 (iRem n (iLen x_1.1))).headD default).int).length ≤ 9223372036854775807 ∧ ∀ (x : List C), x ∈ Sp.rgN x_1.1 x_1.2 ((rGet x_1.1 (iRem n (iLen x_1.1))).headD default).int → WfCs [.int .i64, .int .i64, .int .i64, .int .i64] x) ∧ ((Sp.rgL x_1.1 x_1.2 ((rGet x_1.1 (iRem n (iLen x_1.1))).headD default).int).length ≤ 9223372036854775807 ∧ ∀ (x : List C), x ∈ Sp.rgL x_1.1 x_1.2 ((rGet x_1.1 (iRem n (iLen x_1.1))).headD default).int → WfCs [.int .i64, .int .i64, .int .i64, .int .i64] x) ∧ True) ∧ InR .i64 (Sp.remE x_1.1 x_1.2 ((rGet x_1.1 (iRem n (iLen x_1.1))).headD default).int) ∧ True → True ∧ (((Sp.ordE x_1.1 x_1.2).length ≤ 9223372036854775807 ∧ ∀ (x : List C), x ∈ Sp.ordE x_1.1 x_1.2 → WfCs [.int .i64] x) ∧ InR .i64 (Sp.vE x_1.1 x_1.2) ∧ True → True ∧ (((Sp.ordE (Sp.rgN x_1.1 x_1.2 ((rGet x_1.1 (iRem n (iLen x_1.1))).headD default).int) (Sp.rgL x_1.1 x_1.2 ((rGet x_1.1 (iRem n (iLen x_1.1))).headD default).int)).length ≤ 9223372036854775807 ∧ ∀ (x : List C), x ∈ Sp.ordE (Sp.rgN x_1.1 x_1.2 ((rGet x_1.1 (iRem n (iLen x_1.1))).headD default).int) (Sp.rgL x_1.1 x_1.2 ((rGet x_1.1 (iRem n (iLen x_1.1))).headD default).int) → WfCs [.int .i64] x) ∧ InR .i64 (Sp.vE (Sp.rgN x_1.1 x_1.2 ((rGet x_1.1 (iRem n (iLen x_1.1))).headD default).int) (Sp.rgL x_1.1 x_1.2 ((rGet x_1.1 (iRem n (iLen x_1.1))).headD default).int)) ∧ True → (bNe (Sp.remE x_1.1 x_1.2 ((rGet x_1.1 (iRem n (iLen x_1.1))).headD default).int) 0 = false → (bNe (Sp.vE (Sp.rgN x_1.1 x_1.2 ((rGet x_1.1 (iRem n (iLen x_1.1))).headD default).int) (Sp.rgL x_1.1 x_1.2 ((rGet x_1.1 (iRem n (iLen x_1.1))).headD default).int)) 0 = false → pLe (iLen (Sp.ordE (Sp.rgN x_1.1 x_1.2 ((rGet x_1.1 (iRem n (iLen x_1.1))).headD default).int) (Sp.rgL x_1.1 x_1.2 ((rGet x_1.1 (iRem n (iLen x_1.1))).headD default).int))) 9223372036854775807 → pLe (iLen (Sp.ordE x_1.1 x_1.2)) 9223372036854775807 → InR .i64 (iSub (iLen (Sp.ordE x_1.1 x_1.2)) 1) ∧ (bNe (iLen (Sp.ordE (Sp.rgN x_1.1 x_1.2 ((rGet x_1.1 (iRem n (iLen x_1.1))).headD default).int) (Sp.rgL x_1.1 x_1.2 ((rGet x_1.1 (iRem n (iLen x_1.1))).headD default).int))) (iSub (iLen (Sp.ordE x_1.1 x_1.2)) 1) = true → false = true) ∧ (bNe (iLen (Sp.ordE (Sp.rgN x_1.1 x_1.2 ((rGet x_1.1 (iRem n (iLen x_1.1))).headD default).int) (Sp.rgL x_1.1 x_1.2 ((rGet x_1.1 (iRem n (iLen x_1.1))).headD default).int))) (iSub (iLen (Sp.ordE x_1.1 x_1.2)) 1) = false → pLe (iLen (Sp.ordE x_1.1 x_1.2)) 9223372036854775807 → (∃ (x : Int × List (List C)), Sp.f1I ((rGet x_1.1 (iRem n (iLen x_1.1))).headD default).int (Sp.ordE x_1.1 x_1.2) x.1 x.2 ∧ true = true ∧ ((IntKind.i64 = IntKind.i64 ∧ 0 = x.1) ∧ (7 = 7 ∧ 0 + 1 = 0 + 1) ∧ True) ∧ ([Sh.int .i64] = [Sh.int .i64] ∧ 3 = 3 ∧ 0 + 1 = 0 + 1 ∧ [] = x.2) ∧ True) ∧ (∀ (x : Int × List (List C)), true = true ∧ true = true) ∧ ∀ (x_2 : Int × List (List C)), Sp.f1I ((rGet x_1.1 (iRem n (iLen x_1.1))).headD default).int (Sp.ordE x_1.1 x_1.2) x_2.1 x_2.2 → InR .i64 x_2.1 ∧ True ∧ True → (x_2.2.length ≤ 9223372036854775807 ∧ ∀ (x : List C), x ∈ x_2.2 → WfCs [.int .i64] x) ∧ True → (bLt x_2.1 (iLen (Sp.ordE x_1.1 x_1.2)) = true → pIn 0 (iLen (Sp.ordE x_1.1 x_1.2)) x_2.1 ∧ (InR .i64 ((rGet (Sp.ordE x_1.1 x_1.2) x_2.1).headD default).int → (bNe ((rGet (Sp.ordE x_1.1 x_1.2) x_2.1).headD default).int ((rGet x_1.1 (iRem n (iLen x_1.1))).headD default).int = true → pRoom 8 (iLen (x_2.2 ++ [[C.i ((rGet (Sp.ordE x_1.1 x_1.2) x_2.1).headD default).int]])) ∧ InR .i64 (iAdd x_2.1 1) ∧ (true = true ∧ h8_4 s t n x x_1 = h8_4 s t n x x_1) ∧ h8_5 t n x x_1 = h8_5 t n x x_1 ∧ ∃ (y : Int × List (List C)), Sp.f1I ((rGet x_1.1 (iRem n (iLen x_1.1))).headD default).int (Sp.ordE x_1.1 x_1.2) y.1 y.2 ∧ true = true ∧ ((IntKind.i64 = IntKind.i64 ∧ iAdd x_2.1 1 = y.1) ∧ (7 = 7 ∧ 0 + 1 = 0 + 1) ∧ True) ∧ (([Sh.int .i64] = [Sh.int .i64] ∧ 3 = 3 ∧ 0 + 1 = 0 + 1 ∧ x_2.2 ++ [[C.i ((rGet (Sp.ordE x_1.1 x_1.2) x_2.1).headD default).int]] = y.2) ∧ True) ∧ (Sp.ordE x_1.1 x_1.2).length - y.1.toNat < (Sp.ordE x_1.1 x_1.2).length - x_2.1.toNat) ∧ (bNe ((rGet (Sp.ordE x_1.1 x_1.2) x_2.1).headD default).int ((rGet x_1.1 (iRem n (iLen x_1.1))).headD default).int = false → InR .i64 (iAdd x_2.1 1) ∧ (true = true ∧ h8_4 s t n x x_1 = h8_4 s t n x x_1) ∧ h8_5 t n x x_1 = h8_5 t n x x_1 ∧ ∃ (y : Int × List (List C)), Sp.f1I ((rGet x_1.1 (iRem n (iLen x_1.1))).headD default).int (Sp.ordE x_1.1 x_1.2) y.1 y.2 ∧ true = true ∧ ((IntKind.i64 = IntKind.i64 ∧ iAdd x_2.1 1 = y.1) ∧ (7 = 7 ∧ 0 + 1 = 0 + 1) ∧ True) ∧ (([Sh.int .i64] = [Sh.int .i64] ∧ 3 = 3 ∧ 0 + 1 = 0 + 1 ∧ x_2.2 = y.2) ∧ True) ∧ (Sp.ordE x_1.1 x_1.2).length - y.1.toNat < (Sp.ordE x_1.1 x_1.2).length - x_2.1.toNat))) ∧ (bLt x_2.1 (iLen (Sp.ordE x_1.1 x_1.2)) = false → True ∧ (True → (Sp.vld (Sp.rgN x_1.1 x_1.2 ((rGet x_1.1 (iRem n (iLen x_1.1))).headD default).int) (Sp.rgL x_1.1 x_1.2 ((rGet x_1.1 (iRem n (iLen x_1.1))).headD default).int) = true → True ∧ (((Sp.inpE (Sp.rgN x_1.1 x_1.2 ((rGet x_1.1 (iRem n (iLen x_1.1))).headD default).int) (Sp.rgL x_1.1 x_1.2 ((rGet x_1.1 (iRem n (iLen x_1.1))).headD default).int) ((rGet x_1.1 (iRem n (iLen x_1.1))).headD default).int).length ≤ 9223372036854775807 ∧ ∀ (x : List C), x ∈ Sp.inpE (Sp.rgN x_1.1 x_1.2 ((rGet x_1.1 (iRem n (iLen x_1.1))).headD default).int) (Sp.rgL x_1.1 x_1.2 ((rGet x_1.1 (iRem n (iLen x_1.1))).headD default).int) ((rGet x_1.1 (iRem n (iLen x_1.1))).headD default).int → WfCs [.int .i64, .int .i64, .int .i64, .int .i64] x) → pLe (iLen (Sp.inpE (Sp.rgN x_1.1 x_1.2 ((rGet x_1.1 (iRem n (iLen x_1.1))).headD default).int) (Sp.rgL x_1.1 x_1.2 ((rGet x_1.1 (iRem n (iLen x_1.1))).headD default).int) ((rGet x_1.1 (iRem n (iLen x_1.1))).headD default).int)) 9223372036854775807 → (bEq (iLen (Sp.inpE (Sp.rgN x_1.1 x_1.2 ((rGet x_1.1 (iRem n (iLen x_1.1))).headD default).int) (Sp.rgL x_1.1 x_1.2 ((rGet x_1.1 (iRem n (iLen x_1.1))).headD default).int) ((rGet x_1.1 (iRem n (iLen x_1.1))).headD default).int)) 0 = true → True ∧ (((Sp.rch (Sp.rgN x_1.1 x_1.2 ((rGet x_1.1 (iRem n (iLen x_1.1))).headD default).int) (Sp.rgL x_1.1 x_1.2 ((rGet x_1.1 (iRem n (iLen x_1.1))).headD default).int) ((rGet x_1.1 (iRem n (iLen x_1.1))).headD default).int).length ≤ 9223372036854775807 ∧ ∀ (x : List C), x ∈ Sp.rch (Sp.rgN x_1.1 x_1.2 ((rGet x_1.1 (iRem n (iLen x_1.1))).headD default).int) (Sp.rgL x_1.1 x_1.2 ((rGet x_1.1 (iRem n (iLen x_1.1))).headD default).int) ((rGet x_1.1 (iRem n (iLen x_1.1))).headD default).int → WfCs [.int .i64] x) → pLe (iLen (Sp.rch (Sp.rgN x_1.1 x_1.2 ((rGet x_1.1 (iRem n (iLen x_1.1))).headD default).int) (Sp.rgL x_1.1 x_1.2 ((rGet x_1.1 (iRem n (iLen x_1.1))).headD default).int) ((rGet x_1.1 (iRem n (iLen x_1.1))).headD default).int)) 9223372036854775807 → (bEq (iLen (Sp.rch (Sp.rgN x_1.1 x_1.2 ((rGet x_1.1 (iRem n (iLen x_1.1))).headD default).int) (Sp.rgL x_1.1 x_1.2 ((rGet x_1.1 (iRem n (iLen x_1.1))).headD default).int) ((rGet x_1.1 (iRem n (iLen x_1.1))).headD default).int)) 0 = true → True ∧ (((Sp.rch x_1.1 x_1.2 ((rGet x_1.1 (iRem n (iLen x_1.1))).headD default).int).length ≤ 9223372036854775807 ∧ ∀ (x : List C), x ∈ Sp.rch x_1.1 x_1.2 ((rGet x_1.1 (iRem n (iLen x_1.1))).headD default).int → WfCs [.int .i64] x) → pLe (iLen (Sp.rch x_1.1 x_1.2 ((rGet x_1.1 (iRem n (iLen x_1.1))).headD default).int)) 9223372036854775807 → (bLt 0 (iLen (Sp.rch x_1.1 x_1.2 ((rGet x_1.1 (iRem n (iLen x_1.1))).headD default).int)) = false → True ∧ (True → Sp.ints x_2.2 (Sp.ordE (Sp.rgN x_1.1 x_1.2 ((rGet x_1.1 (iRem n (iLen x_1.1))).headD default).int) (Sp.rgL x_1.1 x_1.2 ((rGet x_1.1 (iRem n (iLen x_1.1))).headD default).int)) = true)) ∧ (bLt 0 (iLen (Sp.rch x_1.1 x_1.2 ((rGet x_1.1 (iRem n (iLen x_1.1))).headD default).int)) = true → true = true))) ∧ (bEq (iLen (Sp.rch (Sp.rgN x_1.1 x_1.2 ((rGet x_1.1 (iRem n (iLen x_1.1))).headD default).int) (Sp.rgL x_1.1 x_1.2 ((rGet x_1.1 (iRem n (iLen x_1.1))).headD default).int) ((rGet x_1.1 (iRem n (iLen x_1.1))).headD default).int)) 0 = false → false = true))) ∧ (bEq (iLen (Sp.inpE (Sp.rgN x_1.1 x_1.2 ((rGet x_1.1 (iRem n (iLen x_1.1))).headD default).int) (Sp.rgL x_1.1 x_1.2 ((rGet x_1.1 (iRem n (iLen x_1.1))).headD default).int) ((rGet x_1.1 (iRem n (iLen x_1.1))).headD default).int)) 0 = false → false = true))) ∧ (Sp.vld (Sp.rgN x_1.1 x_1.2 ((rGet x_1.1 (iRem n (iLen x_1.1))).headD default).int) (Sp.rgL x_1.1 x_1.2 ((rGet x_1.1 (iRem n (iLen x_1.1))).headD default).int) = false → false = true))))) ∧ (bNe (Sp.vE (Sp.rgN x_1.1 x_1.2 ((rGet x_1.1 (iRem n (iLen x_1.1))).headD default).int) (Sp.rgL x_1.1 x_1.2 ((rGet x_1.1 (iRem n (iLen x_1.1))).headD default).int)) 0 = true → false = true)) ∧ (bNe (Sp.remE x_1.1 x_1.2 ((rGet x_1.1 (iRem n (iLen x_1.1))).headD default).int) 0 = true → false = true)))))))) ∧ (bNe (Sp.remE (Sp.addN x.1 x.snd.1 x.snd.snd.1 x.snd.snd.snd.1 x.snd.snd.snd.snd.1 x.snd.snd.snd.snd.2) (Sp.addL x.1 x.snd.1 x.snd.snd.1 x.snd.snd.snd.1 x.snd.snd.snd.snd.1 x.snd.snd.snd.snd.2) x.snd.snd.1) 0 = true → false = true)) ∧ (bNe (Sp.addE x.1 x.snd.1 x.snd.snd.1 x.snd.snd.snd.1 x.snd.snd.snd.snd.1 x.snd.snd.snd.snd.2) 0 = true → false = true)))))))))) := by kernel_rfl
theorem v8 (s : List (List C)) (t : List (List C)) (n : Int) : Holds (Wfs [.sl [.int .u8] s, .sl [.int .u8] t, .int .u8 n] → True → B8 s t n) := by
  refine ⟨fun hw hp => ?_⟩
  rw [e8]
  simp only [Wfs, Wf, InR, and_true] at hw
  simp only [eq_self, true_and, and_true, true_implies, implies_true, iAdd, iSub, iMul, iLen, bEq, bNe, bLt, bLe, bNot, pIn, pLe, pNe, InR, decide_eq_true_eq, decide_eq_false_iff_not, Bool.not_eq_true', Bool.not_eq_false', decide_eq_decide]
  have hv := Sp.mg_vld (Sp.s300 s) 9
  have hbd := Sp.mg_bd (Sp.s300 s)
  have hg : geB none (some (iMin (t.length : Int) 300)) (t.length : Int) := by simp only [geB, iMin]; omega
  generalize Sp.mgN (Sp.s300 s) 9 = ns at *
  generalize Sp.mgL (Sp.s300 s) 9 = ls at *
  generalize cutRows t none (some (iMin (t.length : Int) 300)) = d
  have d5 := Sp.dN_bd (l := Sp.lkT d) (n := 5) (by omega)
  have hfi := Sp.mn_fine (id := 13 + Sp.dN (Sp.lkT d) 5) (l := Sp.dT (Sp.lkT d) 5) (by omega) (by omega)
  generalize Sp.dN (Sp.lkT d) 5 = w at *
  generalize Sp.mnK (Sp.dT (Sp.lkT d) 5) = nk at *
  generalize Sp.mnI (Sp.dT (Sp.lkT d) 5) = ni at *
  generalize Sp.mnO (Sp.dT (Sp.lkT d) 5) = no at *
  generalize Sp.lkA d = l0
  generalize Sp.lkB d = l1
  generalize Sp.lkC d = l2
  generalize Sp.lkD d = l3
  have hn : 0 ≤ n := by omega
  clear hw
  have GB : ∃ y : List (List C) × List (List C) × Int × Int × Int × Int, Sp.gbN y.fst y.snd.fst y.snd.snd.fst y.snd.snd.snd.fst y.snd.snd.snd.snd.fst y.snd.snd.snd.snd.snd ∧ (ns = y.fst ∧ ls = y.snd.fst) ∧ 13 + w = y.snd.snd.fst ∧ nk = y.snd.snd.snd.fst ∧ ni = y.snd.snd.snd.snd.fst ∧ no = y.snd.snd.snd.snd.snd := ⟨(ns, ls, 13 + w, nk, ni, no), ⟨hv, hfi, by simp only; omega, hbd.1, hbd.2⟩, ⟨rfl, rfl⟩, rfl, rfl, rfl, rfl⟩
  refine ⟨fun h => by (cases h), fun _ _ => ⟨hg, fun _ => ⟨by omega, fun _ => ⟨by omega, fun _ => ⟨fun _ => ⟨fun hc => ?_, fun _ => GB⟩, ?_⟩⟩⟩⟩⟩
  · obtain ⟨q1, q2⟩ := Sp.con_dis hv hc
    exact fun _ => ⟨fun _ => ⟨fun h => by (rw [q2] at h; cases h), fun _ => GB⟩, fun h => (h q1).elim⟩
  clear GB hfi hbd hv
  rintro ⟨na, la, i, k, m, o⟩ hb _
  simp only at hb ⊢
  obtain ⟨g1, g2, g3, g4, g5⟩ := hb
  have hh : Sp.has na i = false := by
    cases h : Sp.has na i
    · rfl
    · obtain ⟨x, hx, he⟩ := Sp.has_iff.1 h
      have := g4 x hx
      omega
  have e0 := Sp.add0 (ls := la) g1 g2 hh (by omega)
  obtain ⟨a1, a2, a3⟩ := Sp.add_rem g1 e0 g2 hh
  have a4 : Sp.sameG (Sp.rgN (Sp.addN na la i k m o) (Sp.addL na la i k m o) i) (Sp.rgL (Sp.addN na la i k m o) (Sp.addL na la i k m o) i) na la = true := by
    unfold Sp.rgN Sp.rgL
    rw [a1]
    exact Sp.sameG_of (Sp.dfn_flt.trans a2) (Sp.dfn_flt.trans a3)
  refine fun _ _ => ⟨fun _ => ⟨fun _ => ⟨fun h => by (rw [a4] at h; cases h), fun _ => ⟨fun _ h0 => ⟨(na, la), ⟨g1, by simp only; omega⟩, rfl, rfl⟩, ?_⟩⟩, fun h => (h a1).elim⟩, fun h => (h e0).elim⟩
  clear a1 a2 a3 a4 e0 hh g1 g2 g3 g4 g5
  rintro ⟨N, L⟩ hb _ _
  simp only at hb ⊢
  obtain ⟨m1, m2⟩ := hb
  have V := Sp.vld_small m1
  have nb : 0 ≤ iRem n (N.length : Int) ∧ iRem n (N.length : Int) < (N.length : Int) := by
    have e : iRem n (N.length : Int) = n % (N.length : Int) := Int.tmod_eq_emod_of_nonneg hn
    rw [e]
    exact ⟨Int.emod_nonneg _ (by omega), Int.emod_lt_of_pos _ m2⟩
  generalize iRem n (N.length : Int) = r at *
  refine ⟨by omega, nb, fun _ => ?_⟩
  generalize hid : ((rGet N r).headD default).int = id
  have hh : Sp.has N id = true := Sp.has_iff.2 ⟨rGet N r, Sp.row_mem nb.1 nb.2, hid⟩
  have r0 := Sp.rem0 m1 hh
  have rN : Sp.rgN N L id = Sp.dfn (Sp.neI id) N := by unfold Sp.rgN; rw [r0]; rfl
  have rL : Sp.rgL N L id = Sp.dfn (Sp.neL id) L := by unfold Sp.rgL; rw [r0]; rfl
  have wv := Sp.rem_vld m1 id
  have ln := Sp.rem_len m1 hh
  have ol := Sp.vld_ordlen m1
  have o1 : Sp.ordE N L = Sp.ord N L := by unfold Sp.ordE; rw [m1]; rfl
  have o2 : Sp.ordE (Sp.dfn (Sp.neI id) N) (Sp.dfn (Sp.neL id) L) = Sp.ord (Sp.dfn (Sp.neI id) N) (Sp.dfn (Sp.neL id) L) := by unfold Sp.ordE; rw [wv]; rfl
  have v0 : Sp.vE (Sp.dfn (Sp.neI id) N) (Sp.dfn (Sp.neL id) L) = 0 := by unfold Sp.vE; rw [wv]; rfl
  rw [rN, rL, o1, o2]
  refine fun _ _ _ => ⟨fun _ => ⟨fun _ _ _ => ⟨by omega, fun h => (h (by omega)).elim, fun _ _ => ⟨⟨(0, []), Sp.f1_init, rfl, rfl⟩, ?_⟩⟩, fun h => (h v0).elim⟩, fun h => (h r0).elim⟩
  rintro ⟨j, out⟩ hj _ _
  simp only at hj ⊢
  have j0 := hj.1
  have ol2 := Sp.f1_len hj
  refine ⟨fun hlt => ⟨⟨j0, hlt⟩, fun _ => ⟨fun hne => ⟨by simp only [pRoom, List.length_append, List.length_singleton]; omega, by omega, (j + 1, _), Sp.f1_yes hj hlt hne, rfl, rfl, by simp only; omega⟩, fun he => ⟨by omega, (j + 1, out), Sp.f1_no hj hlt he, rfl, rfl, by simp only; omega⟩⟩⟩, fun hge => ⟨fun _ _ _ => ⟨fun _ _ _ => ⟨fun _ _ _ h => Sp.f1_end hj hge (Sp.rch_no m1 (by omega)), fun h => (h Sp.rch_gone).elim⟩, fun h => (h Sp.inp_gone).elim⟩, fun h => by (rw [wv] at h; cases h)⟩⟩
end Go.Sx

