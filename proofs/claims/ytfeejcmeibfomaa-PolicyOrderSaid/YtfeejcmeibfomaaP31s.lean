/- Contracts and conditions, continued. -/
import Derived.Test.YtfeejcmeibfomaaSxUse
import Derived.Test.YtfeejcmeibfomaaP31v
import Derived.KernelRfl
set_option linter.unusedVariables false
set_option linter.unusedSimpArgs false
set_option maxRecDepth 100000
set_option maxHeartbeats 4000000

namespace Go
open Go.Sx
def Sp.alR (n : Int) (x : List C) : List C := [.i (100 + n), .s (Sp.s1 x), .i (3 - Sp.i2 x), .b (x.tail.tail.tail.headD default).bool, .i 0]
def Sp.alF (ws : List (List C)) (i : Int) (n : Nat) : List (List C) := bif decide ((n : Int) = i) then [] else [Sp.alR (n : Int) (rGet ws (n : Int))]
def Sp.alC (x : List C) : List C := [.i (Sp.i0 x), .s (Sp.s1 x), .i (Sp.i2 x), .b (x.tail.tail.tail.headD default).bool, .i (Sp.i4 x)]
def Sp.alN (ws : List (List C)) (i z : Int) : List (List C) := Sp.alC (rGet ws i) :: (List.range z.toNat).flatMap (Sp.alF ws i)
def Sp.alJ (ws : List (List C)) (i z : Int) (o : List (List C)) : Prop := 0 ≤ z ∧ z ≤ (ws.length : Int) ∧ o = Sp.alN ws i z
end Go

namespace Go
open Go.Sx
section
variable {rs mm ws ks ks' act act' cls cls' : List (List C)} {wr : ByteArray} {wd wp x i z : Int}
theorem Sp.stR_mem (h : ∀ y, y ∈ ks' ↔ y ∈ ks) {c : ByteArray} : Sp.stR ks' wd c = Sp.stR ks wd c := by
  unfold Sp.stR
  rw [Sp.asc_eq (Sp.sst_pw (Sp.ids ks' wd c)) (Sp.sst_pw (Sp.ids ks wd c)) (fun v => by rw [Sp.sst_mem, Sp.sst_mem, Sp.ids_mem, Sp.ids_mem]; simp only [h])]
theorem Sp.inn_iff {xs : List (List C)} {v : ByteArray} : Sp.inn xs v = true ↔ ∃ y ∈ xs, Sp.eqA v y = true := by
  unfold Sp.inn
  rw [decide_eq_true_eq, Sp.fi_any]
theorem Sp.hasS_iff {xs : List (List C)} {v : ByteArray} : Sp.hasS xs v = true ↔ ∃ y ∈ xs, Sp.eqS v y = true := by
  unfold Sp.hasS
  rw [decide_eq_true_eq, Sp.fi_any]
theorem Sp.inn_fold {f : List C → Bool} {v : ByteArray} : ∀ (l o : List (List C)), Sp.inn (l.foldl (fun o x => bif f x then Sp.ad o (Sp.s1 x) else o) o) v = true ↔ Sp.inn o v = true ∨ ∃ y ∈ l, f y = true ∧ Sp.eqA v [.s (Sp.s1 y)] = true
  | [], o => by simp
  | w :: r, o => by
    rw [List.foldl_cons, Sp.inn_fold r]
    have e : Sp.inn (bif f w then Sp.ad o (Sp.s1 w) else o) v = true ↔ Sp.inn o v = true ∨ (f w = true ∧ Sp.eqA v [.s (Sp.s1 w)] = true) := by
      cases f w with
      | false => simp
      | true =>
        simp only [cond_true, true_and]
        unfold Sp.ad
        cases hh : Sp.hasS o (Sp.s1 w) with
        | true =>
          rw [cond_true]
          refine ⟨.inl, fun h => h.elim id fun h => ?_⟩
          obtain ⟨y, hy, hs⟩ := Sp.hasS_iff.1 hh
          refine Sp.inn_iff.2 ⟨y, hy, ?_⟩
          unfold Sp.eqA at h ⊢
          rw [Bool.or_eq_true] at h ⊢
          refine h.imp (fun h => ?_) id
          unfold Sp.eqS at h hs ⊢
          rw [beq_iff_eq] at h hs ⊢
          rw [← hs, h]; rfl
        | false =>
          rw [cond_false, Sp.inn_iff, Sp.inn_iff]
          simp only [List.mem_append, List.mem_singleton, or_and_right, exists_or, exists_eq_left]
    rw [e]
    simp only [List.mem_cons, or_and_right, exists_or, exists_eq_left, or_assoc]
theorem Sp.inn_cl {f : List C → Bool} {l : List (List C)} {v : ByteArray} : Sp.inn (Sp.clF f l) v = true ↔ ∃ y ∈ l, f y = true ∧ Sp.eqA v [.s (Sp.s1 y)] = true := by
  unfold Sp.clF
  rw [Sp.inn_fold, Sp.inn_iff]; simp
theorem Sp.fld_congr (ha : ∀ v, Sp.inn act' v = Sp.inn act v) (hc : ∀ v, Sp.inn cls' v = Sp.inn cls v) : ∀ (c st : List (List C)), Sp.fld act' cls' c st = Sp.fld act cls c st
  | [], _ => rfl
  | y :: r, st => by
    have e : Sp.nst act' cls' y st = Sp.nst act cls y st := by
      unfold Sp.nst Sp.tv
      rw [ha, hc]
    rw [Sp.fld, Sp.fld, e]
    cases Sp.tok y (st.length : Int)
    · rfl
    · exact Sp.fld_congr ha hc r _
theorem Sp.ap_congr (ha : ∀ v, Sp.inn act' v = Sp.inn act v) (hc : ∀ v, Sp.inn cls' v = Sp.inn cls v) : Sp.ap act' cls' = Sp.ap act cls := by
  funext wr y
  unfold Sp.ap Sp.app Sp.hld
  rw [Sp.fld_congr ha hc]
theorem Sp.gnF_congr (h : Sp.ap act' cls' = Sp.ap act cls) : ∀ (l : List (List C)) (i g m : Int), Sp.gnF act' cls' wr l i g m = Sp.gnF act cls wr l i g m
  | [], _, _, _ => rfl
  | y :: r, i, g, m => by
    rw [Sp.gnF, Sp.gnF, Sp.gnF_congr h r, Sp.gnF_congr h r]
    unfold Sp.gk
    rw [h]
theorem Sp.dcR_congr (hk : ∀ y, y ∈ ks' ↔ y ∈ ks) (ha : ∀ v, Sp.inn act' v = Sp.inn act v) (hc : ∀ v, Sp.inn cls' v = Sp.inn cls v) {y : List C} : Sp.dcR rs mm ks' act' cls' y = Sp.dcR rs mm ks act cls y := by
  have h := Sp.ap_congr ha hc
  have hb : ∀ wr wd wp, Sp.wBy rs mm ks' act' cls' wr wd wp = Sp.wBy rs mm ks act cls wr wd wp ∧ Sp.fru act' cls' ks' wr wd rs = Sp.fru act cls ks wr wd rs := fun wr wd wp => by
    have hf : Sp.fru act' cls' ks' wr wd rs = Sp.fru act cls ks wr wd rs := by
      unfold Sp.fru
      congr 1
      funext y
      unfold Sp.rok
      rw [h, Sp.stR_mem hk]
    refine ⟨?_, hf⟩
    unfold Sp.wBy Sp.wSt
    rw [hf, Sp.stR_mem hk]
  unfold Sp.dcR Sp.wDv Sp.wRu
  rw [Sp.gnF_congr h]
  simp only [(hb _ _ _).1, (hb _ _ 0).2]
  unfold Sp.wSt
  simp only [Sp.stR_mem hk]
theorem Sp.dcs_turn (hk : ∀ y, y ∈ ks' ↔ y ∈ ks) : Sp.dcs rs mm ws ks' = Sp.dcs rs mm ws ks := by
  unfold Sp.dcs
  refine List.map_congr_left fun y _ => Sp.dcR_congr hk (fun _ => rfl) fun v => ?_
  rw [Bool.eq_iff_iff]
  unfold Sp.cls
  rw [Sp.inn_cl, Sp.inn_cl]
  simp only [hk]
theorem Sp.turn_mem {n : Nat} (y : List C) : y ∈ ks.drop n ++ ks.take n ↔ y ∈ ks := by
  have e := List.take_append_drop n ks
  rw [List.mem_append]
  constructor
  · exact fun h => h.elim List.mem_of_mem_drop List.mem_of_mem_take
  · intro h; rw [← e, List.mem_append] at h; exact h.symm
theorem Sp.alN_next (h0 : 0 ≤ z) : Sp.alN ws i (z + 1) = Sp.alN ws i z ++ (bif decide (z = i) then [] else [Sp.alR z (rGet ws z)]) := by
  unfold Sp.alN
  rw [show (z + 1).toNat = z.toNat + 1 by omega, List.range_succ, List.flatMap_append, List.cons_append]
  congr 2
  simp only [List.flatMap_cons, List.flatMap_nil, List.append_nil]
  unfold Sp.alF
  rw [show ((z.toNat : Nat) : Int) = z by omega]
theorem Sp.alJ_init : Sp.alJ ws i 0 [Sp.alC (rGet ws i)] := ⟨by omega, by omega, rfl⟩
theorem Sp.alJ_add {o : List (List C)} (h : Sp.alJ ws i z o) (hz : z < (ws.length : Int)) (hn : ¬ z = i) : Sp.alJ ws i (z + 1) (o ++ [Sp.alR z (rGet ws z)]) := by
  obtain ⟨a, b, c⟩ := h
  exact ⟨by omega, by omega, by rw [Sp.alN_next a, decide_eq_false hn, c]; rfl⟩
theorem Sp.alJ_skip {o : List (List C)} (h : Sp.alJ ws i z o) (hz : z < (ws.length : Int)) (hn : z = i) : Sp.alJ ws i (z + 1) o := by
  obtain ⟨a, b, c⟩ := h
  exact ⟨by omega, by omega, by rw [Sp.alN_next a, decide_eq_true hn, cond_true, List.append_nil]; exact c⟩
theorem Sp.alN_len (hi : 0 ≤ i) : ∀ n : Nat, ((Sp.alN ws i (n : Int)).length : Int) = 1 + n - (if i < (n : Int) then 1 else 0)
  | 0 => by simp [Sp.alN]; omega
  | n + 1 => by
    have := Sp.alN_len hi n
    rw [show ((n + 1 : Nat) : Int) = (n : Int) + 1 by omega, Sp.alN_next (by omega), List.length_append]
    by_cases h : (n : Int) = i
    · rw [decide_eq_true h, cond_true, List.length_nil]
      split at this <;> split <;> omega
    · rw [decide_eq_false h, cond_false, List.length_singleton]
      split at this <;> split <;> omega
theorem Sp.alJ_len {o : List (List C)} (h : Sp.alJ ws i z o) (hi : 0 ≤ i) : (o.length : Int) = 1 + z - (if i < z then 1 else 0) := by
  obtain ⟨a, b, c⟩ := h
  have := Sp.alN_len (ws := ws) hi z.toNat
  rw [show ((z.toNat : Nat) : Int) = z by omega] at this
  rw [c]; exact this
theorem Sp.alJ_row {o : List (List C)} (h : Sp.alJ ws i z o) (hz : ¬ z < (ws.length : Int)) (hi : 0 ≤ i) (hl : i < (ws.length : Int)) :
    rGet (Sp.dcs rs mm o ks) 0 = rGet (Sp.dcs rs mm ws ks) i := by
  have hl' := Sp.alJ_len h hi
  obtain ⟨a, b, c⟩ := h
  have hz' : z = (ws.length : Int) := by omega
  rw [Sp.dcs_get (by omega) (by rw [hl']; split <;> omega), Sp.dcs_get hi hl]
  have h0 : rGet o 0 = Sp.alC (rGet ws i) := by rw [c]; rfl
  rw [h0]
  have hC : Sp.dcR rs mm ks (Sp.rls o) (Sp.cls ks) (Sp.alC (rGet ws i)) = Sp.dcR rs mm ks (Sp.rls o) (Sp.cls ks) (rGet ws i) := rfl
  rw [hC]
  refine Sp.dcR_congr (fun _ => .rfl) (fun v => ?_) (fun _ => rfl)
  rw [Bool.eq_iff_iff]
  unfold Sp.rls
  rw [Sp.inn_cl, Sp.inn_cl, c]
  unfold Sp.alN
  constructor
  · rintro ⟨y, hy, h1, h2⟩
    rcases List.mem_cons.1 hy with hy | hy
    · subst hy
      refine ⟨rGet ws i, ?_, h1, h2⟩
      rw [Sp.rGet_in hi hl]; exact List.getElem_mem _
    · obtain ⟨n, hn, hf⟩ := List.mem_flatMap.1 hy
      have hn' := List.mem_range.1 hn
      unfold Sp.alF at hf
      by_cases e : (n : Int) = i
      · rw [decide_eq_true e, cond_true] at hf; cases hf
      · rw [decide_eq_false e, cond_false, List.mem_singleton] at hf
        subst hf
        exact ⟨rGet ws (n : Int), by rw [Sp.rGet_in (by omega) (by omega)]; exact List.getElem_mem _, h1, h2⟩
  · rintro ⟨y, hy, h1, h2⟩
    obtain ⟨n, hn, rfl⟩ := List.mem_iff_getElem.1 hy
    have hg : rGet ws (n : Int) = ws[n] := Sp.rGet_in (by omega) (by omega)
    by_cases e : (n : Int) = i
    · refine ⟨_, List.mem_cons_self, ?_, ?_⟩ <;> rw [← e, hg]
      · exact h1
      · exact h2
    · refine ⟨Sp.alR (n : Int) (rGet ws (n : Int)), List.mem_cons_of_mem _ (List.mem_flatMap.2 ⟨n, List.mem_range.2 (by omega), ?_⟩), ?_, ?_⟩
      · unfold Sp.alF; rw [decide_eq_false e, cond_false]; exact List.mem_singleton.2 rfl
      · rw [hg]; exact h1
      · rw [hg]; exact h2
theorem Sp.wtO_dir {l : List (List C)} {a : Int} : ∀ y ∈ Sp.wtO l a, 1 ≤ Sp.i2 y ∧ Sp.i2 y ≤ 4 := by
  unfold Sp.wtO Sp.wtZ
  refine Sp.itr_ind (P := fun s : Int × List (List C) => ∀ y ∈ s.2, 1 ≤ Sp.i2 y ∧ Sp.i2 y ≤ 4) (fun s hs => ?_) _ _ (fun y hy => by cases hy)
  intro y hy
  simp only [Sp.wtF, List.mem_append, List.mem_singleton] at hy
  rcases hy with hy | hy
  · exact hs y hy
  · subst hy
    have c4 := Sp.kn_bd (l := l) (a := Sp.ka l s.1) (n := 4) (by omega)
    have q := Sp.quo_bd (m := 3) c4.1 c4.2 (by omega)
    show 1 ≤ 1 + iQuo _ 3 ∧ 1 + iQuo _ 3 ≤ 4
    omega
end
end Go

namespace Go.Sx
def ct1000027 : Ct := { ps := [], rs := [], pre := fun _ => False, out := fun _ => [] }
theorem s1000027 : SoundCt Go.Proofs.Try.prog 1000027 ct1000027 :=
  ⟨fun _ _ h => False.elim h, fun _ _ _ _ _ _ _ _ _ h _ => False.elim h, fun t e h => (by cases h), fun t e r _ h => (by cases h), fun t e _ _ h => (by cases h)⟩
end Go.Sx

namespace Go.Sx
def ct1000028 : Ct := { ps := [], rs := [], pre := fun _ => False, out := fun _ => [] }
theorem s1000028 : SoundCt Go.Proofs.Try.prog 1000028 ct1000028 :=
  ⟨fun _ _ h => False.elim h, fun _ _ _ _ _ _ _ _ _ h _ => False.elim h, fun t e h => (by cases h), fun t e r _ h => (by cases h), fun t e _ _ h => (by cases h)⟩
end Go.Sx

namespace Go.Sx
def ct1000023 : Ct := { ps := [], rs := [], pre := fun _ => False, out := fun _ => [] }
theorem s1000023 : SoundCt Go.Proofs.Try.prog 1000023 ct1000023 :=
  ⟨fun _ _ h => False.elim h, fun _ _ _ _ _ _ _ _ _ h _ => False.elim h, fun t e h => (by cases h), fun t e r _ h => (by cases h), fun t e _ _ h => (by cases h)⟩
end Go.Sx

namespace Go.Sx
/-! ### function 5: law31.PolicyOrder -/
def tb5 : List (Nat × Ct) := [(7, ct7), (9, ct9), (10, ct10), (11, ct11), (12, ct12), (14, ct14), (13, ct13), (21, ct21), (1000027, ct1000027)]
def A5  : FuncId → Nat → LoopAnn := fun _ ii => bif Nat.beq ii 10 then .on (fun sv0 => match sv0.tmps.getD 62 .undef with | .sl _ ys => .inv Int (fun z => 0 ≤ z ∧ z ≤ (ys.length : Int)) (fun z => [(64, .int .i64 z)]) (fun _ => []) [] [0, 1, 4, 5, 6, 7, 8, 9, 10, 11, 12, 13, 14, 15, 16, 18, 61, 63, 64, 65, 72, 73, 74, 75, 81, 115] (fun z => ys.length - z.toNat) | _ => .unroll 0) else bif Nat.beq ii 14 then .on (fun sv0 => match sv0.tmps.getD 72 .undef, sv0.tmps.getD 12 .undef, sv0.tmps.getD 13 .undef with | .sl _ us, .int _ i0, .own rr _ => .inv (Int × List (List C)) (fun z => Sp.alJ us i0 z.1 z.2) (fun z => [(74, .int .i64 z.1), (13, .own rr 0)]) (fun z => [(rr, .row [.int .i64, .str, .int .i64, .bool, .int .u64] 53 0 z.2)]) [rr] [0, 1, 4, 5, 6, 7, 8, 9, 10, 11, 12, 13, 14, 15, 16, 18, 61, 63, 64, 65, 72, 73, 74, 75, 81, 115] (fun z => us.length - z.1.toNat) | _, _, _ => .unroll 0) else .unroll 0
abbrev B5 (l : List (List C)) (turn : Int) : Prop := vcF Go.Proofs.Try.prog (look tb5) (fun _ => false) (A5) 8 5 [.sl [.int .i64] l, .int .i64 turn] [] (fun sv _ => isTrue sv)
def h5_0 : List (List C) → Int → Int → List SV := fun (l : List (List C)) (turn x : Int) => [SV.sl [.int .i64] l, SV.int .i64 turn, SV.any, SV.ref 0 0, SV.sl [Sh.int .i64, Sh.str, Sh.str, Sh.int .i64, Sh.sl [Sh.int .i64, Sh.str]] (Sp.rsO l 0), SV.ref 1 0, SV.sl [.int .i64, .str, .int .i64, .bool, .int .u64] (Sp.wtO l (Sp.meA l (Sp.rsA l 0))), SV.sl [.int .u64, .str, .int .i64] (Sp.skO l (Sp.wtA l (Sp.meA l (Sp.rsA l 0)))), SV.sl [.int .i64, .int .u64, .int .i64, .int .i64, .int .i64, .int .i64] (Sp.dcs (Sp.rsO l 0) (Sp.meO l (Sp.rsA l 0)) (Sp.wtO l (Sp.meA l (Sp.rsA l 0))) (Sp.skO l (Sp.wtA l (Sp.meA l (Sp.rsA l 0))))), SV.int .i64 (Sp.md turn (iAdd (iLen (Sp.skO l (Sp.wtA l (Sp.meA l (Sp.rsA l 0))))) 1)), SV.int .i64 x, SV.any, SV.blit false, SV.blit false, SV.int .i64 (iLen (Sp.wtO l (Sp.meA l (Sp.rsA l 0)))), SV.int .i64 x, SV.blit true, SV.sl [.int .i64, .str, .int .i64, .bool, .int .u64] (Sp.wtO l (Sp.meA l (Sp.rsA l 0))), SV.int .i64 (iLen (Sp.wtO l (Sp.meA l (Sp.rsA l 0)))), SV.any]
def h5_1 : List (List C) → Int → List HB := fun (l : List (List C)) (turn : Int) => [HB.box [SV.sl [.int .i64] l, SV.int .i64 (Sp.skA l (Sp.wtA l (Sp.meA l (Sp.rsA l 0))))] 59, HB.box [SV.sl [Sh.str, Sh.sl [Sh.int .u64], Sh.int .u64] (Sp.meO l (Sp.rsA l 0))] 26, HB.froz ([Sh.int .u64] ++ ([Sh.str] ++ ([Sh.int .i64] ++ []))) (0 + 1) (cutRows (Sp.skO l (Sp.wtA l (Sp.meA l (Sp.rsA l 0)))) (some (Sp.md turn (iAdd (iLen (Sp.skO l (Sp.wtA l (Sp.meA l (Sp.rsA l 0))))) 1))) none ++ cutRows (Sp.skO l (Sp.wtA l (Sp.meA l (Sp.rsA l 0)))) none (some (Sp.md turn (iAdd (iLen (Sp.skO l (Sp.wtA l (Sp.meA l (Sp.rsA l 0))))) 1)))), HB.gone]
def h5_2 : List (List C) → Int → List SV := fun (l : List (List C)) (turn : Int) => [SV.sl [.int .i64] l, SV.int .i64 turn, SV.ref 0 0, SV.sl [Sh.int .i64, Sh.str, Sh.str, Sh.int .i64, Sh.sl [Sh.int .i64, Sh.str]] (Sp.rsO l 0), SV.ref 1 0, SV.sl [.int .i64, .str, .int .i64, .bool, .int .u64] (Sp.wtO l (Sp.meA l (Sp.rsA l 0))), SV.sl [.int .u64, .str, .int .i64] (Sp.skO l (Sp.wtA l (Sp.meA l (Sp.rsA l 0)))), SV.sl [.int .i64, .int .u64, .int .i64, .int .i64, .int .i64, .int .i64] (Sp.dcs (Sp.rsO l 0) (Sp.meO l (Sp.rsA l 0)) (Sp.wtO l (Sp.meA l (Sp.rsA l 0))) (Sp.skO l (Sp.wtA l (Sp.meA l (Sp.rsA l 0))))), SV.int .i64 (Sp.md turn (iAdd (iLen (Sp.skO l (Sp.wtA l (Sp.meA l (Sp.rsA l 0))))) 1)), SV.blit false, SV.blit false, SV.int .i64 (iLen (Sp.wtO l (Sp.meA l (Sp.rsA l 0))))]
def h5_3 : List (List C) → Int → List HB := fun (l : List (List C)) (turn : Int) => [HB.box [SV.sl [.int .i64] l, SV.int .i64 (Sp.skA l (Sp.wtA l (Sp.meA l (Sp.rsA l 0))))] 59, HB.box [SV.sl [Sh.str, Sh.sl [Sh.int .u64], Sh.int .u64] (Sp.meO l (Sp.rsA l 0))] 26, HB.froz ([Sh.int .u64] ++ ([Sh.str] ++ ([Sh.int .i64] ++ []))) (0 + 1) (cutRows (Sp.skO l (Sp.wtA l (Sp.meA l (Sp.rsA l 0)))) (some (Sp.md turn (iAdd (iLen (Sp.skO l (Sp.wtA l (Sp.meA l (Sp.rsA l 0))))) 1))) none ++ cutRows (Sp.skO l (Sp.wtA l (Sp.meA l (Sp.rsA l 0)))) none (some (Sp.md turn (iAdd (iLen (Sp.skO l (Sp.wtA l (Sp.meA l (Sp.rsA l 0))))) 1))))]
theorem e5 (l : List (List C)) (turn : Int) (Z1 : List (List C)) (hZ1 : Z1 = Sp.skO l (Sp.wtA l (Sp.meA l (Sp.rsA l 0)))) (Z2 : List (List C)) (hZ2 : Z2 = Sp.wtO l (Sp.meA l (Sp.rsA l 0))) (Z4 : List (List C)) (hZ4 : Z4 = Sp.meO l (Sp.rsA l 0)) (Z5 : Int) (hZ5 : Z5 = Sp.md turn (iAdd (iLen Z1) 1)) (Z6 : List (List C)) (hZ6 : Z6 = Sp.rsO l 0) (Z3 : List (List C)) (hZ3 : Z3 = Sp.dcs Z6 Z4 Z2 Z1) : B5 l turn = (True ∧ (True → True ∧ (bNot true = true → false = true) ∧ (bNot true = false → (pLe 0 0 ∧ True) ∧ (((WL [Sh.int .i64, Sh.str, Sh.str, Sh.int .i64, Sh.sl [Sh.int .i64, Sh.str]] Z6)) → (pLe 0 (Sp.rsA l 0) ∧ True) ∧ (((WL [Sh.str, Sh.sl [Sh.int .u64], Sh.int .u64] Z4)) ∧ True → (pLe 0 (Sp.meA l (Sp.rsA l 0)) ∧ True) ∧ (((WL [.int .i64, .str, .int .i64, .bool, .int .u64] Z2)) → (pLe 0 (Sp.wtA l (Sp.meA l (Sp.rsA l 0))) ∧ True) ∧ (((WL [.int .u64, .str, .int .i64] Z1)) → (pLe (↑Z1.length) 12 ∧ pLe (↑Z2.length) 1000000) ∧ (((WL [.int .i64, .int .u64, .int .i64, .int .i64, .int .i64, .int .i64] Z3)) → pLe (iLen Z1) 9223372036854775807 → InR .i64 (iAdd (iLen Z1) 1) ∧ (pLe 1 (iAdd (iLen Z1) 1) ∧ True) ∧ (InR .i64 Z5 → pLe (iLen Z3) 9223372036854775807 → pLe (iLen Z2) 9223372036854775807 → (bNe (iLen Z3) (iLen Z2) = false → geB (some Z5) none (iLen Z1) ∧ pRoom 32 (iLen (cutRows Z1 (some Z5) none)) ∧ geB none (some Z5) (iLen Z1) ∧ pRoom 32 (iLen (cutRows Z1 (some Z5) none ++ cutRows Z1 none (some Z5))) ∧ (pLe (↑(cutRows Z1 (some Z5) none ++ cutRows Z1 none (some Z5)).length) 12 ∧ pLe (↑Z2.length) 1000000) ∧ (((WL [.int .i64, .int .u64, .int .i64, .int .i64, .int .i64, .int .i64] (Sp.dcs Z6 Z4 Z2 (cutRows Z1 (some Z5) none ++ cutRows Z1 none (some Z5))))) → True ∧ (True → True ∧ (bNot (Sp.sD Z3 (Sp.dcs Z6 Z4 Z2 (cutRows Z1 (some Z5) none ++ cutRows Z1 none (some Z5)))) = true → false = true) ∧ (bNot (Sp.sD Z3 (Sp.dcs Z6 Z4 Z2 (cutRows Z1 (some Z5) none ++ cutRows Z1 none (some Z5)))) = false → pLe (iLen Z2) 9223372036854775807 → (∃ (x : Int), (0 ≤ x ∧ x ≤ ↑Z2.length) ∧ true = true ∧ ((IntKind.i64 = IntKind.i64 ∧ 0 = x) ∧ True) ∧ True) ∧ (∀ (x : Int), true = true ∧ true = true) ∧ ∀ (x : Int), 0 ≤ x ∧ x ≤ ↑Z2.length → InR .i64 x ∧ True → True → (bLt x (iLen Z2) = true → pIn 0 (iLen Z2) x ∧ (InR .i64 (q0 (rGet Z2 x)) ∧ (List.brecOn.go ((rGet ((((11, ct11).snd.outs [[C.l ((((10, ct10).snd.out [[C.l ((((9, ct9).snd.out [[C.l l, C.i 0]]).headD []).headD default).list, C.i (q1 (((9, ct9).snd.out [[C.l l, C.i 0]]).headD []))]]).headD []).headD default).list, C.i (q1 (((10, ct10).snd.out [[C.l ((((9, ct9).snd.out [[C.l l, C.i 0]]).headD []).headD default).list, C.i (q1 (((9, ct9).snd.out [[C.l l, C.i 0]]).headD []))]]).headD []))]]).headD []).headD default).list x).tail.headD default).str.1.toList List.length._f).1.le 9223372036854775807 ∧ InR .i64 (q2 (rGet Z2 x)) ∧ True ∧ InR .u64 (q4 (rGet Z2 x)) ∧ True → pLe (iLen Z2) 9223372036854775807 → (∃ (x_1 : Int × List (List C)), Sp.alJ Z2 x x_1.1 x_1.2 ∧ true = true ∧ ((IntKind.i64 = IntKind.i64 ∧ 0 = x_1.1) ∧ (3 = 3 ∧ 0 + 1 = 0 + 1) ∧ True) ∧ ([Sh.int .i64] ++ ([Sh.str] ++ ([Sh.int .i64] ++ ([Sh.bool] ++ ([Sh.int .u64] ++ [])))) = [Sh.int .i64, Sh.str, Sh.int .i64, Sh.bool, Sh.int .u64] ∧ 53 = 53 ∧ 0 + 1 = 0 + 1 ∧ [[C.i (q0 (rGet Z2 x)), C.s ((rGet Z2 x).tail.headD default).str, C.i (q2 (rGet Z2 x)), C.b ((rGet Z2 x).tail.tail.tail.headD default).bool, C.i (q4 (rGet Z2 x))]] = x_1.2) ∧ True) ∧ (∀ (x : Int × List (List C)), true = true ∧ true = true) ∧ ∀ (x_1 : Int × List (List C)), Sp.alJ Z2 x x_1.1 x_1.2 → InR .i64 x_1.1 ∧ True ∧ True → ((WL [.int .i64, .str, .int .i64, .bool, .int .u64] x_1.2)) ∧ True → (bLt x_1.1 (iLen Z2) = true → pIn 0 (iLen Z2) x_1.1 ∧ (InR .i64 (q0 (rGet Z2 x_1.1)) ∧ (List.brecOn.go ((rGet ((((11, ct11).snd.outs [[C.l ((((10, ct10).snd.out [[C.l ((((9, ct9).snd.out [[C.l l, C.i 0]]).headD []).headD default).list, C.i (q1 (((9, ct9).snd.out [[C.l l, C.i 0]]).headD []))]]).headD []).headD default).list, C.i (q1 (((10, ct10).snd.out [[C.l ((((9, ct9).snd.out [[C.l l, C.i 0]]).headD []).headD default).list, C.i (q1 (((9, ct9).snd.out [[C.l l, C.i 0]]).headD []))]]).headD []))]]).headD []).headD default).list x_1.fst).tail.headD default).str.1.toList List.length._f).1.le 9223372036854775807 ∧ InR .i64 (q2 (rGet Z2 x_1.1)) ∧ True ∧ InR .u64 (q4 (rGet Z2 x_1.1)) ∧ True → (bNe x_1.1 x = true → InR .i64 (iAdd 100 x_1.1) ∧ InR .i64 (iSub 3 (q2 (rGet Z2 x_1.1))) ∧ pRoom 48 (iLen (x_1.2 ++ [[C.i (iAdd 100 x_1.1), C.s ((rGet Z2 x_1.1).tail.headD default).str, C.i (iSub 3 (q2 (rGet Z2 x_1.1))), C.b ((rGet Z2 x_1.1).tail.tail.tail.headD default).bool, C.i 0]])) ∧ InR .i64 (iAdd x_1.1 1) ∧ (true = true ∧ h5_0 l turn x = h5_0 l turn x) ∧ h5_1 l turn = h5_1 l turn ∧ ∃ (y : Int × List (List C)), Sp.alJ Z2 x y.1 y.2 ∧ true = true ∧ ((IntKind.i64 = IntKind.i64 ∧ iAdd x_1.1 1 = y.1) ∧ (3 = 3 ∧ 0 + 1 = 0 + 1) ∧ True) ∧ (([Sh.int .i64] ++ ([Sh.str] ++ ([Sh.int .i64] ++ ([Sh.bool] ++ ([Sh.int .u64] ++ [])))) = [Sh.int .i64, Sh.str, Sh.int .i64, Sh.bool, Sh.int .u64] ∧ 53 = 53 ∧ 0 + 1 = 0 + 1 ∧ x_1.2 ++ [[C.i (iAdd 100 x_1.1), C.s ((rGet Z2 x_1.1).tail.headD default).str, C.i (iSub 3 (q2 (rGet Z2 x_1.1))), C.b ((rGet Z2 x_1.1).tail.tail.tail.headD default).bool, C.i 0]] = y.2) ∧ True) ∧ Z2.length - y.1.toNat < Z2.length - x_1.1.toNat) ∧ (bNe x_1.1 x = false → InR .i64 (iAdd x_1.1 1) ∧ (true = true ∧ h5_0 l turn x = h5_0 l turn x) ∧ h5_1 l turn = h5_1 l turn ∧ ∃ (y : Int × List (List C)), Sp.alJ Z2 x y.1 y.2 ∧ true = true ∧ ((IntKind.i64 = IntKind.i64 ∧ iAdd x_1.1 1 = y.1) ∧ (3 = 3 ∧ 0 + 1 = 0 + 1) ∧ True) ∧ (([Sh.int .i64, Sh.str, Sh.int .i64, Sh.bool, Sh.int .u64] = [Sh.int .i64, Sh.str, Sh.int .i64, Sh.bool, Sh.int .u64] ∧ 53 = 53 ∧ 0 + 1 = 0 + 1 ∧ x_1.2 = y.2) ∧ True) ∧ Z2.length - y.1.toNat < Z2.length - x_1.1.toNat))) ∧ (bLt x_1.1 (iLen Z2) = false → (pLe (↑Z1.length) 12 ∧ pLe (↑x_1.2.length) 1000000) ∧ (((WL [.int .i64, .int .u64, .int .i64, .int .i64, .int .i64, .int .i64] (Sp.dcs Z6 Z4 x_1.2 Z1))) → pLe (iLen (Sp.dcs Z6 Z4 x_1.2 Z1)) 9223372036854775807 → pLe (iLen Z2) 9223372036854775807 → (bNe (iLen (Sp.dcs Z6 Z4 x_1.2 Z1)) (iLen Z2) = false → pIn 0 (iLen (Sp.dcs Z6 Z4 x_1.2 Z1)) 0 ∧ (InR .i64 (q0 (rGet (Sp.dcs Z6 Z4 x_1.2 Z1) 0)) ∧ InR .u64 (q1 (rGet (Sp.dcs Z6 Z4 x_1.2 Z1) 0)) ∧ InR .i64 (q2 (rGet (Sp.dcs Z6 Z4 x_1.2 Z1) 0)) ∧ InR .i64 (q3 (rGet (Sp.dcs Z6 Z4 x_1.2 Z1) 0)) ∧ InR .i64 (q4 (rGet (Sp.dcs Z6 Z4 x_1.2 Z1) 0)) ∧ InR .i64 (q5 (rGet (Sp.dcs Z6 Z4 x_1.2 Z1) 0)) ∧ True → pIn 0 (iLen Z3) x ∧ (InR .i64 (q0 (rGet Z3 x)) ∧ InR .u64 (q1 (rGet Z3 x)) ∧ InR .i64 (q2 (rGet Z3 x)) ∧ InR .i64 (q3 (rGet Z3 x)) ∧ InR .i64 (q4 (rGet Z3 x)) ∧ InR .i64 (q5 (rGet Z3 x)) ∧ True → (bNot (bAnd (bEq (q0 (rGet (Sp.dcs Z6 Z4 x_1.2 Z1) 0)) (q0 (rGet Z3 x))) (bAnd (bEq (q1 (rGet (Sp.dcs Z6 Z4 x_1.2 Z1) 0)) (q1 (rGet Z3 x))) (bAnd (bEq (q2 (rGet (Sp.dcs Z6 Z4 x_1.2 Z1) 0)) (q2 (rGet Z3 x))) (bAnd (bEq (q3 (rGet (Sp.dcs Z6 Z4 x_1.2 Z1) 0)) (q3 (rGet Z3 x))) (bAnd (bEq (q4 (rGet (Sp.dcs Z6 Z4 x_1.2 Z1) 0)) (q4 (rGet Z3 x))) (bEq (q5 (rGet (Sp.dcs Z6 Z4 x_1.2 Z1) 0)) (q5 (rGet Z3 x)))))))) = true → false = true) ∧ (bNot (bAnd (bEq (q0 (rGet (Sp.dcs Z6 Z4 x_1.2 Z1) 0)) (q0 (rGet Z3 x))) (bAnd (bEq (q1 (rGet (Sp.dcs Z6 Z4 x_1.2 Z1) 0)) (q1 (rGet Z3 x))) (bAnd (bEq (q2 (rGet (Sp.dcs Z6 Z4 x_1.2 Z1) 0)) (q2 (rGet Z3 x))) (bAnd (bEq (q3 (rGet (Sp.dcs Z6 Z4 x_1.2 Z1) 0)) (q3 (rGet Z3 x))) (bAnd (bEq (q4 (rGet (Sp.dcs Z6 Z4 x_1.2 Z1) 0)) (q4 (rGet Z3 x))) (bEq (q5 (rGet (Sp.dcs Z6 Z4 x_1.2 Z1) 0)) (q5 (rGet Z3 x)))))))) = false → InR .i64 (iAdd x 1) ∧ (true = true ∧ h5_2 l turn = h5_2 l turn) ∧ h5_3 l turn = h5_3 l turn ∧ ∃ (y : Int), (0 ≤ y ∧ y ≤ ↑Z2.length) ∧ true = true ∧ ((IntKind.i64 = IntKind.i64 ∧ iAdd x 1 = y) ∧ True) ∧ True ∧ Z2.length - y.toNat < Z2.length - x.toNat)))) ∧ (bNe (iLen (Sp.dcs Z6 Z4 x_1.2 Z1)) (iLen Z2) = true → false = true))))) ∧ (bLt x (iLen Z2) = false → true = true))))) ∧ (bNe (iLen Z3) (iLen Z2) = true → false = true)))))))))) := by subst hZ3; subst hZ6; subst hZ5; subst hZ4; subst hZ2; subst hZ1; kernel_rfl
theorem v5 (l : List (List C)) (turn : Int) : Holds (Wfs [.sl [.int .i64] l, .int .i64 turn] → True → B5 l turn) := by
  refine ⟨fun hw hp => ?_⟩
  rw [e5 _ _ _ rfl _ rfl _ rfl _ rfl _ rfl _ rfl]
  unfold WL q0 q1 q2 q3 q4 q5
  simp only [Wfs, Wf, InR, and_true] at hw
  have hm : maxLen = 9223372036854775807 := rfl
  simp only [hm] at hw
  simp only [iAdd, iSub, iMul, iLen, iSize, bLt, bLe, bEq, bNe, bNot, bSame, bDiff, sSame, sDiff, bIf, bAnd, InR, pLe, pIn, pRoom, eq_self, true_and, and_true, true_implies, implies_true, decide_eq_true_eq, decide_eq_false_iff_not, Bool.not_eq_true', Bool.not_eq_false', Bool.true_eq_false, Bool.false_eq_true, false_implies]
  clear hw hp
  have a1 := Sp.rsA_nn (l := l) (a := 0) (by omega)
  have a2 := Sp.meA_nn (l := l) a1
  have a3 := Sp.wtA_nn (l := l) a2
  have n1 := Sp.wtO_len (l := l) (a := Sp.meA l (Sp.rsA l 0))
  have n2 := Sp.skO_len (l := l) (a := Sp.wtA l (Sp.meA l (Sp.rsA l 0)))
  have hd := Sp.wtO_dir (l := l) (a := Sp.meA l (Sp.rsA l 0))
  generalize Sp.rsO l 0 = R at *
  generalize Sp.meO l (Sp.rsA l 0) = M at *
  generalize Sp.wtO l (Sp.meA l (Sp.rsA l 0)) = W at *
  generalize Sp.skO l (Sp.wtA l (Sp.meA l (Sp.rsA l 0))) = K at *
  have q0 := Int.emod_nonneg turn (show (K.length : Int) + 1 ≠ 0 by omega)
  have q1 := Int.emod_lt_of_pos turn (show 0 < (K.length : Int) + 1 by omega)
  have eq : Sp.md turn ((K.length : Int) + 1) = turn % ((K.length : Int) + 1) := rfl
  rw [eq]
  generalize turn % ((K.length : Int) + 1) = q at *
  have ht : Sp.dcs R M W (cutRows K (some q) none ++ cutRows K none (some q)) = Sp.dcs R M W K := Sp.dcs_turn Sp.turn_mem
  have hc1 : (cutRows K (some q) none).length = K.length - q.toNat := List.length_drop ..
  have hc2 : (cutRows K none (some q)).length = min q.toNat K.length := List.length_take ..
  have hl : ∀ ws : List (List C), (Sp.dcs R M ws K).length = ws.length := fun ws => Sp.dcs_len
  simp only [ht, Sp.sD_self, hc1, hc2, hl, List.length_append, geB, Bool.true_eq_false, false_implies, true_implies, and_true, true_and, not_true_eq_false]
  refine ⟨by omega, fun _ => ⟨a1, fun _ => ⟨a2, fun _ => ⟨a3, fun _ => ⟨⟨by omega, by omega⟩, fun _ _ => ⟨by omega, by omega, fun _ _ _ => ⟨by omega, by omega, by omega, by omega, ⟨by omega, by omega⟩, fun _ _ => ⟨⟨0, ⟨by omega, by omega⟩, rfl⟩, fun x hx _ hlt => ⟨⟨hx.1, hlt⟩, fun _ _ => ⟨⟨(0, [Sp.alC (rGet W x)]), Sp.alJ_init, rfl, rfl, rfl⟩, ?_⟩⟩⟩⟩⟩⟩⟩⟩⟩⟩
  rintro ⟨z, o⟩ hy _ _
  simp only at hy ⊢
  have z0 := hy.1
  have ol := Sp.alJ_len hy hx.1
  have zl := hy.2.1
  refine ⟨fun hz => ⟨⟨z0, hz⟩, fun _ => ⟨fun hn => ?_, fun hn => ⟨by omega, (z + 1, o), Sp.alJ_skip hy hz hn, rfl, rfl, by simp only; omega⟩⟩⟩, fun hz => ⟨⟨by omega, by split at ol <;> omega⟩, fun _ _ _ => ⟨fun _ => ⟨⟨by omega, by split at ol <;> omega⟩, fun _ => ⟨⟨hx.1, hlt⟩, fun _ => ?_⟩⟩, fun h => h (by split at ol <;> omega)⟩⟩⟩
  · have hb : 1 ≤ ((rGet W z).tail.tail.headD default).int ∧ ((rGet W z).tail.tail.headD default).int ≤ 4 := hd _ (by rw [Sp.rGet_in z0 hz]; exact List.getElem_mem _)
    exact ⟨by omega, by omega, by simp only [List.length_singleton]; split at ol <;> omega, by omega, (z + 1, _), Sp.alJ_add hy hz hn, rfl, ⟨rfl, rfl⟩, by simp only; omega⟩
  · rw [Sp.alJ_row hy hz hx.1 hlt]
    simp only [decide_true, Bool.and_true, Bool.true_eq_false, false_implies, true_implies, true_and]
    exact ⟨by omega, x + 1, ⟨by omega, by omega⟩, rfl, by omega⟩
end Go.Sx

