/- Contracts and conditions, continued. -/
import Derived.Test.YtfeejcmeibfomaaSxUse
import Derived.Test.YtfeejcmeibfomaaP31j
import Derived.KernelRfl
set_option linter.unusedVariables false
set_option linter.unusedSimpArgs false
set_option maxRecDepth 100000
set_option maxHeartbeats 4000000

namespace Go
open Go.Sx
def Sp.row (n : Int) : List C := [.i n]
def Sp.okS (d : Int) (c : ByteArray) (x : List C) : Bool := decide (1 ≤ Sp.i0 x) && (decide (Sp.i2 x = d) && Sp.mts c (Sp.s1 x))
def Sp.ins (v : Int) : List Int → List Int
  | [] => [v]
  | x :: r => bif decide (v < x) then v :: x :: r else bif decide (v = x) then x :: r else x :: Sp.ins v r
def Sp.sst (l : List Int) : List Int := l.foldl (fun o v => Sp.ins v o) []
def Sp.ids (ks : List (List C)) (d : Int) (c : ByteArray) : List Int := (ks.filter (Sp.okS d c)).map Sp.i0
def Sp.stR (ks : List (List C)) (d : Int) (c : ByteArray) : List (List C) := (Sp.sst (Sp.ids ks d c)).map Sp.row
def Sp.seI (ks : List (List C)) (d : Int) (c : ByteArray) (z : Int) (o : List Int) : Prop := 0 ≤ z ∧ z ≤ (ks.length : Int) ∧ o = Sp.sst (Sp.ids (ks.take z.toNat) d c) ∧ (o.length : Int) ≤ z
def Sp.seJ (ys : List (List C)) (v : Int) (j : Int) (o : List (List C)) : Prop := 0 ≤ j ∧ j ≤ (ys.length : Int) ∧ o = ys.take j.toNat ∧ ∀ q : Int, 0 ≤ q → q < j → Sp.i0 (rGet ys q) < v
end Go

namespace Go
open Go.Sx
theorem Sp.ins_mem {v w : Int} : ∀ {o : List Int}, w ∈ Sp.ins v o ↔ w = v ∨ w ∈ o
  | [] => by simp [Sp.ins]
  | x :: r => by
    rw [Sp.ins]
    by_cases h1 : v < x
    · rw [decide_eq_true h1]; simp
    · rw [decide_eq_false h1]
      by_cases h2 : v = x
      · rw [decide_eq_true h2]; subst h2; simp
      · rw [decide_eq_false h2]
        simp only [cond_false, List.mem_cons, Sp.ins_mem (o := r)]
        constructor
        · rintro (h | h | h)
          · exact .inr (.inl h)
          · exact .inl h
          · exact .inr (.inr h)
        · rintro (h | h | h)
          · exact .inr (.inl h)
          · exact .inl h
          · exact .inr (.inr h)
theorem Sp.ins_pw {v : Int} : ∀ {o : List Int}, o.Pairwise (· < ·) → (Sp.ins v o).Pairwise (· < ·)
  | [], _ => by simp [Sp.ins]
  | x :: r, h => by
    have h' := List.pairwise_cons.1 h
    rw [Sp.ins]
    by_cases h1 : v < x
    · rw [decide_eq_true h1]
      refine List.pairwise_cons.2 ⟨fun w hw => ?_, h⟩
      rcases List.mem_cons.1 hw with e | e
      · omega
      · have := h'.1 w e; omega
    · rw [decide_eq_false h1]
      by_cases h2 : v = x
      · rw [decide_eq_true h2]; exact h
      · rw [decide_eq_false h2]
        refine List.pairwise_cons.2 ⟨fun w hw => ?_, Sp.ins_pw h'.2⟩
        rcases Sp.ins_mem.1 hw with e | e
        · omega
        · exact h'.1 w e
theorem Sp.ins_in {v : Int} : ∀ {o : List Int}, o.Pairwise (· < ·) → v ∈ o → Sp.ins v o = o
  | [], _, h => by simp at h
  | x :: r, h, hm => by
    have h' := List.pairwise_cons.1 h
    rw [Sp.ins]
    rcases List.mem_cons.1 hm with e | e
    · rw [decide_eq_false (by omega), decide_eq_true e]; rfl
    · have := h'.1 v e
      rw [decide_eq_false (by omega), decide_eq_false (by omega), Sp.ins_in h'.2 e]; rfl
theorem Sp.ins_split {v : Int} : ∀ {o : List Int} {j : Nat}, j ≤ o.length → (∀ q (hq : q < o.length), q < j → o[q] < v) → (∀ (hj : j < o.length), v < o[j]) → Sp.ins v o = o.take j ++ v :: o.drop j
  | [], j, hj, _, _ => by
    obtain rfl : j = 0 := by simpa using hj
    simp [Sp.ins]
  | x :: r, 0, _, _, h => by
    have := h (by simp)
    rw [Sp.ins, decide_eq_true (by simpa using this)]; simp
  | x :: r, j + 1, hj, h1, h2 => by
    have hx : x < v := h1 0 (by simp) (by omega)
    rw [Sp.ins, decide_eq_false (by omega), decide_eq_false (by omega)]
    simp only [cond_false, List.take_succ_cons, List.drop_succ_cons, List.cons_append]
    rw [Sp.ins_split (o := r) (j := j) (by simpa using hj) (fun q hq hqj => by have := h1 (q + 1) (by simpa using hq) (by omega); simpa using this) (fun hj' => by have := h2 (by simpa using hj'); simpa using this)]
theorem Sp.foldl_pw : ∀ (l o : List Int), o.Pairwise (· < ·) → (l.foldl (fun o v => Sp.ins v o) o).Pairwise (· < ·)
  | [], _, h => h
  | v :: l, o, h => Sp.foldl_pw l _ (Sp.ins_pw h)
theorem Sp.sst_pw (l : List Int) : (Sp.sst l).Pairwise (· < ·) := Sp.foldl_pw l [] List.Pairwise.nil
theorem Sp.foldl_mem {w : Int} : ∀ (l o : List Int), w ∈ l.foldl (fun o v => Sp.ins v o) o ↔ w ∈ l ∨ w ∈ o
  | [], _ => by simp
  | v :: l, o => by
    rw [List.foldl_cons, Sp.foldl_mem l, Sp.ins_mem, List.mem_cons]
    constructor
    · rintro (h | h | h)
      · exact .inl (.inr h)
      · exact .inl (.inl h)
      · exact .inr h
    · rintro ((h | h) | h)
      · exact .inr (.inl h)
      · exact .inl h
      · exact .inr (.inr h)
theorem Sp.sst_mem {w : Int} {l : List Int} : w ∈ Sp.sst l ↔ w ∈ l := by
  unfold Sp.sst; rw [Sp.foldl_mem]; simp
theorem Sp.ins_len {v : Int} : ∀ {o : List Int}, (Sp.ins v o).length ≤ o.length + 1
  | [] => by simp [Sp.ins]
  | x :: r => by
    rw [Sp.ins]
    by_cases h1 : v < x
    · rw [decide_eq_true h1]; simp
    · rw [decide_eq_false h1]
      by_cases h2 : v = x
      · rw [decide_eq_true h2]; simp
      · rw [decide_eq_false h2]; have := Sp.ins_len (v := v) (o := r); simp; omega
theorem Sp.row_get {o : List Int} {q : Int} (h0 : 0 ≤ q) (h : q < (o.length : Int)) : rGet (o.map Sp.row) q = Sp.row (o[q.toNat]'(by omega)) := by
  have := Sp.rGet_at (xs := o.map Sp.row) (i := q.toNat) (by rw [List.length_map]; omega)
  rw [show ((q.toNat : Nat) : Int) = q by omega] at this
  rw [this, List.getElem_map]
theorem Sp.map_row (o : List Int) : (o.map Sp.row).map Sp.i0 = o := by
  rw [List.map_map]
  have : (Sp.i0 ∘ Sp.row) = id := rfl
  rw [this, List.map_id]
theorem Sp.seI_init {ks : List (List C)} {d : Int} {c : ByteArray} : Sp.seI ks d c 0 [] := ⟨by omega, by omega, by simp [Sp.ids, Sp.sst], by simp⟩
theorem Sp.se_step {ks : List (List C)} {d : Int} {c : ByteArray} {z : Int} {o : List Int} (h : Sp.seI ks d c z o) (hz : z < (ks.length : Int)) : Sp.sst (Sp.ids (ks.take (z + 1).toNat) d c) = bif Sp.okS d c (rGet ks z) then Sp.ins (Sp.i0 (rGet ks z)) o else o := by
  obtain ⟨a, b, e, f⟩ := h
  rw [Sp.takeAt a hz]
  unfold Sp.ids at e ⊢
  rw [List.filter_append, List.map_append, List.filter_cons]
  cases hk : Sp.okS d c (rGet ks z) with
  | false => simp [e]
  | true =>
    simp only [if_true, List.filter_nil, List.map_cons, List.map_nil, cond_true]
    unfold Sp.sst at e ⊢
    rw [List.foldl_append, ← e]; rfl
theorem Sp.se_skip {ks : List (List C)} {d : Int} {c : ByteArray} {z : Int} {o : List Int} (h : Sp.seI ks d c z o) (hz : z < (ks.length : Int)) (hk : Sp.okS d c (rGet ks z) = false) : Sp.seI ks d c (z + 1) o := by
  have e := Sp.se_step h hz
  rw [hk] at e
  obtain ⟨a, b, _, f⟩ := h
  exact ⟨by omega, by omega, e.symm, by omega⟩
theorem Sp.se_ins {ks : List (List C)} {d : Int} {c : ByteArray} {z : Int} {o : List Int} (h : Sp.seI ks d c z o) (hz : z < (ks.length : Int)) (hk : Sp.okS d c (rGet ks z) = true) : Sp.seI ks d c (z + 1) (Sp.ins (Sp.i0 (rGet ks z)) o) := by
  have e := Sp.se_step h hz
  rw [hk] at e
  have := Sp.ins_len (v := Sp.i0 (rGet ks z)) (o := o)
  obtain ⟨a, b, _, f⟩ := h
  exact ⟨by omega, by omega, e.symm, by omega⟩
theorem Sp.se_pw {ks : List (List C)} {d : Int} {c : ByteArray} {z : Int} {o : List Int} (h : Sp.seI ks d c z o) : o.Pairwise (· < ·) := by rw [h.2.2.1]; exact Sp.sst_pw _
theorem Sp.se_has {ks : List (List C)} {d : Int} {c : ByteArray} {z : Int} {o : List Int} (h : Sp.seI ks d c z o) (hz : z < (ks.length : Int)) (hk : Sp.okS d c (rGet ks z) = true) (hh : Sp.has (o.map Sp.row) (Sp.i0 (rGet ks z)) = true) : Sp.seI ks d c (z + 1) o := by
  have := Sp.se_ins h hz hk
  rw [Sp.has_iff, Sp.map_row] at hh
  rwa [Sp.ins_in (Sp.se_pw h) hh] at this
theorem Sp.seJ_init {ys : List (List C)} {v : Int} : Sp.seJ ys v 0 [] := ⟨by omega, by omega, by simp, fun q h0 h1 => by omega⟩
theorem Sp.seJ_next {o : List Int} {v j : Int} {out : List (List C)} (h : Sp.seJ (o.map Sp.row) v j out) (hj : j < ((o.map Sp.row).length : Int)) (hv : Sp.i0 (rGet (o.map Sp.row) j) < v) : Sp.seJ (o.map Sp.row) v (j + 1) (out ++ [[.i (Sp.i0 (rGet (o.map Sp.row) j))]]) := by
  obtain ⟨a, b, e, f⟩ := h
  refine ⟨by omega, by omega, ?_, fun q h0 h1 => ?_⟩
  · rw [Sp.takeAt a hj, ← e, Sp.row_get a (by simpa using hj)]; rfl
  · by_cases hq : q = j
    · rw [hq]; exact hv
    · exact f q h0 (by omega)
theorem Sp.seJ_fin {o : List Int} {v j : Int} {out : List (List C)} (h : Sp.seJ (o.map Sp.row) v j out) (hh : Sp.has (o.map Sp.row) v = false) (hx : ∀ hj : j < ((o.map Sp.row).length : Int), ¬ Sp.i0 (rGet (o.map Sp.row) j) < v) :
    (out ++ [[.i v]]) ++ cutRows (o.map Sp.row) (some (out.length : Int)) none = (Sp.ins v o).map Sp.row := by
  obtain ⟨a, b, e, f⟩ := h
  rw [List.length_map] at b
  have hl : out.length = j.toNat := by rw [e, List.length_take, List.length_map]; omega
  have hn : ¬ v ∈ o := fun hm => by
    have : Sp.has (o.map Sp.row) v = true := by rw [Sp.has_iff, Sp.map_row]; exact hm
    rw [hh] at this; cases this
  rw [Sp.ins_split (j := j.toNat) (by omega) (fun q hq hqj => ?_) (fun hj => ?_), List.map_append, List.map_cons, List.append_assoc]
  · rw [e, List.map_take, List.map_drop]
    simp only [cutRows, ← List.map_take, List.length_map, List.length_take, Int.toNat_natCast]
    rw [show min j.toNat o.length = j.toNat by omega]
    rfl
  · have := f (q : Int) (by omega) (by omega)
    rw [Sp.row_get (by omega) (by omega)] at this
    exact this
  · have := hx (by rw [List.length_map]; omega)
    rw [Sp.row_get a (by omega)] at this
    have h2 : ¬ o[j.toNat] < v := this
    have h3 : ¬ v = o[j.toNat] := fun he => hn (he ▸ List.getElem_mem hj)
    omega
theorem Sp.beq_sym {a b : ByteArray} : (a.toList == b.toList) = (b.toList == a.toList) := by rw [Bool.eq_iff_iff, beq_iff_eq, beq_iff_eq]; exact eq_comm
theorem Sp.okS_iff {d : Int} {c : ByteArray} {x : List C} : Sp.okS d c x = true ↔ 1 ≤ Sp.i0 x ∧ Sp.i2 x = d ∧ ((c.toList == (Sp.s1 x).toList) = true ∨ (c.toList == Sp.any3.toList) = true) := by
  unfold Sp.okS Sp.mts
  rw [Bool.and_eq_true, Bool.and_eq_true, Bool.or_eq_true, decide_eq_true_eq, decide_eq_true_eq]
end Go

namespace Go.Sx
/-! ### function 48: ref31.Set -/
def ct48 : Ct := { ps := [(false, [.sl [.int .u64, .str, .int .i64]]), (false, [.int .i64]), (false, [.str])], rs := [(false, [.sl [.int .u64]])], pre := fun a => pLe ((cel 0 (arg 0 a)).list.length : Int) 1000000 ∧ True, out := fun a => [[.l (Sp.stR (cel 0 (arg 0 a)).list (cel 0 (arg 1 a)).int (cel 0 (arg 2 a)).str)]] }
def tb48 : List (Nat × Ct) := [(49, ct49)]
def A48 (l : List (List C)) (dr : Int) (cl : ByteArray) : FuncId → Nat → LoopAnn := fun ff ii => bif Nat.beq ii 3 then .inv (Int × List Int) (fun z => Sp.seI l dr cl z.1 z.2) (fun z => [(8, .int .i64 z.1), (7, .sl [.int .u64] (z.2.map Sp.row))]) (fun _ => []) [] [0, 1, 2, 6, 7, 8, 9, 10, 14, 53, 69] (fun z => l.length - z.1.toNat) else bif Nat.beq ii 8 then .on (fun sv1 => match sv1.tmps.getD 7 .undef, sv1.tmps.getD 8 .undef with | .sl _ ys, .int _ zi => .ghost 9 [.int .u64] 47 (.on (fun sv0 => match sv0.tmps.getD 9 .undef with | .own rr _ => .inv (Int × List (List C)) (fun z => Sp.seJ ys (Sp.i0 (rGet l zi)) z.1 z.2) (fun z => [(9, .own rr 0), (10, .int .i64 z.1)]) (fun z => [(rr, .row [.int .u64] 47 0 (z.2))]) [rr] [0, 1, 2, 6, 7, 8, 9, 10, 14, 53, 69] (fun z => ys.length - z.1.toNat) | _ => .unroll 0)) | _, _ => .unroll 0) else bif Nat.beq ii 2000011 then .mark 9 (.unroll 0) else .unroll 0
abbrev B48 (l : List (List C)) (dr : Int) (cl : ByteArray) : Prop := vcF Go.Proofs.Try.prog (look tb48) (fun _ => false) (A48 l dr cl) 6 48 [.sl [.int .u64, .str, .int .i64] l, .int .i64 dr, .str cl] [] (fun sv heap => Gives [(false, [.sl [.int .u64]])] [[.l (Sp.stR l dr cl)]] sv heap)
theorem e48 (l : List (List C)) (dr : Int) (cl : ByteArray) : B48 l dr cl = ((∃ (x : Int × List Int), Sp.seI l dr cl x.1 x.2 ∧ true = true ∧ ((IntKind.i64 = IntKind.i64 ∧ 0 = x.1) ∧ List.map Sp.row x.2 = [] ∧ True) ∧ True) ∧ (∀ (x : Int × List Int), true = true ∧ true = true) ∧ ∀ (x : Int × List Int), Sp.seI l dr cl x.1 x.2 → InR .i64 x.1 ∧ ((WL [.int .u64] (List.map Sp.row x.2))) ∧ True → True → pLe (iLen l) 9223372036854775807 → (bLt x.1 (iLen l) = true → pIn 0 (iLen l) x.1 ∧ (InR .u64 (q0 (rGet l x.1)) → (bLt (q0 (rGet l x.1)) 1 = false → pIn 0 (iLen l) x.1 ∧ (InR .i64 (q2 (rGet l x.1)) → (bNe (q2 (rGet l x.1)) dr = false → (sDiff cl (ByteArray.mk (Array.mk [97, 110, 121])) = true → pIn 0 (iLen l) x.1 ∧ ((List.brecOn.go ((rGet l x.fst).tail.headD default).str.1.toList List.length._f).1.le 9223372036854775807 → (sDiff ((rGet l x.1).tail.headD default).str cl = false → pIn 0 (iLen l) x.1 ∧ (InR .u64 (q0 (rGet l x.1)) → True ∧ (True → (Sp.has (List.map Sp.row x.2) (q0 (rGet l x.1)) = true → InR .i64 (iAdd x.1 1) ∧ (true = true ∧ (fun z => z = z) [SV.sl [.int .u64, .str, .int .i64] l, SV.int .i64 dr, SV.str cl, SV.nils]) ∧ ([] : List HB) = [] ∧ ∃ (y : Int × List Int), Sp.seI l dr cl y.1 y.2 ∧ true = true ∧ ((IntKind.i64 = IntKind.i64 ∧ iAdd x.1 1 = y.1) ∧ ([Sh.int .u64] = [Sh.int .u64] ∧ List.map Sp.row x.2 = List.map Sp.row y.2) ∧ True) ∧ True ∧ l.length - y.1.toNat < l.length - x.1.toNat) ∧ (Sp.has (List.map Sp.row x.2) (q0 (rGet l x.1)) = false → (∃ (x_1 : Int × List (List C)), Sp.seJ (List.map Sp.row x.2) (Sp.i0 (rGet l x.1)) x_1.1 x_1.2 ∧ true = true ∧ ((0 = 0 ∧ 0 + 1 = 0 + 1) ∧ (IntKind.i64 = IntKind.i64 ∧ 0 = x_1.1) ∧ True) ∧ ([Sh.int .u64] = [Sh.int .u64] ∧ 47 = 47 ∧ 0 + 1 = 0 + 1 ∧ [] = x_1.2) ∧ True) ∧ (∀ (x : Int × List (List C)), true = true ∧ true = true) ∧ ∀ (x_1 : Int × List (List C)), Sp.seJ (List.map Sp.row x.2) (Sp.i0 (rGet l x.1)) x_1.1 x_1.2 → True ∧ InR .i64 x_1.1 ∧ True → ((WL [.int .u64] x_1.2)) ∧ True → pLe (iLen (List.map Sp.row x.2)) 9223372036854775807 → (bLt x_1.1 (iLen (List.map Sp.row x.2)) = true → pIn 0 (iLen (List.map Sp.row x.2)) x_1.1 ∧ (InR .u64 (q0 (rGet (List.map Sp.row x.2) x_1.1)) → pIn 0 (iLen l) x.1 ∧ (InR .u64 (q0 (rGet l x.1)) → (bLt (q0 (rGet (List.map Sp.row x.2) x_1.1)) (q0 (rGet l x.1)) = true → pIn 0 (iLen (List.map Sp.row x.2)) x_1.1 ∧ (InR .u64 (q0 (rGet (List.map Sp.row x.2) x_1.1)) → pRoom 8 (iLen (x_1.2 ++ [[C.i (q0 (rGet (List.map Sp.row x.2) x_1.1))]])) ∧ InR .i64 (iAdd x_1.1 1) ∧ (true = true ∧ (fun z => z = z) [SV.sl [.int .u64, .str, .int .i64] l, SV.int .i64 dr, SV.str cl, SV.nils, SV.sl [.int .u64] (List.map Sp.row x.2), SV.int .i64 x.1, SV.blit true, SV.blit false]) ∧ [HB.gone] = [HB.gone] ∧ ∃ (y : Int × List (List C)), Sp.seJ (List.map Sp.row x.2) (Sp.i0 (rGet l x.1)) y.1 y.2 ∧ true = true ∧ ((0 = 0 ∧ 0 + 1 = 0 + 1) ∧ (IntKind.i64 = IntKind.i64 ∧ iAdd x_1.1 1 = y.1) ∧ True) ∧ (([Sh.int .u64] = [Sh.int .u64] ∧ 47 = 47 ∧ 0 + 1 = 0 + 1 ∧ x_1.2 ++ [[C.i (q0 (rGet (List.map Sp.row x.2) x_1.1))]] = y.2) ∧ True) ∧ (List.map Sp.row x.2).length - y.1.toNat < (List.map Sp.row x.2).length - x_1.1.toNat)) ∧ (bLt (q0 (rGet (List.map Sp.row x.2) x_1.1)) (q0 (rGet l x.1)) = false → pIn 0 (iLen l) x.1 ∧ (InR .u64 (q0 (rGet l x.1)) → pRoom 8 (iLen (x_1.2 ++ [[C.i (q0 (rGet l x.1))]])) ∧ pLe (iLen x_1.2) 9223372036854775807 ∧ geB (some (iLen x_1.2)) none (iLen (List.map Sp.row x.2)) ∧ pRoom 8 (iLen (x_1.2 ++ [[C.i (q0 (rGet l x.1))]] ++ cutRows (List.map Sp.row x.2) (some (iLen x_1.2)) none)) ∧ InR .i64 (iAdd x.1 1) ∧ (true = true ∧ (fun z => z = z) [SV.sl [.int .u64, .str, .int .i64] l, SV.int .i64 dr, SV.str cl, SV.nils]) ∧ ([] : List HB) = [] ∧ ∃ (y : Int × List Int), Sp.seI l dr cl y.1 y.2 ∧ true = true ∧ ((IntKind.i64 = IntKind.i64 ∧ iAdd x.1 1 = y.1) ∧ ([Sh.int .u64] = [Sh.int .u64] ∧ x_1.2 ++ [[C.i (q0 (rGet l x.1))]] ++ cutRows (List.map Sp.row x.2) (some (iLen x_1.2)) none = List.map Sp.row y.2) ∧ True) ∧ True ∧ l.length - y.1.toNat < l.length - x.1.toNat))))) ∧ (bLt x_1.1 (iLen (List.map Sp.row x.2)) = false → pIn 0 (iLen l) x.1 ∧ (InR .u64 (q0 (rGet l x.1)) → pRoom 8 (iLen (x_1.2 ++ [[C.i (q0 (rGet l x.1))]])) ∧ pLe (iLen x_1.2) 9223372036854775807 ∧ geB (some (iLen x_1.2)) none (iLen (List.map Sp.row x.2)) ∧ pRoom 8 (iLen (x_1.2 ++ [[C.i (q0 (rGet l x.1))]] ++ cutRows (List.map Sp.row x.2) (some (iLen x_1.2)) none)) ∧ InR .i64 (iAdd x.1 1) ∧ (true = true ∧ (fun z => z = z) [SV.sl [.int .u64, .str, .int .i64] l, SV.int .i64 dr, SV.str cl, SV.nils]) ∧ ([] : List HB) = [] ∧ ∃ (y : Int × List Int), Sp.seI l dr cl y.1 y.2 ∧ true = true ∧ ((IntKind.i64 = IntKind.i64 ∧ iAdd x.1 1 = y.1) ∧ ([Sh.int .u64] = [Sh.int .u64] ∧ x_1.2 ++ [[C.i (q0 (rGet l x.1))]] ++ cutRows (List.map Sp.row x.2) (some (iLen x_1.2)) none = List.map Sp.row y.2) ∧ True) ∧ True ∧ l.length - y.1.toNat < l.length - x.1.toNat)))))) ∧ (sDiff ((rGet l x.1).tail.headD default).str cl = true → InR .i64 (iAdd x.1 1) ∧ (true = true ∧ (fun z => z = z) [SV.sl [.int .u64, .str, .int .i64] l, SV.int .i64 dr, SV.str cl, SV.nils]) ∧ ([] : List HB) = [] ∧ ∃ (y : Int × List Int), Sp.seI l dr cl y.1 y.2 ∧ true = true ∧ ((IntKind.i64 = IntKind.i64 ∧ iAdd x.1 1 = y.1) ∧ ([Sh.int .u64] = [Sh.int .u64] ∧ List.map Sp.row x.2 = List.map Sp.row y.2) ∧ True) ∧ True ∧ l.length - y.1.toNat < l.length - x.1.toNat))) ∧ (sDiff cl (ByteArray.mk (Array.mk [97, 110, 121])) = false → pIn 0 (iLen l) x.1 ∧ (InR .u64 (q0 (rGet l x.1)) → True ∧ (True → (Sp.has (List.map Sp.row x.2) (q0 (rGet l x.1)) = true → InR .i64 (iAdd x.1 1) ∧ (true = true ∧ (fun z => z = z) [SV.sl [.int .u64, .str, .int .i64] l, SV.int .i64 dr, SV.str cl, SV.nils]) ∧ ([] : List HB) = [] ∧ ∃ (y : Int × List Int), Sp.seI l dr cl y.1 y.2 ∧ true = true ∧ ((IntKind.i64 = IntKind.i64 ∧ iAdd x.1 1 = y.1) ∧ ([Sh.int .u64] = [Sh.int .u64] ∧ List.map Sp.row x.2 = List.map Sp.row y.2) ∧ True) ∧ True ∧ l.length - y.1.toNat < l.length - x.1.toNat) ∧ (Sp.has (List.map Sp.row x.2) (q0 (rGet l x.1)) = false → (∃ (x_1 : Int × List (List C)), Sp.seJ (List.map Sp.row x.2) (Sp.i0 (rGet l x.1)) x_1.1 x_1.2 ∧ true = true ∧ ((0 = 0 ∧ 0 + 1 = 0 + 1) ∧ (IntKind.i64 = IntKind.i64 ∧ 0 = x_1.1) ∧ True) ∧ ([Sh.int .u64] = [Sh.int .u64] ∧ 47 = 47 ∧ 0 + 1 = 0 + 1 ∧ [] = x_1.2) ∧ True) ∧ (∀ (x : Int × List (List C)), true = true ∧ true = true) ∧ ∀ (x_1 : Int × List (List C)), Sp.seJ (List.map Sp.row x.2) (Sp.i0 (rGet l x.1)) x_1.1 x_1.2 → True ∧ InR .i64 x_1.1 ∧ True → ((WL [.int .u64] x_1.2)) ∧ True → pLe (iLen (List.map Sp.row x.2)) 9223372036854775807 → (bLt x_1.1 (iLen (List.map Sp.row x.2)) = true → pIn 0 (iLen (List.map Sp.row x.2)) x_1.1 ∧ (InR .u64 (q0 (rGet (List.map Sp.row x.2) x_1.1)) → pIn 0 (iLen l) x.1 ∧ (InR .u64 (q0 (rGet l x.1)) → (bLt (q0 (rGet (List.map Sp.row x.2) x_1.1)) (q0 (rGet l x.1)) = true → pIn 0 (iLen (List.map Sp.row x.2)) x_1.1 ∧ (InR .u64 (q0 (rGet (List.map Sp.row x.2) x_1.1)) → pRoom 8 (iLen (x_1.2 ++ [[C.i (q0 (rGet (List.map Sp.row x.2) x_1.1))]])) ∧ InR .i64 (iAdd x_1.1 1) ∧ (true = true ∧ (fun z => z = z) [SV.sl [.int .u64, .str, .int .i64] l, SV.int .i64 dr, SV.str cl, SV.nils, SV.sl [.int .u64] (List.map Sp.row x.2), SV.int .i64 x.1, SV.blit true, SV.blit false]) ∧ [HB.gone] = [HB.gone] ∧ ∃ (y : Int × List (List C)), Sp.seJ (List.map Sp.row x.2) (Sp.i0 (rGet l x.1)) y.1 y.2 ∧ true = true ∧ ((0 = 0 ∧ 0 + 1 = 0 + 1) ∧ (IntKind.i64 = IntKind.i64 ∧ iAdd x_1.1 1 = y.1) ∧ True) ∧ (([Sh.int .u64] = [Sh.int .u64] ∧ 47 = 47 ∧ 0 + 1 = 0 + 1 ∧ x_1.2 ++ [[C.i (q0 (rGet (List.map Sp.row x.2) x_1.1))]] = y.2) ∧ True) ∧ (List.map Sp.row x.2).length - y.1.toNat < (List.map Sp.row x.2).length - x_1.1.toNat)) ∧ (bLt (q0 (rGet (List.map Sp.row x.2) x_1.1)) (q0 (rGet l x.1)) = false → pIn 0 (iLen l) x.1 ∧ (InR .u64 (q0 (rGet l x.1)) → pRoom 8 (iLen (x_1.2 ++ [[C.i (q0 (rGet l x.1))]])) ∧ pLe (iLen x_1.2) 9223372036854775807 ∧ geB (some (iLen x_1.2)) none (iLen (List.map Sp.row x.2)) ∧ pRoom 8 (iLen (x_1.2 ++ [[C.i (q0 (rGet l x.1))]] ++ cutRows (List.map Sp.row x.2) (some (iLen x_1.2)) none)) ∧ InR .i64 (iAdd x.1 1) ∧ (true = true ∧ (fun z => z = z) [SV.sl [.int .u64, .str, .int .i64] l, SV.int .i64 dr, SV.str cl, SV.nils]) ∧ ([] : List HB) = [] ∧ ∃ (y : Int × List Int), Sp.seI l dr cl y.1 y.2 ∧ true = true ∧ ((IntKind.i64 = IntKind.i64 ∧ iAdd x.1 1 = y.1) ∧ ([Sh.int .u64] = [Sh.int .u64] ∧ x_1.2 ++ [[C.i (q0 (rGet l x.1))]] ++ cutRows (List.map Sp.row x.2) (some (iLen x_1.2)) none = List.map Sp.row y.2) ∧ True) ∧ True ∧ l.length - y.1.toNat < l.length - x.1.toNat))))) ∧ (bLt x_1.1 (iLen (List.map Sp.row x.2)) = false → pIn 0 (iLen l) x.1 ∧ (InR .u64 (q0 (rGet l x.1)) → pRoom 8 (iLen (x_1.2 ++ [[C.i (q0 (rGet l x.1))]])) ∧ pLe (iLen x_1.2) 9223372036854775807 ∧ geB (some (iLen x_1.2)) none (iLen (List.map Sp.row x.2)) ∧ pRoom 8 (iLen (x_1.2 ++ [[C.i (q0 (rGet l x.1))]] ++ cutRows (List.map Sp.row x.2) (some (iLen x_1.2)) none)) ∧ InR .i64 (iAdd x.1 1) ∧ (true = true ∧ (fun z => z = z) [SV.sl [.int .u64, .str, .int .i64] l, SV.int .i64 dr, SV.str cl, SV.nils]) ∧ ([] : List HB) = [] ∧ ∃ (y : Int × List Int), Sp.seI l dr cl y.1 y.2 ∧ true = true ∧ ((IntKind.i64 = IntKind.i64 ∧ iAdd x.1 1 = y.1) ∧ ([Sh.int .u64] = [Sh.int .u64] ∧ x_1.2 ++ [[C.i (q0 (rGet l x.1))]] ++ cutRows (List.map Sp.row x.2) (some (iLen x_1.2)) none = List.map Sp.row y.2) ∧ True) ∧ True ∧ l.length - y.1.toNat < l.length - x.1.toNat))))))) ∧ (bNe (q2 (rGet l x.1)) dr = true → InR .i64 (iAdd x.1 1) ∧ (true = true ∧ (fun z => z = z) [SV.sl [.int .u64, .str, .int .i64] l, SV.int .i64 dr, SV.str cl, SV.nils]) ∧ ([] : List HB) = [] ∧ ∃ (y : Int × List Int), Sp.seI l dr cl y.1 y.2 ∧ true = true ∧ ((IntKind.i64 = IntKind.i64 ∧ iAdd x.1 1 = y.1) ∧ ([Sh.int .u64] = [Sh.int .u64] ∧ List.map Sp.row x.2 = List.map Sp.row y.2) ∧ True) ∧ True ∧ l.length - y.1.toNat < l.length - x.1.toNat))) ∧ (bLt (q0 (rGet l x.1)) 1 = true → InR .i64 (iAdd x.1 1) ∧ (true = true ∧ (fun z => z = z) [SV.sl [.int .u64, .str, .int .i64] l, SV.int .i64 dr, SV.str cl, SV.nils]) ∧ ([] : List HB) = [] ∧ ∃ (y : Int × List Int), Sp.seI l dr cl y.1 y.2 ∧ true = true ∧ ((IntKind.i64 = IntKind.i64 ∧ iAdd x.1 1 = y.1) ∧ ([Sh.int .u64] = [Sh.int .u64] ∧ List.map Sp.row x.2 = List.map Sp.row y.2) ∧ True) ∧ True ∧ l.length - y.1.toNat < l.length - x.1.toNat))) ∧ (bLt x.1 (iLen l) = false → (List.map Sp.row x.2 = Sp.stR l dr cl ∧ True) ∧ True)) := by kernel_rfl
theorem v48 (l : List (List C)) (dr : Int) (cl : ByteArray) : Holds (Wfs [.sl [.int .u64, .str, .int .i64] l, .int .i64 dr, .str cl] → pLe (l.length : Int) 1000000 ∧ True → B48 l dr cl) := by
  refine ⟨fun hw hp => ?_⟩
  rw [e48]
  unfold WL q0 q2
  simp only [Wfs, Wf, InR, and_true] at hw
  have hm : maxLen = 9223372036854775807 := rfl
  simp only [hm] at hw
  simp only [iAdd, iSub, iMul, iLen, iSize, bLt, bLe, bEq, bNe, bNot, bSame, bDiff, sSame, sDiff, bIf, bAnd, InR, pLe, pIn, pRoom, eq_self, true_and, and_true, true_implies, implies_true, decide_eq_true_eq, decide_eq_false_iff_not, Bool.not_eq_true', Bool.not_eq_false', Bool.true_eq_false, Bool.false_eq_true, false_implies]
  have hp := hp.1
  simp only [pLe] at hp
  refine ⟨⟨(0, []), Sp.seI_init, rfl, rfl⟩, ?_⟩
  rintro ⟨z, o⟩ hx _ _
  simp only at hx ⊢
  have h0 := hx.1
  have hoz := hx.2.2.2
  refine ⟨fun hlt => ⟨⟨h0, hlt⟩, fun _ => ?_⟩, fun hge => ?_⟩
  · have same : Sp.seI l dr cl (z + 1) o → (-9223372036854775808 ≤ z + 1 ∧ z + 1 ≤ 9223372036854775807) ∧ ∃ y : Int × List Int, Sp.seI l dr cl y.fst y.snd ∧ (z + 1 = y.fst ∧ List.map Sp.row o = List.map Sp.row y.snd) ∧ l.length - y.fst.toNat < l.length - z.toNat := fun h => ⟨by omega, (z + 1, o), h, ⟨rfl, rfl⟩, by simp only; omega⟩
    have skip : ¬ (1 ≤ Sp.i0 (rGet l z) ∧ Sp.i2 (rGet l z) = dr ∧ ((cl.toList == (Sp.s1 (rGet l z)).toList) = true ∨ (cl.toList == Sp.any3.toList) = true)) → (-9223372036854775808 ≤ z + 1 ∧ z + 1 ≤ 9223372036854775807) ∧ ∃ y : Int × List Int, Sp.seI l dr cl y.fst y.snd ∧ (z + 1 = y.fst ∧ List.map Sp.row o = List.map Sp.row y.snd) ∧ l.length - y.fst.toNat < l.length - z.toNat := fun h => same (Sp.se_skip hx hlt (by
      cases e : Sp.okS dr cl (rGet l z) with
      | false => rfl
      | true => exact absurd (Sp.okS_iff.1 e) h))
    refine ⟨fun h1 => ⟨⟨h0, hlt⟩, fun _ => ⟨fun h2 => ⟨fun h3 => ⟨⟨h0, hlt⟩, fun _ => ⟨fun h4 => ?_, fun h4 => skip fun h => ?_⟩⟩, fun h3 => ?_⟩, fun h2 => skip fun h => h2 h.2.1⟩⟩, fun h1 => skip fun h => absurd h.1 (Int.not_le.2 h1)⟩
    · have hk : Sp.okS dr cl (rGet l z) = true := Sp.okS_iff.2 ⟨Int.not_lt.1 h1, h2, .inl (by rw [Sp.beq_sym]; exact h4)⟩
      exact ⟨⟨h0, hlt⟩, fun _ => ⟨fun hh => same (Sp.se_has hx hlt hk hh), fun hh => ⟨⟨(0, []), Sp.seJ_init, rfl, rfl⟩, by
      rintro ⟨j, out⟩ hy _ _ _
      simp only at hy ⊢
      have hj0 := hy.1
      have hol : out.length ≤ o.length := by rw [hy.2.2.1, List.length_take, List.length_map]; omega
      refine ⟨fun hl => ⟨⟨hj0, hl⟩, fun _ => ⟨⟨h0, hlt⟩, fun _ => ⟨fun hv => ⟨⟨hj0, hl⟩, fun _ => ⟨by simp only [List.length_append, List.length_singleton]; omega, by rw [List.length_map] at hl; omega, (j + 1, _), Sp.seJ_next hy hl hv, rfl, rfl, by simp only; omega⟩⟩, fun hv => ⟨⟨h0, hlt⟩, fun _ => ?_⟩⟩⟩⟩, fun hl => ⟨⟨h0, hlt⟩, fun _ => ?_⟩⟩
      · have e := Sp.seJ_fin hy hh (fun _ => hv)
        have hnl := Sp.ins_len (v := Sp.i0 (rGet l z)) (o := o)
        have el := congrArg List.length e
        rw [List.length_map] at el
        refine ⟨by simp only [List.length_append, List.length_singleton]; omega, by omega, by simp only [geB, List.length_map]; omega, ?_, by omega, (z + 1, _), Sp.se_ins hx hlt hk, ⟨rfl, e⟩, by simp only; omega⟩
        exact Int.le_trans (Int.le_of_eq (congrArg (fun n : Nat => (n : Int) * ((8 : Nat) : Int)) el)) (by omega)
      · have e := Sp.seJ_fin hy hh (fun hj => absurd hj hl)
        have hnl := Sp.ins_len (v := Sp.i0 (rGet l z)) (o := o)
        have el := congrArg List.length e
        rw [List.length_map] at el
        refine ⟨by simp only [List.length_append, List.length_singleton]; omega, by omega, by simp only [geB, List.length_map]; omega, ?_, by omega, (z + 1, _), Sp.se_ins hx hlt hk, ⟨rfl, e⟩, by simp only; omega⟩
        exact Int.le_trans (Int.le_of_eq (congrArg (fun n : Nat => (n : Int) * ((8 : Nat) : Int)) el)) (by omega)⟩⟩⟩
    · rcases h.2.2 with hc | hc
      · rw [Sp.beq_sym] at hc
        rw [show ((Sp.s1 (rGet l z)).toList == cl.toList) = false from h4] at hc; cases hc
      · rw [show (cl.toList == Sp.any3.toList) = false from h3] at hc; cases hc
    · have hk : Sp.okS dr cl (rGet l z) = true := Sp.okS_iff.2 ⟨Int.not_lt.1 h1, h2, .inr h3⟩
      exact ⟨⟨h0, hlt⟩, fun _ => ⟨fun hh => same (Sp.se_has hx hlt hk hh), fun hh => ⟨⟨(0, []), Sp.seJ_init, rfl, rfl⟩, by
      rintro ⟨j, out⟩ hy _ _ _
      simp only at hy ⊢
      have hj0 := hy.1
      have hol : out.length ≤ o.length := by rw [hy.2.2.1, List.length_take, List.length_map]; omega
      refine ⟨fun hl => ⟨⟨hj0, hl⟩, fun _ => ⟨⟨h0, hlt⟩, fun _ => ⟨fun hv => ⟨⟨hj0, hl⟩, fun _ => ⟨by simp only [List.length_append, List.length_singleton]; omega, by rw [List.length_map] at hl; omega, (j + 1, _), Sp.seJ_next hy hl hv, rfl, rfl, by simp only; omega⟩⟩, fun hv => ⟨⟨h0, hlt⟩, fun _ => ?_⟩⟩⟩⟩, fun hl => ⟨⟨h0, hlt⟩, fun _ => ?_⟩⟩
      · have e := Sp.seJ_fin hy hh (fun _ => hv)
        have hnl := Sp.ins_len (v := Sp.i0 (rGet l z)) (o := o)
        have el := congrArg List.length e
        rw [List.length_map] at el
        refine ⟨by simp only [List.length_append, List.length_singleton]; omega, by omega, by simp only [geB, List.length_map]; omega, ?_, by omega, (z + 1, _), Sp.se_ins hx hlt hk, ⟨rfl, e⟩, by simp only; omega⟩
        exact Int.le_trans (Int.le_of_eq (congrArg (fun n : Nat => (n : Int) * ((8 : Nat) : Int)) el)) (by omega)
      · have e := Sp.seJ_fin hy hh (fun hj => absurd hj hl)
        have hnl := Sp.ins_len (v := Sp.i0 (rGet l z)) (o := o)
        have el := congrArg List.length e
        rw [List.length_map] at el
        refine ⟨by simp only [List.length_append, List.length_singleton]; omega, by omega, by simp only [geB, List.length_map]; omega, ?_, by omega, (z + 1, _), Sp.se_ins hx hlt hk, ⟨rfl, e⟩, by simp only; omega⟩
        exact Int.le_trans (Int.le_of_eq (congrArg (fun n : Nat => (n : Int) * ((8 : Nat) : Int)) el)) (by omega)⟩⟩⟩
  · obtain ⟨a, b, e, f⟩ := hx
    unfold Sp.stR
    rw [e, List.take_of_length_le (by omega)]
theorem s48 : SoundCt Go.Proofs.Try.prog 48 ct48 :=
  contractH followsMixed (look_sound (show Tb Go.Proofs.Try.prog tb48 from ⟨s49, trivial⟩)) (fun _ => false) (fun a => A48 ((cel 0 (arg 0 a)).list) ((cel 0 (arg 1 a)).int) ((cel 0 (arg 2 a)).str)) 6 48 ct48 rfl (by simp [ct48]) fun a => Eq.mp (by kernel_rfl) (v48 ((cel 0 (arg 0 a)).list) ((cel 0 (arg 1 a)).int) ((cel 0 (arg 2 a)).str))
end Go.Sx

