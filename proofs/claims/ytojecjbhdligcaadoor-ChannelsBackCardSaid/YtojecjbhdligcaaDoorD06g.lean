/- Contracts and conditions, continued. -/
import Derived.Test.YtojecjbhdligcaaDoorSxUse
import Derived.Test.YtojecjbhdligcaaDoorD06f
import Derived.KernelRfl
set_option linter.unusedVariables false
set_option linter.unusedSimpArgs false
set_option maxRecDepth 100000
set_option maxHeartbeats 4000000

namespace Go
open Go.Sx
def Sp.vL (l : List Int) : Prop := 1 ≤ l.length ∧ l.length ≤ 8 ∧ (∀ p, p ∈ l → 1 ≤ p ∧ p ≤ 8) ∧ l.Nodup
theorem Sp.row_i0 (l : List Int) : (l.map Sp.row).map Sp.i0 = l := by
  rw [List.map_map]
  exact List.map_id' l
theorem Sp.getD_at {m : List (List C)} {i : Nat} (h : i < m.length) : m.getD i [] = m[i] := by simp [List.getD_eq_getElem?_getD, h]
theorem Sp.vld_iff {m : List (List C)} : Sp.vld m = true ↔ Sp.vL (m.map Sp.i0) := by
  unfold Sp.vld Sp.vL
  rw [Bool.and_eq_true, decide_eq_true_eq, List.all_eq_true, List.length_map]
  constructor
  · rintro ⟨⟨h1, h2⟩, h3⟩
    have h4 : ∀ i (h : i < m.length), 1 ≤ Sp.i0 m[i] ∧ Sp.i0 m[i] ≤ 8 ∧ Sp.ix m (Sp.i0 m[i]) = (i : Int) := fun i hi => by
      have := h3 i (List.mem_range.2 hi)
      unfold Sp.ok1 at this
      rw [Sp.getD_at hi] at this
      exact of_decide_eq_true this
    refine ⟨h1, h2, fun p hp => ?_, ?_⟩
    · obtain ⟨x, hx, rfl⟩ := List.mem_map.1 hp
      obtain ⟨i, hi, rfl⟩ := List.mem_iff_getElem.1 hx
      exact ⟨(h4 i hi).1, (h4 i hi).2.1⟩
    · rw [List.nodup_iff_pairwise_ne, List.pairwise_iff_getElem]
      intro i j hi hj hij he
      simp only [List.length_map] at hi hj
      simp only [List.getElem_map] at he
      have a := (h4 i hi).2.2
      have b := (h4 j hj).2.2
      rw [he] at a
      omega
  · rintro ⟨h1, h2, h3, h4⟩
    refine ⟨⟨h1, h2⟩, fun i hi => ?_⟩
    have hi := List.mem_range.1 hi
    unfold Sp.ok1
    rw [Sp.getD_at hi]
    have hp := h3 (Sp.i0 m[i]) (List.mem_map.2 ⟨_, List.getElem_mem hi, rfl⟩)
    refine decide_eq_true ⟨hp.1, hp.2, (Sp.ix_here hi).2 fun hc => ?_⟩
    obtain ⟨j, hj, he⟩ := Sp.fi_ge.1 hc
    simp only [List.length_take] at hj
    rw [List.getElem_take] at he
    rw [List.nodup_iff_pairwise_ne, List.pairwise_iff_getElem] at h4
    refine h4 j i (by simp only [List.length_map]; omega) (by simp only [List.length_map]; omega) (by omega) ?_
    simp only [List.getElem_map]
    exact (of_decide_eq_true he).symm
theorem Sp.pcs_no : ∀ {x : List UInt8}, (∀ c, c ∈ x → c ≠ 44) → Sp.pcs x = [x]
  | [], _ => rfl
  | c :: r, h => by
    have h0 := h c (by simp)
    have := Sp.pcs_no (x := r) fun d hd => h d (by simp [hd])
    simp only [Sp.pcs, if_neg h0, this]
theorem Sp.pcs_cat : ∀ {x : List UInt8} (r : List UInt8), (∀ c, c ∈ x → c ≠ 44) → Sp.pcs (x ++ 44 :: r) = x :: Sp.pcs r
  | [], r, _ => by simp [Sp.pcs]
  | c :: x, r, h => by
    have h0 := h c (by simp)
    have := Sp.pcs_cat (x := x) r fun d hd => h d (by simp [hd])
    simp only [List.cons_append, Sp.pcs, if_neg h0, this]
theorem Sp.nmL_no {p : Int} (c : UInt8) (hc : c ∈ Sp.nmL p) : c ≠ 44 := by
  rintro rfl
  unfold Sp.nmL at hc
  revert hc
  repeat' split
  all_goals simp
theorem Sp.pcs_fmL : ∀ {l : List Int}, l ≠ [] → Sp.pcs (Sp.fmL l) = l.map Sp.nmL
  | [], h => absurd rfl h
  | [p], _ => Sp.pcs_no fun c hc => Sp.nmL_no c hc
  | p :: q :: r, _ => by
    have := Sp.pcs_fmL (l := q :: r) (by simp)
    rw [Sp.fmL, Sp.pcs_cat _ fun c hc => Sp.nmL_no c hc, this]; rfl
theorem Sp.mpc_nm : ∀ {l : List Int}, (∀ p, p ∈ l → 1 ≤ p ∧ p ≤ 8) → Sp.mpc (l.map Sp.nmL) = some l
  | [], _ => rfl
  | p :: r, h => by
    have hp := h p (by simp)
    have e : Sp.cod (Sp.nmL p) = p := (Sp.cod_nm hp.1 hp.2).1 rfl
    have := Sp.mpc_nm (l := r) fun q hq => h q (by simp [hq])
    simp only [List.map_cons, Sp.mpc, e, this, Option.map_some]
    rw [if_neg (by omega)]
theorem Sp.prM_fmt {m : List (List C)} (h : Sp.vld m = true) : Sp.prM (Sp.fmt m) = some (m.map Sp.i0) := by
  obtain ⟨h1, _, h3, _⟩ := Sp.vld_iff.1 h
  unfold Sp.prM Sp.fmt
  show Sp.mpc (Sp.pcs (Sp.fmL (m.map Sp.i0))) = _
  rw [Sp.pcs_fmL (by intro e; rw [e] at h1; simp at h1), Sp.mpc_nm h3]
theorem Sp.vld_row {m : List (List C)} (h : Sp.vld m = true) : Sp.vld ((m.map Sp.i0).map Sp.row) = true := by
  rw [Sp.vld_iff, Sp.row_i0]; exact Sp.vld_iff.1 h
theorem Sp.back {m : List (List C)} (h : Sp.vld m = true) : Sp.prL (Sp.fmt m) = (m.map Sp.i0).map Sp.row ∧ Sp.prE (Sp.fmt m) = 0 := (Sp.pr_of (Sp.prM_fmt h)).1 (Sp.vld_row h)
theorem Sp.back_sm {m : List (List C)} (h : Sp.vld m = true) : Sp.sm (Sp.prL (Sp.fmt m)) m = true := by
  rw [(Sp.back h).1]
  unfold Sp.sm
  rw [Sp.row_i0]; exact decide_eq_true rfl
theorem Sp.vL_perm {l k : List Int} (h : Sp.vL l) (p : k.Perm l) : Sp.vL k := by
  obtain ⟨h1, h2, h3, h4⟩ := h
  exact ⟨by rw [p.length_eq]; exact h1, by rw [p.length_eq]; exact h2, fun q hq => h3 q (p.mem_iff.1 hq), p.nodup_iff.2 h4⟩
theorem Sp.srt_len (m : List (List C)) : (Sp.srt m).length = m.length := by
  rw [Sp.srt_eq, List.length_map, (Sp.srL_perm m).length_eq, List.length_map]
theorem Sp.srt_vld {m : List (List C)} (h : Sp.vld m = true) : Sp.vld (Sp.srt m) = true := by
  rw [Sp.vld_iff, Sp.srt_eq, Sp.row_i0]
  exact Sp.vL_perm (Sp.vld_iff.1 h) (Sp.srL_perm m)
theorem Sp.srt_lt {m : List (List C)} (h : Sp.vld m = true) {z : Int} (h1 : 1 ≤ z) (hz : z < ((Sp.srt m).length : Int)) : Sp.i0 (rGet (Sp.srt m) (z - 1)) < Sp.i0 (rGet (Sp.srt m) z) := by
  have hn := (Sp.vL_perm (Sp.vld_iff.1 h) (Sp.srL_perm m)).2.2.2
  have hs := Sp.srL_pw m
  obtain ⟨n, rfl⟩ : ∃ n : Nat, z = n := ⟨z.toNat, by omega⟩
  rw [Sp.srt_eq, List.length_map] at hz
  have e1 := Sp.i0_row (Sp.srL m) (n - 1) (by omega)
  have e2 := Sp.i0_row (Sp.srL m) n (by omega)
  rw [show ((n - 1 : Nat) : Int) = (n : Int) - 1 by omega] at e1
  rw [Sp.srt_eq, e1, e2]
  rw [List.nodup_iff_pairwise_ne, List.pairwise_iff_getElem] at hn
  rw [List.pairwise_iff_getElem] at hs
  have a := hn (n - 1) n (by omega) (by omega) (by omega)
  have b := hs (n - 1) n (by omega) (by omega) (by omega)
  omega
theorem Sp.ix_mem {b : List (List C)} {n : Int} : 0 ≤ Sp.ix b n ↔ n ∈ b.map Sp.i0 := by
  unfold Sp.ix
  rw [Sp.fi_ge, List.mem_map]
  constructor
  · rintro ⟨i, h, hp⟩
    exact ⟨b[i], List.getElem_mem h, (of_decide_eq_true hp).symm⟩
  · rintro ⟨x, hx, rfl⟩
    obtain ⟨i, h, rfl⟩ := List.mem_iff_getElem.1 hx
    exact ⟨i, h, decide_eq_true rfl⟩
theorem Sp.cmr_srt {m : List (List C)} : (Sp.cmr m (Sp.srt m)).length = m.length := by
  unfold Sp.cmr Sp.comL
  rw [List.length_map, List.filter_eq_self.2, List.length_map]
  intro n hn
  refine decide_eq_true (Sp.ix_mem.2 ?_)
  rw [Sp.srt_eq, Sp.row_i0]
  exact (Sp.srL_perm m).mem_iff.2 hn
theorem Sp.cmr_both {a b : List (List C)} (ha : Sp.vld a = true) (hb : Sp.vld b = true) : Sp.srt (Sp.cmr a b) = Sp.srt (Sp.cmr b a) := by
  have na := (Sp.vld_iff.1 ha).2.2.2
  have nb := (Sp.vld_iff.1 hb).2.2.2
  have p : (Sp.comL a b).Perm (Sp.comL b a) := by
    refine (List.perm_ext_iff_of_nodup (na.filter _) (nb.filter _)).2 fun n => ?_
    simp only [List.mem_filter, decide_eq_true_eq, Sp.ix_mem]
    exact and_comm
  rw [Sp.srt_eq, Sp.srt_eq]
  congr 1
  refine List.Perm.eq_of_pairwise (le := fun x y => x ≤ y) (fun x y _ _ h1 h2 => Int.le_antisymm h1 h2) (Sp.srL_pw _) (Sp.srL_pw _) ((Sp.srL_perm _).trans (List.Perm.trans ?_ (Sp.srL_perm _).symm))
  unfold Sp.cmr
  rw [Sp.row_i0, Sp.row_i0]; exact p
theorem Sp.sm_refl (a : List (List C)) : Sp.sm a a = true := decide_eq_true rfl
theorem Sp.fmt_eq {a b : List (List C)} (ha : Sp.vld a = true) (hb : Sp.vld b = true) : ((Sp.fmt a).toList == (Sp.fmt b).toList) = Sp.sm a b := by
  rw [Bool.eq_iff_iff, beq_iff_eq, Sp.sm, decide_eq_true_eq]
  constructor
  · intro h
    rw [Lib.toList_data, Lib.toList_data] at h
    have e : Sp.fmt a = Sp.fmt b := Sp.bExt h
    have h1 := Sp.prM_fmt ha
    rw [e, Sp.prM_fmt hb] at h1
    exact (Option.some.inj h1).symm
  · intro h
    unfold Sp.fmt; rw [h]
theorem Sp.mpc_inv : ∀ {P : List (List UInt8)} {l : List Int}, Sp.mpc P = some l → P = l.map Sp.nmL
  | [], l, h => by simp only [Sp.mpc, Option.some.injEq] at h; subst h; rfl
  | x :: r, l, h => by
    simp only [Sp.mpc] at h
    split at h
    · cases h
    · rename_i hc
      rw [Option.map_eq_some_iff] at h
      obtain ⟨k, hk, rfl⟩ := h
      have := Sp.mpc_inv hk
      have hb := Sp.cod_bd x
      rw [List.map_cons, (Sp.cod_nm (by omega) (by omega)).2 rfl, ← this]
theorem Sp.join_pcs : ∀ s : List UInt8, Lib.join (Sp.pcs s) [44] = s
  | [] => rfl
  | c :: r => by
    have ih := Sp.join_pcs r
    obtain ⟨h, t, e⟩ : ∃ h t, Sp.pcs r = h :: t := by
      cases e : Sp.pcs r with
      | nil => exact absurd e (Sp.pcs_ne r)
      | cons h t => exact ⟨h, t, rfl⟩
    rw [e, Lib.join_cons] at ih
    simp only [Sp.pcs]
    split
    · rename_i hc
      subst hc
      rw [e, Lib.join_cons]
      simp only [Lib.joinTail, List.map_cons, List.flatten_cons, List.nil_append, List.cons_append, List.singleton_append] at ih ⊢
      rw [ih]
    · rw [e]
      simp only [Lib.join_cons, List.cons_append, ih]
theorem Sp.prM_inv {s : ByteArray} {l : List Int} (h : Sp.prM s = some l) : Sp.fmt (l.map Sp.row) = s := by
  refine Sp.bExt ?_
  show Sp.fmL ((l.map Sp.row).map Sp.i0) = s.data.toList
  rw [Sp.row_i0, ← Sp.join_fm, ← Sp.mpc_inv h, Sp.join_pcs]
theorem Sp.pr_ok {s : ByteArray} (h : Sp.prE s = 0) : Sp.fmt (Sp.prL s) = s ∧ Sp.vld (Sp.prL s) = true := by
  cases e : Sp.prM s with
  | none => simp only [Sp.prE, e] at h; omega
  | some l =>
    obtain ⟨q1, q2⟩ := Sp.pr_of e
    by_cases hv : Sp.vld (l.map Sp.row) = true
    · rw [(q1 hv).1]; exact ⟨Sp.prM_inv e, hv⟩
    · have := (q2 (by simpa using hv)).2
      omega
theorem Sp.pr_bad {s : ByteArray} (h : ¬ Sp.prE s = 0) : Sp.prL s = [] := by
  cases e : Sp.prM s with
  | none => exact (Sp.pr_none e).1
  | some l =>
    obtain ⟨q1, q2⟩ := Sp.pr_of e
    by_cases hv : Sp.vld (l.map Sp.row) = true
    · exact absurd (q1 hv).2 h
    · exact (q2 (by simpa using hv)).1
theorem Sp.prL_len (s : ByteArray) : (Sp.prL s).length ≤ 8 := by
  by_cases h : Sp.prE s = 0
  · have := (Sp.vld_iff.1 (Sp.pr_ok h).2).2.1
    simpa using this
  · rw [Sp.pr_bad h]; simp
theorem Sp.vld_len8 {m : List (List C)} (h : Sp.vld m = true) : 1 ≤ m.length ∧ m.length ≤ 8 := by
  have := Sp.vld_iff.1 h
  have h1 := this.1
  have h2 := this.2.1
  simp only [List.length_map] at h1 h2
  exact ⟨h1, h2⟩
theorem Sp.cmr_len (a b : List (List C)) : (Sp.cmr a b).length ≤ a.length := by
  have := Sp.cmz_len a b (a.length : Int)
  simp only [Sp.cmz] at this
  rwa [List.take_of_length_le (by omega)] at this
end Go

namespace Go.Sx
/-! ### function 7: law06.sane -/
def ct7 : Ct := { ps := [], rs := [(false, [.bool])], pre := fun _ => True, out := fun _ => [[.b true]] }
def tb7 : List (Nat × Ct) := [(8, ct8), (11, ct11), (13, ct13), (16, ct16)]
def A7  : FuncId → Nat → LoopAnn := fun _ _ => LoopAnn.unroll 200
abbrev B7  : Prop := vcF Go.Proofs.Tryd.prog (look tb7) (fun _ => false) (A7) 6 7 [] [] (fun sv heap => Gives [(false, [.bool])] [[.b true]] sv heap)
theorem e7  : B7 = ((pLe (iSize (ByteArray.mk (Array.mk [70, 76, 44, 70, 82]))) 1000 ∧ True) ∧ (((Sp.prL (ByteArray.mk (Array.mk [70, 76, 44, 70, 82]))).length ≤ 9223372036854775807 ∧ ∀ (x : List C), x ∈ Sp.prL (ByteArray.mk (Array.mk [70, 76, 44, 70, 82])) → WfCs [.int .i64] x) ∧ InR .i64 (Sp.prE (ByteArray.mk (Array.mk [70, 76, 44, 70, 82]))) ∧ True → (pLe (iSize (ByteArray.mk (Array.mk [70, 76, 44, 70, 76]))) 1000 ∧ True) ∧ (((Sp.prL (ByteArray.mk (Array.mk [70, 76, 44, 70, 76]))).length ≤ 9223372036854775807 ∧ ∀ (x : List C), x ∈ Sp.prL (ByteArray.mk (Array.mk [70, 76, 44, 70, 76])) → WfCs [.int .i64] x) ∧ InR .i64 (Sp.prE (ByteArray.mk (Array.mk [70, 76, 44, 70, 76]))) ∧ True → (pLe (iSize (ByteArray.mk (Array.mk [70, 76, 44]))) 1000 ∧ True) ∧ (((Sp.prL (ByteArray.mk (Array.mk [70, 76, 44]))).length ≤ 9223372036854775807 ∧ ∀ (x : List C), x ∈ Sp.prL (ByteArray.mk (Array.mk [70, 76, 44])) → WfCs [.int .i64] x) ∧ InR .i64 (Sp.prE (ByteArray.mk (Array.mk [70, 76, 44]))) ∧ True → (bEq (Sp.prE (ByteArray.mk (Array.mk [70, 76, 44, 70, 82]))) 0 = true → pLe (iLen (Sp.prL (ByteArray.mk (Array.mk [70, 76, 44, 70, 82])))) 9223372036854775807 → (bEq (iLen (Sp.prL (ByteArray.mk (Array.mk [70, 76, 44, 70, 82])))) 2 = true → pIn 0 (iLen (Sp.prL (ByteArray.mk (Array.mk [70, 76, 44, 70, 82])))) 1 ∧ (InR .i64 ((rGet (Sp.prL (ByteArray.mk (Array.mk [70, 76, 44, 70, 82]))) 1).headD default).int → (bEq ((rGet (Sp.prL (ByteArray.mk (Array.mk [70, 76, 44, 70, 82]))) 1).headD default).int 2 = true → (pLe (↑(Sp.prL (ByteArray.mk (Array.mk [70, 76, 44, 70, 82]))).length) 1000 ∧ True) ∧ ((List.brecOn.go ((((11, ct11).snd.outs [[C.l ((((8, ct8).snd.outs [[C.s { data := #[70, 76, 44, 70, 82] }]]).headD []).headD default).list]]).headD []).headD default).str.1.toList List.length._f).1.le 9223372036854775807 → (sSame (Sp.fmt (Sp.prL (ByteArray.mk (Array.mk [70, 76, 44, 70, 82])))) (ByteArray.mk (Array.mk [70, 76, 44, 70, 82])) = true → (bEq (Sp.prE (ByteArray.mk (Array.mk [70, 76, 44, 70, 76]))) 1 = true → (bEq (Sp.prE (ByteArray.mk (Array.mk [70, 76, 44]))) 5 = true → True ∧ (True → (Sp.vld (Sp.prL (ByteArray.mk (Array.mk [70, 76, 44, 70, 82]))) = true → True ∧ (InR .i64 (Sp.ix (Sp.prL (ByteArray.mk (Array.mk [70, 76, 44, 70, 82]))) 2) → (bEq (Sp.ix (Sp.prL (ByteArray.mk (Array.mk [70, 76, 44, 70, 82]))) 2) 1 = true ∧ True) ∧ True)) ∧ (Sp.vld (Sp.prL (ByteArray.mk (Array.mk [70, 76, 44, 70, 82]))) = false → (false = true ∧ True) ∧ True))) ∧ (bEq (Sp.prE (ByteArray.mk (Array.mk [70, 76, 44]))) 5 = false → (false = true ∧ True) ∧ True)) ∧ (bEq (Sp.prE (ByteArray.mk (Array.mk [70, 76, 44, 70, 76]))) 1 = false → (false = true ∧ True) ∧ True)) ∧ (sSame (Sp.fmt (Sp.prL (ByteArray.mk (Array.mk [70, 76, 44, 70, 82])))) (ByteArray.mk (Array.mk [70, 76, 44, 70, 82])) = false → (false = true ∧ True) ∧ True))) ∧ (bEq ((rGet (Sp.prL (ByteArray.mk (Array.mk [70, 76, 44, 70, 82]))) 1).headD default).int 2 = false → (false = true ∧ True) ∧ True))) ∧ (bEq (iLen (Sp.prL (ByteArray.mk (Array.mk [70, 76, 44, 70, 82])))) 2 = false → (false = true ∧ True) ∧ True)) ∧ (bEq (Sp.prE (ByteArray.mk (Array.mk [70, 76, 44, 70, 82]))) 0 = false → (false = true ∧ True) ∧ True))))) := by kernel_rfl
theorem v7  : Holds (Wfs [] → True → B7) := by
  refine ⟨fun hw hp => ?_⟩
  rw [e7]
  have mA : Sp.prM (ByteArray.mk (Array.mk [70, 76, 44, 70, 82])) = some [1, 2] := by decide +kernel
  have mB : Sp.prM (ByteArray.mk (Array.mk [70, 76, 44, 70, 76])) = some [1, 1] := by decide +kernel
  have mC : Sp.prM (ByteArray.mk (Array.mk [70, 76, 44])) = none := by decide +kernel
  have aL := ((Sp.pr_of mA).1 (by decide +kernel))
  have bL := ((Sp.pr_of mB).2 (by decide +kernel))
  have cL := Sp.pr_none mC
  have fA : Sp.fmt (List.map Sp.row [1, 2]) = ByteArray.mk (Array.mk [70, 76, 44, 70, 82]) := Sp.prM_inv mA
  have sA : (iSize (ByteArray.mk (Array.mk [70, 76, 44, 70, 82])) : Int) ≤ 1000 := by decide
  have sB : (iSize (ByteArray.mk (Array.mk [70, 76, 44, 70, 76])) : Int) ≤ 1000 := by decide
  have sC : (iSize (ByteArray.mk (Array.mk [70, 76, 44])) : Int) ≤ 1000 := by decide
  have vA : Sp.vld (List.map Sp.row [1, 2]) = true := by decide +kernel
  have xA : Sp.ix (List.map Sp.row [1, 2]) 2 = 1 := by decide +kernel
  have gA : ((rGet (List.map Sp.row [1, 2]) 1).headD default).int = 2 := by decide +kernel
  refine ⟨⟨sA, trivial⟩, fun _ => ⟨⟨sB, trivial⟩, fun _ => ⟨⟨sC, trivial⟩, fun _ => ?_⟩⟩⟩
  rw [aL.1, aL.2, bL.2, cL.2, xA, vA, gA, fA]
  generalize ByteArray.mk (Array.mk [70, 76, 44, 70, 82]) = A
  refine ⟨fun _ _ => ⟨fun _ => ⟨⟨by decide, by decide⟩, fun _ => ⟨fun _ => ⟨⟨by decide, trivial⟩, fun _ => ⟨fun _ => ⟨fun _ => ⟨fun _ => ⟨trivial, fun _ => ⟨fun _ => ⟨trivial, fun _ => ⟨⟨by decide, trivial⟩, trivial⟩⟩, fun h => by cases h⟩⟩, fun h => by cases h⟩, fun h => by cases h⟩, fun h => ?_⟩⟩, fun h => by cases h⟩⟩, fun h => by cases h⟩, fun h => by cases h⟩
  simp [sSame] at h
theorem s7 : SoundCt Go.Proofs.Tryd.prog 7 ct7 :=
  contractH followsMixed (look_sound (show Tb Go.Proofs.Tryd.prog tb7 from ⟨s8, ⟨s11, ⟨s13, ⟨s16, trivial⟩⟩⟩⟩)) (fun _ => false) (fun _ => A7) 6 7 ct7 rfl (by simp [ct7]) fun a => Eq.mp (by kernel_rfl) (v7 )
end Go.Sx

