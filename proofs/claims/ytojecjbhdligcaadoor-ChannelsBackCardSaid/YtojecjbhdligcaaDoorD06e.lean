/- Contracts and conditions, continued. -/
import Derived.Test.YtojecjbhdligcaaDoorSxUse
import Derived.Test.YtojecjbhdligcaaDoorD06d
import Derived.KernelRfl
set_option linter.unusedVariables false
set_option linter.unusedSimpArgs false
set_option maxRecDepth 100000
set_option maxHeartbeats 4000000

namespace Go
open Go.Sx
theorem Sp.splitK_pcs : ∀ s : List UInt8, Lib.splitK [44] 0 (s.count 44) s = Sp.pcs s
  | [] => rfl
  | b :: l => by
    have ih := Sp.splitK_pcs l
    by_cases hb : b = 44
    · subst hb
      rw [List.count_cons_self, Lib.splitK, Lib.index_one]
      simp only [Lib.indexByte, beq_self_eq_true, if_true, Sp.pcs]
      simp only [Int.toNat_zero, List.take_zero, Nat.zero_add, List.length_singleton, List.drop_succ_cons, List.drop_zero]
      rw [ih]; rfl
    · rw [List.count_cons_of_ne hb]
      have hbf : (b == 44) = false := by simpa using hb
      simp only [Sp.pcs, if_neg hb]
      rw [← ih]
      cases hk : l.count 44 with
      | zero => rfl
      | succ k =>
        simp only [Lib.splitK, Lib.index_one, Lib.indexByte, hbf, Bool.false_eq_true, if_false]
        by_cases hi : Lib.indexByte l 44 = -1
        · simp only [hi, beq_self_eq_true, if_true]
        · have hif : (Lib.indexByte l 44 == -1) = false := by simpa using hi
          have hge := Lib.indexByte_ge l 44
          have h2 : (Lib.indexByte l 44 + 1 == -1) = false := by
            rw [beq_eq_false_iff_ne]; omega
          simp only [hif, h2, Bool.false_eq_true, if_false, Nat.add_zero, List.length_singleton]
          rw [show (Lib.indexByte l 44 + 1).toNat = (Lib.indexByte l 44).toNat + 1 by omega]
          simp only [List.take_succ_cons, List.drop_succ_cons]
theorem Sp.splB_pcs (s : ByteArray) : (Sp.splB s).map (·.data.toList) = Sp.pcs s.data.toList := by
  unfold Sp.splB
  rw [Lib.splitB_data]
  show Lib.splitK [44] 0 (Lib.count s.data.toList [44]) s.data.toList = _
  rw [Lib.count_one, Sp.splitK_pcs]
theorem Sp.spl_len (s : ByteArray) : (Sp.spl s).length = (Sp.pcs s.data.toList).length := by
  rw [← Sp.splB_pcs]; simp [Sp.spl]
theorem Sp.spl_at {s : ByteArray} {z : Int} (h0 : 0 ≤ z) (hz : z < ((Sp.spl s).length : Int)) : ∃ h : z.toNat < (Sp.pcs s.data.toList).length, (Sp.s0 (rGet (Sp.spl s) z)).data.toList = (Sp.pcs s.data.toList)[z.toNat] := by
  have hl := Sp.spl_len s
  refine ⟨by omega, ?_⟩
  obtain ⟨n, rfl⟩ : ∃ n : Nat, z = n := ⟨z.toNat, by omega⟩
  rw [Sp.rGet_at (by omega)]
  simp only [Sp.spl, List.getElem_map, ← Sp.splB_pcs, Int.toNat_natCast]; rfl
theorem Sp.cod_bd (x : List UInt8) : 0 ≤ Sp.cod x ∧ Sp.cod x ≤ 8 := by
  unfold Sp.cod
  repeat' split
  all_goals omega
def Sp.tbl : List (List C) := [[C.s ⟨#[70, 76]⟩], [C.s ⟨#[70, 82]⟩], [C.s ⟨#[70, 67]⟩], [C.s ⟨#[76, 70]⟩], [C.s ⟨#[66, 76]⟩], [C.s ⟨#[66, 82]⟩], [C.s ⟨#[83, 76]⟩], [C.s ⟨#[83, 82]⟩]]
theorem Sp.ixs_tbl (v : ByteArray) : Sp.ixs Sp.tbl v = Sp.cod v.data.toList - 1 := by
  have e : ∀ b : ByteArray, (v.toList == (Sp.s0 [C.s b]).toList) = decide (v.data.toList = b.data.toList) := fun b => by
    simp only [Sp.s0, List.headD_cons, show ∀ x, (C.s x).str = x from fun _ => rfl, Lib.toList_data]
    rw [Bool.eq_iff_iff]; simp
  unfold Sp.ixs Sp.fi Sp.tbl Sp.cod
  simp only [List.findIdx?_cons, List.findIdx?_nil, e]
  generalize v.data.toList = x
  by_cases h1 : x = [70, 76]
  · subst h1; rfl
  by_cases h2 : x = [70, 82]
  · subst h2; rfl
  by_cases h3 : x = [70, 67]
  · subst h3; rfl
  by_cases h4 : x = [76, 70]
  · subst h4; rfl
  by_cases h5 : x = [66, 76]
  · subst h5; rfl
  by_cases h6 : x = [66, 82]
  · subst h6; rfl
  by_cases h7 : x = [83, 76]
  · subst h7; rfl
  by_cases h8 : x = [83, 82]
  · subst h8; rfl
  simp only [h1, h2, h3, h4, h5, h6, h7, h8, decide_false, Bool.false_eq_true, if_false, Option.map_none]
  rfl
theorem Sp.mpc_bad : ∀ {l : List (List UInt8)} {i : Nat} (h : i < l.length), Sp.cod l[i] = 0 → Sp.mpc l = none
  | x :: r, 0, _, h0 => by simp only [List.getElem_cons_zero] at h0; simp only [Sp.mpc, h0, if_true]
  | x :: r, i + 1, h, h0 => by
    simp only [List.getElem_cons_succ] at h0
    have := Sp.mpc_bad (l := r) (i := i) (by simpa using h) h0
    simp only [Sp.mpc, this, Option.map_none, ite_self]
theorem Sp.mpc_all : ∀ {l : List (List UInt8)}, (∀ i (h : i < l.length), Sp.cod l[i] ≠ 0) → Sp.mpc l = some (l.map Sp.cod)
  | [], _ => rfl
  | x :: r, h => by
    have h0 := h 0 (by simp)
    simp only [List.getElem_cons_zero] at h0
    have := Sp.mpc_all (l := r) fun i hi => by
      have := h (i + 1) (by simpa using hi)
      simpa using this
    simp only [Sp.mpc, if_neg h0, this, Option.map_some, List.map_cons]
def Sp.psI (s : ByteArray) (z : Int) : Prop := 0 ≤ z ∧ z ≤ ((Sp.spl s).length : Int) ∧ ∀ i (h : i < (Sp.pcs s.data.toList).length), (i : Int) < z → Sp.cod (Sp.pcs s.data.toList)[i] ≠ 0
def Sp.psz (s : ByteArray) (z : Int) : List (List C) := (((Sp.pcs s.data.toList).take z.toNat).map Sp.cod).map Sp.row
theorem Sp.psI_init (s : ByteArray) : Sp.psI s 0 := ⟨by omega, by omega, fun i h hi => by omega⟩
theorem Sp.ps_bad {s : ByteArray} {z : Int} (h : Sp.psI s z) (hz : z < ((Sp.spl s).length : Int)) (hb : Sp.ixs Sp.tbl (Sp.s0 (rGet (Sp.spl s) z)) < 0) : Sp.prL s = [] ∧ Sp.prE s = 5 := by
  obtain ⟨hl, e⟩ := Sp.spl_at h.1 hz
  rw [Sp.ixs_tbl, e] at hb
  have := Sp.cod_bd (Sp.pcs s.data.toList)[z.toNat]
  have hm : Sp.prM s = none := Sp.mpc_bad hl (by omega)
  simp only [Sp.prL, Sp.prE, hm, and_self]
theorem Sp.ps_next {s : ByteArray} {z : Int} (h : Sp.psI s z) (hz : z < ((Sp.spl s).length : Int)) (hb : ¬ Sp.ixs Sp.tbl (Sp.s0 (rGet (Sp.spl s) z)) < 0) :
    Sp.psI s (z + 1) ∧ Sp.psz s z ++ [[C.i (Sp.ixs Sp.tbl (Sp.s0 (rGet (Sp.spl s) z)) + 1)]] = Sp.psz s (z + 1) := by
  obtain ⟨hl, e⟩ := Sp.spl_at h.1 hz
  rw [Sp.ixs_tbl, e] at hb ⊢
  obtain ⟨h0, h1, h2⟩ := h
  refine ⟨⟨by omega, by omega, fun i hi hiz => ?_⟩, ?_⟩
  · by_cases he : (i : Int) = z
    · obtain rfl : i = z.toNat := by omega
      omega
    · exact h2 i hi (by omega)
  · unfold Sp.psz
    rw [show (z + 1).toNat = z.toNat + 1 by omega, List.take_succ_eq_append_getElem hl]
    simp only [List.map_append, List.map_cons, List.map_nil, Sp.row]
    rw [show Sp.cod (Sp.pcs s.data.toList)[z.toNat] - 1 + 1 = Sp.cod (Sp.pcs s.data.toList)[z.toNat] by omega]
theorem Sp.ps_end {s : ByteArray} {z : Int} (h : Sp.psI s z) (hz : ¬ z < ((Sp.spl s).length : Int)) : ∃ l : List Int, Sp.prM s = some l ∧ Sp.psz s z = l.map Sp.row := by
  obtain ⟨h0, h1, h2⟩ := h
  have hl := Sp.spl_len s
  refine ⟨(Sp.pcs s.data.toList).map Sp.cod, Sp.mpc_all fun i hi => h2 i hi (by omega), ?_⟩
  unfold Sp.psz
  rw [List.take_of_length_le (by omega)]
theorem Sp.pr_of {s : ByteArray} {l : List Int} (h : Sp.prM s = some l) : (Sp.vld (l.map Sp.row) = true → Sp.prL s = l.map Sp.row ∧ Sp.prE s = 0) ∧ (Sp.vld (l.map Sp.row) = false → Sp.prL s = [] ∧ Sp.prE s = 1) := by
  simp only [Sp.prL, Sp.prE, h]
  constructor
  · intro hv; simp [hv]
  · intro hv; simp [hv]
theorem Sp.pcs_len : ∀ s : List UInt8, (Sp.pcs s).length ≤ s.length + 1
  | [] => by simp [Sp.pcs]
  | c :: r => by
    have := Sp.pcs_len r
    simp only [Sp.pcs]
    split
    · simp only [List.length_cons]; omega
    · split
      · rename_i h t he
        rw [he] at this
        simp only [List.length_cons] at this ⊢; omega
      · simp
theorem Sp.pcs_ne : ∀ s : List UInt8, Sp.pcs s ≠ []
  | [] => by simp [Sp.pcs]
  | c :: r => by
    simp only [Sp.pcs]
    split
    · simp
    · split <;> simp
/-- The other way to read: two bytes and a comma at a time. -/
def Sp.pr2 : List UInt8 → Option (List Int)
  | a :: b :: c :: r => if Sp.cod [a, b] = 0 then none else if c = 44 then (Sp.pr2 r).map (Sp.cod [a, b] :: ·) else none
  | [a, b] => if Sp.cod [a, b] = 0 then none else some [Sp.cod [a, b]]
  | _ => none
theorem Sp.cod_len {x : List UInt8} (h : x.length ≠ 2) : Sp.cod x = 0 := by
  unfold Sp.cod
  repeat (rw [if_neg (by rintro rfl; exact h rfl)])
theorem Sp.cod_c1 (b : UInt8) : Sp.cod [44, b] = 0 := by
  unfold Sp.cod
  repeat (rw [if_neg (by simp)])
theorem Sp.cod_c2 (a : UInt8) : Sp.cod [a, 44] = 0 := by
  unfold Sp.cod
  repeat (rw [if_neg (by simp)])
theorem Sp.mpc_head {x : List UInt8} {r : List (List UInt8)} (h : Sp.cod x = 0) : Sp.mpc (x :: r) = none := by simp only [Sp.mpc, h, if_true]
theorem Sp.pr2_eq : ∀ s : List UInt8, Sp.pr2 s = Sp.mpc (Sp.pcs s)
  | [] => rfl
  | [a] => by
    by_cases ha : a = 44
    · subst ha; rfl
    · simp only [Sp.pr2, Sp.pcs, if_neg ha]
      rw [Sp.mpc_head (Sp.cod_len (by simp))]
  | [a, b] => by
    by_cases ha : a = 44
    · subst ha
      simp only [Sp.pr2, Sp.cod_c1, if_true, Sp.pcs]
      rw [Sp.mpc_head (Sp.cod_len (by simp))]
    by_cases hb : b = 44
    · subst hb
      simp only [Sp.pr2, Sp.cod_c2, if_true, Sp.pcs, if_neg ha]
      rw [Sp.mpc_head (Sp.cod_len (by simp))]
    simp only [Sp.pr2, Sp.pcs, if_neg ha, if_neg hb, Sp.mpc, Option.map_some]
  | a :: b :: c :: r => by
    have ih := Sp.pr2_eq r
    by_cases ha : a = 44
    · subst ha
      simp only [Sp.pr2, Sp.cod_c1, if_true]
      rw [Sp.pcs, if_pos rfl, Sp.mpc_head (Sp.cod_len (by simp))]
    by_cases hb : b = 44
    · subst hb
      simp only [Sp.pr2, Sp.cod_c2, if_true]
      rw [Sp.pcs, if_neg ha, Sp.pcs, if_pos rfl]
      simp only []
      rw [Sp.mpc_head (Sp.cod_len (by simp))]
    by_cases hc : c = 44
    · subst hc
      rw [Sp.pcs, if_neg ha, Sp.pcs, if_neg hb, Sp.pcs, if_pos rfl]
      simp only [Sp.pr2, if_true, Sp.mpc, ih]
    · obtain ⟨h, t, e⟩ : ∃ h t, Sp.pcs r = h :: t := by
        cases e : Sp.pcs r with
        | nil => exact absurd e (Sp.pcs_ne r)
        | cons h t => exact ⟨h, t, rfl⟩
      rw [Sp.pcs, if_neg ha, Sp.pcs, if_neg hb, Sp.pcs, if_neg hc, e]
      simp only [Sp.pr2, if_neg hc, ite_self]
      rw [Sp.mpc_head (Sp.cod_len (by simp))]
end Go

namespace Go.Sx
/-! ### function 8: channels.Parse -/
def ct8 : Ct := { ps := [(false, [.str])], rs := [(false, [.sl [.int .i64]]), (false, [.int .i64])], pre := fun a => pLe (iSize (cel 0 (arg 0 a)).str) 1000 ∧ True, out := fun a => [[.l (Sp.prL (cel 0 (arg 0 a)).str)], [.i (Sp.prE (cel 0 (arg 0 a)).str)]] }
def tb8 : List (Nat × Ct) := [(22, ct22), (23, ct23), (13, ct13)]
def A8 (s : ByteArray) : FuncId → Nat → LoopAnn := fun _ ii => bif Nat.beq ii 3 then .ghost 4 [.int .i64] 3 (.on (fun sv0 => match sv0.tmps.getD 4 .undef with | .own rc _ => .inv Int (fun z => Sp.psI s z) (fun z => [(11, .int .i64 z), (4, .own rc 0)]) (fun z => [(rc, .row [.int .i64] 3 0 (Sp.psz s z))]) [rc] [0, 2, 3, 4, 6, 7, 9, 10, 11, 12, 19, 28] (fun z => (Sp.spl s).length - z.toNat) | _ => .unroll 0)) else .unroll 0
abbrev B8 (s : ByteArray) : Prop := vcF Go.Proofs.Tryd.prog (look tb8) (fun _ => false) (A8 s) 6 8 [.str s] [] (fun sv heap => Gives [(false, [.sl [.int .i64]]), (false, [.int .i64])] [[.l (Sp.prL s)], [.i (Sp.prE s)]] sv heap)
theorem e8 (s : ByteArray) : B8 s = (Sp.spP s (ByteArray.mk (Array.mk [44])) ∧ (((Sp.spl s).length ≤ 9223372036854775807 ∧ ∀ (x : List C), x ∈ Sp.spl s → WfCs [.str] x) → pLe (iLen (Sp.spl s)) 9223372036854775807 → (∃ (x : Int), Sp.psI s x ∧ true = true ∧ ((IntKind.i64 = IntKind.i64 ∧ 0 = x) ∧ (0 = 0 ∧ 0 + 1 = 0 + 1) ∧ True) ∧ ([Sh.int .i64] = [Sh.int .i64] ∧ 3 = 3 ∧ 0 + 1 = 0 + 1 ∧ [] = Sp.psz s x) ∧ True) ∧ (∀ (x : Int), true = true ∧ true = true) ∧ ∀ (x : Int), Sp.psI s x → InR .i64 x ∧ True ∧ True → ((Sp.psz s x).length ≤ 9223372036854775807 ∧ ∀ (x_1 : List C), x_1 ∈ Sp.psz s x → WfCs [.int .i64] x_1) ∧ True → (bLt x (iLen (Sp.spl s)) = true → pIn 0 (iLen (Sp.spl s)) x ∧ ((List.brecOn.go ((rGet ((((22, ct22).snd.outs [[C.s s], [C.s (ByteArray.mk #[44])]]).headD []).headD default).list x).headD default).str.1.toList List.length._f).1.le 9223372036854775807 → geB (some 1) none (iLen [[C.s (ByteArray.mk (Array.mk [63]))], [C.s (ByteArray.mk (Array.mk [70, 76]))], [C.s (ByteArray.mk (Array.mk [70, 82]))], [C.s (ByteArray.mk (Array.mk [70, 67]))], [C.s (ByteArray.mk (Array.mk [76, 70]))], [C.s (ByteArray.mk (Array.mk [66, 76]))], [C.s (ByteArray.mk (Array.mk [66, 82]))], [C.s (ByteArray.mk (Array.mk [83, 76]))], [C.s (ByteArray.mk (Array.mk [83, 82]))]]) ∧ True ∧ (InR .i64 (Sp.ixs (cutRows [[C.s (ByteArray.mk (Array.mk [63]))], [C.s (ByteArray.mk (Array.mk [70, 76]))], [C.s (ByteArray.mk (Array.mk [70, 82]))], [C.s (ByteArray.mk (Array.mk [70, 67]))], [C.s (ByteArray.mk (Array.mk [76, 70]))], [C.s (ByteArray.mk (Array.mk [66, 76]))], [C.s (ByteArray.mk (Array.mk [66, 82]))], [C.s (ByteArray.mk (Array.mk [83, 76]))], [C.s (ByteArray.mk (Array.mk [83, 82]))]] (some 1) none) ((rGet (Sp.spl s) x).headD default).str) → (bLt (Sp.ixs (cutRows [[C.s (ByteArray.mk (Array.mk [63]))], [C.s (ByteArray.mk (Array.mk [70, 76]))], [C.s (ByteArray.mk (Array.mk [70, 82]))], [C.s (ByteArray.mk (Array.mk [70, 67]))], [C.s (ByteArray.mk (Array.mk [76, 70]))], [C.s (ByteArray.mk (Array.mk [66, 76]))], [C.s (ByteArray.mk (Array.mk [66, 82]))], [C.s (ByteArray.mk (Array.mk [83, 76]))], [C.s (ByteArray.mk (Array.mk [83, 82]))]] (some 1) none) ((rGet (Sp.spl s) x).headD default).str) 0 = true → ([] = Sp.prL s ∧ True) ∧ (5 = Sp.prE s ∧ True) ∧ True) ∧ (bLt (Sp.ixs (cutRows [[C.s (ByteArray.mk (Array.mk [63]))], [C.s (ByteArray.mk (Array.mk [70, 76]))], [C.s (ByteArray.mk (Array.mk [70, 82]))], [C.s (ByteArray.mk (Array.mk [70, 67]))], [C.s (ByteArray.mk (Array.mk [76, 70]))], [C.s (ByteArray.mk (Array.mk [66, 76]))], [C.s (ByteArray.mk (Array.mk [66, 82]))], [C.s (ByteArray.mk (Array.mk [83, 76]))], [C.s (ByteArray.mk (Array.mk [83, 82]))]] (some 1) none) ((rGet (Sp.spl s) x).headD default).str) 0 = false → InR .i64 (iAdd (Sp.ixs (cutRows [[C.s (ByteArray.mk (Array.mk [63]))], [C.s (ByteArray.mk (Array.mk [70, 76]))], [C.s (ByteArray.mk (Array.mk [70, 82]))], [C.s (ByteArray.mk (Array.mk [70, 67]))], [C.s (ByteArray.mk (Array.mk [76, 70]))], [C.s (ByteArray.mk (Array.mk [66, 76]))], [C.s (ByteArray.mk (Array.mk [66, 82]))], [C.s (ByteArray.mk (Array.mk [83, 76]))], [C.s (ByteArray.mk (Array.mk [83, 82]))]] (some 1) none) ((rGet (Sp.spl s) x).headD default).str) 1) ∧ pRoom 8 (iLen (Sp.psz s x ++ [[C.i (iAdd (Sp.ixs (cutRows [[C.s (ByteArray.mk (Array.mk [63]))], [C.s (ByteArray.mk (Array.mk [70, 76]))], [C.s (ByteArray.mk (Array.mk [70, 82]))], [C.s (ByteArray.mk (Array.mk [70, 67]))], [C.s (ByteArray.mk (Array.mk [76, 70]))], [C.s (ByteArray.mk (Array.mk [66, 76]))], [C.s (ByteArray.mk (Array.mk [66, 82]))], [C.s (ByteArray.mk (Array.mk [83, 76]))], [C.s (ByteArray.mk (Array.mk [83, 82]))]] (some 1) none) ((rGet (Sp.spl s) x).headD default).str) 1)]])) ∧ InR .i64 (iAdd x 1) ∧ (true = true ∧ (fun z => z = z) [SV.str s, SV.sl [.str] (Sp.spl s), SV.int .i64 (iLen (Sp.spl s)), SV.undef]) ∧ [HB.gone] = [HB.gone] ∧ ∃ (y : Int), Sp.psI s y ∧ true = true ∧ ((IntKind.i64 = IntKind.i64 ∧ iAdd x 1 = y) ∧ (0 = 0 ∧ 0 + 1 = 0 + 1) ∧ True) ∧ (([Sh.int .i64] = [Sh.int .i64] ∧ 3 = 3 ∧ 0 + 1 = 0 + 1 ∧ Sp.psz s x ++ [[C.i (iAdd (Sp.ixs (cutRows [[C.s (ByteArray.mk (Array.mk [63]))], [C.s { data := { toList := [70, 76] } }], [C.s { data := { toList := [70, 82] } }], [C.s { data := { toList := [70, 67] } }], [C.s { data := { toList := [76, 70] } }], [C.s { data := { toList := [66, 76] } }], [C.s { data := { toList := [66, 82] } }], [C.s { data := { toList := [83, 76] } }], [C.s { data := { toList := [83, 82] } }]] (some 1) none) ((rGet (Sp.spl s) x).headD default).str) 1)]] = Sp.psz s y) ∧ True) ∧ (Sp.spl s).length - y.toNat < (Sp.spl s).length - x.toNat)))) ∧ (bLt x (iLen (Sp.spl s)) = false → True ∧ (True → True ∧ (bNot (Sp.vld (Sp.psz s x)) = true → ([] = Sp.prL s ∧ True) ∧ (1 = Sp.prE s ∧ True) ∧ True) ∧ (bNot (Sp.vld (Sp.psz s x)) = false → (Sp.psz s x = Sp.prL s ∧ True) ∧ (0 = Sp.prE s ∧ True) ∧ True))))) := by kernel_rfl
theorem v8 (s : ByteArray) : Holds (Wfs [.str s] → pLe (iSize s) 1000 ∧ True → B8 s) := by
  refine ⟨fun hw hp => ?_⟩
  rw [e8]
  simp only [Wfs, Wf, InR, and_true] at hw
  have hm : maxLen = 9223372036854775807 := rfl
  simp only [hm] at hw
  simp only [iAdd, iSub, iMul, iLen, iSize, bLt, bLe, bEq, bNe, bNot, bSame, bDiff, sSame, sDiff, InR, pLe, pIn, pRoom, eq_self, true_and, and_true, true_implies, implies_true, decide_eq_true_eq, decide_eq_false_iff_not, Bool.not_eq_true', Bool.not_eq_false']
  have hp := hp.1
  simp only [pLe, iSize] at hp
  have hlen := Sp.spl_len s
  have hpl := Sp.pcs_len s.data.toList
  have hss : s.data.toList.length = s.size := (Lib.size_eq s).symm
  refine ⟨⟨by omega, rfl⟩, fun _ _ => ⟨⟨0, Sp.psI_init s, rfl, rfl⟩, fun x hx _ hr => ⟨fun hlt => ⟨⟨hx.1, hlt⟩, fun _ => ⟨⟨by omega, by decide⟩, fun hI => ?_⟩⟩, fun hge => ?_⟩⟩⟩
  · have h0 := hx.1
    generalize hv : Sp.ixs _ ((rGet (Sp.spl s) x).headD default).str = v at hI ⊢
    have hv : Sp.ixs Sp.tbl (Sp.s0 (rGet (Sp.spl s) x)) = v := hv
    have hle : (Sp.psz s x).length ≤ 1001 := by
      simp only [Sp.psz, List.length_map, List.length_take]; omega
    have hb := Sp.cod_bd (Sp.s0 (rGet (Sp.spl s) x)).data.toList
    have hv2 := hv
    rw [Sp.ixs_tbl] at hv2
    refine ⟨fun hn => ?_, fun hn => ?_⟩
    · obtain ⟨e1, e2⟩ := Sp.ps_bad hx hlt (by rw [hv]; exact hn)
      rw [e1, e2]; exact ⟨rfl, rfl⟩
    · obtain ⟨e1, e2⟩ := Sp.ps_next hx hlt (by rw [hv]; exact hn)
      rw [hv] at e2
      exact ⟨by omega, by simp only [List.length_append, List.length_singleton]; omega, by omega, x + 1, e1, rfl, e2, by omega⟩
  · obtain ⟨l, e1, e2⟩ := Sp.ps_end hx hge
    obtain ⟨q1, q2⟩ := Sp.pr_of e1
    rw [e2]
    exact ⟨fun h => ⟨(q2 h).1.symm, (q2 h).2.symm⟩, fun h => ⟨(q1 h).1.symm, (q1 h).2.symm⟩⟩
theorem s8 : SoundCt Go.Proofs.Tryd.prog 8 ct8 :=
  contractH followsMixed (look_sound (show Tb Go.Proofs.Tryd.prog tb8 from ⟨s22, ⟨s23, ⟨s13, trivial⟩⟩⟩)) (fun _ => false) (fun a => A8 ((cel 0 (arg 0 a)).str)) 6 8 ct8 rfl (by simp [ct8]) fun a => Eq.mp (by kernel_rfl) (v8 ((cel 0 (arg 0 a)).str))
end Go.Sx

