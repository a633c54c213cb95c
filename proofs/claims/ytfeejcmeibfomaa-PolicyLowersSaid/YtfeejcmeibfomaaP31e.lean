/- Contracts and conditions, continued. -/
import Derived.Test.YtfeejcmeibfomaaSxUse
import Derived.Test.YtfeejcmeibfomaaP31d
import Derived.KernelRfl
set_option linter.unusedVariables false
set_option linter.unusedSimpArgs false
set_option maxRecDepth 100000
set_option maxHeartbeats 4000000

namespace Go
open Go.Sx
def Sp.kpA (c : List C) (x : List C) : Bool := !Sp.alk (Sp.s0 x) (Sp.l1 x) (Sp.s0 c) (Sp.l1 c)
def Sp.kc (x : List C) : List C := [.s (Sp.s0 x), .l (Sp.l1 x), .i (Sp.i2 x)]
def Sp.rmF (m : List (List C)) (c : List C) : List (List C) := (m.filter (Sp.kpA c)).map Sp.kc ++ [c]
def Sp.rmL (m : List (List C)) (c : List C) : List (List C) := bif Sp.memV m && Sp.cprx c then (Sp.rmF m c).drop ((Sp.rmF m c).length - 32) else []
def Sp.rmE (m : List (List C)) (c : List C) : Int := bif Sp.memV m then (bif Sp.cprx c then 0 else 2) else 1
def Sp.rmI (m : List (List C)) (c : List C) (i : Int) (out : List (List C)) : Prop := 0 ≤ i ∧ i ≤ (m.length : Int) ∧ out = ((m.take i.toNat).filter (Sp.kpA c)).map Sp.kc
end Go

namespace Go
open Go.Sx
theorem Sp.lkI_init {m : List (List C)} {role : ByteArray} {ss : List (List C)} : Sp.lkI m role ss 0 0 0 := ⟨by omega, by omega, by omega, by omega, by simp⟩
theorem Sp.dropAt {m : List (List C)} {z : Int} (h0 : 0 ≤ z) (hz : z < (m.length : Int)) : m.drop z.toNat = rGet m z :: m.drop (z + 1).toNat := by
  have e := List.drop_eq_getElem_cons (l := m) (i := z.toNat) (by omega)
  rw [e, show (z + 1).toNat = z.toNat + 1 by omega]
  have := Sp.rGet_at (xs := m) (i := z.toNat) (by omega)
  rw [show ((z.toNat : Nat) : Int) = z by omega] at this
  rw [this]
theorem Sp.lk_hit {m : List (List C)} {role : ByteArray} {ss : List (List C)} {z d n : Int} (h : Sp.lkI m role ss z d n) (hz : z < (m.length : Int))
    (h1 : ((Sp.s0 (rGet m z)).toList == role.toList) = true) (h2 : n ≤ ((Sp.l1 (rGet m z)).length : Int)) (h3 : Sp.prt (Sp.l1 (rGet m z)) ss = true) (h4 : ((Sp.l1 (rGet m z)).length : Int) ≤ 9223372036854775807) :
    Sp.lkI m role ss (z + 1) (Sp.i2 (rGet m z)) ((Sp.l1 (rGet m z)).length : Int) := by
  obtain ⟨a, b, c, d', e⟩ := h
  refine ⟨by omega, by omega, by omega, h4, ?_⟩
  rw [← e, Sp.dropAt a hz, Sp.lkG, h1, h3, decide_eq_true h2]; rfl
theorem Sp.lk_miss {m : List (List C)} {role : ByteArray} {ss : List (List C)} {z d n : Int} (h : Sp.lkI m role ss z d n) (hz : z < (m.length : Int))
    (h1 : (((Sp.s0 (rGet m z)).toList == role.toList) && (decide (n ≤ ((Sp.l1 (rGet m z)).length : Int)) && Sp.prt (Sp.l1 (rGet m z)) ss)) = false) :
    Sp.lkI m role ss (z + 1) d n := by
  obtain ⟨a, b, c, d', e⟩ := h
  refine ⟨by omega, by omega, c, d', ?_⟩
  rw [← e, Sp.dropAt a hz, Sp.lkG, h1]; rfl
theorem Sp.lk_end {m : List (List C)} {role : ByteArray} {ss : List (List C)} {z d n : Int} (h : Sp.lkI m role ss z d n) (hz : ¬ z < (m.length : Int)) (hv : Sp.memV m = true) (ha : Sp.asc ss = true) : d = Sp.lkp m role ss := by
  obtain ⟨a, b, c, d', e⟩ := h
  unfold Sp.lkp
  rw [hv, ha, ← e, List.drop_eq_nil_of_le (by omega)]; rfl
theorem Sp.lk_v {m : List (List C)} {role : ByteArray} {ss : List (List C)} (hv : Sp.memV m = false) : 0 = Sp.lkp m role ss := by
  unfold Sp.lkp; rw [hv]; rfl
theorem Sp.lk_a {m : List (List C)} {role : ByteArray} {ss : List (List C)} (hv : Sp.asc ss = false) : 0 = Sp.lkp m role ss := by
  unfold Sp.lkp; rw [hv, Bool.and_false]; rfl
theorem Sp.prt_bad {l ss : List (List C)} {z : Int} (h : Sp.fiI (Sp.mis ss) l z) (hz : z < (l.length : Int)) (hp : Sp.has ss (Sp.i0 (rGet l z)) = false) : Sp.prt l ss = false :=
  Sp.all_bad h.1 hz hp
theorem Sp.prt_end {l ss : List (List C)} {z : Int} (h : Sp.fiI (Sp.mis ss) l z) (hz : ¬ z < (l.length : Int)) : Sp.prt l ss = true :=
  Sp.all_end (z := z) ⟨h.1, h.2.1, fun j hj => by
    have := h.2.2 (j : Int) (by omega) hj
    unfold Sp.mis at this
    unfold Sp.pk
    simpa using this⟩ hz
theorem Sp.rGet_mem {m : List (List C)} {z : Int} (h0 : 0 ≤ z) (hz : z < (m.length : Int)) : rGet m z ∈ m := by
  have := Sp.rGet_at (xs := m) (i := z.toNat) (by omega)
  rw [show ((z.toNat : Nat) : Int) = z by omega] at this
  rw [this]; exact List.getElem_mem _
theorem Sp.takeAt {m : List (List C)} {z : Int} (h0 : 0 ≤ z) (hz : z < (m.length : Int)) : m.take (z + 1).toNat = m.take z.toNat ++ [rGet m z] := by
  have := Sp.rGet_at (xs := m) (i := z.toNat) (by omega)
  rw [show ((z.toNat : Nat) : Int) = z by omega] at this
  rw [this, show (z + 1).toNat = z.toNat + 1 by omega, List.take_succ_eq_append_getElem (by omega)]
theorem Sp.rmI_init {m : List (List C)} {c : List C} : Sp.rmI m c 0 [] := ⟨by omega, by omega, by simp⟩
theorem Sp.rmI_keep {m : List (List C)} {c : List C} {z : Int} {out : List (List C)} (h : Sp.rmI m c z out) (hz : z < (m.length : Int)) (hp : Sp.alk (Sp.s0 (rGet m z)) (Sp.l1 (rGet m z)) (Sp.s0 c) (Sp.l1 c) = false) :
    Sp.rmI m c (z + 1) (out ++ [Sp.kc (rGet m z)]) := by
  obtain ⟨a, b, e⟩ := h
  refine ⟨by omega, by omega, ?_⟩
  have hk : Sp.kpA c (rGet m z) = true := by unfold Sp.kpA; rw [hp]; rfl
  rw [Sp.takeAt a hz, List.filter_append, List.map_append, ← e, List.filter_cons, hk]; rfl
theorem Sp.rmI_drop {m : List (List C)} {c : List C} {z : Int} {out : List (List C)} (h : Sp.rmI m c z out) (hz : z < (m.length : Int)) (hp : Sp.alk (Sp.s0 (rGet m z)) (Sp.l1 (rGet m z)) (Sp.s0 c) (Sp.l1 c) = true) :
    Sp.rmI m c (z + 1) out := by
  obtain ⟨a, b, e⟩ := h
  refine ⟨by omega, by omega, ?_⟩
  have hk : Sp.kpA c (rGet m z) = false := by unfold Sp.kpA; rw [hp]; rfl
  rw [Sp.takeAt a hz, List.filter_append, List.map_append, ← e, List.filter_cons, hk]; simp
theorem Sp.rmI_len {m : List (List C)} {c : List C} {z : Int} {out : List (List C)} (h : Sp.rmI m c z out) : out.length ≤ m.length := by
  obtain ⟨a, b, e⟩ := h
  rw [e]
  rw [List.length_map]
  exact Nat.le_trans (List.length_filter_le _ _) (by rw [List.length_take]; omega)
theorem Sp.rmI_end {m : List (List C)} {c : List C} {z : Int} {out : List (List C)} (h : Sp.rmI m c z out) (hz : ¬ z < (m.length : Int)) : out ++ [c] = Sp.rmF m c := by
  obtain ⟨a, b, e⟩ := h
  rw [e, List.take_of_length_le (by omega)]; rfl
theorem Sp.memV_len {m : List (List C)} (h : Sp.memV m = true) : m.length ≤ 32 := by
  unfold Sp.memV at h; simp only [Bool.and_eq_true, decide_eq_true_eq] at h; exact h.1
theorem Sp.cpr_len {r : ByteArray} {st : List (List C)} {d : Int} (h : Sp.cpr r st d = true) : st.length ≤ 8 := by
  unfold Sp.cpr at h
  simp only [Bool.and_eq_true, decide_eq_true_eq] at h
  exact h.1.1.2.2
end Go

namespace Go.Sx
/-! ### function 46: choices.Lookup -/
def ct46 : Ct := { ps := [(true, [.sl [.str, .sl [.int .u64], .int .u64]]), (false, [.str]), (false, [.sl [.int .u64]])], rs := [(false, [.int .u64])], pre := fun _ => True, out := fun a => [[.i (Sp.lkp (cel 0 (arg 0 a)).list (cel 0 (arg 1 a)).str (cel 0 (arg 2 a)).list)]] }
def tb46 : List (Nat × Ct) := [(61, ct61), (62, ct62), (45, ct45)]
def A46 (m : List (List C)) (role : ByteArray) (ss : List (List C)) : FuncId → Nat → LoopAnn := fun ff ii => bif Nat.beq ff 46 then (bif Nat.beq ii 5 then .inv (Int × Int × Int) (fun z => Sp.lkI m role ss z.1 z.2.1 z.2.2) (fun z => [(23, .int .i64 z.1), (7, .int .u64 z.2.1), (8, .int .i64 z.2.2)]) (fun _ => []) [] [0, 1, 2, 3, 5, 6, 7, 8, 10, 11, 19, 21, 22, 23, 24, 45] (fun z => m.length - z.1.toNat) else .unroll 0) else bif Nat.beq ff 77 then .on (fun sv0 => match sv0.tmps.getD 0 .undef with | .sl _ ys => .inv Int (fun z => Sp.fiI (Sp.mis ss) ys z) (fun z => [(8, .int .i64 z)]) (fun _ => []) [] [0, 1, 4, 5, 7, 8, 9, 16] (fun z => ys.length - z.toNat) | _ => .unroll 0) else .unroll 0
abbrev B46 (m : List (List C)) (role : ByteArray) (ss : List (List C)) : Prop := vcF Go.Proofs.Try.prog (look tb46) (fun _ => false) (A46 m role ss) 6 46 [.agg [.sl [.str, .sl [.int .u64], .int .u64] m], .str role, .sl [.int .u64] ss] [] (fun sv heap => Gives [(false, [.int .u64])] [[.i (Sp.lkp m role ss)]] sv heap)
def h46_0 : List (List C) → ByteArray → List (List C) → List SV := fun (m : List (List C)) (role : ByteArray) (ss : List (List C)) => [SV.agg [SV.sl [Sh.str, Sh.sl [Sh.int .u64], Sh.int .u64] m], SV.str role, SV.sl [.int .u64] ss, SV.ref 0 0, SV.ref 1 0, SV.lit .u64 0, SV.blit false, SV.sl [Sh.str, Sh.sl [Sh.int .u64], Sh.int .u64] m, SV.int .i64 (iLen m)]
def h46_1 : List (List C) → List (List C) → Int × Int × Int → List HB := fun (m ss : List (List C)) (x : Int × Int × Int) => [HB.box [SV.sl [Sh.str, Sh.sl [Sh.int .u64], Sh.int .u64] m] 26, HB.box [SV.sl [.int .u64] ss] 65, HB.box [SV.str ((rGet m x.1).headD default).str, SV.sl [.int .u64] ((rGet m x.1).tail.headD default).list, SV.int .u64 ((rGet m x.1).tail.tail.headD default).int] 67]
theorem e46 (m : List (List C)) (role : ByteArray) (ss : List (List C)) : B46 m role ss = (True ∧ (True → True ∧ (bNot (Sp.memV m) = false → True ∧ (True → True ∧ (bNot (Sp.asc ss) = true → (0 = Sp.lkp m role ss ∧ True) ∧ True) ∧ (bNot (Sp.asc ss) = false → pLe (iLen m) 9223372036854775807 → (∃ (x : Int × Int × Int), Sp.lkI m role ss x.1 x.snd.1 x.snd.2 ∧ true = true ∧ ((IntKind.i64 = IntKind.i64 ∧ 0 = x.1) ∧ (IntKind.u64 = IntKind.u64 ∧ 0 = x.snd.1) ∧ (IntKind.i64 = IntKind.i64 ∧ 0 = x.snd.2) ∧ True) ∧ True) ∧ (∀ (x : Int × Int × Int), true = true ∧ true = true) ∧ ∀ (x : Int × Int × Int), Sp.lkI m role ss x.1 x.snd.1 x.snd.2 → InR .i64 x.1 ∧ InR .u64 x.snd.1 ∧ InR .i64 x.snd.2 ∧ True → True → (bLt x.1 (iLen m) = true → pIn 0 (iLen m) x.1 ∧ ((List.brecOn.go ((rGet m x.fst).headD default).str.1.toList List.length._f).1.le 9223372036854775807 ∧ (((rGet m x.1).tail.headD default).list.length ≤ 9223372036854775807 ∧ ∀ (x_1 : List C), x_1 ∈ ((rGet m x.1).tail.headD default).list → WfCs [.int .u64] x_1) ∧ InR .u64 (q2 (rGet m x.1)) ∧ True → (sSame ((rGet m x.1).headD default).str role = true → pLe (iLen ((rGet m x.1).tail.headD default).list) 9223372036854775807 → (bLe x.snd.2 (iLen ((rGet m x.1).tail.headD default).list) = true → pLe (iLen ((rGet m x.1).tail.headD default).list) 9223372036854775807 → (∃ (x_1 : Int), Sp.fiI (Sp.mis ss) ((rGet m x.1).tail.headD default).list x_1 ∧ true = true ∧ ((IntKind.i64 = IntKind.i64 ∧ 0 = x_1) ∧ True) ∧ True) ∧ (∀ (x : Int), true = true ∧ true = true) ∧ ∀ (x_1 : Int), Sp.fiI (Sp.mis ss) ((rGet m x.1).tail.headD default).list x_1 → InR .i64 x_1 ∧ True → True → (bLt x_1 (iLen ((rGet m x.1).tail.headD default).list) = true → pIn 0 (iLen ((rGet m x.1).tail.headD default).list) x_1 ∧ (InR .u64 (q0 (rGet ((rGet m x.1).tail.headD default).list x_1)) → True ∧ (True → True ∧ (bNot (Sp.has ss (q0 (rGet ((rGet m x.1).tail.headD default).list x_1))) = true → True ∧ (bNot (bLe 0 x_1) = true → pLe (iLen ((rGet m x.1).tail.headD default).list) 9223372036854775807 → InR .i64 (iAdd x.1 1) ∧ (true = true ∧ h46_0 m role ss = h46_0 m role ss) ∧ (fun z => z = z) [HB.box [SV.sl [Sh.str, Sh.sl [Sh.int .u64], Sh.int .u64] m] 26, HB.box [SV.sl [.int .u64] ss] 65] ∧ ∃ (y : Int × Int × Int), Sp.lkI m role ss y.1 y.snd.1 y.snd.2 ∧ true = true ∧ ((IntKind.i64 = IntKind.i64 ∧ iAdd x.1 1 = y.1) ∧ (IntKind.u64 = IntKind.u64 ∧ (q2 (rGet m x.1)) = y.snd.1) ∧ (IntKind.i64 = IntKind.i64 ∧ iLen ((rGet m x.1).tail.headD default).list = y.snd.2) ∧ True) ∧ True ∧ m.length - y.1.toNat < m.length - x.1.toNat) ∧ (bNot (bLe 0 x_1) = false → InR .i64 (iAdd x.1 1) ∧ (true = true ∧ h46_0 m role ss = h46_0 m role ss) ∧ (fun z => z = z) [HB.box [SV.sl [Sh.str, Sh.sl [Sh.int .u64], Sh.int .u64] m] 26, HB.box [SV.sl [.int .u64] ss] 65] ∧ ∃ (y : Int × Int × Int), Sp.lkI m role ss y.1 y.snd.1 y.snd.2 ∧ true = true ∧ ((IntKind.i64 = IntKind.i64 ∧ iAdd x.1 1 = y.1) ∧ (IntKind.u64 = IntKind.u64 ∧ x.snd.1 = y.snd.1) ∧ (IntKind.i64 = IntKind.i64 ∧ x.snd.2 = y.snd.2) ∧ True) ∧ True ∧ m.length - y.1.toNat < m.length - x.1.toNat)) ∧ (bNot (Sp.has ss (q0 (rGet ((rGet m x.1).tail.headD default).list x_1))) = false → InR .i64 (iAdd x_1 1) ∧ (true = true ∧ (fun z => z = z) [SV.sl [.int .u64] ((rGet m x.1).tail.headD default).list, SV.fn 63 [SV.ref 1 0], SV.int .i64 (iLen ((rGet m x.1).tail.headD default).list)]) ∧ h46_1 m ss x = h46_1 m ss x ∧ ∃ (y : Int), Sp.fiI (Sp.mis ss) ((rGet m x.1).tail.headD default).list y ∧ true = true ∧ ((IntKind.i64 = IntKind.i64 ∧ iAdd x_1 1 = y) ∧ True) ∧ True ∧ ((rGet m x.1).tail.headD default).list.length - y.toNat < ((rGet m x.1).tail.headD default).list.length - x_1.toNat)))) ∧ (bLt x_1 (iLen ((rGet m x.1).tail.headD default).list) = false → True ∧ (pLe (iLen ((rGet m x.1).tail.headD default).list) 9223372036854775807 → InR .i64 (iAdd x.1 1) ∧ (true = true ∧ h46_0 m role ss = h46_0 m role ss) ∧ (fun z => z = z) [HB.box [SV.sl [Sh.str, Sh.sl [Sh.int .u64], Sh.int .u64] m] 26, HB.box [SV.sl [.int .u64] ss] 65] ∧ ∃ (y : Int × Int × Int), Sp.lkI m role ss y.1 y.snd.1 y.snd.2 ∧ true = true ∧ ((IntKind.i64 = IntKind.i64 ∧ iAdd x.1 1 = y.1) ∧ (IntKind.u64 = IntKind.u64 ∧ (q2 (rGet m x.1)) = y.snd.1) ∧ (IntKind.i64 = IntKind.i64 ∧ iLen ((rGet m x.1).tail.headD default).list = y.snd.2) ∧ True) ∧ True ∧ m.length - y.1.toNat < m.length - x.1.toNat))) ∧ (bLe x.snd.2 (iLen ((rGet m x.1).tail.headD default).list) = false → InR .i64 (iAdd x.1 1) ∧ (true = true ∧ h46_0 m role ss = h46_0 m role ss) ∧ (fun z => z = z) [HB.box [SV.sl [Sh.str, Sh.sl [Sh.int .u64], Sh.int .u64] m] 26, HB.box [SV.sl [.int .u64] ss] 65] ∧ ∃ (y : Int × Int × Int), Sp.lkI m role ss y.1 y.snd.1 y.snd.2 ∧ true = true ∧ ((IntKind.i64 = IntKind.i64 ∧ iAdd x.1 1 = y.1) ∧ (IntKind.u64 = IntKind.u64 ∧ x.snd.1 = y.snd.1) ∧ (IntKind.i64 = IntKind.i64 ∧ x.snd.2 = y.snd.2) ∧ True) ∧ True ∧ m.length - y.1.toNat < m.length - x.1.toNat)) ∧ (sSame ((rGet m x.1).headD default).str role = false → InR .i64 (iAdd x.1 1) ∧ (true = true ∧ h46_0 m role ss = h46_0 m role ss) ∧ (fun z => z = z) [HB.box [SV.sl [Sh.str, Sh.sl [Sh.int .u64], Sh.int .u64] m] 26, HB.box [SV.sl [.int .u64] ss] 65] ∧ ∃ (y : Int × Int × Int), Sp.lkI m role ss y.1 y.snd.1 y.snd.2 ∧ true = true ∧ ((IntKind.i64 = IntKind.i64 ∧ iAdd x.1 1 = y.1) ∧ (IntKind.u64 = IntKind.u64 ∧ x.snd.1 = y.snd.1) ∧ (IntKind.i64 = IntKind.i64 ∧ x.snd.2 = y.snd.2) ∧ True) ∧ True ∧ m.length - y.1.toNat < m.length - x.1.toNat))) ∧ (bLt x.1 (iLen m) = false → (x.snd.1 = Sp.lkp m role ss ∧ True) ∧ True)))) ∧ (bNot (Sp.memV m) = true → (0 = Sp.lkp m role ss ∧ True) ∧ True))) := by kernel_rfl
theorem v46 (m : List (List C)) (role : ByteArray) (ss : List (List C)) : Holds (Wfs [.agg [.sl [.str, .sl [.int .u64], .int .u64] m], .str role, .sl [.int .u64] ss] → True → B46 m role ss) := by
  refine ⟨fun hw hp => ?_⟩
  rw [e46]
  unfold q0 q2
  simp only [Wfs, Wf, InR, and_true] at hw
  have hm : maxLen = 9223372036854775807 := rfl
  simp only [hm] at hw
  simp only [iAdd, iSub, iMul, iLen, iSize, bLt, bLe, bEq, bNe, bNot, bSame, bDiff, sSame, sDiff, bIf, bAnd, InR, pLe, pIn, pRoom, eq_self, true_and, and_true, true_implies, implies_true, decide_eq_true_eq, decide_eq_false_iff_not, Bool.not_eq_true', Bool.not_eq_false', Bool.true_eq_false, Bool.false_eq_true, false_implies]
  refine ⟨fun hv => ⟨fun ha => Sp.lk_a ha, fun ha _ => ⟨⟨(0, 0, 0), Sp.lkI_init, rfl, rfl, rfl⟩, ?_⟩⟩, fun hv => Sp.lk_v hv⟩
  rintro ⟨z, d, n⟩ hx _
  simp only at hx ⊢
  have h0 := hx.1
  refine ⟨fun hlt => ⟨⟨h0, hlt⟩, fun hW => ?_⟩, fun hge => Sp.lk_end hx hge hv ha⟩
  have miss : (((Sp.s0 (rGet m z)).toList == role.toList) && (decide (n ≤ ((Sp.l1 (rGet m z)).length : Int)) && Sp.prt (Sp.l1 (rGet m z)) ss)) = false → (-9223372036854775808 ≤ z + 1 ∧ z + 1 ≤ 9223372036854775807) ∧ ∃ y : Int × Int × Int, Sp.lkI m role ss y.fst y.snd.fst y.snd.snd ∧ (z + 1 = y.fst ∧ d = y.snd.fst ∧ n = y.snd.snd) ∧ m.length - y.fst.toNat < m.length - z.toNat := fun h =>
    ⟨by omega, (z + 1, d, n), Sp.lk_miss hx hlt h, ⟨rfl, rfl, rfl⟩, by simp only; omega⟩
  have hit : ((Sp.s0 (rGet m z)).toList == role.toList) = true → n ≤ ((Sp.l1 (rGet m z)).length : Int) → Sp.prt (Sp.l1 (rGet m z)) ss = true → (-9223372036854775808 ≤ z + 1 ∧ z + 1 ≤ 9223372036854775807) ∧ ∃ y : Int × Int × Int, Sp.lkI m role ss y.fst y.snd.fst y.snd.snd ∧ (z + 1 = y.fst ∧ ((rGet m z).tail.tail.headD default).int = y.snd.fst ∧ (((rGet m z).tail.headD default).list.length : Int) = y.snd.snd) ∧ m.length - y.fst.toNat < m.length - z.toNat := fun h1 h2 h3 =>
    ⟨by omega, (z + 1, _, _), Sp.lk_hit hx hlt h1 h2 h3 (Int.ofNat_le.2 hW.2.1.1), ⟨rfl, rfl, rfl⟩, by simp only; omega⟩
  have m1 : ((Sp.s0 (rGet m z)).toList == role.toList) = false → (((Sp.s0 (rGet m z)).toList == role.toList) && (decide (n ≤ ((Sp.l1 (rGet m z)).length : Int)) && Sp.prt (Sp.l1 (rGet m z)) ss)) = false := fun h => by rw [h]; rfl
  have m2 : ¬ n ≤ ((Sp.l1 (rGet m z)).length : Int) → (((Sp.s0 (rGet m z)).toList == role.toList) && (decide (n ≤ ((Sp.l1 (rGet m z)).length : Int)) && Sp.prt (Sp.l1 (rGet m z)) ss)) = false := fun h => by rw [decide_eq_false h]; simp
  have m3 : Sp.prt (Sp.l1 (rGet m z)) ss = false → (((Sp.s0 (rGet m z)).toList == role.toList) && (decide (n ≤ ((Sp.l1 (rGet m z)).length : Int)) && Sp.prt (Sp.l1 (rGet m z)) ss)) = false := fun h => by rw [h]; simp
  refine ⟨fun h1 _ => ⟨fun h2 _ => ⟨⟨0, Sp.fiI_init _ _, rfl⟩, fun w hw _ => ⟨fun hl => ⟨⟨hw.1, hl⟩, fun _ => ⟨fun hp => ⟨fun hn => absurd hw.1 hn, fun _ => miss (m3 (Sp.prt_bad hw hl hp))⟩, fun hp => ⟨by have := hw.1; omega, w + 1, Sp.fiI_next hw hl (by unfold Sp.mis Sp.i0; rw [hp]; rfl), rfl, by have := hw.1; omega⟩⟩⟩, fun hl _ => hit h1 h2 (Sp.prt_end hw hl)⟩⟩, fun h2 => miss (m2 h2)⟩, fun h1 => miss (m1 h1)⟩
theorem s46 : SoundCt Go.Proofs.Try.prog 46 ct46 :=
  contractH followsMixed (look_sound (show Tb Go.Proofs.Try.prog tb46 from ⟨s61, ⟨s62, ⟨s45, trivial⟩⟩⟩)) (fun _ => false) (fun a => A46 ((cel 0 (arg 0 a)).list) ((cel 0 (arg 1 a)).str) ((cel 0 (arg 2 a)).list)) 6 46 ct46 rfl (by simp [ct46]) fun a => Eq.mp (by kernel_rfl) (v46 ((cel 0 (arg 0 a)).list) ((cel 0 (arg 1 a)).str) ((cel 0 (arg 2 a)).list))
end Go.Sx

namespace Go.Sx
/-! ### function 50: ref30.Lookup -/
def ct50 : Ct := { ps := [(true, [.sl [.str, .sl [.int .u64], .int .u64]]), (false, [.str]), (false, [.sl [.int .u64]])], rs := [(false, [.int .u64])], pre := fun _ => True, out := fun a => [[.i (Sp.lkp (cel 0 (arg 0 a)).list (cel 0 (arg 1 a)).str (cel 0 (arg 2 a)).list)]] }
def tb50 : List (Nat × Ct) := [(40, ct40), (55, ct55), (56, ct56)]
def A50 (m : List (List C)) (role : ByteArray) (ss : List (List C)) : FuncId → Nat → LoopAnn := fun ff ii => bif Nat.beq ii 5 then .inv (Int × Int × Int) (fun z => Sp.lkI m role ss z.1 z.2.1 z.2.2) (fun z => [(9, .int .i64 z.1), (7, .int .u64 z.2.1), (8, .int .i64 z.2.2)]) (fun _ => []) [] [0, 1, 2, 3, 6, 7, 8, 9, 10, 18, 23, 47] (fun z => m.length - z.1.toNat) else .unroll 0
abbrev B50 (m : List (List C)) (role : ByteArray) (ss : List (List C)) : Prop := vcF Go.Proofs.Try.prog (look tb50) (fun _ => false) (A50 m role ss) 6 50 [.agg [.sl [.str, .sl [.int .u64], .int .u64] m], .str role, .sl [.int .u64] ss] [] (fun sv heap => Gives [(false, [.int .u64])] [[.i (Sp.lkp m role ss)]] sv heap)
theorem e50 (m : List (List C)) (role : ByteArray) (ss : List (List C)) : B50 m role ss = (True ∧ (True → True ∧ (bNot (Sp.memV m) = false → True ∧ (True → True ∧ (bNot (Sp.asc ss) = true → (0 = Sp.lkp m role ss ∧ True) ∧ True) ∧ (bNot (Sp.asc ss) = false → (∃ (x : Int × Int × Int), Sp.lkI m role ss x.1 x.snd.1 x.snd.2 ∧ true = true ∧ ((IntKind.i64 = IntKind.i64 ∧ 0 = x.1) ∧ (IntKind.u64 = IntKind.u64 ∧ 0 = x.snd.1) ∧ (IntKind.i64 = IntKind.i64 ∧ 0 = x.snd.2) ∧ True) ∧ True) ∧ (∀ (x : Int × Int × Int), true = true ∧ true = true) ∧ ∀ (x : Int × Int × Int), Sp.lkI m role ss x.1 x.snd.1 x.snd.2 → InR .i64 x.1 ∧ InR .u64 x.snd.1 ∧ InR .i64 x.snd.2 ∧ True → True → pLe (iLen m) 9223372036854775807 → (bLt x.1 (iLen m) = true → pIn 0 (iLen m) x.1 ∧ ((List.brecOn.go ((rGet m x.fst).headD default).str.1.toList List.length._f).1.le 9223372036854775807 ∧ (((rGet m x.1).tail.headD default).list.length ≤ 9223372036854775807 ∧ ∀ (x_1 : List C), x_1 ∈ ((rGet m x.1).tail.headD default).list → WfCs [.int .u64] x_1) ∧ InR .u64 (q2 (rGet m x.1)) ∧ True → (sSame ((rGet m x.1).headD default).str role = true → True ∧ (True → (Sp.prt ((rGet m x.1).tail.headD default).list ss = true → pLe (iLen ((rGet m x.1).tail.headD default).list) 9223372036854775807 → (bLe x.snd.2 (iLen ((rGet m x.1).tail.headD default).list) = true → pLe (iLen ((rGet m x.1).tail.headD default).list) 9223372036854775807 → InR .i64 (iAdd x.1 1) ∧ (true = true ∧ (fun z => z = z) [SV.agg [SV.sl [Sh.str, Sh.sl [Sh.int .u64], Sh.int .u64] m], SV.str role, SV.sl [.int .u64] ss, SV.ref 0 0, SV.lit .u64 0, SV.blit false]) ∧ (fun z => z = z) [HB.box [SV.sl [Sh.str, Sh.sl [Sh.int .u64], Sh.int .u64] m] 26] ∧ ∃ (y : Int × Int × Int), Sp.lkI m role ss y.1 y.snd.1 y.snd.2 ∧ true = true ∧ ((IntKind.i64 = IntKind.i64 ∧ iAdd x.1 1 = y.1) ∧ (IntKind.u64 = IntKind.u64 ∧ (q2 (rGet m x.1)) = y.snd.1) ∧ (IntKind.i64 = IntKind.i64 ∧ iLen ((rGet m x.1).tail.headD default).list = y.snd.2) ∧ True) ∧ True ∧ m.length - y.1.toNat < m.length - x.1.toNat) ∧ (bLe x.snd.2 (iLen ((rGet m x.1).tail.headD default).list) = false → InR .i64 (iAdd x.1 1) ∧ (true = true ∧ (fun z => z = z) [SV.agg [SV.sl [Sh.str, Sh.sl [Sh.int .u64], Sh.int .u64] m], SV.str role, SV.sl [.int .u64] ss, SV.ref 0 0, SV.lit .u64 0, SV.blit false]) ∧ (fun z => z = z) [HB.box [SV.sl [Sh.str, Sh.sl [Sh.int .u64], Sh.int .u64] m] 26] ∧ ∃ (y : Int × Int × Int), Sp.lkI m role ss y.1 y.snd.1 y.snd.2 ∧ true = true ∧ ((IntKind.i64 = IntKind.i64 ∧ iAdd x.1 1 = y.1) ∧ (IntKind.u64 = IntKind.u64 ∧ x.snd.1 = y.snd.1) ∧ (IntKind.i64 = IntKind.i64 ∧ x.snd.2 = y.snd.2) ∧ True) ∧ True ∧ m.length - y.1.toNat < m.length - x.1.toNat)) ∧ (Sp.prt ((rGet m x.1).tail.headD default).list ss = false → InR .i64 (iAdd x.1 1) ∧ (true = true ∧ (fun z => z = z) [SV.agg [SV.sl [Sh.str, Sh.sl [Sh.int .u64], Sh.int .u64] m], SV.str role, SV.sl [.int .u64] ss, SV.ref 0 0, SV.lit .u64 0, SV.blit false]) ∧ (fun z => z = z) [HB.box [SV.sl [Sh.str, Sh.sl [Sh.int .u64], Sh.int .u64] m] 26] ∧ ∃ (y : Int × Int × Int), Sp.lkI m role ss y.1 y.snd.1 y.snd.2 ∧ true = true ∧ ((IntKind.i64 = IntKind.i64 ∧ iAdd x.1 1 = y.1) ∧ (IntKind.u64 = IntKind.u64 ∧ x.snd.1 = y.snd.1) ∧ (IntKind.i64 = IntKind.i64 ∧ x.snd.2 = y.snd.2) ∧ True) ∧ True ∧ m.length - y.1.toNat < m.length - x.1.toNat))) ∧ (sSame ((rGet m x.1).headD default).str role = false → InR .i64 (iAdd x.1 1) ∧ (true = true ∧ (fun z => z = z) [SV.agg [SV.sl [Sh.str, Sh.sl [Sh.int .u64], Sh.int .u64] m], SV.str role, SV.sl [.int .u64] ss, SV.ref 0 0, SV.lit .u64 0, SV.blit false]) ∧ (fun z => z = z) [HB.box [SV.sl [Sh.str, Sh.sl [Sh.int .u64], Sh.int .u64] m] 26] ∧ ∃ (y : Int × Int × Int), Sp.lkI m role ss y.1 y.snd.1 y.snd.2 ∧ true = true ∧ ((IntKind.i64 = IntKind.i64 ∧ iAdd x.1 1 = y.1) ∧ (IntKind.u64 = IntKind.u64 ∧ x.snd.1 = y.snd.1) ∧ (IntKind.i64 = IntKind.i64 ∧ x.snd.2 = y.snd.2) ∧ True) ∧ True ∧ m.length - y.1.toNat < m.length - x.1.toNat))) ∧ (bLt x.1 (iLen m) = false → (x.snd.1 = Sp.lkp m role ss ∧ True) ∧ True)))) ∧ (bNot (Sp.memV m) = true → (0 = Sp.lkp m role ss ∧ True) ∧ True))) := by kernel_rfl
theorem v50 (m : List (List C)) (role : ByteArray) (ss : List (List C)) : Holds (Wfs [.agg [.sl [.str, .sl [.int .u64], .int .u64] m], .str role, .sl [.int .u64] ss] → True → B50 m role ss) := by
  refine ⟨fun hw hp => ?_⟩
  rw [e50]
  unfold q2
  simp only [Wfs, Wf, InR, and_true] at hw
  have hm : maxLen = 9223372036854775807 := rfl
  simp only [hm] at hw
  simp only [iAdd, iSub, iMul, iLen, iSize, bLt, bLe, bEq, bNe, bNot, bSame, bDiff, sSame, sDiff, bIf, bAnd, InR, pLe, pIn, pRoom, eq_self, true_and, and_true, true_implies, implies_true, decide_eq_true_eq, decide_eq_false_iff_not, Bool.not_eq_true', Bool.not_eq_false', Bool.true_eq_false, Bool.false_eq_true, false_implies]
  refine ⟨fun hv => ⟨fun ha => Sp.lk_a ha, fun ha => ⟨⟨(0, 0, 0), Sp.lkI_init, rfl, rfl, rfl⟩, ?_⟩⟩, fun hv => Sp.lk_v hv⟩
  rintro ⟨z, d, n⟩ hx _ _
  simp only at hx ⊢
  have h0 := hx.1
  refine ⟨fun hlt => ⟨⟨h0, hlt⟩, fun hW => ?_⟩, fun hge => Sp.lk_end hx hge hv ha⟩
  have miss : (((Sp.s0 (rGet m z)).toList == role.toList) && (decide (n ≤ ((Sp.l1 (rGet m z)).length : Int)) && Sp.prt (Sp.l1 (rGet m z)) ss)) = false → (-9223372036854775808 ≤ z + 1 ∧ z + 1 ≤ 9223372036854775807) ∧ ∃ y : Int × Int × Int, Sp.lkI m role ss y.fst y.snd.fst y.snd.snd ∧ (z + 1 = y.fst ∧ d = y.snd.fst ∧ n = y.snd.snd) ∧ m.length - y.fst.toNat < m.length - z.toNat := fun h =>
    ⟨by omega, (z + 1, d, n), Sp.lk_miss hx hlt h, ⟨rfl, rfl, rfl⟩, by simp only; omega⟩
  have hit : ((Sp.s0 (rGet m z)).toList == role.toList) = true → n ≤ ((Sp.l1 (rGet m z)).length : Int) → Sp.prt (Sp.l1 (rGet m z)) ss = true → (-9223372036854775808 ≤ z + 1 ∧ z + 1 ≤ 9223372036854775807) ∧ ∃ y : Int × Int × Int, Sp.lkI m role ss y.fst y.snd.fst y.snd.snd ∧ (z + 1 = y.fst ∧ ((rGet m z).tail.tail.headD default).int = y.snd.fst ∧ (((rGet m z).tail.headD default).list.length : Int) = y.snd.snd) ∧ m.length - y.fst.toNat < m.length - z.toNat := fun h1 h2 h3 =>
    ⟨by omega, (z + 1, _, _), Sp.lk_hit hx hlt h1 h2 h3 (Int.ofNat_le.2 hW.2.1.1), ⟨rfl, rfl, rfl⟩, by simp only; omega⟩
  have m1 : ((Sp.s0 (rGet m z)).toList == role.toList) = false → (((Sp.s0 (rGet m z)).toList == role.toList) && (decide (n ≤ ((Sp.l1 (rGet m z)).length : Int)) && Sp.prt (Sp.l1 (rGet m z)) ss)) = false := fun h => by rw [h]; rfl
  have m2 : ¬ n ≤ ((Sp.l1 (rGet m z)).length : Int) → (((Sp.s0 (rGet m z)).toList == role.toList) && (decide (n ≤ ((Sp.l1 (rGet m z)).length : Int)) && Sp.prt (Sp.l1 (rGet m z)) ss)) = false := fun h => by rw [decide_eq_false h]; simp
  have m3 : Sp.prt (Sp.l1 (rGet m z)) ss = false → (((Sp.s0 (rGet m z)).toList == role.toList) && (decide (n ≤ ((Sp.l1 (rGet m z)).length : Int)) && Sp.prt (Sp.l1 (rGet m z)) ss)) = false := fun h => by rw [h]; simp
  exact ⟨fun h1 => ⟨fun h3 _ => ⟨fun h2 _ => hit h1 h2 h3, fun h2 => miss (m2 h2)⟩, fun h3 => miss (m3 h3)⟩, fun h1 => miss (m1 h1)⟩
theorem s50 : SoundCt Go.Proofs.Try.prog 50 ct50 :=
  contractH followsMixed (look_sound (show Tb Go.Proofs.Try.prog tb50 from ⟨s40, ⟨s55, ⟨s56, trivial⟩⟩⟩)) (fun _ => false) (fun a => A50 ((cel 0 (arg 0 a)).list) ((cel 0 (arg 1 a)).str) ((cel 0 (arg 2 a)).list)) 6 50 ct50 rfl (by simp [ct50]) fun a => Eq.mp (by kernel_rfl) (v50 ((cel 0 (arg 0 a)).list) ((cel 0 (arg 1 a)).str) ((cel 0 (arg 2 a)).list))
end Go.Sx

namespace Go.Sx
/-! ### function 24: ref30.Remember -/
def ct24 : Ct := { ps := [(true, [.sl [.str, .sl [.int .u64], .int .u64]]), (true, [.str, .sl [.int .u64], .int .u64])], rs := [(true, [.sl [.str, .sl [.int .u64], .int .u64]]), (false, [.int .i64])], pre := fun _ => True, out := fun a => [[.l (Sp.rmL (cel 0 (arg 0 a)).list [.s (cel 0 (arg 1 a)).str, .l (cel 1 (arg 1 a)).list, .i (cel 2 (arg 1 a)).int])], [.i (Sp.rmE (cel 0 (arg 0 a)).list [.s (cel 0 (arg 1 a)).str, .l (cel 1 (arg 1 a)).list, .i (cel 2 (arg 1 a)).int])]] }
def tb24 : List (Nat × Ct) := [(40, ct40), (41, ct41), (42, ct42)]
def A24 (m : List (List C)) (r : ByteArray) (st : List (List C)) (dv : Int) : FuncId → Nat → LoopAnn := fun ff ii => bif Nat.beq ii 7 then .ghost 6 [.str, .sl [.int .u64], .int .u64] 67 (.on (fun sv0 => match sv0.tmps.getD 6 .undef with | .own rr _ => .inv (Int × List (List C)) (fun z => Sp.rmI m [.s r, .l st, .i dv] z.1 z.2) (fun z => [(6, .own rr 0), (7, .int .i64 z.1)]) (fun z => [(rr, .row [.str, .sl [.int .u64], .int .u64] 67 0 (z.2))]) [rr] [0, 1, 2, 3, 4, 5, 6, 7, 10, 14, 20, 30] (fun z => m.length - z.1.toNat) | _ => .unroll 0)) else .unroll 0
abbrev B24 (m : List (List C)) (r : ByteArray) (st : List (List C)) (dv : Int) : Prop := vcF Go.Proofs.Try.prog (look tb24) (fun _ => false) (A24 m r st dv) 6 24 [.agg [.sl [.str, .sl [.int .u64], .int .u64] m], .agg [.str r, .sl [.int .u64] st, .int .u64 dv]] [] (fun sv heap => Gives [(true, [.sl [.str, .sl [.int .u64], .int .u64]]), (false, [.int .i64])] [[.l (Sp.rmL m [.s r, .l st, .i dv])], [.i (Sp.rmE m [.s r, .l st, .i dv])]] sv heap)
def h24_0 : List (List C) → ByteArray → List (List C) → Int → List SV := fun (m : List (List C)) (r : ByteArray) (st : List (List C)) (dv : Int) => [SV.agg [SV.sl [Sh.str, Sh.sl [Sh.int .u64], Sh.int .u64] m], SV.agg [SV.str r, SV.sl [.int .u64] st, SV.int .u64 dv], SV.ref 0 0, SV.ref 1 0, SV.ref 2 0, SV.lit .i64 0, SV.blit false, SV.blit false]
def h24_1 : List (List C) → ByteArray → List (List C) → Int → List HB := fun (m : List (List C)) (r : ByteArray) (st : List (List C)) (dv : Int) => [HB.box [SV.sl [Sh.str, Sh.sl [Sh.int .u64], Sh.int .u64] m] 26, HB.box [SV.str r, SV.sl [.int .u64] st, SV.int .u64 dv] 67, HB.box [SV.nils] 26, HB.gone]
theorem e24 (m : List (List C)) (r : ByteArray) (st : List (List C)) (dv : Int) : B24 m r st dv = (True ∧ (True → True ∧ (bNot (Sp.memV m) = true → ([] = Sp.rmL m [C.s r, C.l st, C.i dv] ∧ True) ∧ (1 = Sp.rmE m [C.s r, C.l st, C.i dv] ∧ True) ∧ True) ∧ (bNot (Sp.memV m) = false → True ∧ (True → True ∧ (bNot (Sp.cpr r st dv) = true → ([] = Sp.rmL m [C.s r, C.l st, C.i dv] ∧ True) ∧ (2 = Sp.rmE m [C.s r, C.l st, C.i dv] ∧ True) ∧ True) ∧ (bNot (Sp.cpr r st dv) = false → (∃ (x : Int × List (List C)), Sp.rmI m [C.s r, C.l st, C.i dv] x.1 x.2 ∧ true = true ∧ ((3 = 3 ∧ 0 + 1 = 0 + 1) ∧ (IntKind.i64 = IntKind.i64 ∧ 0 = x.1) ∧ True) ∧ ([Sh.str, Sh.sl [Sh.int .u64], Sh.int .u64] = [Sh.str, Sh.sl [Sh.int .u64], Sh.int .u64] ∧ 67 = 67 ∧ 0 + 1 = 0 + 1 ∧ [] = x.2) ∧ True) ∧ (∀ (x : Int × List (List C)), true = true ∧ true = true) ∧ ∀ (x : Int × List (List C)), Sp.rmI m [C.s r, C.l st, C.i dv] x.1 x.2 → True ∧ InR .i64 x.1 ∧ True → ((WL [Sh.str, Sh.sl [Sh.int .u64], Sh.int .u64] x.2)) ∧ True → pLe (iLen m) 9223372036854775807 → (bLt x.1 (iLen m) = true → pIn 0 (iLen m) x.1 ∧ ((List.brecOn.go ((rGet m x.fst).headD default).str.1.toList List.length._f).1.le 9223372036854775807 ∧ (((rGet m x.1).tail.headD default).list.length ≤ 9223372036854775807 ∧ ∀ (x_1 : List C), x_1 ∈ ((rGet m x.1).tail.headD default).list → WfCs [.int .u64] x_1) ∧ InR .u64 (q2 (rGet m x.1)) ∧ True → True ∧ (True → True ∧ (bNot (Sp.alk ((rGet m x.1).headD default).str ((rGet m x.1).tail.headD default).list r st) = true → pIn 0 (iLen m) x.1 ∧ ((List.brecOn.go ((rGet m x.fst).headD default).str.1.toList List.length._f).1.le 9223372036854775807 ∧ (((rGet m x.1).tail.headD default).list.length ≤ 9223372036854775807 ∧ ∀ (x_1 : List C), x_1 ∈ ((rGet m x.1).tail.headD default).list → WfCs [.int .u64] x_1) ∧ InR .u64 (q2 (rGet m x.1)) ∧ True → pRoom 48 (iLen (x.2 ++ [[C.s ((rGet m x.1).headD default).str, C.l ((rGet m x.1).tail.headD default).list, C.i (q2 (rGet m x.1))]])) ∧ InR .i64 (iAdd x.1 1) ∧ (true = true ∧ h24_0 m r st dv = h24_0 m r st dv) ∧ h24_1 m r st dv = h24_1 m r st dv ∧ ∃ (y : Int × List (List C)), Sp.rmI m [C.s r, C.l st, C.i dv] y.1 y.2 ∧ true = true ∧ ((3 = 3 ∧ 0 + 1 = 0 + 1) ∧ (IntKind.i64 = IntKind.i64 ∧ iAdd x.1 1 = y.1) ∧ True) ∧ (([Sh.str] ++ ([Sh.sl [Sh.int .u64]] ++ ([Sh.int .u64] ++ [])) = [Sh.str, Sh.sl [Sh.int .u64], Sh.int .u64] ∧ 67 = 67 ∧ 0 + 1 = 0 + 1 ∧ x.2 ++ [[C.s ((rGet m x.1).headD default).str, C.l ((rGet m x.1).tail.headD default).list, C.i (q2 (rGet m x.1))]] = y.2) ∧ True) ∧ m.length - y.1.toNat < m.length - x.1.toNat)) ∧ (bNot (Sp.alk ((rGet m x.1).headD default).str ((rGet m x.1).tail.headD default).list r st) = false → InR .i64 (iAdd x.1 1) ∧ (true = true ∧ h24_0 m r st dv = h24_0 m r st dv) ∧ h24_1 m r st dv = h24_1 m r st dv ∧ ∃ (y : Int × List (List C)), Sp.rmI m [C.s r, C.l st, C.i dv] y.1 y.2 ∧ true = true ∧ ((3 = 3 ∧ 0 + 1 = 0 + 1) ∧ (IntKind.i64 = IntKind.i64 ∧ iAdd x.1 1 = y.1) ∧ True) ∧ (([Sh.str, Sh.sl [Sh.int .u64], Sh.int .u64] = [Sh.str, Sh.sl [Sh.int .u64], Sh.int .u64] ∧ 67 = 67 ∧ 0 + 1 = 0 + 1 ∧ x.2 = y.2) ∧ True) ∧ m.length - y.1.toNat < m.length - x.1.toNat)))) ∧ (bLt x.1 (iLen m) = false → pRoom 8 (iLen st) ∧ pRoom 48 (iLen (x.2 ++ [[C.s r, C.l st, C.i dv]])) ∧ (pLe (iLen (x.2 ++ [[C.s r, C.l st, C.i dv]])) 9223372036854775807 → InR .i64 (iSub (iLen (x.2 ++ [[C.s r, C.l st, C.i dv]])) 32) ∧ geB (some (iMax 0 (iSub (iLen (x.2 ++ [[C.s r, C.l st, C.i dv]])) 32))) none (iLen (x.2 ++ [[C.s r, C.l st, C.i dv]])) ∧ (cutRows (x.2 ++ [[C.s r, C.l st, C.i dv]]) (some (iMax 0 (iSub (iLen (x.2 ++ [[C.s r, C.l st, C.i dv]])) 32))) none = Sp.rmL m [C.s r, C.l st, C.i dv] ∧ True) ∧ (0 = Sp.rmE m [C.s r, C.l st, C.i dv] ∧ True) ∧ True))))))) := by kernel_rfl
theorem v24 (m : List (List C)) (r : ByteArray) (st : List (List C)) (dv : Int) : Holds (Wfs [.agg [.sl [.str, .sl [.int .u64], .int .u64] m], .agg [.str r, .sl [.int .u64] st, .int .u64 dv]] → True → B24 m r st dv) := by
  refine ⟨fun hw hp => ?_⟩
  rw [e24]
  unfold WL q2
  simp only [Wfs, Wf, InR, and_true] at hw
  have hm : maxLen = 9223372036854775807 := rfl
  simp only [hm] at hw
  simp only [iAdd, iSub, iMul, iLen, iSize, bLt, bLe, bEq, bNe, bNot, bSame, bDiff, sSame, sDiff, bIf, bAnd, InR, pLe, pIn, pRoom, eq_self, true_and, and_true, true_implies, implies_true, decide_eq_true_eq, decide_eq_false_iff_not, Bool.not_eq_true', Bool.not_eq_false', Bool.true_eq_false, Bool.false_eq_true, false_implies]
  have hl1 : ∀ h : Sp.memV m = true, Sp.cpr r st dv = true → Sp.rmL m [.s r, .l st, .i dv] = (Sp.rmF m [.s r, .l st, .i dv]).drop ((Sp.rmF m [.s r, .l st, .i dv]).length - 32) ∧ Sp.rmE m [.s r, .l st, .i dv] = 0 := fun h h2 => by
    have h3 : Sp.cprx [.s r, .l st, .i dv] = true := h2
    unfold Sp.rmL Sp.rmE; rw [h, h3]; exact ⟨rfl, rfl⟩
  refine ⟨fun hv => ⟨by unfold Sp.rmL; rw [hv]; rfl, by unfold Sp.rmE; rw [hv]; rfl⟩, fun hv => ⟨fun hc => ?_, fun hc => ⟨⟨(0, []), Sp.rmI_init, rfl, rfl⟩, ?_⟩⟩⟩
  · have h3 : Sp.cprx [.s r, .l st, .i dv] = false := hc
    exact ⟨by unfold Sp.rmL; rw [hv, h3]; rfl, by unfold Sp.rmE; rw [hv, h3]; rfl⟩
  · rintro ⟨z, out⟩ hx _ _ _
    simp only at hx ⊢
    have h0 := hx.1
    have hm32 := Sp.memV_len hv
    have hol := Sp.rmI_len hx
    have hsl := Sp.cpr_len hc
    refine ⟨fun hlt => ⟨⟨h0, hlt⟩, fun hW => ⟨fun ha => ⟨⟨h0, hlt⟩, fun _ => ?_⟩, fun ha => ⟨by omega, (z + 1, out), Sp.rmI_drop hx hlt ha, rfl, rfl, by simp only; omega⟩⟩⟩, fun hge => ?_⟩
    · refine ⟨by simp only [List.length_append, List.length_singleton]; omega, by omega, (z + 1, _), Sp.rmI_keep hx hlt ha, rfl, ⟨rfl, rfl⟩, by simp only; omega⟩
    · rw [Sp.rmI_end hx hge]
      have hfl : (Sp.rmF m [.s r, .l st, .i dv]).length ≤ 33 := by
        rw [← Sp.rmI_end hx hge]; simp only [List.length_append, List.length_singleton]; omega
      refine ⟨by omega, by omega, fun _ => ⟨by omega, ?_, ?_, (hl1 hv hc).2.symm⟩⟩
      · simp only [geB, iMax]; omega
      · rw [(hl1 hv hc).1]
        simp only [cutRows, iMax]
        congr 1
        omega
theorem s24 : SoundCt Go.Proofs.Try.prog 24 ct24 :=
  contractH followsMixed (look_sound (show Tb Go.Proofs.Try.prog tb24 from ⟨s40, ⟨s41, ⟨s42, trivial⟩⟩⟩)) (fun _ => false) (fun a => A24 ((cel 0 (arg 0 a)).list) ((cel 0 (arg 1 a)).str) ((cel 1 (arg 1 a)).list) ((cel 2 (arg 1 a)).int)) 6 24 ct24 rfl (by simp [ct24]) fun a => Eq.mp (by kernel_rfl) (v24 ((cel 0 (arg 0 a)).list) ((cel 0 (arg 1 a)).str) ((cel 1 (arg 1 a)).list) ((cel 2 (arg 1 a)).int))
end Go.Sx

