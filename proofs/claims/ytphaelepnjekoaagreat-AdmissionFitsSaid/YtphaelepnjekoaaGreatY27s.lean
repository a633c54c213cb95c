import Derived.Test.YtphaelepnjekoaaGreatSxOpen
import Derived.Test.YtphaelepnjekoaaGreatZ27a
import Derived.WalkKit
import Derived.Deep.LoopGhost
import Derived.Shelf.RegionOpenPlain
import Derived.Lib.Walk
import Derived.Lib.SliceRun
import Derived.Lib.JoinLaws
import Derived.Lib.AppendZerosOnto
import Derived.Lib.Overlaps
import Derived.Laws.Externs
import Derived.KernelRfl
set_option linter.unusedVariables false
set_option linter.unusedSimpArgs false
namespace Go.Proofs
open Go.RowKit Go.Shelf Go.Lib Go.Sx
theorem wp_copyS {P : Program} (w : World) {o : Oper} {a : Act} {K : Act → World → Prop} {Q : Exit → Act → World → Prop} (d s : Operand) (t t' : TypeId)
 (ho : o.op = .call { callee := .builtin .copy, args := #[d, s], argTypes := #[t, t'] }) (v u : Value) (hd : a.eval d = v) (hs : a.eval s = u) {v' : Value} {w' : World}
 (hr : (Builtin.copy_ #[t, t'] o.type #[v, u]).run P w = .ok v' w') (h : K (a.put o.dst v') w') : o.wp P a w K Q := by
 unfold Oper.wp execOp
 simp only [ho, resolve, invoke, builtin, Sem.run_bind, Sem.run_pure, Result.andThen_ok, List.map_toArray, List.map_cons, List.map_nil, hd, hs, hr]
 exact h
theorem wpList_copyS {P : Program} (w : World) {ops : Array Oper} {rest : List Oper} {o : Oper} {a : Act} {Q : Exit → Act → World → Prop} (hgd : o.guard = none) (d s : Operand) (t t' : TypeId)
 (ho : o.op = .call { callee := .builtin .copy, args := #[d, s], argTypes := #[t, t'] }) (v u : Value) (hd : a.eval d = v) (hs : a.eval s = u) {v' : Value} {w' : World}
 (hr : (Builtin.copy_ #[t, t'] o.type #[v, u]).run P w = .ok v' w') (h : wpList P ops Q rest (a.put o.dst v') w') : wpList P ops Q (o :: rest) a w :=
 wpList_plain hgd fun _ hK => wp_copyS w d s t t' ho v u hd hs hr (hK _ _ h)
theorem step_copyS {P : Program} {ops : Array Oper} {o : Oper} {a : Act} {w : World} {K : Act → World → Prop} {Q : Exit → Act → World → Prop} {E : Prop}
 (hg : o.guard = none) (d x : Operand) (dT sT : TypeId) (hop : o.op = Op.call { callee := Callee.builtin Builtin.copy, args := #[d, x], argTypes := #[dT, sT] })
 (v u : Value) (hd : a.eval d = v) (hx : a.eval x = u) {v' : Value} {w' : World} (hr : (Builtin.copy_ #[dT, sT] o.type #[v, u]).run P w = .ok v' w') (hK : K (a.put o.dst v') w') :
 if Region.wanted o (yielded ops a.tmps) = true then Oper.wp P o a w K Q else E := by
 have hw : Region.wanted o (yielded ops a.tmps) = true := by simp [Region.wanted, hg]
 rw [if_pos hw]
 unfold Oper.wp
 simp [execOp, hop, resolve, invoke, builtin, hd, hx, hr, Result.andThen]
 exact hK
theorem run_copy_rowK {P : Program} (w : World) (dT sT ty elem : TypeId) (K g o dLen dCap : Nat) (a : Addr) (sLen sCap : Nat) (cur : Array Value) (t : TypeId) (cs : List Value)
 (hu : P.underlying dT = some (.slice elem)) (hs : (P.info? elem).map (·.size) = some K)
 (hg : w.heap[g]? = some (.cells cur t (0, 0))) (hn : cs.length = Nat.min sLen dLen * K)
 (hsrc : ∀ j v, cs[j]? = some v → w.cell? (a.add j) = some v) (hfit : o + cs.length ≤ cur.size) (h1 : ∀ v ∈ cs, v.oneCell' = true) :
 (Builtin.copy_ #[dT, sT] ty #[.slice (some ⟨g, o, none⟩) dLen dCap, .slice (some a) sLen sCap]).run P w =
  .ok (goInt (Nat.min sLen dLen)) (w.setRow g (cur.toList.take o ++ cs ++ cur.toList.drop (o + cs.length)).toArray) := by
 have hl := run_loadCells_list (P := P) w a cs hsrc
 have hst := run_storeCells_at P g o t cs 0 cur w hg (by simpa using hfit) h1
 cases hq : P.info? elem with
 | none => simp [hq] at hs
 | some i =>
  have hi : i.size = K := by simpa [hq] using hs
  simp [Builtin.copy_, run_underlying hu, Builtin.lenOf, Builtin.firstCells, sizeOf, typeInfo, hq, hi, ← hn, hl, hst]
def infoIs (P : Program) (t : TypeId) (K BY : Nat) : Bool := match P.info? t with | some i => (match i.zero with | some z => Nat.beq z.cells.size K && Nat.beq i.size K && Nat.beq i.bytes BY && z.cells.toList.all (·.oneCell') | none => false) | none => false
theorem info_of {P : Program} {t : TypeId} {K BY : Nat} (h : infoIs P t K BY = true) : ∃ i0, P.info? t = some i0 ∧ ∃ z, i0.zero = some z ∧ i0.size = K ∧ i0.bytes = BY ∧ z.cells.size = K := by
 unfold infoIs at h
 split at h
 · rename_i i hi
   split at h
   · rename_i z hz
     simp only [Bool.and_eq_true] at h
     exact ⟨i, hi, z, hz, Nat.eq_of_beq_eq_true h.1.1.2, Nat.eq_of_beq_eq_true h.1.2, Nat.eq_of_beq_eq_true h.1.1.1⟩
   · cases h
 · cases h
theorem RepRow_of_cells {w : World} {ok : Nat → Prop} {e : List Sh} {b : Nat} : ∀ (xs : List (List C)) (o : Nat), (∀ i, i < xs.length → RepCs w ok e (xs.getD i []) b (o + i * e.length)) →
 ∃ us, RepRow w ok e xs us ∧ us.length = xs.length * e.length ∧ (∀ j u, us[j]? = some u → w.cell? ⟨b, o + j, none⟩ = some u) ∧ ∀ u ∈ us, u.oneCell' = true
 | [], o, _ => ⟨[], rfl, by simp, by simp, by simp⟩
 | x :: r, o, h => by
  have h0 := h 0 (by simp)
  simp only [List.getD_cons_zero, Nat.zero_mul, Nat.add_zero] at h0
  obtain ⟨hs, hl, hr, hc⟩ := cells_of_rep e x o h0
  obtain ⟨us, u1, u2, u3, u4⟩ := RepRow_of_cells r (o + e.length) fun i hi => by
   have := h (i + 1) (by simpa using hi)
   simpa [Nat.add_mul, Nat.add_assoc, Nat.add_comm e.length] using this
  refine ⟨hs ++ us, ⟨hs, us, rfl, hr, u1⟩, by simp [u2, hl, Nat.add_mul, Nat.add_comm], fun j u hj => ?_, fun u hu => ?_⟩
  · rw [List.getElem?_append] at hj
    split at hj
    · exact hc j u hj
    · rename_i hge
      have := u3 _ u hj
      rw [hl] at hge this
      rw [show o + j = o + e.length + (j - e.length) by omega]; exact this
  · rcases List.mem_append.1 hu with hu | hu
    · exact hr.one u hu
    · exact u4 u hu
where cells_of_rep {w : World} {ok : Nat → Prop} {b : Nat} : ∀ (e : List Sh) (x : List C) (o : Nat), RepCs w ok e x b o → ∃ hs, hs.length = e.length ∧ RepVs w ok e x hs ∧ ∀ j u, hs[j]? = some u → w.cell? ⟨b, o + j, none⟩ = some u
 | [], x, o, _ => ⟨[], rfl, rfl, by simp⟩
 | s :: r, x, o, h => by
  simp only [RepCs] at h
  obtain ⟨⟨u, h1, h2, h3⟩, h4⟩ := h
  obtain ⟨hs, l1, l2, l3⟩ := cells_of_rep r x.tail (o + 1) h4
  refine ⟨u :: hs, by simp [l1], ⟨u, hs, rfl, h2, h3, l2⟩, fun j v hj => ?_⟩
  cases j with
  | zero => simp at hj; subst hj; exact h1
  | succ j =>
   simp at hj
   rw [show o + (j + 1) = o + 1 + j by omega]; exact l3 j v hj
set_option maxHeartbeats 2000000 in
set_option maxRecDepth 100000 in
theorem clone72_walk (a : Addr) (n c : Nat) (news : List Value) (w : World) (hl : news.length = n * 2) (hn : n ≤ maxLen) (hbig : n * 16 ≤ 140737488355328)
 (hc : ∀ j u, news[j]? = some u → w.cell? (a.add j) = some u) (h1 : ∀ u ∈ news, u.oneCell' = true) :
 Calls Go.Proofs.Tryz.prog 53 #[.slice (some a) n c] w fun e w' => ∃ v', e = .returned v' ∧ w'.ownsRow w.heap.size 61 2 v' n news ∧ Below w.heap.size w w' := by
 have mixed := followsMixed
 obtain ⟨i0, hi, z, hz0, hz1, hz2, hzs⟩ := info_of (P := Go.Proofs.Tryz.prog) (t := 61) (K := 2) (BY := 16) (by kernel_rfl)
 have t22 : Go.Proofs.Tryz.prog.underlying 28 = some (.slice 61) := by kernel_rfl
 have q22 : ∀ (w : World) (a : Option Addr) (n c n' c' : Nat), (binOp .eql 28 (.slice a n c) (.slice none n' c')).run Go.Proofs.Tryz.prog w = .ok (.bool a.isNone) w := fun w a n c n' c' => Lib.run_eql_slice_nil w _ _ a n c n' c' t22
 have A : Aside (∀ j u, news[j]? = some u → w.cell? (a.add j) = some u) := hc
 clear hc
 go_enter Go.Proofs.Tryz.func53, Go.Proofs.Tryz.ntmps53
 go_wp2_with (at_builtin; refine wpList_append_own _ rfl _ _ 28 rfl w.heap.size 61 i0 z 2 16 t22 hi hz0 hz1 hz2 hzs (by decide) _ _ _ rfl (World.ownsRow_made w #[] 0 (Nat.le_refl _) (Nat.zero_le _) (by simp)) a n c news rfl ?qc1 ?qc2 ?qc3 ?qc4 ?qc5 ?qc6 ?_)
 case qc1 => exact hl
 case qc2 =>
  intro j u hj
  exact Lib.cell?_alloc_some _ (A.out j u hj)
 case qc3 => exact h1
 case qc4 => rw [Nat.zero_add]; exact hn
 case qc5 => rw [Nat.zero_add]; exact hbig
 case qc6 => simp
 intro v' w1 hown hgrow hnil
 go_wp2
 go_ret
 exact ⟨v', rfl, by simpa using hown, ((Below.refl _ w).alloc (Nat.le_refl _) _).grown hgrow (by simp) (by intro k hk; simp [Value.ownBlock] at hk; omega)⟩
set_option maxHeartbeats 1000000 in
theorem clone72_nil (n c : Nat) (w : World) : Calls Go.Proofs.Tryz.prog 53 #[.slice none n c] w fun e w' => e = .returned (.slice none 0 0) ∧ w' = w := by
 have mixed := followsMixed
 have t22 : Go.Proofs.Tryz.prog.underlying 28 = some (.slice 61) := by kernel_rfl
 have q22 : ∀ (w : World) (a : Option Addr) (n c n' c' : Nat), (binOp .eql 28 (.slice a n c) (.slice none n' c')).run Go.Proofs.Tryz.prog w = .ok (.bool a.isNone) w := fun w a n c n' c' => Lib.run_eql_slice_nil w _ _ a n c n' c' t22
 go_enter Go.Proofs.Tryz.func53, Go.Proofs.Tryz.ntmps53
 go_wp2
 go_ret
 exact ⟨rfl, rfl⟩
end Go.Proofs
namespace Go.Sx
open Go.RowKit
def ct53 : Ct := { ps := [(false, [.sl [.int .u64, .int .i64]])], rs := [], pre := fun a => pLe ((cel 0 (arg 0 a)).list.length : Int) 1000000, out := fun a => [[.l (cel 0 (arg 0 a)).list]], fr := some (61, [.int .u64, .int .i64]) }
theorem s53 : SoundCt Go.Proofs.Tryz.prog 53 ct53 := by
 refine ⟨fun args ha _ => ?_, fun _ _ h => (by cases h), fun t e h => (by cases h), fun t e r _ h => (by cases h), fun t e _ _ h V args vals hlt hbd hw hpre hv => ?_⟩
 · simp only [Ct.aps, Ct.ars, ct53, ofRess, Wfs, ofRes, ofCs, ofC, List.headD_cons, Wf, and_true] at ha ⊢
   exact ha
 · simp only [ct53, Option.some.injEq, Prod.mk.injEq] at h
   obtain ⟨rfl, rfl⟩ := h
   simp only [ct53, ofRess, VRs, ofRes, ofCs, ofC, List.headD_cons, VR] at hv
   obtain ⟨v, _, rfl, hv, rfl⟩ := hv
   simp only [ct53, pLe] at hpre
   have hargs : (cel 0 (arg 0 args)) = (args.headD []).headD default := rfl
   rw [hargs] at hpre
   simp only [ct53, hargs, List.headD_cons, show ∀ x, (C.l x).list = x from fun _ => rfl]
   generalize ((args.headD []).headD default).list = xs at hv hpre
   simp only [RepC, show ∀ x, (C.l x).list = x from fun _ => rfl] at hv
   obtain ⟨a, n, cap, rfl, h1, h2, h3, h4⟩ := hv
   refine runs_of_calls (by kernel_rfl) ?_
   cases a with
   | none =>
    have hn0 : n = 0 := by
     rcases h4 with h4 | ⟨b, o, h5, _⟩
     · exact h4
     · cases h5
    subst hn0
    obtain rfl : xs = [] := List.eq_nil_of_length_eq_zero h3.symm
    refine (Go.Proofs.clone72_nil 0 cap V.w).mono ?_
    rintro e w' ⟨rfl, rfl⟩
    exact ⟨_, rfl, Below.refl _ _, [], fun b hb => by (cases hb), ⟨rfl, .inl ⟨rfl, none, rfl⟩⟩, rfl⟩
   | some a =>
    have key : ∃ news, RepRow V.w V.ok [.int .u64, .int .i64] xs news ∧ news.length = n * 2 ∧ (∀ j u, news[j]? = some u → V.w.cell? (a.add j) = some u) ∧ ∀ u ∈ news, u.oneCell' = true := by
     rcases h4 with h4 | ⟨b, o, h5, hok, h6⟩
     · subst h4
       obtain rfl : xs = [] := List.eq_nil_of_length_eq_zero h3.symm
       exact ⟨[], rfl, by simp, by simp, by simp⟩
     · injection h5 with h5
       subst h5
       obtain ⟨us, u1, u2, u3, u4⟩ := Go.Proofs.RepRow_of_cells (w := V.w) (ok := V.ok) (e := [.int .u64, .int .i64]) (b := b) xs o fun i hi => h6 i (by omega)
       exact ⟨us, u1, by rw [u2, h3]; rfl, fun j u hj => by rw [Addr.add_lit]; exact u3 j u hj, u4⟩
    obtain ⟨news, k1, k2, k3, k4⟩ := key
    refine (Go.Proofs.clone72_walk a n cap news V.w k2 (by omega) (by omega) k3 k4).mono ?_
    rintro e w' ⟨v', rfl, hown, hbel⟩
    subst h3
    exact ⟨v', rfl, hbel, news, fun b hb => own_blk hown hb, OwnRow.of_owns hown, k1⟩
end Go.Sx
namespace Go.Proofs
open Go.RowKit Go.Shelf Go.Lib Go.Sx
set_option maxHeartbeats 2000000 in
set_option maxRecDepth 100000 in
theorem clone73_walk (a : Addr) (n c : Nat) (news : List Value) (w : World) (hl : news.length = n * 4) (hn : n ≤ maxLen) (hbig : n * 32 ≤ 140737488355328)
 (hc : ∀ j u, news[j]? = some u → w.cell? (a.add j) = some u) (h1 : ∀ u ∈ news, u.oneCell' = true) :
 Calls Go.Proofs.Tryz.prog 54 #[.slice (some a) n c] w fun e w' => ∃ v', e = .returned v' ∧ w'.ownsRow w.heap.size 41 4 v' n news ∧ Below w.heap.size w w' := by
 have mixed := followsMixed
 obtain ⟨i0, hi, z, hz0, hz1, hz2, hzs⟩ := info_of (P := Go.Proofs.Tryz.prog) (t := 41) (K := 4) (BY := 32) (by kernel_rfl)
 have t22 : Go.Proofs.Tryz.prog.underlying 29 = some (.slice 41) := by kernel_rfl
 have q22 : ∀ (w : World) (a : Option Addr) (n c n' c' : Nat), (binOp .eql 29 (.slice a n c) (.slice none n' c')).run Go.Proofs.Tryz.prog w = .ok (.bool a.isNone) w := fun w a n c n' c' => Lib.run_eql_slice_nil w _ _ a n c n' c' t22
 have A : Aside (∀ j u, news[j]? = some u → w.cell? (a.add j) = some u) := hc
 clear hc
 go_enter Go.Proofs.Tryz.func54, Go.Proofs.Tryz.ntmps54
 go_wp2_with (at_builtin; refine wpList_append_own _ rfl _ _ 29 rfl w.heap.size 41 i0 z 4 32 t22 hi hz0 hz1 hz2 hzs (by decide) _ _ _ rfl (World.ownsRow_made w #[] 0 (Nat.le_refl _) (Nat.zero_le _) (by simp)) a n c news rfl ?qc1 ?qc2 ?qc3 ?qc4 ?qc5 ?qc6 ?_)
 case qc1 => exact hl
 case qc2 =>
  intro j u hj
  exact Lib.cell?_alloc_some _ (A.out j u hj)
 case qc3 => exact h1
 case qc4 => rw [Nat.zero_add]; exact hn
 case qc5 => rw [Nat.zero_add]; exact hbig
 case qc6 => simp
 intro v' w1 hown hgrow hnil
 go_wp2
 go_ret
 exact ⟨v', rfl, by simpa using hown, ((Below.refl _ w).alloc (Nat.le_refl _) _).grown hgrow (by simp) (by intro k hk; simp [Value.ownBlock] at hk; omega)⟩
set_option maxHeartbeats 1000000 in
theorem clone73_nil (n c : Nat) (w : World) : Calls Go.Proofs.Tryz.prog 54 #[.slice none n c] w fun e w' => e = .returned (.slice none 0 0) ∧ w' = w := by
 have mixed := followsMixed
 have t22 : Go.Proofs.Tryz.prog.underlying 29 = some (.slice 41) := by kernel_rfl
 have q22 : ∀ (w : World) (a : Option Addr) (n c n' c' : Nat), (binOp .eql 29 (.slice a n c) (.slice none n' c')).run Go.Proofs.Tryz.prog w = .ok (.bool a.isNone) w := fun w a n c n' c' => Lib.run_eql_slice_nil w _ _ a n c n' c' t22
 go_enter Go.Proofs.Tryz.func54, Go.Proofs.Tryz.ntmps54
 go_wp2
 go_ret
 exact ⟨rfl, rfl⟩
end Go.Proofs
namespace Go.Sx
open Go.RowKit
def ct54 : Ct := { ps := [(false, [.sl [.int .i64, .int .u64, .int .i64, .int .i64]])], rs := [], pre := fun a => pLe ((cel 0 (arg 0 a)).list.length : Int) 1000000, out := fun a => [[.l (cel 0 (arg 0 a)).list]], fr := some (41, [.int .i64, .int .u64, .int .i64, .int .i64]) }
theorem s54 : SoundCt Go.Proofs.Tryz.prog 54 ct54 := by
 refine ⟨fun args ha _ => ?_, fun _ _ h => (by cases h), fun t e h => (by cases h), fun t e r _ h => (by cases h), fun t e _ _ h V args vals hlt hbd hw hpre hv => ?_⟩
 · simp only [Ct.aps, Ct.ars, ct54, ofRess, Wfs, ofRes, ofCs, ofC, List.headD_cons, Wf, and_true] at ha ⊢
   exact ha
 · simp only [ct54, Option.some.injEq, Prod.mk.injEq] at h
   obtain ⟨rfl, rfl⟩ := h
   simp only [ct54, ofRess, VRs, ofRes, ofCs, ofC, List.headD_cons, VR] at hv
   obtain ⟨v, _, rfl, hv, rfl⟩ := hv
   simp only [ct54, pLe] at hpre
   have hargs : (cel 0 (arg 0 args)) = (args.headD []).headD default := rfl
   rw [hargs] at hpre
   simp only [ct54, hargs, List.headD_cons, show ∀ x, (C.l x).list = x from fun _ => rfl]
   generalize ((args.headD []).headD default).list = xs at hv hpre
   simp only [RepC, show ∀ x, (C.l x).list = x from fun _ => rfl] at hv
   obtain ⟨a, n, cap, rfl, h1, h2, h3, h4⟩ := hv
   refine runs_of_calls (by kernel_rfl) ?_
   cases a with
   | none =>
    have hn0 : n = 0 := by
     rcases h4 with h4 | ⟨b, o, h5, _⟩
     · exact h4
     · cases h5
    subst hn0
    obtain rfl : xs = [] := List.eq_nil_of_length_eq_zero h3.symm
    refine (Go.Proofs.clone73_nil 0 cap V.w).mono ?_
    rintro e w' ⟨rfl, rfl⟩
    exact ⟨_, rfl, Below.refl _ _, [], fun b hb => by (cases hb), ⟨rfl, .inl ⟨rfl, none, rfl⟩⟩, rfl⟩
   | some a =>
    have key : ∃ news, RepRow V.w V.ok [.int .i64, .int .u64, .int .i64, .int .i64] xs news ∧ news.length = n * 4 ∧ (∀ j u, news[j]? = some u → V.w.cell? (a.add j) = some u) ∧ ∀ u ∈ news, u.oneCell' = true := by
     rcases h4 with h4 | ⟨b, o, h5, hok, h6⟩
     · subst h4
       obtain rfl : xs = [] := List.eq_nil_of_length_eq_zero h3.symm
       exact ⟨[], rfl, by simp, by simp, by simp⟩
     · injection h5 with h5
       subst h5
       obtain ⟨us, u1, u2, u3, u4⟩ := Go.Proofs.RepRow_of_cells (w := V.w) (ok := V.ok) (e := [.int .i64, .int .u64, .int .i64, .int .i64]) (b := b) xs o fun i hi => h6 i (by omega)
       exact ⟨us, u1, by rw [u2, h3]; rfl, fun j u hj => by rw [Addr.add_lit]; exact u3 j u hj, u4⟩
    obtain ⟨news, k1, k2, k3, k4⟩ := key
    refine (Go.Proofs.clone73_walk a n cap news V.w k2 (by omega) (by omega) k3 k4).mono ?_
    rintro e w' ⟨v', rfl, hown, hbel⟩
    subst h3
    exact ⟨v', rfl, hbel, news, fun b hb => own_blk hown hb, OwnRow.of_owns hown, k1⟩
end Go.Sx
namespace Go.Proofs
open Go.RowKit Go.Shelf Go.Lib Go.Sx
end Go.Proofs
