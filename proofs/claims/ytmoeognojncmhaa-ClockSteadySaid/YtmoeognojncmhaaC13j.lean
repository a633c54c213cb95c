/- The loops over the pieces of a clock: the position at a time. -/
import Derived.Test.YtmoeognojncmhaaC13i
set_option linter.unusedVariables false
set_option linter.unusedSimpArgs false
namespace Go
def Pc.val (p : Pc) (t : Int) : Int := Sp.pat p.f p.n p.d p.b t
def Sp.nOf (t : Int) (l : List Pc) : Int := l.foldl (fun _ p => p.val (min t p.u)) 0
theorem Sp.nOf_snoc (t : Int) (l : List Pc) (p : Pc) : Sp.nOf t (l ++ [p]) = p.val (min t p.u) := by simp [Sp.nOf]
end Go
namespace Go.Proofs
open Go.RowKit Go.Shelf Go.Sx
attribute [local go_sem] Oper.semAt_some
theorem KpB.putObj {O : Nat → Prop} {W : World} {l : Nat} {o o' : Obj} (h : W.heap[l]? = some o) (hc : o.isCells = false) : KpB O W (W.putObj l o') :=
  ⟨(grownBy_putObj' W l o').size, fun k ob h1 h2 _ => ((grownBy_putObj' W l o').block k (Array.getElem?_eq_some_iff.1 h1).1 (fun e => by cases e; rw [h] at h1; cases h1; rw [hc] at h2; cases h2)).trans h1⟩
theorem KpB.setCell {O : Nat → Prop} {W : World} {b : Nat} (h : O b) (v : Value) : KpB O W (W.setCell ⟨b, 0, none⟩ v) :=
  ⟨(grownBy_setCell' W b v).size, fun k ob h1 h2 hn => ((grownBy_setCell' W b v).block k (Array.getElem?_eq_some_iff.1 h1).1 (fun e => by cases e; exact hn h)).trans h1⟩
theorem keepsFrom_below {B : Nat} {W W' : World} (h : Below W.heap.size W W') : KeepsFrom B W W' := ⟨h.size, fun k o _ hk _ => (h.block k (Array.getElem?_eq_some_iff.1 hk).1).trans hk⟩
/-- A block of cells lies as it lay. -/
theorem cells_own (B : Nat) (c : Array Value) (t : TypeId) : Own (fun (_ : Unit) W => W.heap[B]? = some (.cells c t (0, 0))) := fun s X Y row hs hg hrow =>
  (grownBy_keeps_cells hg (fun r e => hrow r e) hs rfl).trans hs
/-- What the pieces are, in memory. -/
structure Pcs (W : World) (b off len : Nat) (F N D U G : Nat → Int) : Prop where
  hb : b < W.heap.size
  hc : ∀ k : Nat, k < len → W.cell? ⟨b, off + k * 3, none⟩ = some (.int .i64 (F k)) ∧ W.cell? ⟨b, off + k * 3 + 1, none⟩ = some (.int .i64 (N k)) ∧ W.cell? ⟨b, off + k * 3 + 2, none⟩ = some (.int .i64 (D k))
  hU : ∀ k, k + 1 < len → U k = F (k + 1)
  hU' : ∀ k, ¬ k + 1 < len → U k = 1099511627776
  hG0 : G 0 = 0
  hG : ∀ k, k < len → G (k + 1) = Sp.pat (F k) (N k) (D k) (G k) (U k)
  hok : ∀ k : Nat, k < len → (Pc.mk (F k) (N k) (D k) (U k) (G k)).ok
  hl : len ≤ 64
def pv (l : List Pq) : List Pc := l.map (·.1)
theorem pv_snoc (l : List Pq) (x : Pq) : pv (l ++ [x]) = pv l ++ [x.1] := by simp only [pv, List.map_append, List.map_cons, List.map_nil]
def Sp.pl (F N D U G : Nat → Int) (k : Nat) : List Pc := (List.range k).map fun k => Pc.mk (F k) (N k) (D k) (U k) (G k)
theorem pieces_stops (n : Nat) (hn : 2 ≤ n) (Bs b off cap len : Nat) (F N D U G : Nat → Int) (O : Nat → Prop) (w : World) (hO : ∀ k, O k → k < w.heap.size) (hOb : ¬ O b) (hOs : ¬ O Bs) (hs : Bs < w.heap.size)
    (hBs : w.cell? ⟨Bs, 0, none⟩ = some (.slice (some ⟨b, off, none⟩) len cap)) (hp : Pcs w b off len F N D U G) :
    SeqStopsK Fence.wide n Go.Proofs.Try.prog 47 #[.pointer (some ⟨Bs, 0, none⟩)] (fun x : Pq => #[(x.1).enc]) (KpB O) (fun ys => ys.map (·.1) = Sp.pl F N D U G len) (fun pre => ∃ k, k ≤ len ∧ pre.map (·.1) = Sp.pl F N D U G k) len w := fun l J Jx W hW hJ hJx hY h0 => by
  have hc : ∀ k : Nat, k < len → W.cell? ⟨b, off + k * 3, none⟩ = some (.int .i64 (F k)) ∧ W.cell? ⟨b, off + k * 3 + 1, none⟩ = some (.int .i64 (N k)) ∧ W.cell? ⟨b, off + k * 3 + 2, none⟩ = some (.int .i64 (D k)) := fun k hk => by
    obtain ⟨h1, h2, h3⟩ := hp.hc k hk
    exact ⟨(hW.cell (p := ⟨b, off + k * 3, none⟩) hp.hb).trans h1, (hW.cell (p := ⟨b, off + k * 3 + 1, none⟩) hp.hb).trans h2, (hW.cell (p := ⟨b, off + k * 3 + 2, none⟩) hp.hb).trans h3⟩
  exact pieces1_in n hn l Bs b off cap len F N D U G O J Jx W (fun k h => Nat.lt_of_lt_of_le (hO k h) hW.size) hJ hY ((hW.cell (p := ⟨Bs, 0, none⟩) hs).trans hBs) hc hp.hU hp.hU' hp.hG0 hp.hG hOb hOs hp.hok hp.hl h0
set_option maxHeartbeats 1000000 in
theorem pieces_in (n : Nat) (a : Option Addr) (len cap : Nat) (w : World) :
    CallsIn Fence.wide n Go.Proofs.Try.prog 36 #[.agg #[.slice a len cap]] w fun e w' => e = .returned (.func (.func 47) #[] #[.pointer (some ⟨w.heap.size, 0, none⟩)]) ∧ w' = w.alloc (.cells #[.slice a len cap] 24) := by
  refine callsIn_of_wp Go.Proofs.Try.func36 rfl trivial ?_ rfl
  simp only [Go.Proofs.Try.ntmps36, List.size_toArray, List.length_cons, List.length_nil, Nat.reduceAdd, Nat.reduceSub, Array.replicate_succ, Array.replicate_zero, List.push_toArray, List.append_toArray, List.nil_append, List.cons_append]
  gi_wp2
  go_ret
  exact ⟨rfl, rfl⟩
theorem Pcs.below {A B : World} {b off len : Nat} {F N D U G : Nat → Int} (h : Pcs A b off len F N D U G) (hb : Below A.heap.size A B) : Pcs B b off len F N D U G :=
  { h with
    hb := Nat.lt_of_lt_of_le h.hb hb.size
    hc := fun k hk => by
      obtain ⟨h1, h2, h3⟩ := h.hc k hk
      exact ⟨(hb.cell (p := ⟨b, off + k * 3, none⟩) h.hb).trans h1, (hb.cell (p := ⟨b, off + k * 3 + 1, none⟩) h.hb).trans h2, (hb.cell (p := ⟨b, off + k * 3 + 2, none⟩) h.hb).trans h3⟩ }
set_option maxRecDepth 100000 in
set_option maxHeartbeats 4000000 in
theorem position_in (n : Nat) (hn : 6 ≤ n) (b off cap len : Nat) (t : Int) (F N D' U G : Nat → Int) (w : World) (hp : Pcs w b off len F N D' U G) (ht : 0 ≤ t ∧ t ≤ 1099511627776) :
    CallsIn Fence.wide n Go.Proofs.Try.prog 33 #[.agg #[.slice (some ⟨b, off, none⟩) len cap], .int .i64 t] w fun e W' => ∃ v, e = .returned (.int .i64 v) ∧ Below w.heap.size w W' ∧
      ((v = Sp.nOf t (Sp.pl F N D' U G len) ∧ ∀ k, k < len → F k ≤ t) ∨ (∃ k, k < len ∧ v = Sp.nOf t (Sp.pl F N D' U G k) ∧ (∀ j, j < k → F j ≤ t) ∧ t < F k)) := by
  have h1 : 1 ≤ n := by omega
  refine callsIn_of_wp_marks Go.Proofs.Try.func33 rfl trivial ?_ rfl
  simp only [Go.Proofs.Try.ntmps33, List.size_toArray, List.length_cons, List.length_nil, Nat.reduceAdd, Nat.reduceSub, Array.replicate_succ, Array.replicate_zero, List.push_toArray, List.append_toArray, List.nil_append, List.cons_append]
  have h36 : Fence.wide.fn 36 := trivial
  gi_wp2_with (gi_at_call 36; refine (pieces_in (n - 1) _ _ _ _).mono ?_; rintro e w' ⟨rfl, rfl⟩)
  have bT := (((Boxed.new (w.alloc (.cells #[.slice (some ⟨b, off, none⟩) len cap] 24)) 2 (.int .i64 t)).alloc (.cells #[.int .i64 0] 2)).alloc (.cells #[.slice (some ⟨b, off, none⟩) len cap] 24))
  have bN := (Boxed.new ((w.alloc (.cells #[.slice (some ⟨b, off, none⟩) len cap] 24)).alloc (.cells #[.int .i64 t] 2)) 2 (.int .i64 0)).alloc (.cells #[.slice (some ⟨b, off, none⟩) len cap] 24)
  have bC := Boxed.new (((w.alloc (.cells #[.slice (some ⟨b, off, none⟩) len cap] 24)).alloc (.cells #[.int .i64 t] 2)).alloc (.cells #[.int .i64 0] 2)) 24 (.slice (some ⟨b, off, none⟩) len cap)
  simp only [World.size_alloc] at bT bN bC
  have hB0 : Below w.heap.size w ((((w.alloc (.cells #[.slice (some ⟨b, off, none⟩) len cap] 24)).alloc (.cells #[.int .i64 t] 2)).alloc (.cells #[.int .i64 0] 2)).alloc (.cells #[.slice (some ⟨b, off, none⟩) len cap] 24)) :=
    ((((Below.refl _ w).alloc (Nat.le_refl _) _).alloc (by simp) _).alloc (by simp; omega) _).alloc (by simp; omega) _
  have hsz : ((((w.alloc (.cells #[.slice (some ⟨b, off, none⟩) len cap] 24)).alloc (.cells #[.int .i64 t] 2)).alloc (.cells #[.int .i64 0] 2)).alloc (.cells #[.slice (some ⟨b, off, none⟩) len cap] 24)).heap.size = w.heap.size + 4 := by simp
  obtain ⟨W0, hW0⟩ : ∃ W0, (((w.alloc (.cells #[.slice (some ⟨b, off, none⟩) len cap] 24)).alloc (.cells #[.int .i64 t] 2)).alloc (.cells #[.int .i64 0] 2)).alloc (.cells #[.slice (some ⟨b, off, none⟩) len cap] 24) = W0 := ⟨_, rfl⟩
  rw [hW0] at bT bN bC hB0 hsz ⊢
  clear hW0
  refine wpIn_rangeFunc_ownH rfl h1 (gf := 47) (lb := #[.pointer (some ⟨w.heap.size + 1 + 1 + 1, 0, none⟩)]) rfl trivial (enters_of Go.Proofs.Try.func47 (by kernel_rfl) rfl)
    (pieces_stops (n - 1) (by omega) (w.heap.size + 1 + 1 + 1) b off cap len F N D' U G (fun k => k = w.heap.size + 1 + 1) W0 (fun k h => by omega) (by have := hp.hb; omega) (by omega) (by omega) bC.cell (hp.below hB0)) (fun h k => KpB.trans h k) (fun W l o o' _ h1 h2 _ => KpB.putObj h1 h2) (Below.refl _ _) (fun _ => rfl)
    (fun pre W => ((Boxed W (w.heap.size + 1 + 1) 2 (.int .i64 (Sp.nOf t (pv pre))) ∧ Boxed W (w.heap.size + 1) 2 (.int .i64 t)) ∧ (∀ p ∈ pre, p.1.f ≤ t)) ∧ Below w.heap.size w W)
    (fun c pre W => ((∃ ini last, c = .exit 0 ∧ pre = ini ++ [last] ∧ (∀ p ∈ ini, p.1.f ≤ t) ∧ t < last.1.f ∧ Boxed W (w.heap.size + 1 + 1) 2 (.int .i64 (Sp.nOf t (pv ini))))) ∧ Below w.heap.size w W)
    (OwnFrom.and (OwnFrom.and (OwnFrom.and (Own.from (boxed_own _ _ _) _) (Own.from (boxed_own _ _ _) _)) (ownFrom_pure _ _)) (ownFrom_below (Nat.le_refl _) (by omega)))
    (fun c => OwnFrom.and (fun s X Y row hs hg hr => by obtain ⟨ini, last, h1, h2, h3, h4, h5⟩ := hs; exact ⟨ini, last, h1, h2, h3, h4, boxed_own _ 2 (fun (_ : Unit) => Value.int .i64 (Sp.nOf t (pv ini))) () X Y row h5 hg (fun r e => (hr r e).2)⟩) (ownFrom_below (Nat.le_refl _) (by omega)))
    ⟨⟨⟨bN, bT⟩, by simp⟩, hB0⟩
    (fun x a' W => ∃ Bx, w.heap.size + 1 + 1 < Bx ∧ W.heap[Bx]? = some (.cells #[.int .i64 x.1.f, .int .i64 x.1.n, .int .i64 x.1.d, .int .i64 x.1.u, .int .i64 x.1.b] 71 (0, 0)) ∧ a' = { tmps := #[Value.agg #[Value.slice (some { block := b, off := off }) len cap], Value.int IntKind.i64 t, Value.pointer (some { block := w.heap.size, off := 0 }), Value.pointer (some { block := w.heap.size + 1, off := 0 }), Value.int IntKind.i64 0, Value.pointer (some { block := w.heap.size + 1 + 1, off := 0 }), .pointer (some ⟨Bx, 0, none⟩), Value.agg #[Value.slice (some { block := b, off := off }) len cap], Value.func (Fn.func 47) #[] #[Value.pointer (some { block := w.heap.size + 1 + 1 + 1, off := 0 })], .agg #[.int .i64 x.1.f, .int .i64 x.1.n, .int .i64 x.1.d, .int .i64 x.1.u, .int .i64 x.1.b], undef, undef, undef, undef, undef, undef, undef, undef, undef, undef, undef, undef], defers := [] })
    (fun x a' _ X Y row hs hg hr => by obtain ⟨Bx, h1, h2, h3⟩ := hs; exact ⟨Bx, h1, cells_own Bx _ _ () X Y row h2 hg (fun r e => (hr r e).2), h3⟩)
    ?assign ?body ?done ?stop
  case assign =>
    rintro l pre x W K ⟨⟨⟨bN1, bT1⟩, hpre⟩, hB1⟩ hK
    simp only [Pc.enc]
    gi_wp2
    exact hK _ _ ((KeepsOthers.alloc _ _).from _) (KpB.alloc _ _ _) ⟨⟨⟨bN1.alloc _, bT1.alloc _⟩, hpre⟩, hB1.alloc hB1.size _⟩ ⟨W.heap.size, bN1.lt, World.alloc_heap_new W _, rfl⟩
  case body =>
    rintro l pre x a' W hl ⟨r, hr⟩ ⟨⟨⟨bN1, bT1⟩, hpre⟩, hB1⟩ ⟨Bx, hBx, hX, rfl⟩ hlt
    have cN := bN1.cell
    have fN := bN1.frozen
    have cT := bT1.cell
    have hcell : ∀ j : Nat, W.cell? ⟨Bx, j, none⟩ = (#[Value.int .i64 x.1.f, .int .i64 x.1.n, .int .i64 x.1.d, .int .i64 x.1.u, .int .i64 x.1.b] : Array Value)[j]? := fun j => by simp only [World.cell?, hX]; rfl
    have x0 := hcell 0
    have x1 := hcell 1
    have x2 := hcell 2
    have x3 := hcell 3
    have x4 := hcell 4
    have h1' : 1 ≤ n - 1 - 1 := by omega
    have h37 : Fence.wide.fn 37 := trivial
    by_cases hft : t < x.1.f
    · gi_wp2
      exact ⟨KeepsFrom.refl _ _, ⟨pre, x, rfl, rfl, hpre, hft, bN1⟩, hB1⟩
    rcases Int.lt_or_le x.1.u t with hm | hm
    rotate_left
    · have hxf : x.1.f ≤ t := by omega
      have hat := at_in (n - 1 - 1 - 1) x.1.f x.1.n x.1.d x.1.u x.1.b (t) x.2 ⟨by have := x.2.2.2.1; omega, by omega⟩ W
      gi_wp2_with (gi_at_call 37; refine (CallsIn.inRound l hat).mono ?_; rintro e W4 ⟨rfl, hb4⟩; have bN4 := bN1.kept (grown_below hb4) (by simp); have bT4 := bT1.kept (grown_below hb4) (by simp); have cN4 := bN4.cell; have fN4 := bN4.frozen)
      all_goals (first | omega | refine ⟨(keepsFrom_below hb4).trans ((KeepsOthers.setCell _ _ _).from _), (KpB.below hb4).trans (KpB.setCell (O := fun k => k = w.heap.size + 1 + 1) rfl _), ⟨⟨by rw [pv_snoc, Sp.nOf_snoc, show min t x.1.u = t by omega]; exact bN4.set _, bT4.other (by omega) _⟩, fun p hp' => (List.mem_append.1 hp').elim (hpre p) (fun e => by simp at e; subst e; exact hxf)⟩, (hB1.trans (hb4.mono hB1.size)).setCell (p := ⟨w.heap.size + 1 + 1, 0, none⟩) (by simp; omega) _⟩)
    · have hxf : x.1.f ≤ t := by omega
      have hat := at_in (n - 1 - 1 - 1) x.1.f x.1.n x.1.d x.1.u x.1.b (x.1.u) x.2 ⟨by have := x.2.2.2.1; omega, by omega⟩ W
      gi_wp2_with (gi_at_call 37; refine (CallsIn.inRound l hat).mono ?_; rintro e W4 ⟨rfl, hb4⟩; have bN4 := bN1.kept (grown_below hb4) (by simp); have bT4 := bT1.kept (grown_below hb4) (by simp); have cN4 := bN4.cell; have fN4 := bN4.frozen)
      all_goals (first | omega | refine ⟨(keepsFrom_below hb4).trans ((KeepsOthers.setCell _ _ _).from _), (KpB.below hb4).trans (KpB.setCell (O := fun k => k = w.heap.size + 1 + 1) rfl _), ⟨⟨by rw [pv_snoc, Sp.nOf_snoc, show min t x.1.u = x.1.u by omega]; exact bN4.set _, bT4.other (by omega) _⟩, fun p hp' => (List.mem_append.1 hp').elim (hpre p) (fun e => by simp at e; subst e; exact hxf)⟩, (hB1.trans (hb4.mono hB1.size)).setCell (p := ⟨w.heap.size + 1 + 1, 0, none⟩) (by simp; omega) _⟩)
  case done =>
    rintro D ys W hD hys ⟨⟨⟨bN1, bT1⟩, hpre⟩, hB1⟩ hK
    have cN := bN1.cell
    gi_wp2
    refine ⟨by simp, .inl ⟨_, _, rfl, run_takeDeferred hK, ?_⟩⟩
    refine ⟨_, results_tmp rfl _ _ _, _, rfl, hB1.trans (belowK_b (w := w) (Nat.le_refl _) W D _ _ (by omega) hK rfl rfl), .inl ⟨by rw [show pv ys = Sp.pl F N D' U G len from hys], fun k hk => ?_⟩⟩
    have hm : Pc.mk (F k) (N k) (D' k) (U k) (G k) ∈ pv ys := by rw [show pv ys = Sp.pl F N D' U G len from hys]; exact List.mem_map.2 ⟨k, List.mem_range.2 hk, rfl⟩
    obtain ⟨p, hp1, hp2⟩ := List.mem_map.1 hm
    have := hpre p hp1
    rw [hp2] at this
    exact this
  case stop =>
    rintro D c pre W hD ⟨k, hk, hkp⟩ ⟨⟨ini, last, rfl, rfl, hini, hlast, bN1⟩, hB1⟩ hK
    have cN := bN1.cell
    gi_wp2
    refine ⟨by simp, .inl ⟨_, _, rfl, run_takeDeferred hK, ?_⟩⟩
    have hkp' : pv ini ++ [last.1] = Sp.pl F N D' U G k := by rw [← hkp]; exact (pv_snoc ini last).symm
    obtain ⟨k', rfl⟩ : ∃ k', k = k' + 1 := by
      cases k with
      | zero => simp [Sp.pl] at hkp'
      | succ k' => exact ⟨k', rfl⟩
    rw [show Sp.pl F N D' U G (k' + 1) = Sp.pl F N D' U G k' ++ [Pc.mk (F k') (N k') (D' k') (U k') (G k')] by simp [Sp.pl, List.range_succ]] at hkp'
    obtain ⟨e1, e2⟩ := List.append_inj' hkp' rfl
    have e2 : last.1 = Pc.mk (F k') (N k') (D' k') (U k') (G k') := by simpa using e2
    rw [e2] at hlast
    refine ⟨_, results_tmp rfl _ _ _, _, rfl, hB1.trans (belowK_b (w := w) (Nat.le_refl _) W D _ _ (by omega) hK rfl rfl), .inr ⟨k', by omega, by rw [e1], fun j hj => ?_, hlast⟩⟩
    have hm : Pc.mk (F j) (N j) (D' j) (U j) (G j) ∈ pv ini := by rw [e1]; exact List.mem_map.2 ⟨j, List.mem_range.2 hj, rfl⟩
    obtain ⟨p, hp1, hp2⟩ := List.mem_map.1 hm
    have := hini p hp1
    rw [hp2] at this
    exact this
end Go.Proofs
