/- The loops over the pieces of a clock: the time of a frame. -/
import Derived.Test.YtmoeognojncmhaaC13j
set_option linter.unusedVariables false
set_option linter.unusedSimpArgs false
namespace Go.Proofs
open Go.RowKit Go.Shelf Go.Sx
attribute [local go_sem] Oper.semAt_some
theorem KpB.drew (O : Nat → Prop) (W : World) : KpB O W W.drew := ⟨Nat.le_refl _, fun _ _ h _ _ => h⟩
theorem inv_in (n : Nat) (m d : Int) (hv : Sp.rvalid m d = true) (w : World) :
    CallsIn Fence.wide n Go.Proofs.Try.prog 38 #[.agg #[.int .i64 m, .int .i64 d]] w fun e w' => e = .returned (.tuple #[.agg #[.int .i64 d, .int .i64 m], .int .i64 0]) ∧ Below w.heap.size w w' := by
  refine callsIn_wide.2 ?_
  have hr := hv
  simp only [Sp.rvalid, decide_eq_true_eq] at hr
  have := calls_ct (P := Go.Proofs.Try.prog) (w := w) s38 (by kernel_rfl) rfl (args := [[.i m, .i d]]) (vals := [.agg #[.int .i64 m, .int .i64 d]])
    (show Wfs [.agg [.int .i64 m, .int .i64 d]] by simp only [Wfs, Wf, InR, and_true]; omega) trivial
    (show VRs (V0 w) [.agg [.int .i64 m, .int .i64 d]] _ by
      simp only [VRs, VR]
      exact ⟨_, _, rfl, ⟨[.int .i64 m, .int .i64 d], rfl, by simp [Value.oneCell'], _, _, rfl, rfl, _, _, rfl, rfl, rfl⟩, rfl⟩)
  refine this.mono fun e w' => ?_
  rintro ⟨v, rfl, hb, hvr⟩
  have h1 : VR { V0 w with w := w' } (.tup [.agg [.int .i64 (Sp.invV m d d), .int .i64 (Sp.invV m d m)], .int .i64 (Sp.invE m d)]) v := hvr
  simp only [VR, VRs] at h1
  obtain ⟨_, rfl, _, _, rfl, ⟨_, rfl, _, _, _, rfl, rfl, _, _, rfl, rfl, rfl⟩, _, _, rfl, rfl, rfl⟩ := h1
  refine ⟨?_, hb⟩
  simp [Sp.invV, Sp.invE, hv]
theorem ceil_in (n : Nat) (q m d : Int) (hv : Sp.rvalid m d = true) (hq : -9223372036854775808 ≤ q ∧ q ≤ 9223372036854775807) (w : World) :
    CallsIn Fence.wide n Go.Proofs.Try.prog 39 #[.int .i64 q, .agg #[.int .i64 m, .int .i64 d]] w fun e w' => e = .returned (.tuple #[.int .i64 (Sp.ceiV q m d), .int .i64 (Sp.ceiE q m d)]) ∧ Below w.heap.size w w' := by
  refine callsIn_wide.2 ?_
  have hr := hv
  simp only [Sp.rvalid, decide_eq_true_eq] at hr
  have := calls_ct (P := Go.Proofs.Try.prog) (w := w) s39 (by kernel_rfl) rfl (args := [[.i q], [.i m, .i d]]) (vals := [.int .i64 q, .agg #[.int .i64 m, .int .i64 d]])
    (show Wfs [.int .i64 q, .agg [.int .i64 m, .int .i64 d]] by simp only [Wfs, Wf, InR, and_true]; omega) trivial
    (show VRs (V0 w) [.int .i64 q, .agg [.int .i64 m, .int .i64 d]] _ by
      simp only [VRs, VR]
      exact ⟨_, _, rfl, rfl, _, _, rfl, ⟨[.int .i64 m, .int .i64 d], rfl, by simp [Value.oneCell'], _, _, rfl, rfl, _, _, rfl, rfl, rfl⟩, rfl⟩)
  refine this.mono fun e w' => ?_
  rintro ⟨v, rfl, hb, hvr⟩
  have h1 : VR { V0 w with w := w' } (.tup [.int .i64 (Sp.ceiV q m d), .int .i64 (Sp.ceiE q m d)]) v := hvr
  simp only [VR, VRs] at h1
  obtain ⟨_, rfl, _, _, rfl, rfl, _, _, rfl, rfl, rfl⟩ := h1
  exact ⟨rfl, hb⟩
theorem Sp.rv_comm {n d : Int} (h : Sp.rvalid n d = true) : Sp.rvalid d n = true := by
  have hc : Sp.gcd d n = Sp.gcd n d := by unfold Sp.gcd; rw [Int.gcd_comm]
  simp only [Sp.rvalid, decide_eq_true_eq] at h ⊢
  rw [hc]
  omega
/-- Rounded upwards, at a usual rate. -/
theorem Sp.cei_cu {m M n d : Int} (h : Sp.cu n d = true) (h0 : 0 ≤ M) (h1 : M ≤ 1099511627776) (h2 : m ≤ M * n / d) (h3 : -1125899906842624 ≤ m) :
    Sp.ceiV m d n = -(-m * d / n) ∧ Sp.ceiV m d n ≤ M ∧ -1152921504606846976 ≤ Sp.ceiV m d n := by
  obtain ⟨hv, a1, b1, a2, b2, c1, c2⟩ := Sp.cu_rv h
  obtain ⟨f0, f1, _, _⟩ := Sp.flo_cu h h0 h1
  have k1 : m * d ≤ M * n := by
    have h4 : m * d ≤ M * n / d * d := Int.mul_le_mul_of_nonneg_right h2 (by omega)
    exact Int.le_trans h4 (Int.ediv_mul_le _ (by omega))
  have k2 : -(-m * d / n) ≤ M := by
    have h5 : -M ≤ -m * d / n := by
      rw [Int.le_ediv_iff_mul_le (by omega), Int.neg_mul, Int.neg_mul]
      omega
    omega
  have k3 : -m * d / n ≤ 1152921504606846976 := by
    have h6 : -m * d ≤ 1125899906842624 * d := Int.mul_le_mul_of_nonneg_right (by omega) (by omega)
    have h7 : 1125899906842624 * d ≤ 1152921504606846976 * n := by omega
    have h8 := Int.ediv_le_ediv (show 0 < n by omega) (Int.le_trans h6 h7)
    rwa [Int.mul_ediv_cancel _ (by omega)] at h8
  have kc : Sp.chk m d n = 0 := by unfold Sp.chk; rw [if_neg (by simp [Sp.rv_comm hv]), if_neg (by omega)]
  have ki : Sp.inr (Sp.cei m d n) = true := by unfold Sp.inr Sp.cei; rw [decide_eq_true_eq]; omega
  have ke : Sp.ceiE m d n = 0 := by unfold Sp.ceiE; rw [if_neg (by simp [kc]), ki]; rfl
  have kv : Sp.ceiV m d n = -(-m * d / n) := by unfold Sp.ceiV; rw [if_pos ke]; rfl
  exact ⟨kv, by rw [kv]; exact k2, by rw [kv]; omega⟩
theorem cell_at {W : World} {B : Nat} {c : Array Value} {ty : TypeId} {x : Nat × Nat} (h : W.heap[B]? = some (.cells c ty x)) (j : Nat) : W.cell? ⟨B, j, none⟩ = c[j]? := by simp only [World.cell?, h]; rfl
theorem cells_below {W W' : World} {B : Nat} {o : Obj} (h : W.heap[B]? = some o) (hb : Below W.heap.size W W') : W'.heap[B]? = some o := (hb.block B (Array.getElem?_eq_some_iff.1 h).1).trans h
theorem cells_alloc {W : World} {B : Nat} {o : Obj} (h : W.heap[B]? = some o) (q : Obj) : (W.alloc q).heap[B]? = some o := (Below.heap_alloc W q B (Array.getElem?_eq_some_iff.1 h).1).trans h
def toI (w : World) (fr : Int) (pre : List Pq) (W : World) : Prop := (((Boxed W (w.heap.size + 1) 2 (.int .i64 fr) ∧ Boxed W (w.heap.size + 1 + 1) 2 (.int .i64 0)) ∧ Boxed W (w.heap.size + 1 + 1 + 1) 30 (.int .i64 0)) ∧ (∀ p ∈ pre, p.1.val p.1.u < fr)) ∧ Below w.heap.size w W
def toIx (w : World) (fr : Int) (c : Code) (pre : List Pq) (W : World) : Prop := (∃ ini last, c = .ret ∧ pre = ini ++ [last] ∧ (∀ p ∈ ini, p.1.val p.1.u < fr) ∧ fr ≤ last.1.val last.1.u ∧ Boxed W (w.heap.size + 1 + 1) 2 (.int .i64 (last.1.f + max 0 (Sp.ceiV (fr - last.1.b) last.1.d last.1.n))) ∧ Boxed W (w.heap.size + 1 + 1 + 1) 30 (.int .i64 0)) ∧ Below w.heap.size w W
set_option maxRecDepth 100000 in
set_option maxHeartbeats 4000000 in
theorem timeOf_in (n : Nat) (hn : 6 ≤ n) (b off cap len : Nat) (fr : Int) (F N D' U G : Nat → Int) (w : World) (hp : Pcs w b off len F N D' U G) (ht : 0 ≤ fr ∧ fr ≤ 9223372036854775807)
    (hval : ∀ W, Below w.heap.size w W → CallsIn Fence.wide (n - 1) Go.Proofs.Try.prog 17 #[.agg #[.slice (some ⟨b, off, none⟩) len cap]] W fun e W' => e = .returned (.bool true) ∧ Below W.heap.size W W') :
    CallsIn Fence.wide n Go.Proofs.Try.prog 26 #[.agg #[.slice (some ⟨b, off, none⟩) len cap], .int .i64 fr] w fun e W' => ∃ v x, e = .returned (.tuple #[.int .i64 v, .int .i64 x]) ∧ Below w.heap.size w W' ∧
      ((v = 0 ∧ x = 13 ∧ ∀ k, k < len → Sp.pat (F k) (N k) (D' k) (G k) (U k) < fr) ∨ (∃ k, k < len ∧ v = F k + max 0 (Sp.ceiV (fr - G k) (D' k) (N k)) ∧ x = 0 ∧ (∀ j, j < k → Sp.pat (F j) (N j) (D' j) (G j) (U j) < fr) ∧ fr ≤ Sp.pat (F k) (N k) (D' k) (G k) (U k))) := by
  have h1 : 1 ≤ n := by omega
  refine callsIn_of_wp_marks Go.Proofs.Try.func26 rfl trivial ?_ rfl
  simp only [Go.Proofs.Try.ntmps26, List.size_toArray, List.length_cons, List.length_nil, Nat.reduceAdd, Nat.reduceSub, Array.replicate_succ, Array.replicate_zero, List.push_toArray, List.append_toArray, List.nil_append, List.cons_append]
  have h36 : Fence.wide.fn 36 := trivial
  have h17 : Fence.wide.fn 17 := trivial
  have hfr : ¬ fr < 0 := by omega
  have bS := (((Boxed.new w 24 (.slice (some ⟨b, off, none⟩) len cap)).alloc (.cells #[.int .i64 fr] 2)).alloc (.cells #[.int .i64 0] 2)).alloc (.cells #[.int .i64 0] 30)
  have bT := ((Boxed.new (w.alloc (.cells #[(.slice (some ⟨b, off, none⟩) len cap)] 24)) 2 (.int .i64 fr)).alloc (.cells #[.int .i64 0] 2)).alloc (.cells #[.int .i64 0] 30)
  have b4 := (Boxed.new ((w.alloc (.cells #[(.slice (some ⟨b, off, none⟩) len cap)] 24)).alloc (.cells #[.int .i64 fr] 2)) 2 (.int .i64 0)).alloc (.cells #[.int .i64 0] 30)
  have b5 := Boxed.new (((w.alloc (.cells #[(.slice (some ⟨b, off, none⟩) len cap)] 24)).alloc (.cells #[.int .i64 fr] 2)).alloc (.cells #[.int .i64 0] 2)) 30 (.int .i64 0)
  simp only [World.size_alloc] at bT b4 b5
  have hB0 : Below w.heap.size w ((((w.alloc (.cells #[(.slice (some ⟨b, off, none⟩) len cap)] 24)).alloc (.cells #[.int .i64 fr] 2)).alloc (.cells #[.int .i64 0] 2)).alloc (.cells #[.int .i64 0] 30)) :=
    ((((Below.refl _ w).alloc (Nat.le_refl _) _).alloc (by simp) _).alloc (by simp; omega) _).alloc (by simp; omega) _
  have hval' := hval _ hB0
  gi_wp2_with (gi_at_call 17; refine hval'.mono ?_; rintro e w' ⟨rfl, hb17⟩; have aS := bS.kept (grown_below hb17) (by simp); have aT := bT.kept (grown_below hb17) (by simp); have a4 := b4.kept (grown_below hb17) (by simp); have a5 := b5.kept (grown_below hb17) (by simp); have cS := aS.cell; have cT := aT.cell)
  refine (pieces_in (n - 1) _ _ _ _).mono ?_
  rintro e w'' ⟨rfl, rfl⟩
  have hsz : w'.heap.size ≥ w.heap.size + 4 := by have := hb17.size; simp at this; omega
  have bC := Boxed.new w' 24 (.slice (some ⟨b, off, none⟩) len cap)
  have bT := aT.alloc (.cells #[.slice (some ⟨b, off, none⟩) len cap] 24)
  have b4 := a4.alloc (.cells #[.slice (some ⟨b, off, none⟩) len cap] 24)
  have b5 := a5.alloc (.cells #[.slice (some ⟨b, off, none⟩) len cap] 24)
  have hB1 : Below w.heap.size w (w'.alloc (.cells #[.slice (some ⟨b, off, none⟩) len cap] 24)) := (hB0.trans (hb17.mono (by simp; omega))).alloc (by omega) _
  have hsz' : (w'.alloc (.cells #[.slice (some ⟨b, off, none⟩) len cap] 24)).heap.size = w'.heap.size + 1 := by simp
  clear bS aS aT a4 a5 cS cT hb17 hval hval' hB0
  obtain ⟨W0, hW0⟩ : ∃ W0, w'.alloc (.cells #[.slice (some ⟨b, off, none⟩) len cap] 24) = W0 := ⟨_, rfl⟩
  rw [hW0] at bT b4 b5 bC hB1 hsz' ⊢
  clear hW0
  obtain ⟨Z, hZ⟩ : ∃ Z, Z = w'.heap.size := ⟨_, rfl⟩
  rw [← hZ] at hsz hsz' bC ⊢
  clear hZ
  gi_wp2
  refine wpIn_rangeFunc_ownH rfl h1 (gf := 47) (lb := #[.pointer (some ⟨Z, 0, none⟩)]) rfl trivial (enters_of Go.Proofs.Try.func47 (by kernel_rfl) rfl)
    (pieces_stops (n - 1) (by omega) Z b off cap len F N D' U G (fun _ => False) W0 (fun k h => h.elim) id id (by omega) bC.cell (hp.below hB1)) (fun h k => KpB.trans h k) (fun W l o o' _ h1 h2 _ => KpB.putObj h1 h2) (Below.refl _ _) (fun _ => rfl)
    (toI w fr)
    (toIx w fr)
    (OwnFrom.and (OwnFrom.and (OwnFrom.and (OwnFrom.and (Own.from (boxed_own _ _ _) _) (Own.from (boxed_own _ _ _) _)) (Own.from (boxed_own _ _ _) _)) (ownFrom_pure _ _)) (ownFrom_below (Nat.le_refl _) (by omega)))
    (fun c => OwnFrom.and (fun s X Y row hs hg hr => by obtain ⟨ini, last, h1, h2, h3, h4, h5, h6⟩ := hs; exact ⟨ini, last, h1, h2, h3, h4, boxed_own _ 2 (fun (_ : Unit) => Value.int .i64 (last.1.f + max 0 (Sp.ceiV (fr - last.1.b) last.1.d last.1.n))) () X Y row h5 hg (fun r e => (hr r e).2), boxed_own _ 30 (fun (_ : Unit) => Value.int .i64 0) () X Y row h6 hg (fun r e => (hr r e).2)⟩) (ownFrom_below (Nat.le_refl _) (by omega)))
    ⟨⟨⟨⟨bT, b4⟩, b5⟩, by simp⟩, hB1⟩
    (fun x a' W => ∃ Bx, w.heap.size + 1 + 1 + 1 < Bx ∧ W.heap[Bx]? = some (.cells #[.int .i64 x.1.f, .int .i64 x.1.n, .int .i64 x.1.d, .int .i64 x.1.u, .int .i64 x.1.b] 71 (0, 0)) ∧ a' = { tmps := #[.agg #[.slice (some ⟨b, off, none⟩) len cap], .int .i64 fr, .pointer (some ⟨w.heap.size, 0, none⟩), .pointer (some ⟨w.heap.size + 1, 0, none⟩), .pointer (some ⟨w.heap.size + 1 + 1, 0, none⟩), .pointer (some ⟨w.heap.size + 1 + 1 + 1, 0, none⟩), .pointer (some ⟨Bx, 0, none⟩), undef, undef, undef, undef, .bool false, .agg #[.slice (some ⟨b, off, none⟩) len cap], .bool true, .bool false, .bool (decide (fr < 0)), .int .i64 fr, .bool (decide (fr < 0)), .agg #[.slice (some ⟨b, off, none⟩) len cap], .func (.func 47) #[] #[.pointer (some ⟨Z, 0, none⟩)], .agg #[.int .i64 x.1.f, .int .i64 x.1.n, .int .i64 x.1.d, .int .i64 x.1.u, .int .i64 x.1.b], undef, undef, undef, undef, undef, undef, undef, undef, undef, undef, undef, undef, undef, undef, undef, undef, undef, undef, undef, undef, undef, undef, undef, undef, undef, undef, undef, undef], defers := [] })
    (fun x a' _ X Y row hs hg hr => by obtain ⟨Bx, h1, h2, h3⟩ := hs; exact ⟨Bx, h1, cells_own Bx _ _ () X Y row h2 hg (fun r e => (hr r e).2), h3⟩)
    ?assign ?body ?done ?stop
  case assign =>
    rintro l pre x W K ⟨⟨⟨⟨bT1, b41⟩, b51⟩, hpre⟩, hB1⟩ hK
    simp only [Pc.enc]
    gi_wp2
    exact hK _ _ ((KeepsOthers.alloc _ _).from _) (KpB.alloc _ _ _) ⟨⟨⟨⟨bT1.alloc _, b41.alloc _⟩, b51.alloc _⟩, hpre⟩, hB1.alloc hB1.size _⟩ ⟨W.heap.size, b51.lt, World.alloc_heap_new W _, rfl⟩
  case body =>
    rintro l pre x a' W hl ⟨r, hr⟩ ⟨⟨⟨⟨bT1, b41⟩, b51⟩, hpre⟩, hB1⟩ ⟨Bx, hBx, hX, rfl⟩ hlt
    clear hsz'
    have cT := bT1.cell
    have c4 := b41.cell
    have f4 := b41.frozen
    have c5 := b51.cell
    have f5 := b51.frozen
    have hxv := x.2
    obtain ⟨q1, q2, q3, q4, q5, q6⟩ := hxv
    have x0 := cell_at hX 0
    have x1 := cell_at hX 1
    have x2 := cell_at hX 2
    have x3 := cell_at hX 3
    have x4 := cell_at hX 4
    simp only [List.getElem?_toArray, List.getElem?_cons_zero, List.getElem?_cons_succ] at x0 x1 x2 x3 x4
    have h1' : 1 ≤ n - 1 - 1 := by omega
    have h37 : Fence.wide.fn 37 := trivial
    have h38 : Fence.wide.fn 38 := trivial
    have h39 : Fence.wide.fn 39 := trivial
    have hmix := followsMixed
    have hat := fun W => at_in (n - 1 - 1 - 1) x.1.f x.1.n x.1.d x.1.u x.1.b x.1.u x.2 ⟨by omega, by omega⟩ W
    have bd : Below w.heap.size W W.drew := ⟨rfl, rfl, rfl, Nat.le_refl _, fun _ _ => rfl⟩
    by_cases hft : x.1.val x.1.u < fr
    · have hft' : Sp.pat x.1.f x.1.n x.1.d x.1.b x.1.u < fr := hft
      gi_wp2
      gi_region_with_o (gi_at_call 37; refine (CallsIn.inRound l (hat _)).mono ?_; rintro e W4 ⟨rfl, hb4⟩; have bT4 := (show Boxed W.drew (w.heap.size + 1) 2 (.int .i64 fr) from bT1).kept (grown_below hb4) (by simp); have cT4 := bT4.cell)
      all_goals gi_wp2
      all_goals exact ⟨((KeepsOthers.drew W).from _).trans (keepsFrom_below hb4), (KpB.drew _ W).trans (KpB.below hb4), ⟨⟨⟨bT4, (show Boxed W.drew _ 2 (.int .i64 0) from b41).kept (grown_below hb4) (by simp)⟩, (show Boxed W.drew _ 30 (.int .i64 0) from b51).kept (grown_below hb4) (by simp)⟩, fun p hp' => (List.mem_append.1 hp').elim (hpre p) (fun e => by simp at e; subst e; exact hft)⟩, (hB1.trans bd).trans (hb4.mono (hB1.trans bd).size)⟩
    · have hft' : ¬ Sp.pat x.1.f x.1.n x.1.d x.1.b x.1.u < fr := hft
      have hm : fr - x.1.b ≤ (x.1.u - x.1.f) * x.1.n / x.1.d := by
        have h0 : fr ≤ x.1.b + (x.1.u - x.1.f) * x.1.n / x.1.d := by unfold Sp.pat at hft'; omega
        omega
      obtain ⟨k1, k2, k3⟩ := Sp.cei_cu (m := fr - x.1.b) (M := x.1.u - x.1.f) q1 (by omega) (by omega) hm (by omega)
      clear k1 hm
      have hrv := (Sp.cu_rv q1).1
      have hrv' := Sp.rv_comm hrv
      have hle : fr ≤ x.1.val x.1.u := by omega
      obtain ⟨cc, hcc⟩ : ∃ cc, cc = Sp.ceiV (fr - x.1.b) x.1.d x.1.n := ⟨_, rfl⟩
      rw [← hcc] at k2 k3
      have hce := fun W => ceil_in (n - 1 - 1 - 1) (fr - x.1.b) x.1.d x.1.n hrv' (by omega) W
      simp only [← hcc] at hce
      · gi_wp2
        gi_region_with_o (gi_at_call 37; refine (CallsIn.inRound l (hat _)).mono ?_; rintro e W4 ⟨rfl, hb4⟩; have bT4 := (show Boxed W.drew (w.heap.size + 1) 2 (.int .i64 fr) from bT1).kept (grown_below hb4) (by simp); have cT4 := bT4.cell)
        all_goals
          have b44 := (show Boxed W.drew (w.heap.size + 1 + 1) 2 (.int .i64 0) from b41).kept (grown_below hb4) (by simp)
          have b54 := (show Boxed W.drew (w.heap.size + 1 + 1 + 1) 30 (.int .i64 0) from b51).kept (grown_below hb4) (by simp)
          have hX4 := cells_below (W := W.drew) hX hb4
          have hB4 := (hB1.trans bd).trans (hb4.mono (hB1.trans bd).size)
          have hK4 : KeepsFrom W0.heap.size W W4 := ((KeepsOthers.drew W).from _).trans (keepsFrom_below hb4)
          have y1 := cell_at hX4 1
          have y2 := cell_at hX4 2
          simp only [List.getElem?_toArray, List.getElem?_cons_zero, List.getElem?_cons_succ] at y1 y2
          clear hb4 hX x0 x1 x2 x3 x4 bT1 b41 b51 cT c4 f4 c5 f5 hat
          gi_wp2_with (gi_at_call 38; refine (CallsIn.inRound l (inv_in _ x.1.n x.1.d hrv _)).mono ?_; rintro e W5 ⟨rfl, hb5⟩; have bT5 := bT4.kept (grown_below hb5) (by simp); have b45 := b44.kept (grown_below hb5) (by simp); have b55 := b54.kept (grown_below hb5) (by simp); have hX5 := cells_below hX4 hb5; have z0 := fun q => cell_at (cells_alloc hX5 q) 0; have z4 := fun q => cell_at (cells_alloc hX5 q) 4; have zT := fun q => (bT5.alloc q).cell; simp only [List.getElem?_toArray, List.getElem?_cons_zero, List.getElem?_cons_succ] at z0 z4)
          refine (CallsIn.inRound l (hce _)).mono ?_
          rintro e W6 ⟨rfl, hb6⟩
          have b46 := (b45.alloc _).kept (grown_below hb6) (by simp)
          have b56 := (b55.alloc _).kept (grown_below hb6) (by simp)
          have hX6 := cells_below (cells_alloc hX5 _) hb6
          have u0 := cell_at hX6 0
          simp only [List.getElem?_toArray, List.getElem?_cons_zero, List.getElem?_cons_succ] at u0
          have c4 := b46.cell
          have f4 := b46.frozen
          have c5 := b56.cell
          have f5 := b56.frozen
          have hB5 := hB4.trans (hb5.mono hB4.size)
          have hB6 := (hB5.alloc hB5.size (.cells #[.int .i64 x.1.d, .int .i64 x.1.n] 27))
          have hB6 := hB6.trans (hb6.mono hB6.size)
          have hK6 := (hK4.trans (keepsFrom_below hb5)).trans (((KeepsOthers.alloc _ _).from _).trans (keepsFrom_below hb6))
          clear z0 z4 zT hX6 hX5 hb6 hb5 b45 b55 bT5 hce y1 y2 hX4 b44 b54 cT4 bT4 hB4 hK4 hB5
          gi_wp2
          all_goals
            rename_i hmx
            refine ⟨hK6.trans (((KeepsOthers.setCell _ _ _).from _).trans ((KeepsOthers.setCell _ _ _).from _)), ⟨pre, x, rfl, rfl, hpre, hle, ?_, ?_⟩, ?_⟩
            · refine Boxed.other ?_ (by omega) _
              first | (rw [show max 0 (Sp.ceiV (fr - x.1.b) x.1.d x.1.n) = Sp.ceiV (fr - x.1.b) x.1.d x.1.n by omega]; exact b46.set _) | (rw [show max 0 (Sp.ceiV (fr - x.1.b) x.1.d x.1.n) = 0 by omega]; simp only [Int.add_zero]; exact b46.set _)
            · exact (b56.other (by omega) _).set _
            · exact (hB6.setCell (p := ⟨w.heap.size + 1 + 1, 0, none⟩) (by simp; omega) _).setCell (p := ⟨w.heap.size + 1 + 1 + 1, 0, none⟩) (by simp; omega) _
  case done =>
    rintro D ys W hD hys ⟨⟨⟨⟨bT1, b41⟩, b51⟩, hpre⟩, hB1⟩ hK
    have c4 := b41.cell
    have f4 := b41.frozen
    have c5 := b51.cell
    have f5 := b51.frozen
    gi_wp2
    have hK' := ((KeepsOthers.setCell W ⟨w.heap.size + 1 + 1, 0, none⟩ (.int .i64 0)).trans (KeepsOthers.setCell _ ⟨w.heap.size + 1 + 1 + 1, 0, none⟩ (.int .i64 13))).same D _ hK rfl
    have d4 := ((b41.set (.int .i64 0)).other (B' := w.heap.size + 1 + 1 + 1) (by omega) (.int .i64 13)).kept (grownBy_putObj' _ D (.deferred none)) (by simp; omega)
    have d5 := ((b51.other (B' := w.heap.size + 1 + 1) (by omega) (.int .i64 0)).set (.int .i64 13)).kept (grownBy_putObj' _ D (.deferred none)) (by simp; omega)
    have e4 := d4.cell
    have e5 := d5.cell
    have hBB := (hB1.setCell (p := ⟨w.heap.size + 1 + 1, 0, none⟩) (by simp; omega) (.int .i64 0)).setCell (p := ⟨w.heap.size + 1 + 1 + 1, 0, none⟩) (by simp; omega) (.int .i64 13)
    refine ⟨by simp, .inl ⟨_, _, rfl, run_takeDeferred hK', ?_⟩⟩
    refine ⟨.tuple #[.int .i64 0, .int .i64 13], by simp [results, Go.Proofs.Try.f26, go_sem, e4, e5], _, _, rfl, hBB.trans (belowK_b (w := w) (Nat.le_refl _) _ D _ _ (by omega) hK' rfl rfl), .inl ⟨rfl, rfl, fun k hk => ?_⟩⟩
    have hm : Pc.mk (F k) (N k) (D' k) (U k) (G k) ∈ pv ys := by rw [show pv ys = Sp.pl F N D' U G len from hys]; exact List.mem_map.2 ⟨k, List.mem_range.2 hk, rfl⟩
    obtain ⟨p, hp1, hp2⟩ := List.mem_map.1 hm
    have := hpre p hp1
    rw [hp2] at this
    exact this
  case stop =>
    rintro D c pre W hD ⟨k, hk, hkp⟩ ⟨⟨ini, last, rfl, rfl, hini, hlast, b41, b51⟩, hB1⟩ hK
    have c4 := b41.cell
    have c5 := b51.cell
    gi_wp2
    have hkp' : pv ini ++ [last.1] = Sp.pl F N D' U G k := by rw [← hkp]; exact (pv_snoc ini last).symm
    obtain ⟨k', rfl⟩ : ∃ k', k = k' + 1 := by
      cases k with
      | zero => simp [Sp.pl] at hkp'
      | succ k' => exact ⟨k', rfl⟩
    rw [show Sp.pl F N D' U G (k' + 1) = Sp.pl F N D' U G k' ++ [Pc.mk (F k') (N k') (D' k') (U k') (G k')] by simp [Sp.pl, List.range_succ]] at hkp'
    obtain ⟨e1, e2⟩ := List.append_inj' hkp' rfl
    have e2 : last.1 = Pc.mk (F k') (N k') (D' k') (U k') (G k') := by simpa using e2
    rw [e2] at hlast b41
    have e4 := (b41.kept (grownBy_putObj' _ D (.deferred none)) (by simp; omega)).cell
    have e5 := (b51.kept (grownBy_putObj' _ D (.deferred none)) (by simp; omega)).cell
    refine ⟨by simp, .inl ⟨_, _, rfl, run_takeDeferred hK, ?_⟩⟩
    refine ⟨.tuple #[.int .i64 (F k' + max 0 (Sp.ceiV (fr - G k') (D' k') (N k'))), .int .i64 0], by simp [results, Go.Proofs.Try.f26, go_sem, e4, e5], _, _, rfl, hB1.trans (belowK_b (w := w) (Nat.le_refl _) W D _ _ (by omega) hK rfl rfl), .inr ⟨k', by omega, rfl, rfl, fun j hj => ?_, hlast⟩⟩
    have hm : Pc.mk (F j) (N j) (D' j) (U j) (G j) ∈ pv ini := by rw [e1]; exact List.mem_map.2 ⟨j, List.mem_range.2 hj, rfl⟩
    obtain ⟨p, hp1, hp2⟩ := List.mem_map.1 hm
    have := hini p hp1
    rw [hp2] at this
    exact this
end Go.Proofs
