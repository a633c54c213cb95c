/- Operations on slices of the call's own: what they say is what they do. -/
import Derived.Test.YtojecjbhdligcaaDoorSxExt
set_option linter.unusedVariables false
set_option linter.unusedSimpArgs false
namespace Go.Sx
open Go.RowKit
variable {P : Program} {G : Nat → Option Ct} {o : Oper} {a : Act} {V : Vw} {H : Nat → Option HB} {ev : Operand → SV}

theorem frz_newH {heap : List HB} {ids : List Nat} (hag : ∀ k, k ∈ ids → V.D k → H k = heap[k]?) {k : Nat} (hd : V.D k) :
    newH heap (frzH heap ids) ids H k = (if k ∈ ids then (H k).map hbFrz else H k) := by
  unfold newH
  by_cases hk : k ∈ ids
  · rw [if_pos (.inl hk), if_pos hk, frzH_get, if_pos hk, hag k hk hd]
  · rw [if_neg, if_neg hk]
    rintro (h | h)
    · exact hk h
    · rw [frzH_len] at h; omega

theorem sIdxH_run {t : TypeId} {heap : List HB} {x i r : SV} {u v : Value} {c : Q} {R : List Nat} (h : sIdxH P t heap x i = some (c, r, R)) (hc : c.h) (hx : VR V x u) (hi : VR V i v) (hH : Heap V H) (hag : ∀ k, k ∈ R → V.D k → H k = heap[k]?) :
    ∃ z, (Instr.indexAt t u v).run P V.w = .ok z V.w ∧ VR V r z := by
  unfold sIdxH at h
  split at h
  · rename_i k d
    have hx0 := hx
    simp only [VR] at hx0
    obtain ⟨hd, hle, _, hv⟩ := hx0
    split at h
    · rename_i kk n l elem hn hu
      rw [numOf_VR hn hi]
      split at h
      · rename_i e ty d' xs size hk hs
        split at h
        · rename_i hcd
          obtain ⟨hcd, hl⟩ := hcd
          simp only [Option.some.injEq, Prod.mk.injEq] at h
          obtain ⟨rfl, rfl, rfl⟩ := h
          obtain ⟨hb, h1, h2⟩ := hH.rep k hd
          rw [hag k (by simp) hd, hk] at h1
          injection h1 with h1; subst h1
          obtain ⟨hL, hck, m, us, hown, hm, hr⟩ := h2
          obtain ⟨c0, c1⟩ := hc
          simp only [iLen] at c1
          have hv' := hv (by rw [hck]; exact hcd)
          rcases hown.2 with ⟨h0, _⟩ | ⟨g, cap, cur, hp, h0, hh, q1, q2, q3, q4⟩
          · omega
          · rw [hp] at hv'
            subst hv'
            have hlt : n < (m : Int) := by omega
            refine ⟨.pointer (some ⟨g, 0 + n.toNat * size, none⟩), ?_, ?_⟩
            · simp only [Instr.indexAt, asIntOf, Sem.run_bind, Sem.run_pure, Result.andThen_ok, run_under hu, if_pos (And.intro c0 hlt), run_size hs, add_mk]
            · simp only [VR]
              exact ⟨hd, hle, ⟨_, _, rfl⟩, fun _ => ⟨g, m, cap, hp, c0, hlt, by rw [Nat.zero_add, Nat.add_zero]⟩⟩
        · cases h
      · rename_i e d' xs size hk hs
        split at h
        · rename_i hcd
          obtain ⟨hcd, hl⟩ := hcd
          simp only [Option.some.injEq, Prod.mk.injEq] at h
          obtain ⟨rfl, rfl, rfl⟩ := h
          obtain ⟨hb, h1, h2⟩ := hH.rep k hd
          rw [hag k (by simp) hd, hk] at h1
          injection h1 with h1; subst h1
          obtain ⟨hck, hr⟩ := h2
          have hv' := hv (by rw [hck]; exact hcd)
          rw [← hv'] at hr
          exact sIdx_run (x := .sl e xs) (i := i) (c := some (pIn 0 (iLen xs) n)) (by simp only [sIdx, hn, hu, hs]; rw [if_pos hl]) hc (by simpa only [VR] using hr) (by rw [← numOf_VR hn hi]; exact hi)
        · cases h
      · rename_i ty d' m i0 x0 f0 size hk hs
        split at h
        · rename_i hcd
          obtain ⟨hcd, hl⟩ := hcd
          subst hl
          simp only [Option.some.injEq, Prod.mk.injEq] at h
          obtain ⟨rfl, rfl, rfl⟩ := h
          obtain ⟨hb, h1, h2⟩ := hH.rep k hd
          rw [hag k (by simp) hd, hk] at h1
          injection h1 with h1; subst h1
          obtain ⟨hL, hck, us, hown, hr⟩ := h2
          obtain ⟨c0, c1⟩ := hc
          have hv' := hv (by rw [hck]; exact hcd)
          rcases hown.2 with ⟨h0, _⟩ | ⟨g, cap, cur, hp, h0, hh, q1, q2, q3, q4⟩
          · omega
          · rw [hp] at hv'
            subst hv'
            refine ⟨.pointer (some ⟨g, 0 + n.toNat * 1, none⟩), ?_, ?_⟩
            · simp only [Instr.indexAt, asIntOf, Sem.run_bind, Sem.run_pure, Result.andThen_ok, run_under hu, if_pos (And.intro c0 c1), run_size hs, add_mk]
            · simp only [VR]
              exact ⟨hd, hle, ⟨_, _, rfl⟩, fun _ => ⟨g, m, cap, hp, c0, c1, by rw [Nat.zero_add, Nat.add_zero]⟩⟩
        · cases h
      · cases h
    · cases h
  · cases hs : sIdx P t x i with
    | none => simp [hs] at h
    | some p =>
      obtain ⟨q, r'⟩ := p
      simp only [hs, Option.map_some, Option.some.injEq, Prod.mk.injEq] at h
      obtain ⟨rfl, rfl, rfl⟩ := h
      exact sIdx_run hs hc hx hi

theorem slicey_VR {x : SV} {u : Value} (h : slicey x = true) (hx : VR V x u) : ∃ a n m, u = .slice a n m := by
  cases x <;> simp only [slicey] at h <;> first | (cases h; done) | skip
  · simp only [VR, RepC] at hx
    obtain ⟨a, n, m, rfl, _⟩ := hx
    exact ⟨a, n, m, rfl⟩
  · simp only [VR] at hx; exact ⟨_, _, _, hx⟩
  · simp only [VR] at hx
    obtain ⟨a, m, rfl, _⟩ := hx
    exact ⟨_, _, _, rfl⟩
  · simp only [VR] at hx
    obtain ⟨a, rfl⟩ := hx
    exact ⟨_, _, _, rfl⟩
theorem isZero_VR {x : Option SV} (h : isZero x = true) : ∃ y k, x = some y ∧ numOf y = some (k, 0, true) := by
  unfold isZero at h
  split at h
  · rename_i y
    split at h
    · rename_i k n hn
      simp only [decide_eq_true_eq] at h
      subst h
      exact ⟨y, k, rfl, hn⟩
    · cases h
  · cases h

theorem sSliceH_lands {t : TypeId} {x : Operand} {lo hi mx : Option Operand} {heap heap' : List HB} {hyp chk : Q} {sv : SV} {R W : List Nat} (ho : o.op = .slice t x lo hi mx) (h : sSliceH P t heap (ev x) (lo.map ev) (hi.map ev) (mx.map ev) = .ok hyp chk sv heap' R W)
    (hchk : chk.h) (hx : VR V (ev x) (a.eval x)) (hlo : ∀ y, lo = some y → VR V (ev y) (a.eval y)) (hhi : ∀ y, hi = some y → VR V (ev y) (a.eval y)) (hmx : ∀ y, mx = some y → VR V (ev y) (a.eval y)) (hH : Heap V H)
    (hag : ∀ k, k ∈ R ∨ k ∈ W → V.D k → H k = heap[k]?) : Lands P o a V sv (newH heap heap' W H) W heap.length heap'.length := by
  have vlo : ∀ y, lo.map ev = some y → ∃ v, lo.map a.eval = some v ∧ VR V y v := fun y hy => by
    cases lo with
    | none => simp at hy
    | some q => simp only [Option.map_some, Option.some.injEq] at hy; subst hy; exact ⟨_, rfl, hlo q rfl⟩
  have vhi : ∀ y, hi.map ev = some y → ∃ v, hi.map a.eval = some v ∧ VR V y v := fun y hy => by
    cases hi with
    | none => simp at hy
    | some q => simp only [Option.map_some, Option.some.injEq] at hy; subst hy; exact ⟨_, rfl, hhi q rfl⟩
  have nlo : lo.map ev = none → lo.map a.eval = none := fun hy => by cases lo <;> simp_all
  have nhi : hi.map ev = none → hi.map a.eval = none := fun hy => by cases hi <;> simp_all
  unfold sSliceH at h
  split at h
  · rename_i m hm
    split at h
    · rename_i elem hu
      split at h
      · rename_i hcond
        simp only [Bool.and_eq_true, Bool.or_eq_true] at hcond
        obtain ⟨⟨⟨⟨hsz, hsl⟩, hl0⟩, hh0⟩, hm0⟩ := hcond
        simp only [OpR.ok.injEq] at h
        obtain ⟨rfl, rfl, rfl, rfl, rfl, rfl⟩ := h
        obtain ⟨u, n, cap, hu'⟩ := slicey_VR hsl hx
        obtain ⟨yh, kh, eyh, hnh⟩ := isZero_VR hh0
        obtain ⟨ym, km, eym, hnm⟩ := isZero_VR hm0
        injection eym with eym
        rw [← eym] at hnm
        obtain ⟨vh, evh, hvh⟩ := vhi yh eyh
        obtain ⟨q, hq⟩ : ∃ q, mx = some q := by cases mx with | none => simp at hm | some q => exact ⟨q, rfl⟩
        have hvm := hmx q hq
        rw [hq] at hm
        simp only [Option.map_some, Option.some.injEq] at hm
        rw [hm] at hvm
        have e1 := numOf_VR hnh hvh
        have e2 := numOf_VR hnm hvm
        obtain ⟨size, hs⟩ := Option.isSome_iff_exists.1 hsz
        have b0 : ∀ (k : IntKind) (y : Nat) (c : BoundsCode), (Instr.sliceBound (.int k 0) y c).run P V.w = .ok 0 V.w := fun k y c => sliceBound_run (n := 0) (by omega) (by omega) V.w
        have elo : lo.map a.eval = none ∨ ∃ k, lo.map a.eval = some (.int k 0) := by
          rcases hl0 with hl0 | hl0
          · left; exact nlo (by simpa using hl0)
          · right
            obtain ⟨yl, kl, eyl, hnl⟩ := isZero_VR hl0
            obtain ⟨vl, evl, hvl⟩ := vlo yl eyl
            exact ⟨kl, by rw [evl, numOf_VR hnl hvl]⟩
        have hrun : (Instr.sliceAt t (a.eval x) (lo.map a.eval) (hi.map a.eval) (mx.map a.eval)).run P V.w = .ok (.slice u 0 0) V.w := by
          rw [hu', evh, e1, hq, Option.map_some, e2]
          rcases elo with e | ⟨k, e⟩ <;> rw [e]
          · simp only [Instr.sliceAt, Instr.slice, Instr.sliceBounds, Sem.run_bind, run_under hu, Result.andThen_ok, b0, Sem.run_pure, run_size hs, Option.isSome_some, if_true]
          · simp only [Instr.sliceAt, Instr.slice, Instr.sliceBounds, Sem.run_bind, run_under hu, Result.andThen_ok, b0, Sem.run_pure, run_size hs, Option.isSome_some, if_true]
        exact lands_same (by simp only [execOp, ho]; exact run_v hrun) (by simp only [VR]; exact ⟨u, rfl⟩) hH
      · cases h
    · cases h
  · rename_i hmn
    have hmx0 : mx = none := by cases mx with | none => rfl | some q => simp at hmn
    subst hmx0
    split at h
    · rename_i k c hev
      rw [hev] at hx
      have hx0 := hx
      simp only [VR] at hx0
      obtain ⟨hd, hle, _, hv⟩ := hx0
      split at h
      · rename_i e d xs l hb elem hcur hl hhb hu
        split at h
        · rename_i hcd
          obtain ⟨hcd, hsz⟩ := hcd
          simp only [OpR.ok.injEq] at h
          obtain ⟨rfl, rfl, rfl, rfl, rfl, rfl⟩ := h
          have hag' : ∀ j, j ∈ [k] → V.D j → H j = heap[j]? := fun j hj hd => hag j (.inl hj) hd
          have hck := (curOf_rep hH hd (hag' k (by simp) hd) hcur).1
          have hdat := curOf_data (ids := [k]) hH (by simp) hd (hag' k (by simp) hd) hcur
          have hvv := hv (by rw [hck]; exact hcd)
          rw [← hvv] at hdat
          have hg := grow_frz V H [k] [k]
          obtain ⟨z, hz, hr⟩ := sSlice_run (V := V.frz H [k]) (x := .sl e xs) (c := some (geB l hb (iLen xs))) (r := .sl e (cutRows xs l hb)) (t := t) (lo := lo.map ev) (hi := hi.map ev) (vl := lo.map a.eval) (vh := hi.map a.eval) (P := P)
            (by simp only [sSlice, hl, hhb, hu, hsz, if_true]) hchk (by simpa only [VR] using hdat)
            (fun y hy => by obtain ⟨v, h1, h2⟩ := vlo y hy; exact ⟨v, h1, VR.mono hg.stays _ _ h2⟩) nlo
            (fun y hy => by obtain ⟨v, h1, h2⟩ := vhi y hy; exact ⟨v, h1, VR.mono hg.stays _ _ h2⟩) nhi
          intro K Q hK
          unfold Oper.wp
          have hrun : (execOp a.eval o).run P V.w = .ok (.value z) V.w := by simp only [execOp, ho]; exact run_v hz
          rw [hrun]
          have hfr : frz1 heap k = frzH heap [k] := rfl
          rw [hfr] at hK
          refine hK z (V.frz H [k]) hg hr ((heap_frz hH [k]).congr fun j hj => frz_newH hag' hj) fun j => ⟨.inl, fun h => h.elim id (fun h => by rw [frzH_len] at h; omega)⟩
        · cases h
      · cases h
    · rename_i hev
      split at h
      · rename_i l hb elem hl hhb hu
        split at h
        · rename_i hsz
          simp only [OpR.ok.injEq] at h
          obtain ⟨rfl, rfl, rfl, rfl, rfl, rfl⟩ := h
          obtain ⟨size, hs⟩ := Option.isSome_iff_exists.1 hsz
          obtain ⟨u, hu'⟩ : ∃ u, a.eval x = .slice u 0 0 := by
            rw [hev] at hx
            simpa only [VR] using hx
          have h0 := hchk
          have hb' : geB l hb ((0 : Nat) : Int) := hchk
          have hsb := sliceBounds_run (P := P) (isS := true) hl hhb vlo nlo vhi nhi hb' (Nat.le_refl 0) V.w
          have z1 : (l.getD 0).toNat = 0 := by cases l <;> cases hb <;> simp [geB] at hb' ⊢ <;> omega
          have z2 : (hb.getD ((0 : Nat) : Int)).toNat = 0 := by cases l <;> cases hb <;> simp [geB] at hb' ⊢ <;> omega
          rw [z1, z2] at hsb
          refine lands_same (v := .slice u 0 0) ?_ (by simp only [VR]; exact ⟨u, rfl⟩) hH
          simp only [execOp, ho, hu', Option.map_none]
          refine run_v ?_
          simp only [Instr.sliceAt, Instr.slice, Sem.run_bind, run_under hu, Result.andThen_ok, hsb, run_size hs, Sem.run_pure, if_true]
        · cases h
      · cases h
    · rename_i hev
      split at h
      · rename_i l hb elem hl hhb hu
        split at h
        · rename_i hsz
          simp only [OpR.ok.injEq] at h
          obtain ⟨rfl, rfl, rfl, rfl, rfl, rfl⟩ := h
          obtain ⟨size, hs⟩ := Option.isSome_iff_exists.1 hsz
          obtain ⟨u, hu'⟩ : ∃ u, a.eval x = .slice u 0 0 := by
            rw [hev] at hx
            simp only [VR] at hx
            exact ⟨_, hx⟩
          have hb' : geB l hb ((0 : Nat) : Int) := hchk
          have hsb := sliceBounds_run (P := P) (isS := true) hl hhb vlo nlo vhi nhi hb' (Nat.le_refl 0) V.w
          have z1 : (l.getD 0).toNat = 0 := by cases l <;> cases hb <;> simp [geB] at hb' ⊢ <;> omega
          have z2 : (hb.getD ((0 : Nat) : Int)).toNat = 0 := by cases l <;> cases hb <;> simp [geB] at hb' ⊢ <;> omega
          rw [z1, z2] at hsb
          refine lands_same (v := .slice u 0 0) ?_ (by simp only [VR]; exact ⟨u, rfl⟩) hH
          simp only [execOp, ho, hu', Option.map_none]
          refine run_v ?_
          simp only [Instr.sliceAt, Instr.slice, Sem.run_bind, run_under hu, Result.andThen_ok, hsb, run_size hs, Sem.run_pure, if_true]
        · cases h
      · cases h
    · rename_i _ _ _ _
      unfold okIf at h
      split at h
      · rename_i c r hr
        simp only [OpR.ok.injEq] at h
        obtain ⟨rfl, rfl, rfl, rfl, rfl, rfl⟩ := h
        obtain ⟨z, hz, hrz⟩ := sSlice_run (P := P) hr hchk hx vlo nlo vhi nhi
        exact lands_same (by simp only [execOp, ho]; exact run_v hz) hrz hH
      · cases h

/-! ### Shapes of types -/
theorem toCs_ofVs_rep (V : Vw) {e : List Sh} {z : List Value} {zs : List C} (h : toCs e (ofVs z) = some (zs, [])) (h1 : ∀ u ∈ z, u.oneCell' = true) : RepVs V.w V.ok e zs z := by
  have := toCs_vals V e _ _ _ _ h (VRs_ofVs V z)
  have h2 : z.drop e.length = [] := by simpa [VRs] using this.2
  have h3 : z.take e.length = z := List.take_of_length_le (by simpa using h2)
  rw [h3] at this
  exact RepVs_of_VRs this.1 h1
theorem RepRow.replicate {w : World} {ok : Nat → Prop} {e : List Sh} {y : List C} {m : List Value} (h : RepVs w ok e y m) : ∀ (n : Nat), RepRow w ok e (List.replicate n y) ((List.replicate n m).flatten)
  | 0 => by simp [RepRow]
  | n + 1 => by
    simp only [List.replicate_succ, RepRow, List.flatten_cons]
    exact ⟨m, _, rfl, h, RepRow.replicate h n⟩
theorem madeCells_eq {z : List Value} (n : Nat) (hz : 0 < z.length) : (madeCells z.toArray (n * z.length)).toList = (List.replicate n z).flatten := by
  have h := repeat_row z z.length n rfl hz
  have : madeCells z.toArray (n * z.length) = ((List.replicate n z).flatten).toArray := by
    rw [← h]
    simp [madeCells]
  rw [this]
theorem newR_newH {heap : List HB} {x : HB} (hn : ∀ k, heap.length ≤ k → k < (heap ++ [x]).length → ¬ V.D k) :
    newH heap (heap ++ [x]) [] H heap.length = some x ∧ ∀ j, V.D j → newH heap (heap ++ [x]) [] H j = H j := by
  constructor
  · unfold newH; rw [if_pos (.inr (by simp))]; simp
  · intro j hj
    unfold newH
    rw [if_neg]
    rintro (h | h)
    · simp at h
    · exact hn j h.1 h.2 hj

theorem sMake_lands {t : TypeId} {x y : Operand} {heap heap' : List HB} {hyp chk : Q} {sv : SV} {R W : List Nat} (ho : o.op = .makeSlice t x y) (h : sMake P t heap (ev x) (ev y) = .ok hyp chk sv heap' R W) (hchk : chk.h)
    (hx : VR V (ev x) (a.eval x)) (hy : VR V (ev y) (a.eval y)) (hH : Heap V H) (hn : ∀ k, heap.length ≤ k → k < heap'.length → ¬ V.D k) : Lands P o a V sv (newH heap heap' W H) W heap.length heap'.length := by
  unfold sMake at h
  split at h
  · rename_i elem k1 l b1 k2 c b2 hu hnx hny
    split at h
    · rename_i e z size by_ he hz hs hb
      split at h
      · rename_i zs hzs
        split at h
        · rename_i hcond
          obtain ⟨c1, c2, c3, c4⟩ := hcond
          simp only [OpR.ok.injEq] at h
          obtain ⟨rfl, rfl, rfl, rfl, rfl, rfl⟩ := h
          obtain ⟨h0, h1, h2⟩ := hchk
          simp only [pRoom] at h2
          -- the type's own words
          unfold zeroOf at hz
          cases hi : P.info? elem with
          | none => simp [hi] at hz
          | some i =>
            cases hzv : i.zero with
            | none => simp [hi, hzv] at hz
            | some zv =>
              simp only [hi, hzv, Option.bind_some] at hz
              split at hz
              · rename_i hone
                injection hz with hz
                have hone' : ∀ u ∈ z, u.oneCell' = true := fun u hu => by rw [← hz] at hu; exact (List.all_eq_true.1 hone) u hu
                have hsz : i.size = size := by unfold szTy at hs; simpa [hi] using hs
                have hby : i.bytes = by_ := by unfold byTy at hb; simpa [hi] using hb
                have hbc : (i.bytes : Int) * c ≤ 281474976710656 := by rw [hby, Int.mul_comm]; omega
                have hcm : c ≤ 140737488355328 := by
                  have : c * 1 ≤ c * (by_ : Int) := Int.mul_le_mul_of_nonneg_left (by omega) (by omega)
                  omega
                have hrun := run_make (P := P) V.w t elem i zv hu hi hzv k1 k2 l c h0 h1 hbc (by omega)
                have hzc : zv.cells = z.toArray := by rw [← hz]
                rw [hzc, hsz] at hrun
                have hzl : z.length = size := c2
                have hmade : (madeCells z.toArray (c.toNat * size)).toList = (List.replicate c.toNat z).flatten := by
                  rw [← hzl]; exact madeCells_eq c.toNat (by omega)
                have hsize : (madeCells z.toArray (c.toNat * size)).size = c.toNat * size := size_madeCells _ _
                have htk : ((List.replicate c.toNat z).flatten).take (l.toNat * size) = (List.replicate l.toNat z).flatten := by
                  have : c.toNat = l.toNat + (c.toNat - l.toNat) := by omega
                  rw [this, ← List.replicate_append_replicate, List.flatten_append, List.take_left']
                  simp [List.length_flatten, List.map_replicate, List.sum_replicate_nat, hzl]
                have hrow := RepRow.replicate (toCs_ofVs_rep V hzs hone') l.toNat
                have hown : OwnRow (V.w.alloc (.cells (madeCells z.toArray (c.toNat * size)) elem)) elem e.length (.slice (some ⟨V.w.heap.size, 0, none⟩) l.toNat c.toNat) (List.replicate l.toNat zs).length ((List.replicate l.toNat z).flatten) := by
                  rw [List.length_replicate, ← c1]
                  refine ⟨by simp [List.length_flatten, List.map_replicate, List.sum_replicate_nat, hzl], ?_⟩
                  by_cases hc0 : c.toNat = 0
                  · exact .inl ⟨by omega, _, by rw [hc0, show l.toNat = 0 by omega]⟩
                  · exact .inr ⟨_, c.toNat, _, rfl, by omega, heap_alloc_new V.w _, by omega, by simp only [maxLen]; omega, hsize, by rw [hmade, htk]⟩
                have hnn : ¬ V.D heap.length := hn _ (Nat.le_refl _) (by simp)
                have hnew := newR_newH (H := H) hn
                obtain ⟨hg, hH'⟩ := row_new (H' := newH heap (heap ++ [.row e elem 0 (List.replicate l.toNat zs)]) [] H) hH hnn (w' := V.w.alloc (.cells (madeCells z.toArray (c.toNat * size)) elem)) (v' := .slice (some ⟨V.w.heap.size, 0, none⟩) l.toNat c.toNat)
                  rfl rfl rfl (by rw [World.size_alloc]; omega) (fun b hb => Below.heap_alloc V.w _ b hb)
                  (fun b hb => by
                    simp only [blkOf] at hb
                    split at hb
                    · cases hb
                    · injection hb with hb; subst hb; rw [World.size_alloc]; omega) hown hrow hnew.1 hnew.2
                intro K Q hK
                unfold Oper.wp
                have hex : (execOp a.eval o).run P V.w = .ok (.value (.slice (some ⟨V.w.heap.size, 0, none⟩) l.toNat c.toNat)) (V.w.alloc (.cells (madeCells z.toArray (c.toNat * size)) elem)) := by
                  simp only [execOp, ho]
                  refine run_v ?_
                  rw [show a.eval x = .int k1 l from numOf_VR hnx hx, show a.eval y = .int k2 c from numOf_VR hny hy]
                  exact hrun
                rw [hex]
                refine hK _ (V.newR heap.length _ _) hg ?_ hH' fun k => ?_
                · simp only [VR]
                  exact ⟨.inr rfl, by simp, .inl ⟨_, _, _, rfl⟩, fun _ => by simp [Vw.newR]⟩
                · simp only [Vw.newR, List.length_append, List.length_singleton]
                  constructor
                  · rintro (h | h)
                    · exact .inl h
                    · exact .inr (by omega)
                  · rintro (h | h)
                    · exact .inl h
                    · exact .inr (by omega)
              · cases hz
        · cases h
      · cases h
    · cases h
  · cases h

/-! ### Append -/
theorem toRows_vals (V : Vw) {e : List Sh} : ∀ (n : Nat) (cs : List SV) (xs : List (List C)) (us : List Value), toRows (toCs e) n cs = some xs → VRs V cs us → (∀ u ∈ us, u.oneCell' = true) → RepRow V.w V.ok e xs (us.take (n * e.length))
  | 0, cs, xs, us, h, _, _ => by
    simp only [toRows, Option.some.injEq] at h
    subst h; simp [RepRow]
  | n + 1, cs, xs, us, h, hv, h1 => by
    simp only [toRows] at h
    split at h
    · rename_i x rest hx
      cases hr : toRows (toCs e) n rest with
      | none => simp [hr] at h
      | some ys =>
        simp only [hr, Option.map_some, Option.some.injEq] at h
        subst h
        obtain ⟨h2, h3⟩ := toCs_vals V e cs x rest us hx hv
        have h4 := toRows_vals V n rest ys _ hr h3 fun u hu => h1 u (List.mem_of_mem_drop hu)
        simp only [RepRow]
        refine ⟨us.take e.length, (us.drop e.length).take (n * e.length), ?_, RepVs_of_VRs h2 fun u hu => h1 u (List.mem_of_mem_take hu), h4⟩
        rw [Nat.add_mul, Nat.one_mul, Nat.add_comm, List.take_add]
    · cases h
def SrcIs (w : World) (sz : Nat) (x : Value) (m : Nat) (news : List Value) : Prop :=
  (∃ c, x = .slice none 0 c ∧ m = 0 ∧ news = []) ∨ ∃ a c, x = .slice (some a) m c ∧ news.length = m * sz ∧ (∀ j u, news[j]? = some u → w.cell? (a.add j) = some u) ∧ ∀ u ∈ news, u.oneCell' = true
theorem sl_src {V : Vw} {e : List Sh} {ys : List (List C)} {v : Value} (h : RepC V.w V.ok (.sl e) (.l ys) v) : ∃ news, SrcIs V.w e.length v ys.length news ∧ RepRow V.w V.ok e ys news := by
  simp only [RepC, C.list] at h
  obtain ⟨a, n, cap, rfl, _, _, hn, h4⟩ := h
  subst hn
  rcases h4 with h0 | ⟨b, o, rfl, hb, hr⟩
  · have hy : ys = [] := by cases ys with | nil => rfl | cons y r => simp at h0
    subst hy
    refine ⟨[], ?_, by simp [RepRow]⟩
    cases a with
    | none => exact .inl ⟨cap, rfl, rfl, rfl⟩
    | some a => exact .inr ⟨a, cap, rfl, by simp, by simp, by simp⟩
  · obtain ⟨us, h5, h6⟩ := RepRow.of_cells (xs := ys) (o := o) hr
    exact ⟨us, .inr ⟨_, cap, rfl, h5.len, fun j u hu => by rw [add_mk]; exact h6 j u hu, h5.one⟩, h5⟩
theorem src_rep {e : List Sh} {heap : List HB} {x : SV} {v : Value} {ys : List (List C)} {ids rd : List Nat} (h : srcRows e heap x = some (ys, ids, rd)) (hx : VR V x v) (hH : Heap V H) (hag : ∀ k, k ∈ ids ∨ k ∈ rd → V.D k → H k = heap[k]?) :
    ∃ news, SrcIs V.w e.length v ys.length news ∧ RepRow V.w (V.frz H ids).ok e ys news := by
  have mono : ∀ {news}, RepRow V.w V.ok e ys news → RepRow V.w (V.frz H ids).ok e ys news := fun h => RepRow.mono (fun b hb => ⟨frz_ok hb, rfl⟩) e _ _ h
  unfold srcRows at h
  split at h
  · rename_i m sz cs
    split at h
    · rename_i hsz
      cases hr : toRows (toCs e) m (cs.map (thaw1 heap)) with
      | none => simp [hr] at h
      | some r =>
        simp only [hr, Option.map_some, Option.some.injEq, Prod.mk.injEq] at h
        obtain ⟨rfl, rfl, rfl⟩ := h
        simp only [VR] at hx
        obtain ⟨a, cap, rfl, _, _, hl, b, o, rfl, hb, hc⟩ := hx
        obtain ⟨vs, hvs, h1, hcell⟩ := hc.vals
        have hth := thaws_rep hH (fun k hk hd => hag k (.inl hk) hd) (cs := cs) (fun k hk => hk) hvs
        have hrow := toRows_vals _ m _ _ _ hr hth h1
        have hlen := hvs.len
        rw [List.take_of_length_le (by rw [hlen, hl, hsz]; exact Nat.le_refl _)] at hrow
        have hrl := toRows_len _ m _ _ hr
        refine ⟨vs, .inr ⟨_, cap, by rw [hrl], by rw [hlen, hl, hrl, hsz], fun j u hu => by rw [add_mk]; exact hcell j u hu, h1⟩, hrow⟩
    · cases h
  · rename_i f ys'
    split at h
    · rename_i hs
      simp only [Option.some.injEq, Prod.mk.injEq] at h
      obtain ⟨rfl, rfl, rfl⟩ := h
      have hef := shEqs_eq e f hs
      subst hef
      simp only [VR] at hx
      obtain ⟨news, h1, h2⟩ := sl_src hx
      exact ⟨news, h1, mono h2⟩
    · cases h
  · rename_i k c
    split at h
    · rename_i f d ys' hcur
      split at h
      · rename_i hcd
        simp only [Bool.and_eq_true, decide_eq_true_eq] at hcd
        simp only [Option.some.injEq, Prod.mk.injEq] at h
        obtain ⟨rfl, rfl, rfl⟩ := h
        have hef := shEqs_eq e f hcd.2
        subst hef
        simp only [VR] at hx
        obtain ⟨hd, _, _, hv⟩ := hx
        have hagk := hag k (.inr (by simp)) hd
        have hck := curOf_rep hH hd hagk hcur
        have hvv := hv (by rw [hck.1]; exact hcd.1)
        rw [hvv]
        obtain ⟨hb, h1, h2⟩ := hH.rep k hd
        unfold curOf at hcur
        rw [← hagk, h1] at hcur
        cases hb <;> simp only [Option.some.injEq, Prod.mk.injEq] at hcur <;> first | (cases hcur; done) | skip
        · obtain ⟨rfl, rfl, rfl⟩ := hcur
          obtain ⟨hL, _, n, us, hown, hn, hr⟩ := h2
          refine ⟨us, ?_, mono hr⟩
          subst hn
          rcases hown.2 with ⟨h0, a, hp⟩ | ⟨g, cap, cur, hp, h0, _⟩
          · have hus : us = [] := by have := hown.1; rw [h0] at this; simpa using this
            rw [hp, hus]
            cases a with
            | none => exact .inl ⟨0, rfl, h0, rfl⟩
            | some a => exact .inr ⟨a, 0, by rw [h0], by rw [h0]; simp, by simp, by simp⟩
          · rw [hp] at hown
            refine .inr ⟨_, cap, hp, hown.1, fun j u hu => ?_, hr.one⟩
            rw [add_mk, Nat.zero_add]
            exact hown.cells h0 j u hu
        · obtain ⟨rfl, rfl, rfl⟩ := hcur
          obtain ⟨news, h3, h4⟩ := sl_src h2.2
          exact ⟨news, h3, mono h4⟩
      · cases h
    · cases h
  · simp only [Option.some.injEq, Prod.mk.injEq] at h
    obtain ⟨rfl, rfl, rfl⟩ := h
    simp only [VR] at hx
    exact ⟨[], .inl ⟨0, hx, rfl, rfl⟩, by simp [RepRow]⟩
  · simp only [Option.some.injEq, Prod.mk.injEq] at h
    obtain ⟨rfl, rfl, rfl⟩ := h
    simp only [VR] at hx
    obtain ⟨a, rfl⟩ := hx
    refine ⟨[], ?_, by simp [RepRow]⟩
    cases a with
    | none => exact .inl ⟨0, rfl, rfl, rfl⟩
    | some a => exact .inr ⟨a, 0, rfl, by simp, by simp, by simp⟩
  · cases h

theorem sAppend_run {t ty : TypeId} {heap heap' : List HB} {s x : SV} {u v : Value} {hyp chk : Q} {sv : SV} {R W : List Nat} (h : sAppend P t heap s x = .ok hyp chk sv heap' R W) (hchk : chk.h)
    (hs : VR V s u) (hx : VR V x v) (hH : Heap V H) (hag : ∀ k, k ∈ R ∨ k ∈ W → V.D k → H k = heap[k]?) (hn : ∀ k, heap.length ≤ k → k < heap'.length → ¬ V.D k) :
    ∃ v' V', (Builtin.append_ #[t, t] ty #[u, v]).run P V.w = .ok v' V'.w ∧ Grow V V' W ∧ VR V' sv v' ∧ Heap V' (newH heap heap' W H) ∧ ∀ k, V'.D k ↔ V.D k ∨ (heap.length ≤ k ∧ k < heap'.length) := by
  unfold sAppend at h
  split at h
  · rename_i elem hu
    split at h
    · rename_i e z size by_ he hz hsz hb
      split at h
      · rename_i hcond
        obtain ⟨c1, c2, c3, c4⟩ := hcond
        unfold zeroOf at hz
        cases hi : P.info? elem with
        | none => simp [hi] at hz
        | some i =>
          cases hzv : i.zero with
          | none => simp [hi, hzv] at hz
          | some zv =>
            simp only [hi, hzv, Option.bind_some] at hz
            split at hz
            · rename_i hone
              injection hz with hz
              have hisz : i.size = size := by unfold szTy at hsz; simpa [hi] using hsz
              have hby : i.bytes = by_ := by unfold byTy at hb; simpa [hi] using hb
              have hzc : zv.cells.size = size := by rw [← c2, ← hz]; simp
              split at h
              · rename_i ys ids rd hsrc
                split at h
                · -- onto a row of the call's own
                  rename_i k c
                  split at h
                  · rename_i f ty' d xs hk
                    split at h
                    · rename_i hc
                      obtain ⟨hcd, hef, hte, hni, hnr⟩ := hc
                      simp only [OpR.ok.injEq] at h
                      obtain ⟨rfl, rfl, rfl, rfl, rfl, rfl⟩ := h
                      have hef' := shEqs_eq e f hef
                      subst hef'; subst hte
                      have hni' : k ∉ ids := by simpa using hni
                      simp only [VR] at hs
                      obtain ⟨hd, _, _, hv⟩ := hs
                      have hagi : ∀ j, j ∈ ids → V.D j → H j = heap[j]? := fun j hj hd => hag j (.inr (by simp [hj])) hd
                      have hHk : H k = some (.row e ty' d xs) := by rw [hag k (.inl (by simp)) hd, hk]
                      obtain ⟨news, hsi, hrow⟩ := src_rep hsrc hx hH (fun j hj hd => hag j (hj.elim (fun h => .inr (by simp [h])) (fun h => .inl (by simp [h]))) hd)
                      have hH1 := heap_frz hH ids
                      have hg1 := grow_frz V H ids ids
                      obtain ⟨hb1, h1, h2⟩ := hH1.rep k hd
                      simp only [if_neg hni', hHk, Option.some.injEq] at h1
                      subst h1
                      obtain ⟨hL, hck, n, us, hown, hnx, hr⟩ := h2
                      have hvv : u = V.p k := hv (by have : V.c k = d := hck; rw [this]; exact hcd)
                      have hown' : OwnRow V.w ty' size u n us := by rw [hvv, c1]; exact hown
                      rw [← c1] at hsi
                      simp only [pRoom, iLen, List.length_append] at hchk
                      obtain ⟨v', w', r1, r2, r3, r4, r5, r6, r7, r8⟩ := run_append (P := P) (V := V) hu hi hzv hisz hby hzc c3 c4 hown' hsi (by rw [hnx]; have : ((xs.length + ys.length : Nat) : Int) * (by_ : Int) ≤ 140737488355328 := hchk; omega) ty
                      have hkl : k < heap.length := (List.getElem?_eq_some_iff.1 hk).1
                      obtain ⟨hg2, hH2⟩ := row_step (H' := newH heap ((frzH heap ids).set k (.row e ty' (c + 1) (xs ++ ys))) (k :: ids) H) hH1 hd hL
                        (by obtain ⟨a, cap, h, _⟩ := hown.slice; exact ⟨a, _, cap, h⟩) (w' := w') (v' := v') (c' := c + 1) r3 r4 r5 r6
                        (by rw [hck]; omega) (fun h => by rw [hck] at h; omega)
                        (fun b hb hne => r7 b hb (by rw [hvv]; exact hne)) (fun b hb => by rw [hvv] at r8; exact r8 b hb)
                        (e := e) (t := ty') (xs' := xs ++ ys) (us' := us ++ news) (by rw [← c1, List.length_append, ← hnx]; exact r2) (hr.append hrow)
                        (by unfold newH; rw [if_pos (.inl (by simp))]; simp [frzH_len, hkl])
                        (fun j hj hne => by
                          unfold newH
                          by_cases hji : j ∈ ids
                          · rw [if_pos (.inl (by simp [hji])), if_pos hji, List.getElem?_set_ne (fun h => hne h.symm), frzH_get, if_pos hji, hagi j hji hj]
                          · rw [if_neg, if_neg hji]
                            rintro (h | h)
                            · simp at h; exact h.elim hne hji
                            · simp [frzH_len] at h; omega)
                      refine ⟨v', (V.frz H ids).upd k w' v' (c + 1), r1, (hg1.mono fun j hj => by simp [hj]).trans hg2 fun j hj _ => by simp at hj; simp [hj], ?_, hH2, fun j => ⟨.inl, fun h => h.elim id (fun h => by simp [frzH_len] at h; omega)⟩⟩
                      simp only [VR]
                      refine ⟨hd, by simp [Vw.upd], ?_, fun _ => by simp [Vw.upd]⟩
                      obtain ⟨a, cap, h, _⟩ := r2.slice
                      exact .inl ⟨a, _, cap, h⟩
                    · cases h
                  · cases h
                all_goals first | (cases h; done) | skip
                all_goals
                  simp only [OpR.ok.injEq] at h
                  obtain ⟨rfl, rfl, rfl, rfl, rfl, rfl⟩ := h
                  have hown0 : OwnRow V.w elem size u 0 [] ∧ blkOf u = none := by
                    simp only [VR] at hs
                    first
                    | (subst hs; exact ⟨⟨by simp, .inl ⟨rfl, _, rfl⟩⟩, rfl⟩)
                    | (obtain ⟨a, rfl⟩ := hs; exact ⟨⟨by simp, .inl ⟨rfl, _, rfl⟩⟩, by cases a <;> simp [blkOf]⟩)
                  have hagi : ∀ j, j ∈ ids → V.D j → H j = heap[j]? := fun j hj hd => hag j (.inr hj) hd
                  obtain ⟨news, hsi, hrow⟩ := src_rep hsrc hx hH (fun j hj hd => hag j (hj.elim (fun h => .inr h) (fun h => .inl (by simp [h]))) hd)
                  have hH1 := heap_frz hH ids
                  have hg1 := grow_frz V H ids ids
                  rw [← c1] at hsi
                  simp only [pRoom, iLen] at hchk
                  obtain ⟨v', w', r1, r2, r3, r4, r5, r6, r7, r8⟩ := run_append (P := P) (V := V) hu hi hzv hisz hby hzc c3 c4 hown0.1 hsi (by rw [Nat.zero_add]; have : ((ys.length : Nat) : Int) * (by_ : Int) ≤ 140737488355328 := hchk; omega) ty
                  have hnn : ¬ V.D heap.length := hn _ (Nat.le_refl _) (by simp [frzH_len])
                  obtain ⟨hg2, hH2⟩ := row_new (V := V.frz H ids) (H' := newH heap (frzH heap ids ++ [.row e elem 0 ys]) ids H) hH1 hnn (w' := w') (v' := v') r3 r4 r5 r6 (fun b hb => r7 b hb (by rw [hown0.2]; simp))
                    (fun b hb => by
                      obtain ⟨h1, h2⟩ := r8 b hb
                      rw [hown0.2] at h1
                      exact ⟨h1.elim (fun h => by cases h) id, h2⟩)
                    (e := e) (t := elem) (xs' := ys) (us' := news) (by rw [← c1]; simpa using r2) hrow
                    (by unfold newH; rw [if_pos (.inr (by simp [frzH_len]))]; rw [List.getElem?_append_right (by rw [frzH_len]; exact Nat.le_refl _)]; simp [frzH_len])
                    (fun j hj => by
                      unfold newH
                      by_cases hji : j ∈ ids
                      · have hjl : j < heap.length := by
                          obtain ⟨hb, h1, _⟩ := hH.rep j hj
                          rw [hagi j hji hj] at h1
                          exact (List.getElem?_eq_some_iff.1 h1).1
                        rw [if_pos (.inl hji), if_pos hji, List.getElem?_append_left (by rw [frzH_len]; exact hjl), frzH_get, if_pos hji, hagi j hji hj]
                      · rw [if_neg, if_neg hji]
                        rintro (h | h)
                        · exact hji h
                        · exact hn j h.1 h.2 hj)
                  refine ⟨v', (V.frz H ids).newR heap.length w' v', r1, hg1.trans hg2 fun j hj _ => by simp at hj, ?_, hH2, fun j => ?_⟩
                  · simp only [VR]
                    refine ⟨.inr rfl, by simp, ?_, fun _ => by simp [Vw.newR]⟩
                    obtain ⟨a, cap, h, _⟩ := r2.slice
                    exact .inl ⟨a, _, cap, h⟩
                  · simp only [Vw.newR, Vw.frz, List.length_append, List.length_singleton, frzH_len]
                    constructor
                    · rintro (h | h)
                      · exact .inl h
                      · exact .inr (by omega)
                    · rintro (h | h)
                      · exact .inl h
                      · exact .inr (by omega)
              · cases h
            · cases hz
      · cases h
    · cases h
  · cases h
end Go.Sx
