import Derived.Test.YtphaelepnjekoaaGreatSxUse
set_option linter.unusedVariables false
set_option linter.unusedSimpArgs false
namespace Go.Sx
open Go.RowKit
def headN (ws kp : List Nat) (kb : Nat) (s : St) (ts : List (Nat × SV)) (hb : HB) : St :=
 ⟨setsT (maskT (dropOf (keepOf ws kp) 0 s.tmps) 0 s.tmps) ts, s.heap.set kb hb⟩
def openN (s : St) (kb : Nat) (hb row : HB) : St := ⟨s.tmps, s.heap.set kb hb ++ [row]⟩
def vcNest (body : St → (Exit → St → Prop) → Prop) (ws kp : List Nat) (kb : Nat) (e : List Sh) (ty : TypeId) (X : Type) (pre fin : X → Prop) (mk : X → List (Nat × SV)) (sel : X → Int)
 (rows : Nat → X → List (List C)) (mu : X → Nat) (s : St) (Q : Exit → St → Prop) : Prop :=
 match s.heap[kb]? with
 | some (.hrow t c n i0 x0 f0) =>
  ((i0 = -1 ∧ f0 = fun _ => Value.slice none 0 0) ∧ n ≤ 9223372036854775807) ∧
  (∃ x, pre x ∧ rows n x = List.replicate n [.l []] ∧ leT s.tmps (mk x)) ∧
  (∀ (f : Nat → Value) (x : X), belows s.heap.length (headN ws kp kb s (mk x) (.hrow t c n (-1) .any f)).tmps = true ∧ (headN ws kp kb s (mk x) (.hrow t c n (-1) .any f)).heap.all (belowHB s.heap.length) = true) ∧
  ∀ (f : Nat → Value) (x : X), pre x → WfTs (mk x) → (rows n x).length = n →
   (fin x → (headN ws kp kb s (mk x) (.hrow t c n (-1) .any f)).force fun s1 => body s1 fun ex s' => match ex with
    | .normal => False
    | ex => match s'.heap[kb]? with
     | some (.hrow t' c' n' i' x' f') => (t' = t ∧ c' = c ∧ n' = n ∧ i' = -1) ∧ f' = f ∧ Q ex ⟨s'.tmps, s'.heap.set kb (.row [.sl e] t c (rows n x))⟩
     | _ => False) ∧
   (¬ fin x → (0 ≤ sel x ∧ sel x < (n : Int)) ∧ (openN (headN ws kp kb s (mk x) (.hrow t c n (-1) .any f)) kb (.hrow t c n (sel x) (.own s.heap.length 0) f) (.row e ty 0 ((rGet (rows n x) (sel x)).headD default).list)).force fun s1 => body s1 fun ex s' => match ex with
    | .normal => sameAt (keepOf ws kp) s'.tmps s.tmps ∧ maskH [kb] 0 (s'.heap.take s.heap.length) = maskH [kb] 0 s.heap ∧
     (match s'.heap[kb]?, s'.heap[s.heap.length]? with
     | some (.hrow t' c' n' i' (.own N' c1) f'), some (.row e' ty' c2 ys) => (t' = t ∧ c' = c ∧ n' = n ∧ i' = sel x ∧ N' = s.heap.length ∧ c1 = c2 ∧ e' = e ∧ ty' = ty) ∧ f' = f ∧
      ∃ y, pre y ∧ rows n y = rSet (rows n x) (sel x) [.l ys] ∧ leT s'.tmps (mk y) ∧ mu y < mu x
     | _, _ => False)
    | _ => False)
 | _ => False
mutual
theorem mapO_nil (f : Nat → Nat → SV) : ∀ (s : SV), mapO f [] s = s
 | .any | .undef | .int _ _ | .lit _ _ | .bool _ | .blit _ | .str _ | .sl _ _ | .slc _ _ | .nils | .ref _ _ | .nilp | .emp => rfl
 | .own _ _ => by simp [mapO]
 | .ownl _ _ _ => by simp [mapO]
 | .rref _ _ _ _ _ => by simp [mapO]
 | .ownv _ _ _ _ _ => by simp [mapO]
 | .agg cs => by simp only [mapO, mapOs_nil f cs]
 | .tup cs => by simp only [mapO, mapOs_nil f cs]
 | .slit _ _ cs => by simp only [mapO, mapOs_nil f cs]
 | .cref cs => by simp only [mapO, mapOs_nil f cs]
 | .fn _ cs => by simp only [mapO, mapOs_nil f cs]
theorem mapOs_nil (f : Nat → Nat → SV) : ∀ (cs : List SV), mapOs f [] cs = cs
 | [] => rfl
 | c :: cs => by simp only [mapOs, mapO_nil f c, mapOs_nil f cs]
end
theorem hbMap_nil (f : Nat → Nat → SV) (nv : Nat → Nat) (k : Nat) (h : HB) : hbMap f [] nv k h = h := by
 cases h <;> simp [hbMap, mapOs_nil, mapO_nil]
theorem mapHs_nil (f : Nat → Nat → SV) (nv : Nat → Nat) : ∀ (i : Nat) (l : List HB), mapHs f [] nv i l = l
 | _, [] => rfl
 | i, h :: r => by simp only [mapHs, hbMap_nil, mapHs_nil f nv (i + 1) r]
theorem remap_nil (f : Nat → Nat → SV) (nv : Nat → Nat) (s : St) : remap f [] nv s = s := by simp only [remap, mapOs_nil, mapHs_nil]
theorem mapT1_nil (f : Nat → Nat → SV) : ∀ (l : List (Nat × SV)), mapT1 f [] l = l
 | [] => rfl
 | (i, y) :: r => by simp only [mapT1, mapO_nil, mapT1_nil f r]
theorem mapH1_nil (f : Nat → Nat → SV) (nv : Nat → Nat) : ∀ (l : List (Nat × HB)), mapH1 f [] nv l = l
 | [] => rfl
 | (i, y) :: r => by simp only [mapH1, hbMap_nil, mapH1_nil f nv r]
theorem ver_nil (V : Vw) (nv : Nat → Nat) : V.ver [] nv = V := by cases V; simp [Vw.ver]
theorem headN_rep {V : Vw} {a : Act} {s s' : St} {ws kp : List Nat} {kb : Nat} {ts : List (Nat × SV)} {hb : HB} (hr : StRep V a s') (hw : StWf s') (hk : s'.heap[kb]? = some hb) (hself : hbLe hb hb)
 (hm : sameAt (keepOf ws kp) s'.tmps s.tmps) (hmh : maskH [kb] 0 (s'.heap.take s.heap.length) = maskH [kb] 0 s.heap) (hle : leT s'.tmps ts)
 (hb1 : belows s.heap.length (headN ws kp kb s ts hb).tmps = true) (hb2 : (headN ws kp kb s ts hb).heap.all (belowHB s.heap.length) = true) :
 StRep (V.cut s.heap.length) a (headN ws kp kb s ts hb) ∧ StWf (headN ws kp kb s ts hb) := by
 have e : headOf (dropOf (keepOf ws kp) 0 s.tmps) [] (fun _ => 0) s ts [(kb, hb)] = headN ws kp kb s ts hb := by
  simp only [headOf, remap_nil, mapT1_nil, mapH1_nil, setsH, headN]
 have hlh : leH s'.heap [(kb, hb)] := by
  simp only [leH, and_true]
  rw [List.getD_eq_getElem?_getD, hk]; exact hself
 have := head_rep (ws := dropOf (keepOf ws kp) 0 s.tmps) (ks := [kb]) (rk := []) (nv := fun _ => 0) (ts := ts) (hs := [(kb, hb)]) (s := s) hr hw rfl
  (by rw [remap_nil, remap_nil]; exact mask_of_same hm rfl) (by rw [remap_nil, remap_nil]; exact hmh) (by rw [remap_nil, mapT1_nil]; exact hle) (by rw [remap_nil, mapH1_nil]; exact hlh) (by rw [e]; exact hb1) (by rw [e]; exact hb2)
 rw [e, ver_nil] at this
 exact this
structure NestOk (m0 : Nat) (V : Vw) (n : Nat) (e : List Sh) (ty : TypeId) (f : Nat → Value) (rows : List (List C)) : Prop where
 len : rows.length = n
 at_ : ∀ j, j < n → ∃ (r : List (List C)) (us : List Value), rows[j]? = some [C.l r] ∧ OwnRow V.w ty e.length (f j) r.length us ∧ RepRow V.w V.ok e r us ∧ ∀ g, blkOf (f j) = some g → m0 ≤ g ∧ g < V.w.heap.size ∧ V.bad g
 inj : ∀ i j g, i < n → j < n → blkOf (f i) = some g → blkOf (f j) = some g → i = j
 wf : ∀ (j : Nat) (r : List (List C)), rows[j]? = some [C.l r] → r.length ≤ maxLen ∧ ∀ y ∈ r, WfCs e y
theorem OwnRow.keep {w w' : World} {t : TypeId} {sz n : Nat} {v : Value} {us : List Value} (h : OwnRow w t sz v n us) (hb : ∀ b, blkOf v = some b → w'.heap[b]? = w.heap[b]?) : OwnRow w' t sz v n us := by
 refine ⟨h.1, ?_⟩
 rcases h.2 with h | ⟨g, cap, cur, hv, h0, hh, r⟩
 · exact .inl h
 · refine .inr ⟨g, cap, cur, hv, h0, ?_, r⟩
   rw [hb g (by rw [hv]; simp only [blkOf]; rw [if_neg (by omega)])]; exact hh
def Vw.opn (V : Vw) (N : Nat) (v : Value) : Vw :=
 { w := V.w, D := fun k => V.D k ∨ k = N, L := fun k => V.L k ∨ k = N, c := fun k => if k = N then 0 else V.c k, p := fun k => if k = N then v else V.p k, bad := fun b => V.bad b ∧ blkOf v ≠ some b }
theorem opn_stays {V : Vw} {N : Nat} {v : Value} (hN : ¬ V.D N) (hbd : ∀ b, blkOf v = some b → V.bad b) : Stays V (V.opn N v) := by
 have ne : ∀ {k}, V.D k → k ≠ N := fun hd he => hN (he ▸ hd)
 refine ⟨fun k hk => .inl hk, fun k hk => ?_, fun k hk _ => ?_, fun k a hk he => ?_, fun b hb => ⟨⟨hb.1, fun hx => hb.2.1 hx.1, fun k hk hl he => ?_⟩, rfl⟩⟩
 · simp only [Vw.opn, if_neg (ne hk)]; exact Nat.le_refl _
 · simp only [Vw.opn, if_neg (ne hk)]
 · simp only [Vw.opn, if_neg (ne hk)]; exact he
 · simp only [Vw.opn] at he
   by_cases hkN : k = N
   · rw [if_pos hkN] at he; exact hb.2.1 (hbd b he)
   · rw [if_neg hkN] at he
     exact hb.2.2 k (hk.elim id fun h => (hkN h).elim) (hl.elim id fun h => (hkN h).elim) he
theorem opn_rep {V : Vw} {a : Act} {s : St} {kb n i c m0 : Nat} {e : List Sh} {t ty : TypeId} {f : Nat → Value} {rows : List (List C)} (hr : StRep V a s) (hw : StWf s)
 (hk : s.heap[kb]? = some (.hrow t c n (-1) .any f)) (hn : NestOk m0 V n e ty f rows) (hi : i < n) {N : Nat} (hN : N = s.heap.length) :
 StRep (V.opn N (f i)) a (openN s kb (.hrow t c n (i : Int) (.own N 0) f) (.row e ty 0 ((rGet rows (i : Int)).headD default).list)) ∧
 StWf (openN s kb (.hrow t c n (i : Int) (.own N 0) f) (.row e ty 0 ((rGet rows (i : Int)).headD default).list)) := by
 subst hN
 obtain ⟨r, us, hrow, hown, hrep, hbl⟩ := hn.at_ i hi
 have hND : ¬ V.D s.heap.length := fun h => Nat.lt_irrefl _ (hr.lt _ h)
 have ne : ∀ {k}, V.D k → k ≠ s.heap.length := fun hd he => hND (he ▸ hd)
 have hs := opn_stays (v := f i) hND fun b hb => (hbl b hb).2.2
 have hkl : kb < s.heap.length := (List.getElem?_eq_some_iff.1 hk).1
 have er : ((rGet rows (i : Int)).headD default).list = r := by
  simp only [rGet, Int.toNat_natCast, List.getD_eq_getElem?_getD, hrow]; rfl
 rw [er]
 have getN : (s.heap.set kb (.hrow t c n (i : Int) (.own s.heap.length 0) f) ++ [.row e ty 0 r])[s.heap.length]? = some (.row e ty 0 r) := by
  rw [List.getElem?_append_right (by simp)]; simp
 have getK : (s.heap.set kb (.hrow t c n (i : Int) (.own s.heap.length 0) f) ++ [.row e ty 0 r])[kb]? = some (.hrow t c n (i : Int) (.own s.heap.length 0) f) := by
  rw [List.getElem?_append_left (by simpa using hkl), List.getElem?_set_self hkl]
 have getO : ∀ k, k < s.heap.length → k ≠ kb → (s.heap.set kb (.hrow t c n (i : Int) (.own s.heap.length 0) f) ++ [.row e ty 0 r])[k]? = s.heap[k]? := fun k h1 h2 => by
  rw [List.getElem?_append_left (by simpa using h1), List.getElem?_set_ne (fun e => h2 e.symm)]
 have old : ∀ {k}, (V.opn s.heap.length (f i)).D k → (V.opn s.heap.length (f i)).L k → k ≠ s.heap.length → V.D k ∧ V.L k := fun hk hl he => ⟨hk.elim id fun h => (he h).elim, hl.elim id fun h => (he h).elim⟩
 refine ⟨⟨VRs.mono hs _ _ hr.tm, ⟨fun k hkD => ?_, fun k b hkD hl hb => ?_, fun b hb => hr.hp.bd b hb.1, fun k b hkD hl hb hx => ?_, fun k k' b hkD hl hkD' hl' hb hb' => ?_⟩, fun k hkD => ?_, hr.df⟩, ⟨hw.tm, fun k hb hkk => ?_⟩⟩
 · by_cases he : k = s.heap.length
   · subst he
     refine ⟨_, getN, .inr rfl, by simp [Vw.opn], r.length, us, ?_, rfl, RepRow.mono hs.ok e r us hrep⟩
     simp only [Vw.opn, if_pos]; exact hown
   · have hd : V.D k := hkD.elim id fun h => (he h).elim
     obtain ⟨hb, h1, h2⟩ := hr.hp.rep k hd
     by_cases hkk : k = kb
     · subst hkk
       rw [hk] at h1
       injection h1 with h1; subst h1
       obtain ⟨hL, hc, vs, hov, hone, hat⟩ := h2
       refine ⟨_, getK, .inl hL, by simp only [Vw.opn, if_neg he]; exact hc, vs, by simp only [Vw.opn, if_neg he]; exact hov, hone, fun j hj => ⟨fun hji u hu => ?_, fun _ => (hat j hj).2 (by omega)⟩⟩
       have hji' : j = i := by omega
       subst hji'
       have := (hat j hj).2 (by omega)
       rw [this] at hu
       injection hu with hu; subst hu
       simp only [VR]
       obtain ⟨a', cap, ha, _⟩ := hown.slice
       exact ⟨.inr rfl, Nat.zero_le _, .inl ⟨a', _, cap, ha⟩, fun _ => by simp [Vw.opn]⟩
     · refine ⟨hb, by rw [show (openN s kb (.hrow t c n (i : Int) (.own s.heap.length 0) f) (.row e ty 0 r)).heap = s.heap.set kb (.hrow t c n (i : Int) (.own s.heap.length 0) f) ++ [.row e ty 0 r] from rfl, getO k (hr.lt k hd) hkk]; exact h1, h2.mono hs hd (by simp only [Vw.opn, if_neg he]) .inl fun _ _ _ => rfl⟩
 · simp only [Vw.opn] at hb ⊢
   by_cases he : k = s.heap.length
   · rw [if_pos he] at hb; exact (hbl b hb).2.1
   · rw [if_neg he] at hb; exact hr.hp.lt k b (old hkD hl he).1 (old hkD hl he).2 hb
 · simp only [Vw.opn] at hb hx
   by_cases he : k = s.heap.length
   · rw [if_pos he] at hb; exact hx.2 hb
   · rw [if_neg he] at hb; exact hr.hp.nb k b (old hkD hl he).1 (old hkD hl he).2 hb hx.1
 · simp only [Vw.opn] at hb hb'
   by_cases he : k = s.heap.length <;> by_cases he' : k' = s.heap.length
   · omega
   · rw [if_pos he] at hb; rw [if_neg he'] at hb'
     exact (hr.hp.nb k' b (old hkD' hl' he').1 (old hkD' hl' he').2 hb' (hbl b hb).2.2).elim
   · rw [if_neg he] at hb; rw [if_pos he'] at hb'
     exact (hr.hp.nb k b (old hkD hl he).1 (old hkD hl he).2 hb (hbl b hb').2.2).elim
   · rw [if_neg he] at hb; rw [if_neg he'] at hb'
     exact hr.hp.inj k k' b (old hkD hl he).1 (old hkD hl he).2 (old hkD' hl' he').1 (old hkD' hl' he').2 hb hb'
 · simp only [openN, List.length_append, List.length_set, List.length_singleton]
   rcases hkD with h | h
   · have := hr.lt k h; omega
   · omega
 · simp only [openN] at hkk
   rcases Nat.lt_trichotomy k s.heap.length with h | h | h
   · by_cases h2 : k = kb
     · subst h2
       rw [getK] at hkk
       injection hkk with hkk; subst hkk
       simp [WfHB, Wf]
     · rw [getO k h h2] at hkk; exact hw.hp k hb hkk
   · subst h
     rw [getN] at hkk
     injection hkk with hkk; subst hkk
     simp only [WfHB]
     exact hn.wf i r hrow
   · rw [List.getElem?_eq_none (by simp; omega)] at hkk; cases hkk
theorem gro_opn {V0 V : Vw} {N : Nat} {v : Value} (h : Gro V0 V) (h0 : ∀ k, V0.D k → k < N) (hbd : ∀ b, V0.bad b → b < V0.w.heap.size) (hv : ∀ g, blkOf v = some g → V0.w.heap.size ≤ g) : Gro V0 (V.opn N v) := by
 obtain ⟨W, h⟩ := h
 have ne : ∀ {k}, V0.D k → k ≠ N := fun hd he => by have := h0 _ hd; omega
 refine ⟨W, ⟨h.os, h.tape, h.output, fun b => ⟨fun hx => ⟨(h.bad b).1 hx, fun he => ?_⟩, fun hx => (h.bad b).2 hx.1⟩, h.size, fun k hk => .inl (h.D k hk), fun k hk => ?_, fun k hk he => ?_, fun k a hk he => ?_, fun k hk hl => h.L k hk (hl.elim id fun e => (ne hk e).elim), fun k hk hl b hb => ?_, h.blk, fun k hk hl hn b hb => ?_⟩⟩
 · have := hbd b hx; have := hv b he; omega
 · simp only [Vw.opn, if_neg (ne hk)]; exact h.c k hk
 · simp only [Vw.opn, if_neg (ne hk)] at he ⊢; exact h.p k hk he
 · simp only [Vw.opn, if_neg (ne hk)]; exact h.pp k a hk he
 · simp only [Vw.opn, if_neg (ne hk)] at hb
   exact h.mv k hk (hl.elim id fun e => (ne hk e).elim) b hb
 · simp only [Vw.opn] at hb
   by_cases he : k = N
   · rw [if_pos he] at hb; exact hv b hb
   · rw [if_neg he] at hb
     exact h.new k (hk.elim id fun e => (he e).elim) (hl.elim id fun e => (he e).elim) hn b hb
theorem close_rep {V0 V V2 : Vw} {a' : Act} {s s1 s' : St} {ws kp : List Nat} {kb n i c c1 N : Nat} {e : List Sh} {t ty : TypeId} {f : Nat → Value} {rows ys : List (List C)} {ts : List (Nat × SV)} {a : Act}
 (hN : N = s.heap.length) (hg0 : Gro V0 V) (h0 : ∀ k, V0.D k → k < N) (hbd0 : ∀ b, V0.bad b → b < V0.w.heap.size) (hr1 : StRep V a s1) (hl1 : s1.heap.length = N)
 (hn : NestOk V0.w.heap.size V n e ty f rows) (hi : i < n) (hg : Gro (V.opn N (f i)) V2) (hr : StRep V2 a' s') (hw : StWf s')
 (hk : s'.heap[kb]? = some (.hrow t c n (i : Int) (.own N c1) f)) (hkN : s'.heap[N]? = some (.row e ty c1 ys)) (hkb : kb < N)
 (hm : sameAt (keepOf ws kp) s'.tmps s.tmps) (hmh : maskH [kb] 0 (s'.heap.take s.heap.length) = maskH [kb] 0 s.heap) (hle : leT s'.tmps ts)
 (hb1 : ∀ f, belows s.heap.length (headN ws kp kb s ts (.hrow t c n (-1) .any f)).tmps = true ∧ (headN ws kp kb s ts (.hrow t c n (-1) .any f)).heap.all (belowHB s.heap.length) = true) :
 ∃ f3, Gro V0 (V2.cut N) ∧ (StRep (V2.cut N) a' (headN ws kp kb s ts (.hrow t c n (-1) .any f3)) ∧ StWf (headN ws kp kb s ts (.hrow t c n (-1) .any f3))) ∧
  NestOk V0.w.heap.size (V2.cut N) n e ty f3 (rSet rows (i : Int) [.l ys]) := by
 obtain ⟨r, us, hrow, hown, hrep, hbl⟩ := hn.at_ i hi
 have hND : ¬ V.D N := fun h => by have := hr1.lt _ h; omega
 have g02 : Gro V0 V2 := (gro_opn hg0 h0 hbd0 fun g he => (hbl g he).1).trans hg
 obtain ⟨W, hgr⟩ := hg
 have hDN : V2.D N := hgr.D N (.inr rfl)
 obtain ⟨hbN, q1, q2⟩ := hr.hp.rep N hDN
 rw [hkN] at q1
 injection q1 with q1; subst q1
 obtain ⟨hLN, hcN, m, vs, hov, hmy, hrv⟩ := q2
 subst hmy
 have blkN : ∀ g, blkOf (V2.p N) = some g → V0.w.heap.size ≤ g ∧ g < V2.w.heap.size := fun g he => by
  refine ⟨?_, hr.hp.lt N g hDN hLN he⟩
  have hsz : V0.w.heap.size ≤ V.w.heap.size := by obtain ⟨_, h⟩ := hg0; exact h.size
  rcases hgr.mv N (.inr rfl) hLN g he with h | h
  · simp only [Vw.opn, if_pos] at h; exact (hbl g h).1
  · have : (V.opn N (f i)).w.heap.size = V.w.heap.size := rfl
    omega
 have blkO : ∀ j, j < n → j ≠ i → ∀ g, blkOf (f j) = some g → V2.w.heap[g]? = V.w.heap[g]? ∧ V2.bad g := fun j hj hji g he => by
  obtain ⟨_, _, _, _, _, hbj⟩ := hn.at_ j hj
  have hb := hbj g he
  have hbad : (V.opn N (f i)).bad g := ⟨hb.2.2, fun h => hji (hn.inj j i g hj hi he h)⟩
  refine ⟨hgr.blk g hb.2.1 fun k _ hd hl hbk => ?_, (hgr.bad g).1 hbad⟩
  simp only [Vw.opn] at hbk
  by_cases he' : k = N
  · rw [if_pos he'] at hbk; exact hbad.2 hbk
  · rw [if_neg he'] at hbk
    exact hr1.hp.nb k g (hd.elim id fun h => (he' h).elim) (hl.elim id fun h => (he' h).elim) hbk hb.2.2
 have okm : ∀ b, V.ok b → (V2.cut N).ok b ∧ V2.w.heap[b]? = V.w.heap[b]? := fun b hb => by
  have h1 := (opn_stays (v := f i) hND fun b hb => (hbl b hb).2.2).ok b hb
  have h2 := hgr.stays.ok b h1.1
  exact ⟨cut_ok h2.1, h2.2⟩
 let f3 : Nat → Value := fun j => if j = i then V2.p N else f j
 have f3i : f3 i = V2.p N := by simp [f3]
 have f3o : ∀ {j}, j ≠ i → f3 j = f j := fun h => by simp [f3, h]
 have hkl : kb < s'.heap.length := (List.getElem?_eq_some_iff.1 hk).1
 refine ⟨f3, g02.cut h0 hr.hp.lt, ?_, ⟨by simp [rSet, hn.len], fun j hj => ?_, fun j l g hj hl hjg hlg => ?_, fun j r' hjr => ?_⟩⟩
 · -- the row's cells are known again
   have hr'' : StRep V2 a' ⟨s'.tmps, s'.heap.set kb (.hrow t c n (-1) .any f3)⟩ := by
    refine ⟨hr.tm, ⟨fun k hkD => ?_, hr.hp.lt, hr.hp.bd, hr.hp.nb, hr.hp.inj⟩, fun k hkD => by simpa using hr.lt k hkD, hr.df⟩
    obtain ⟨hb, h1, h2⟩ := hr.hp.rep k hkD
    by_cases hkk : k = kb
    · subst hkk
      rw [hk] at h1
      injection h1 with h1; subst h1
      obtain ⟨hL, hc, ws', hov', hone, hat⟩ := h2
      refine ⟨.hrow t c n (-1) .any f3, by rw [List.getElem?_set_self hkl], hL, hc, ws', hov', hone, fun j hj => ⟨fun h => by omega, fun _ => ?_⟩⟩
      by_cases hji : j = i
      · subst hji
        have hjl : j < ws'.length := by have := hov'.1; omega
        have hu := (hat j hj).1 rfl _ (List.getElem?_eq_getElem hjl)
        simp only [VR] at hu
        rw [List.getElem?_eq_getElem hjl, f3i, hu.2.2.2 hcN.symm]
      · rw [f3o hji]; exact (hat j hj).2 (by omega)
    · exact ⟨hb, by rw [List.getElem?_set_ne (fun e => hkk e.symm)]; exact h1, h2⟩
   have hw'' : StWf ⟨s'.tmps, s'.heap.set kb (.hrow t c n (-1) .any f3)⟩ := by
    refine ⟨hw.tm, fun k hb hkk => ?_⟩
    by_cases hkk' : k = kb
    · subst hkk'
      have hkk2 : (some (HB.hrow t c n (-1) .any f3) : Option HB) = some hb := by rw [← hkk]; exact (List.getElem?_set_self hkl).symm
      injection hkk2 with hkk2; subst hkk2; simp [WfHB, Wf]
    · rw [show (St.mk s'.tmps (s'.heap.set kb (.hrow t c n (-1) .any f3))).heap[k]? = s'.heap[k]? from List.getElem?_set_ne (fun e => hkk' e.symm)] at hkk
      exact hw.hp k hb hkk
   subst hN
   refine headN_rep hr'' hw'' (List.getElem?_set_self hkl) ⟨rfl, rfl, rfl, rfl, rfl, rfl⟩ hm ?_ hle (hb1 f3).1 (hb1 f3).2
   rw [← hmh]
   refine List.ext_getElem? fun j => ?_
   rw [maskH_get, maskH_get, List.getElem?_take, List.getElem?_take]
   by_cases hj : j < s.heap.length
   · rw [if_pos hj, if_pos hj]
     by_cases h : kb = j
     · subst h
       rw [List.getElem?_set_self hkl, hk]; simp
     · rw [List.getElem?_set_ne h]
   · rw [if_neg hj, if_neg hj]
 · by_cases hji : j = i
   · subst hji
     refine ⟨ys, vs, by simp [rSet, hn.len, hj], by rw [f3i]; exact hov, RepRow.mono (fun b hb => ⟨cut_ok hb, rfl⟩) e ys vs hrv, fun g he => ?_⟩
     rw [f3i] at he
     exact ⟨(blkN g he).1, (blkN g he).2, .inr ⟨N, Nat.le_refl _, hDN, hLN, he⟩⟩
   · obtain ⟨r', us', e1, e2, e3, e4⟩ := hn.at_ j hj
     refine ⟨r', us', ?_, ?_, RepRow.mono okm e r' us' e3, fun g he => ?_⟩
     · simp only [rSet, Int.toNat_natCast]; rw [List.getElem?_set_ne (fun h => hji h.symm)]; exact e1
     · rw [f3o hji]
       exact e2.keep fun g he => (blkO j hj hji g he).1
     · rw [f3o hji] at he
       have h4 := e4 g he
       exact ⟨h4.1, Nat.lt_of_lt_of_le h4.2.1 hgr.size, .inl (blkO j hj hji g he).2⟩
 · by_cases hji : j = i <;> by_cases hli : l = i
   · omega
   · subst hji
     rw [f3i] at hjg; rw [f3o hli] at hlg
     exact (hr.hp.nb N g hDN hLN hjg (blkO l hl hli g hlg).2).elim
   · subst hli
     rw [f3o hji] at hjg; rw [f3i] at hlg
     exact (hr.hp.nb N g hDN hLN hlg (blkO j hj hji g hjg).2).elim
   · rw [f3o hji] at hjg; rw [f3o hli] at hlg
     exact hn.inj j l g hj hl hjg hlg
 · simp only [rSet, Int.toNat_natCast] at hjr
   by_cases h : i = j
   · subst h
     rw [List.getElem?_set_self (by rw [hn.len]; exact hi)] at hjr
     injection hjr with hjr
     injection hjr with hjr _
     injection hjr with hjr
     subst hjr
     have := hw.hp N _ hkN
     simpa only [WfHB] using this
   · rw [List.getElem?_set_ne h] at hjr
     exact hn.wf j r' hjr
theorem exit_rep {V0 V V2 : Vw} {a a' : Act} {s1 s' : St} {kb n c : Nat} {e : List Sh} {t ty : TypeId} {f : Nat → Value} {x' : SV} {rows : List (List C)}
 (hg0 : Gro V0 V) (hbd0 : ∀ b, V0.bad b → b < V0.w.heap.size) (hr1 : StRep V a s1) (hn : NestOk V0.w.heap.size V n e ty f rows) (hnm : n ≤ maxLen) (hg : Gro V V2) (hr : StRep V2 a' s') (hw : StWf s')
 (hk : s'.heap[kb]? = some (.hrow t c n (-1) x' f)) :
 ∃ V4, V4.w = V2.w ∧ Gro V0 V4 ∧ StRep V4 a' ⟨s'.tmps, s'.heap.set kb (.row [.sl e] t c rows)⟩ ∧ StWf ⟨s'.tmps, s'.heap.set kb (.row [.sl e] t c rows)⟩ := by
 have g02 := hg0.trans hg
 obtain ⟨W, hgr⟩ := hg
 have hkl : kb < s'.heap.length := (List.getElem?_eq_some_iff.1 hk).1
 have blkO : ∀ j, j < n → ∀ g, blkOf (f j) = some g → V2.w.heap[g]? = V.w.heap[g]? ∧ V2.bad g ∧ V0.w.heap.size ≤ g ∧ g < V2.w.heap.size := fun j hj g he => by
  obtain ⟨_, _, _, _, _, hbj⟩ := hn.at_ j hj
  have hb := hbj g he
  exact ⟨hgr.blk g hb.2.1 fun k _ hd hl hbk => hr1.hp.nb k g hd hl hbk hb.2.2, (hgr.bad g).1 hb.2.2, hb.1, Nat.lt_of_lt_of_le hb.2.1 hgr.size⟩
 let V4 : Vw := { V2 with bad := fun b => V2.bad b ∧ ¬ ∃ j, j < n ∧ blkOf (f j) = some b }
 have hs : Stays V2 V4 := ⟨fun _ h => h, fun _ _ => Nat.le_refl _, fun _ _ _ => rfl, fun _ _ _ h => h, fun b hb => ⟨⟨hb.1, fun hx => hb.2.1 hx.1, hb.2.2⟩, rfl⟩⟩
 refine ⟨V4, rfl, ?_, ⟨VRs.mono hs _ _ hr.tm, ⟨fun k hkD => ?_, hr.hp.lt, fun b hb => hr.hp.bd b hb.1, fun k b hd hl hb hx => hr.hp.nb k b hd hl hb hx.1, hr.hp.inj⟩, fun k hkD => by simpa using hr.lt k hkD, hr.df⟩, ⟨hw.tm, fun k hb hkk => ?_⟩⟩
 · obtain ⟨W', h⟩ := g02
   exact ⟨W', ⟨h.os, h.tape, h.output, fun b => ⟨fun hx => ⟨(h.bad b).1 hx, fun ⟨j, hj, he⟩ => by have := hbd0 b hx; have := (blkO j hj b he).2.2.1; omega⟩, fun hx => (h.bad b).2 hx.1⟩, h.size, h.D, h.c, h.p, h.pp, h.L, h.mv, h.blk, h.new⟩⟩
 · obtain ⟨hb, h1, h2⟩ := hr.hp.rep k hkD
   by_cases hkk : k = kb
   · subst hkk
     rw [hk] at h1
     injection h1 with h1; subst h1
     obtain ⟨hL, hc, us, hov, hone, hat⟩ := h2
     have hcell : ∀ j, j < n → us[j]? = some (f j) := fun j hj => (hat j hj).2 (by omega)
     refine ⟨.row [.sl e] t c rows, by rw [List.getElem?_set_self hkl], hL, hc, n, us, hov, hn.len.symm, ?_⟩
     have hlen : us.length = n := by have := hov.1; omega
     have main : ∀ (rs : List (List C)) (d : Nat), d + rs.length = n → (∀ j, j < rs.length → rs[j]? = rows[d + j]?) → RepRow V4.w V4.ok [.sl e] rs (us.drop d) := by
      intro rs
      induction rs with
      | nil =>
       intro d hd _
       simp only [RepRow]
       exact List.drop_eq_nil_of_le (by simp at hd; omega)
      | cons x rs ih =>
       intro d hd hx
       simp only [List.length_cons] at hd
       have hdn : d < n := by omega
       obtain ⟨r, us', e1, e2, e3, e4⟩ := hn.at_ d hdn
       have hx0 := hx 0 (by simp)
       simp only [List.getElem?_cons_zero, Nat.add_zero, e1, Option.some.injEq] at hx0
       subst hx0
       have hdl : d < us.length := by omega
       have hu := hcell d hdn
       rw [List.getElem?_eq_getElem hdl] at hu
       injection hu with hu
       rw [List.drop_eq_getElem_cons hdl]
       refine ⟨[us[d]], us.drop (d + 1), rfl, ⟨us[d], [], rfl, hone _ (List.getElem_mem hdl), ?_, rfl⟩, ih (d + 1) (by omega) fun j hj => ?_⟩
       · rw [hu]
         have e2' : OwnRow V2.w ty e.length (f d) r.length us' := e2.keep fun g he => (blkO d hdn g he).1
         exact row_sl e2' rfl (RepRow.mono (fun b hb => hgr.stays.ok b hb) e r us' e3) (fun b hb => (hs.ok b hb).1) fun g he => ⟨(blkO d hdn g he).2.2.2, fun hx => hx.2 ⟨d, hdn, he⟩, fun k hd hl hb => hr.hp.nb k g hd hl hb (blkO d hdn g he).2.1⟩
       · have := hx (j + 1) (by simp; omega)
         simpa [Nat.add_assoc, Nat.add_comm 1 j] using this
     have := main rows 0 (by simp [hn.len]) fun j _ => by simp
     simpa using this
   · exact ⟨hb, by rw [List.getElem?_set_ne (fun e => hkk e.symm)]; exact h1, h2.mono hs hkD rfl id fun _ _ _ => rfl⟩
 · by_cases hkk' : k = kb
   · subst hkk'
     have hkk2 : (some (HB.row [.sl e] t c rows) : Option HB) = some hb := by rw [← hkk]; exact (List.getElem?_set_self hkl).symm
     · injection hkk2 with hkk2; subst hkk2
       simp only [WfHB]
       refine ⟨by rw [hn.len]; exact hnm, fun x hx => ?_⟩
       obtain ⟨j, hj, rfl⟩ := List.getElem_of_mem hx
       obtain ⟨r, _, e1, _⟩ := hn.at_ j (by rw [← hn.len]; exact hj)
       have e1' := e1
       rw [List.getElem?_eq_getElem hj] at e1
       injection e1 with e1
       rw [e1]
       simp only [WfCs, List.headD_cons, List.tail_cons, WfC, and_true]
       exact ⟨by simp, hn.wf j r e1'⟩
   · rw [show (St.mk s'.tmps (s'.heap.set kb (.row [.sl e] t c rows))).heap[k]? = s'.heap[k]? from List.getElem?_set_ne (fun e => hkk' e.symm)] at hkk
     exact hw.hp k hb hkk
theorem nest_init {V : Vw} {a : Act} {s : St} {ws kp : List Nat} {kb n c : Nat} {e : List Sh} {t ty : TypeId} {rows : List (List C)} {ts : List (Nat × SV)} (hr : StRep V a s) (hw : StWf s)
    (hk : s.heap[kb]? = some (.hrow t c n (-1) .any fun _ => .slice none 0 0)) (hrows : rows = List.replicate n [.l []]) (hle : leT s.tmps ts)
    (hb1 : belows s.heap.length (headN ws kp kb s ts (.hrow t c n (-1) .any fun _ => .slice none 0 0)).tmps = true ∧ (headN ws kp kb s ts (.hrow t c n (-1) .any fun _ => .slice none 0 0)).heap.all (belowHB s.heap.length) = true) :
    (StRep (V.cut s.heap.length) a (headN ws kp kb s ts (.hrow t c n (-1) .any fun _ => .slice none 0 0)) ∧ StWf (headN ws kp kb s ts (.hrow t c n (-1) .any fun _ => .slice none 0 0))) ∧
      NestOk V.w.heap.size (V.cut s.heap.length) n e ty (fun _ => .slice none 0 0) rows := by
  refine ⟨headN_rep hr hw hk ⟨rfl, rfl, rfl, rfl, rfl, rfl⟩ ⟨?_, rfl⟩ (by rw [List.take_length]) hle hb1.1 hb1.2, ⟨by rw [hrows]; simp, fun j hj => ⟨[], [], by rw [hrows, List.getElem?_replicate, if_pos hj], ⟨by simp, .inl ⟨rfl, none, rfl⟩⟩, rfl, fun g hg => by simp [blkOf] at hg⟩, fun i j g _ _ hg => by simp [blkOf] at hg, fun j r hj => ?_⟩⟩
  · have : ∀ (l : List SV), sameLen l l = true := fun l => by
      induction l with
      | nil => rfl
      | cons x r ih => exact ih
    exact this _
  · rw [hrows, List.getElem?_replicate] at hj
    split at hj
    · injection hj with hj
      injection hj with hj _
      injection hj with hj
      subst hj
      exact ⟨by simp, fun y hy => by simp at hy⟩
    · cases hj
theorem nest_sound {P : Program} {c : Code} {ws kp : List Nat} {body : St → (Exit → St → Prop) → Prop}
 (hbody : ∀ (s : St) (Q : Exit → St → Prop), body s Q → ∀ {V0 V : Vw} {a : Act}, Gro V0 V → StRep V a s → StWf s → c.wp P (Post V0 Q) a V.w)
 {kb : Nat} {e : List Sh} {ty : TypeId} {X : Type} {pre fin : X → Prop} {mk : X → List (Nat × SV)} {sel : X → Int} {rows : Nat → X → List (List C)} {mu : X → Nat} {s : St} {Q : Exit → St → Prop}
 (h : vcNest body ws kp kb e ty X pre fin mk sel rows mu s Q) {V0 V : Vw} {a : Act} (hg : Gro V0 V) (hr : StRep V a s) (hw : StWf s) : (Code.loop c).wp P (Post V0 Q) a V.w := by
 unfold vcNest at h
 split at h
 · rename_i t cc n i0 x0 f0 hk
   obtain ⟨⟨⟨rfl, rfl⟩, hnm⟩, ⟨xi, hpi, hri, hli⟩, hbel, hround⟩ := h
   have hk' : s.heap[kb]? = some (.hrow t cc n (-1) x0 fun _ => .slice none 0 0) := hk
   have hkl : kb < s.heap.length := (List.getElem?_eq_some_iff.1 hk).1
   have hrA : StRep V a ⟨s.tmps, s.heap.set kb (.hrow t cc n (-1) .any fun _ => .slice none 0 0)⟩ := by
    refine ⟨hr.tm, ⟨fun k hkD => ?_, hr.hp.lt, hr.hp.bd, hr.hp.nb, hr.hp.inj⟩, fun k hkD => by simpa using hr.lt k hkD, hr.df⟩
    obtain ⟨hb, h1, h2⟩ := hr.hp.rep k hkD
    by_cases hkk : k = kb
    · subst hkk
      rw [hk] at h1
      injection h1 with h1; subst h1
      obtain ⟨hL, hc, us, hov, hone, hat⟩ := h2
      exact ⟨.hrow t cc n (-1) .any fun _ => .slice none 0 0, List.getElem?_set_self hkl, hL, hc, us, hov, hone, fun j hj => ⟨fun h => by omega, (hat j hj).2⟩⟩
    · exact ⟨hb, by rw [show (St.mk s.tmps (s.heap.set kb (.hrow t cc n (-1) .any fun _ => .slice none 0 0))).heap[k]? = s.heap[k]? from List.getElem?_set_ne (fun e => hkk e.symm)]; exact h1, h2⟩
   have hwA : StWf ⟨s.tmps, s.heap.set kb (.hrow t cc n (-1) .any fun _ => .slice none 0 0)⟩ := by
    refine ⟨hw.tm, fun k hb hkk => ?_⟩
    by_cases hkk' : k = kb
    · subst hkk'
      have hkk2 : (some (HB.hrow t cc n (-1) .any fun _ => .slice none 0 0) : Option HB) = some hb := by rw [← hkk]; exact (List.getElem?_set_self hkl).symm
      injection hkk2 with hkk2; subst hkk2; simp [WfHB, Wf]
    · rw [show (St.mk s.tmps (s.heap.set kb (.hrow t cc n (-1) .any fun _ => .slice none 0 0))).heap[k]? = s.heap[k]? from List.getElem?_set_ne (fun e => hkk' e.symm)] at hkk
      exact hw.hp k hb hkk
   have key : ∀ (m : Nat) (x : X), mu x < m → pre x → WfTs (mk x) → ∀ (f : Nat → Value) (V1 : Vw) (a1 : Act), Gro V V1 → StRep V1 a1 (headN ws kp kb s (mk x) (.hrow t cc n (-1) .any f)) → StWf (headN ws kp kb s (mk x) (.hrow t cc n (-1) .any f)) →
    NestOk V.w.heap.size V1 n e ty f (rows n x) → Code.rounds P c (Post V0 Q) m a1 V1.w := by
    intro m
    induction m with
    | zero => intro x hx; omega
    | succ m ih =>
     intro x hlt hpre hwt f V1 a1 hg1 hr1 hw1 hn
     rw [rounds_succ]
     obtain ⟨hfin, hgo⟩ := hround f x hpre hwt hn.len
     have hhk : (headN ws kp kb s (mk x) (.hrow t cc n (-1) .any f)).heap[kb]? = some (.hrow t cc n (-1) .any f) := List.getElem?_set_self hkl
     have hhl : (headN ws kp kb s (mk x) (.hrow t cc n (-1) .any f)).heap.length = s.heap.length := List.length_set
     by_cases hf : fin x
     · have hb := hfin hf
       rw [St.force_eq] at hb
       refine wp_mono (hbody _ _ hb (V0 := V1) (Gro.refl V1) hr1 hw1) fun ex a' w' => ?_
       rintro ⟨V', s', rfl, hg', hr', hw', hq⟩
       have fin1 : (match s'.heap[kb]? with
        | some (.hrow t' c' n' i' x' f') => (t' = t ∧ c' = cc ∧ n' = n ∧ i' = -1) ∧ f' = f ∧ Q ex ⟨s'.tmps, s'.heap.set kb (.row [.sl e] t cc (rows n x))⟩
        | _ => False) → Post V0 Q ex a' V'.w := by
        intro hz
        split at hz
        · rename_i t' c' n' i' x' f' hkk
          obtain ⟨⟨e1, e2, e3, e4⟩, e5, hz⟩ := hz
          rw [e1, e2, e3, e4, e5] at hkk
          obtain ⟨V4, e4, g4, r4, w4⟩ := exit_rep hg1 hr.hp.bd hr1 hn hnm hg' hr' hw' hkk
          exact ⟨V4, _, e4.symm, hg.trans g4, r4, w4, hz⟩
        · exact hz.elim
       cases ex with
       | normal => exact hq.elim
       | exit id => exact fin1 hq
       | goto l => exact fin1 hq
       | ret => exact fin1 hq
       | panic ch => exact fin1 hq
       | outgrown => exact fin1 hq
     · obtain ⟨⟨hs0, hs1⟩, hb⟩ := hgo hf
       rw [St.force_eq] at hb
       obtain ⟨i, hi⟩ : ∃ i : Nat, sel x = (i : Int) := ⟨(sel x).toNat, by omega⟩
       rw [hi] at hb hs1
       have hin : i < n := by omega
       obtain ⟨ro, wo⟩ := opn_rep hr1 hw1 hhk hn hin (N := s.heap.length) hhl.symm
       show c.wp P _ a1 (V1.opn s.heap.length (f i)).w
       refine wp_mono (hbody _ _ hb (V0 := V1.opn s.heap.length (f i)) (Gro.refl _) ro wo) fun ex a' w' => ?_
       rintro ⟨V', s', rfl, hg', hr', hw', hq⟩
       cases ex with
       | normal =>
        obtain ⟨hm, hmh, hq⟩ := hq
        split at hq
        · rename_i t' c' n' i' N' c1 f' e' ty' c2 ys hkk hkN
          obtain ⟨⟨rfl, rfl, rfl, rfl, rfl, rfl, rfl, rfl⟩, rfl, y, hy, hry, hly, hmu⟩ := hq
          obtain ⟨f3, g3, ⟨r3, w3⟩, n3⟩ := close_rep (ws := ws) (kp := kp) (ts := mk y) rfl hg1 (fun k hk => hr.lt k hk) hr.hp.bd hr1 hhl hn hin hg' hr' hw' hkk hkN hkl hm hmh hly (fun f => hbel f y)
          exact ih y (by omega) hy (leT_wf hw'.tm _ hly) f3 (V'.cut s.heap.length) a' g3 r3 w3 (by rw [hry]; exact n3)
        · exact hq.elim
       | exit id => exact hq.elim
       | goto l => exact hq.elim
       | ret => exact hq.elim
       | panic ch => exact hq.elim
       | outgrown => exact hq.elim
   have hsA : (St.mk s.tmps (s.heap.set kb (.hrow t cc n (-1) .any fun _ => .slice none 0 0))).heap.length = s.heap.length := List.length_set
   have eqh : ∀ ts hb, headN ws kp kb ⟨s.tmps, s.heap.set kb (.hrow t cc n (-1) .any fun _ => .slice none 0 0)⟩ ts hb = headN ws kp kb s ts hb := fun ts hb => by simp [headN]
   obtain ⟨⟨r1, w1⟩, n1⟩ := nest_init (ws := ws) (kp := kp) (e := e) (ty := ty) (ts := mk xi) hrA hwA (List.getElem?_set_self hkl) hri hli (by rw [eqh, hsA]; exact hbel _ xi)
   rw [eqh, hsA] at r1
   rw [eqh] at w1
   rw [hsA] at n1
   exact wp_loop_rounds (mu xi + 1) (key _ xi (Nat.lt_succ_self _) hpi (leT_wf hw.tm _ hli) _ (V.cut s.heap.length) a ((Gro.refl V).cut (fun k hk => hr.lt k hk) hr.hp.lt) r1 w1 n1)
 · exact h.elim
theorem headN_wf {s s' : St} {ws kp : List Nat} {kb : Nat} {ts : List (Nat × SV)} {hb : HB} (hw : StWf s) (hw' : StWf s') (hle : leT s'.tmps ts) (hb' : WfHB hb) : StWf (headN ws kp kb s ts hb) := by
 have hts := leT_wf hw'.tm _ hle
 refine ⟨Wfs.all.2 fun c hc => ?_, fun k h hk => ?_⟩
 · obtain ⟨i, hi, rfl⟩ := List.getElem_of_mem hc
   rcases setsT_get _ _ i _ (List.getElem?_eq_getElem hi) with h | h
   · exact WfTs_mem hts h
   · rw [maskT_get] at h
     cases hx : s.tmps[i]? with
     | none => simp [hx] at h
     | some x =>
      simp only [hx, Option.map_some, Option.some.injEq] at h
      rw [← h]
      split
      · simp [Wf]
      · exact Wfs.all.1 hw.tm x (List.mem_of_getElem? hx)
 · simp only [headN] at hk
   rw [List.getElem?_set] at hk
   split at hk
   · split at hk
     · injection hk with hk; subst hk; exact hb'
     · cases hk
   · exact hw.hp k h hk
where WfTs_mem : ∀ {l : List (Nat × SV)} {i : Nat} {y : SV}, WfTs l → (i, y) ∈ l → Wf y
 | (j, z) :: r, i, y, h, hm => by
  rcases List.mem_cons.1 hm with hm | hm
  · injection hm with _ hm; subst hm; exact h.1
  · exact WfTs_mem h.2 hm
def RowsWf (e : List Sh) (n : Nat) (rows : List (List C)) : Prop := rows.length = n ∧ ∀ x ∈ rows, WfCs [.sl e] x
theorem nest_pure {ws kp : List Nat} {body : St → (Exit → St → Prop) → Prop} (hbody : ∀ (s : St) (Q : Exit → St → Prop), body s Q → StWf s → ∃ e s', Q e s' ∧ StWf s')
 {kb : Nat} {e : List Sh} {ty : TypeId} {X : Type} {pre fin : X → Prop} {mk : X → List (Nat × SV)} {sel : X → Int} {rows : Nat → X → List (List C)} {mu : X → Nat} {s : St} {Q : Exit → St → Prop}
 (h : vcNest body ws kp kb e ty X pre fin mk sel rows mu s Q) (hw : StWf s) : ∃ e s', Q e s' ∧ StWf s' := by
 unfold vcNest at h
 split at h
 · rename_i t cc n i0 x0 f0 hk
   obtain ⟨⟨⟨rfl, rfl⟩, hnm⟩, ⟨xi, hpi, hri, hli⟩, hbel, hround⟩ := h
   have hkl : kb < s.heap.length := (List.getElem?_eq_some_iff.1 hk).1
   have key : ∀ (m : Nat) (x : X), mu x < m → pre x → WfTs (mk x) → ∀ (f : Nat → Value), StWf (headN ws kp kb s (mk x) (.hrow t cc n (-1) .any f)) → RowsWf e n (rows n x) → ∃ e s', Q e s' ∧ StWf s' := by
    intro m
    induction m with
    | zero => intro x hx; omega
    | succ m ih =>
     intro x hlt hpre hwt f hw1 hn
     obtain ⟨hfin, hgo⟩ := hround f x hpre hwt hn.1
     by_cases hf : fin x
     · have hb := hfin hf
       rw [St.force_eq] at hb
       obtain ⟨ex, s', hq, hw'⟩ := hbody _ _ hb hw1
       have fin1 : (match s'.heap[kb]? with
        | some (.hrow t' c' n' i' x' f') => (t' = t ∧ c' = cc ∧ n' = n ∧ i' = -1) ∧ f' = f ∧ Q ex ⟨s'.tmps, s'.heap.set kb (.row [.sl e] t cc (rows n x))⟩
        | _ => False) → ∃ e s', Q e s' ∧ StWf s' := by
        intro hq
        split at hq
        · refine ⟨_, _, hq.2.2, hw'.tm, fun k h hk => ?_⟩
          simp only at hk
          rw [List.getElem?_set] at hk
          split at hk
          · split at hk
            · injection hk with hk; subst hk; simp only [WfHB]; exact ⟨by rw [hn.1]; exact hnm, hn.2⟩
            · cases hk
          · exact hw'.hp k h hk
        · exact hq.elim
       cases ex with
       | normal => exact hq.elim
       | exit id => exact fin1 hq
       | goto l => exact fin1 hq
       | ret => exact fin1 hq
       | panic ch => exact fin1 hq
       | outgrown => exact fin1 hq
     · obtain ⟨⟨hs0, hs1⟩, hb⟩ := hgo hf
       rw [St.force_eq] at hb
       obtain ⟨ex, s', hq, hw'⟩ := hbody _ _ hb ⟨hw1.tm, fun k h hk => by
        simp only [openN] at hk
        rw [List.getElem?_append] at hk
        split at hk
        · rw [List.getElem?_set] at hk
          split at hk
          · split at hk
            · injection hk with hk; subst hk; simp [WfHB, Wf]
            · cases hk
          · exact hw1.hp k h hk
        · rw [List.getElem?_singleton] at hk
          split at hk
          · injection hk with hk; subst hk
            have hsl : (sel x).toNat < (rows n x).length := by rw [hn.1]; omega
            have := hn.2 _ (List.getElem_mem hsl)
            simp only [rGet, List.getD_eq_getElem?_getD, List.getElem?_eq_getElem hsl, Option.getD_some]
            simp only [WfCs, WfC] at this
            simp only [WfHB]; exact this.2.1
          · cases hk⟩
       cases ex with
       | normal =>
        obtain ⟨hm, hmh, hq⟩ := hq
        split at hq
        · rename_i t' c' n' i' N' c1 f' e' ty' c2 ys hkk hkN
          obtain ⟨⟨rfl, rfl, rfl, rfl, rfl, rfl, rfl, rfl⟩, rfl, y, hy, hry, hly, hmu⟩ := hq
          refine ih y (by omega) hy (leT_wf hw'.tm _ hly) f' (headN_wf hw hw' hly (by simp [WfHB, Wf])) ?_
          rw [hry]
          refine ⟨by simp [rSet, hn.1], fun z hz => ?_⟩
          rcases List.mem_or_eq_of_mem_set hz with hz | rfl
          · exact hn.2 z hz
          · have := hw'.hp _ _ hkN
            simp only [WfHB] at this
            simp only [WfCs, WfC, List.headD_cons, List.tail_cons, and_true]
            exact ⟨by simp, this⟩
        · exact hq.elim
       | exit id => exact hq.elim
       | goto l => exact hq.elim
       | ret => exact hq.elim
       | panic ch => exact hq.elim
       | outgrown => exact hq.elim
   refine key (mu xi + 1) xi (Nat.lt_succ_self _) hpi (leT_wf hw.tm _ hli) (fun _ => .slice none 0 0) (headN_wf hw hw hli (by simp [WfHB, Wf])) ?_
   rw [hri]
   refine ⟨by simp, fun x hx => ?_⟩
   rw [(List.mem_replicate.1 hx).2]
   simp only [WfCs, WfC, List.headD_cons, List.tail_cons, and_true]
   exact ⟨by simp, by simp [C.list], fun y hy => by simp [C.list] at hy⟩
 · exact h.elim
structure NestPar where
 kb : Nat
 kp : List Nat
 e : List Sh
 ty : TypeId
 X : Type
 pre : X → Prop
 fin : X → Prop
 ts : X → List (Nat × SV)
 sel : X → Int
 rows : Nat → X → List (List C)
 mu : X → Nat
def noInl : Inl := fun _ _ _ _ => False
def noG : Nat → Option Ct := fun _ => none
def nestHandF (g : St → Option NestPar) : Program → Code → St → (Exit → St → Prop) → Prop := fun P c s Q =>
 P.follows .mixedOrders = true ∧ match g s with
  | some ⟨kb, kp, e, ty, X, pre, fin, ts, sel, rows, mu⟩ => vcNest (vcCode P noG false (fun _ => .unroll 0) (vcDraw P noG false) noInl c) (wrOf c) kp kb e ty X pre fin ts sel rows mu s Q
  | none => False
theorem nestHand_snd (g : St → Option NestPar) {P : Program} {c : Code} {s : St} {Q : Exit → St → Prop} (h : nestHandF g P c s Q) {V0 V : Vw} {a : Act} (hg : Gro V0 V) (hr : StRep V a s) (hw : StWf s) : (Code.loop c).wp P (Post V0 Q) a V.w := by
 obtain ⟨hm, h⟩ := h
 have hG : ∀ f ct, noG f = some ct → SoundCt P f ct := fun f ct h => by cases h
 split at h
 · exact nest_sound (fun s Q hb _ _ _ hg hr hw => code_sound hG (fun f args heap K h => h.elim) (draw_sound hG hm false) c s Q hb hg hr hw) h hg hr hw
 · exact h.elim
theorem nestHand_pure (g : St → Option NestPar) {P : Program} {c : Code} {s : St} {Q : Exit → St → Prop} (h : nestHandF g P c s Q) (hw : StWf s) : ∃ e s', Q e s' ∧ StWf s' := by
 obtain ⟨hm, h⟩ := h
 have hG : ∀ f ct, noG f = some ct → SoundCt P f ct := fun f ct h => by cases h
 split at h
 · exact nest_pure (fun s Q hb hw => code_pure hG (fun f args heap K h => h.elim) (draw_pure hG false) c s Q hb hw) h hw
 · exact h.elim
def nestHand (g : St → Option NestPar) : Hand := ⟨nestHandF g, nestHand_snd g, nestHand_pure g⟩
end Go.Sx
