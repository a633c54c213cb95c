/- Contracts that hand back a new map. -/
import Derived.Test.YtfeejcmeibfomaaSxUse
set_option linter.unusedVariables false
set_option linter.unusedSimpArgs false
namespace Go.Sx
open Go.RowKit
variable {P : Program} {G : Nat → Option Ct}
/-- What is handed back is a map of the call's own, with these entries. -/
def GivesM (kt : IntKind) (g : Bool) (e : List Sh) (zs : List (Int × List C)) (sv : SV) (heap : List HB) : Prop :=
  match sv with
  | .own k c => (match heap[k]? with
    | some (.mp kt' g' e' c' xs) => kt' = kt ∧ g' = g ∧ e' = e ∧ c = c' ∧ xs = zs
    | _ => False)
  | _ => False
theorem contractM (hm : P.follows .mixedOrders = true) (hG : ∀ f ct, G f = some ct → SoundCt P f ct) (wr : FuncId → Bool) (A : List (List C) → FuncId → Nat → LoopAnn) (n : Nat) (f : FuncId) (ct : Ct) {t : TypeId} {e : List Sh} {kt : IntKind} {g : Bool} {ks : List (List C) → List Int}
    (hbx : ct.bx = none) (how : ct.ow = none) (hfr : ct.fr = some (t, e)) (hfm : ct.fm = some (kt, g, ks)) (hfl : e.all noSl1 = true)
    (hwf : ∀ args, Wfs (ofRess ct.aps args) → ct.pre args → Wfs (ofRess ct.ars (ct.out args)))
    (h : ∀ args, Wfs (ofRess ct.ps args) → ct.pre args → vcF P G wr (A args) n f (ofRess ct.ps args) [] fun sv heap => GivesM kt g e ((ks args).zip (((ct.out args).headD []).headD default).list) sv heap) : SoundCt P f ct := by
  refine ⟨hwf, fun _ _ h => by (rw [hfr] at h; cases h), fun t e hb => by (rw [hbx] at hb; cases hb), fun t e r _ h => by rw [how] at h; (cases h), fun t' e' _ _ hfr' V args vals hlt hbd hwa hpre hv => ?_⟩
  rw [hfr] at hfr'
  obtain ⟨rfl, rfl⟩ := Prod.mk.inj (Option.some.inj hfr')
  let V1 : Vw := { w := V.w, D := fun _ => False, L := fun _ => False, c := fun _ => 0, p := fun _ => Go.undef, bad := fun b => b < V.w.heap.size ∧ ¬ V.ok b }
  have hok1 : ∀ b, V.ok b → V1.ok b ∧ V1.w.heap[b]? = V.w.heap[b]? := fun b hb => ⟨⟨hb.1, fun hbad => hbad.2 hb, fun k hk => hk.elim⟩, rfl⟩
  have hH1 : Heap V1 (fun k => ([] : List HB)[k]?) := ⟨fun k hk => hk.elim, fun k b hk => hk.elim, fun b hb => hb.1, fun k b hk => hk.elim, fun k k' b hk => hk.elim⟩
  obtain ⟨h1, h2⟩ := call_sound hG (fun b => draw_sound hG hm b) n f _ [] _ (h args hwa hpre) hwa (fun k c hk => by simp at hk) V1 vals (ofRess_data V V1 hok1 _ _ _ hv) hH1 (fun k hk => hk.elim)
  refine .inl ⟨h1, h2.mono fun ee w' ⟨v, V', sv, heap', he, hw', hK, hws, _, hvr, hg, hH, _⟩ => ?_⟩
  subst he; subst hw'
  obtain ⟨W, hg⟩ := hg
  refine ⟨v, rfl, ⟨hg.os, hg.tape, hg.output, hg.size, fun b hb => hg.blk b hb fun k _ hk => hk.elim⟩, ?_⟩
  rw [hfm]
  simp only
  unfold GivesM at hK
  split at hK
  · rename_i k c
    split at hK
    · rename_i kt' g' e' c' xs hk
      obtain ⟨rfl, rfl, rfl, hc, rfl⟩ := hK
      obtain ⟨hd, hL, _, b, es, clock, hv', hp, hb, hr⟩ := map_at hH hvr hk hc
      exact ⟨b, es, clock, hv', hg.new k hd hL (fun h => h) b (by rw [hp]; rfl), hH.lt k b hd hL (by rw [hp]; rfl), hb, EntsRep_flat hfl hr⟩
    · exact hK.elim
  · exact hK.elim
theorem contractHM (hm : P.follows .mixedOrders = true) (hG : ∀ f ct, G f = some ct → SoundCt P f ct) (wr : FuncId → Bool) (A : List (List C) → FuncId → Nat → LoopAnn) (n : Nat) (f : FuncId) (ct : Ct) {t : TypeId} {e : List Sh} {kt : IntKind} {g : Bool} {ks : List (List C) → List Int}
    (hbx : ct.bx = none) (how : ct.ow = none) (hfr : ct.fr = some (t, e)) (hfm : ct.fm = some (kt, g, ks)) (hfl : e.all noSl1 = true)
    (hwf : ∀ args, Wfs (ofRess ct.aps args) → ct.pre args → Wfs (ofRess ct.ars (ct.out args)))
    (h : ∀ args, Holds (Wfs (ofRess ct.ps args) → ct.pre args → vcF P G wr (A args) n f (ofRess ct.ps args) [] fun sv heap => GivesM kt g e ((ks args).zip (((ct.out args).headD []).headD default).list) sv heap)) : SoundCt P f ct :=
  contractM hm hG wr A n f ct hbx how hfr hfm hfl hwf fun args => (h args).out
/-- What is handed back is a row of the call's own, with these elements. -/
def GivesF (t : TypeId) (e : List Sh) (out : List (List C)) (sv : SV) (heap : List HB) : Prop :=
  match sv with
  | .own k c => (match heap[k]? with
    | some (.row e' t' c' xs) => t' = t ∧ e' = e ∧ c = c' ∧ xs = out
    | _ => False)
  | _ => False
theorem contractF (hm : P.follows .mixedOrders = true) (hG : ∀ f ct, G f = some ct → SoundCt P f ct) (wr : FuncId → Bool) (A : List (List C) → FuncId → Nat → LoopAnn) (n : Nat) (f : FuncId) (ct : Ct) {t : TypeId} {e : List Sh}
    (hbx : ct.bx = none) (how : ct.ow = none) (hfr : ct.fr = some (t, e)) (hfm : ct.fm = none) (hfl : e.all noSl1 = true)
    (h : ∀ args, Holds (Wfs (ofRess ct.ps args) → ct.pre args → vcF P G wr (A args) n f (ofRess ct.ps args) [] fun sv heap => GivesF t e ((((ct.out args).headD []).headD default).list) sv heap)) : SoundCt P f ct := by
  refine ⟨fun args hwa hpre => ?_, fun _ _ h => by (rw [hfr] at h; cases h), fun t e hb => by (rw [hbx] at hb; cases hb), fun t e r _ h => by rw [how] at h; (cases h), fun t' e' _ _ hfr' V args vals hlt hbd hwa hpre hv => ?_⟩
  · simp only [Ct.aps, Ct.ars, hbx, how, hfr] at hwa ⊢
    obtain ⟨sv, heap', hK, hws, hwh⟩ := call_pure hG (fun b => draw_pure hG b) n f _ [] _ ((h args).out hwa hpre) hwa (fun k c hk => by simp at hk)
    simp only [ofRess, ofRes, Wfs, ofCs, ofC, List.headD_cons, Wf, and_true]
    unfold GivesF at hK
    split at hK
    · split at hK
      · rename_i e' t' c' xs hk
        obtain ⟨rfl, rfl, hc, hx⟩ := hK
        rw [← hx]
        exact hwh _ _ hk
      · exact hK.elim
    · exact hK.elim
  rw [hfr] at hfr'
  obtain ⟨rfl, rfl⟩ := Prod.mk.inj (Option.some.inj hfr')
  let V1 : Vw := { w := V.w, D := fun _ => False, L := fun _ => False, c := fun _ => 0, p := fun _ => Go.undef, bad := fun b => b < V.w.heap.size ∧ ¬ V.ok b }
  have hok1 : ∀ b, V.ok b → V1.ok b ∧ V1.w.heap[b]? = V.w.heap[b]? := fun b hb => ⟨⟨hb.1, fun hbad => hbad.2 hb, fun k hk => hk.elim⟩, rfl⟩
  have hH1 : Heap V1 (fun k => ([] : List HB)[k]?) := ⟨fun k hk => hk.elim, fun k b hk => hk.elim, fun b hb => hb.1, fun k b hk => hk.elim, fun k k' b hk => hk.elim⟩
  obtain ⟨h1, h2⟩ := call_sound hG (fun b => draw_sound hG hm b) n f _ [] _ ((h args).out hwa hpre) hwa (fun k c hk => by simp at hk) V1 vals (ofRess_data V V1 hok1 _ _ _ hv) hH1 (fun k hk => hk.elim)
  refine .inl ⟨h1, h2.mono fun ee w' ⟨v, V', sv, heap', he, hw', hK, hws, _, hvr, hg, hH, _⟩ => ?_⟩
  subst he; subst hw'
  obtain ⟨W, hg⟩ := hg
  refine ⟨v, rfl, ⟨hg.os, hg.tape, hg.output, hg.size, fun b hb => hg.blk b hb fun k _ hk => hk.elim⟩, ?_⟩
  rw [hfm]
  simp only
  unfold GivesF at hK
  split at hK
  · rename_i k c
    split at hK
    · rename_i e' t' c' xs hk
      obtain ⟨rfl, rfl, hc, hx⟩ := hK
      simp only [VR] at hvr
      obtain ⟨hd, _, _, hv'⟩ := hvr
      obtain ⟨hb, h3, h4⟩ := hH.rep k hd
      rw [hk] at h3
      injection h3 with h3; subst h3
      obtain ⟨hL, hcc, n', us, ho, hn, hr⟩ := h4
      have hvp := hv' (by rw [hcc, hc])
      refine ⟨us, fun b hb => ⟨hg.new k hd hL (fun h => h) b (by rw [← hvp]; exact hb), hH.lt k b hd hL (by rw [← hvp]; exact hb)⟩, ?_, ?_⟩
      · rw [hvp, ← hx, ← hn]; exact ho
      · rw [← hx]; exact RepRow_flat hfl hr
    · exact hK.elim
  · exact hK.elim
end Go.Sx
