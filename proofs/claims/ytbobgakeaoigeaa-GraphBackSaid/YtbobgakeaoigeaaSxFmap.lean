/- Contracts that hand back a new map. -/
import Derived.Test.YtbobgakeaoigeaaSxUse
set_option linter.unusedVariables false
set_option linter.unusedSimpArgs false
namespace Go.Sx
open Go.RowKit
variable {P : Program} {G : Nat → Option Ct}
theorem RepC_flat {w w' : World} {ok ok' : Nat → Prop} {s : Sh} (hs : noSl1 s = true) {c : C} {v : Value} (h : RepC w ok s c v) : RepC w' ok' s c v := by
  cases s with
  | sl e => simp [noSl1] at hs
  | int k => simpa only [RepC] using h
  | bool => simpa only [RepC] using h
  | str => simpa only [RepC] using h
theorem RepVs_flat {w w' : World} {ok ok' : Nat → Prop} : ∀ {e : List Sh}, e.all noSl1 = true → ∀ {cs : List C} {us : List Value}, RepVs w ok e cs us → RepVs w' ok' e cs us
  | [], _, _, _, h => h
  | s :: r, he, cs, us, h => by
    simp only [List.all_cons, Bool.and_eq_true] at he
    obtain ⟨u, t, h1, h2, h3, h4⟩ := h
    exact ⟨u, t, h1, h2, RepC_flat he.1 h3, RepVs_flat he.2 h4⟩
theorem EntsRep_flat {w w' : World} {ok ok' : Nat → Prop} {kt : IntKind} {g : Bool} {e : List Sh} (he : e.all noSl1 = true) : ∀ {xs : List (Int × List C)} {ms : List MapEntry}, EntsRep w ok kt g e xs ms → EntsRep w' ok' kt g e xs ms
  | [], _, h => h
  | _ :: r, _, ⟨m, t, h1, ⟨hk, us, hr, hv⟩, h2⟩ => ⟨m, t, h1, ⟨hk, us, RepVs_flat he hr, hv⟩, EntsRep_flat he h2⟩
/-- What is handed back is a map of the call's own, with these entries. -/
def GivesM (kt : IntKind) (g : Bool) (e : List Sh) (zs : List (Int × List C)) (sv : SV) (heap : List HB) : Prop :=
  match sv with
  | .own k c => (match heap[k]? with
    | some (.mp kt' g' e' c' xs) => kt' = kt ∧ g' = g ∧ e' = e ∧ c = c' ∧ xs = zs
    | _ => False)
  | _ => False
theorem contractM (hm : P.follows .mixedOrders = true) (hG : ∀ f ct, G f = some ct → SoundCt P f ct) (wr : FuncId → Bool) (A : List (List C) → FuncId → Nat → LoopAnn) (n : Nat) (f : FuncId) (ct : Ct) {t : TypeId} {e : List Sh} {kt : IntKind} {g : Bool} {ks : List (List C) → List Int}
    (hbx : ct.bx = none) (how : ct.ow = none) (hfr : ct.fr = some (t, e)) (hfm : ct.fm = some (kt, g, ks)) (hfl : e.all noSl1 = true)
    (hwf : ∀ args, Wfs (ofRess ct.aps args) → ct.pre args → Wfs (ofRess ct.ars (ct.out args)))
    (h : ∀ args, Wfs (ofRess ct.ps args) → ct.pre args → vcF P G wr (A args) n f (ofRess ct.ps args) [] fun sv heap => GivesM kt g e ((ks args).zip (((ct.out args).headD []).headD default).list) sv heap) : SoundCt P f ct := by
  refine ⟨hwf, fun _ _ h => by (rw [hfr] at h; cases h), fun t e hb => by (rw [hbx] at hb; cases hb), fun t e r _ h => by rw [how] at h; (cases h), fun t' e' _ _ hfr' V args vals hlt hbd hwa hpre hv => ?_⟩
  rw [hfr] at hfr'
  obtain ⟨rfl, rfl⟩ := Prod.mk.inj (Option.some.inj hfr')
  let V1 : Vw := { w := V.w, D := fun _ => False, L := fun _ => False, c := fun _ => 0, p := fun _ => Go.undef, bad := fun b => b < V.w.heap.size ∧ ¬ V.ok b }
  have hok1 : ∀ b, V.ok b → V1.ok b ∧ V1.w.heap[b]? = V.w.heap[b]? := fun b hb => ⟨⟨hb.1, fun hbad => hbad.2 hb, fun k hk => hk.elim⟩, rfl⟩
  have hH1 : Heap V1 (fun k => ([] : List HB)[k]?) := ⟨fun k hk => hk.elim, fun k b hk => hk.elim, fun b hb => hb.1, fun k b hk => hk.elim, fun k k' b hk => hk.elim⟩
  obtain ⟨h1, h2⟩ := call_sound hG (fun b => draw_sound hG hm b) n f _ [] _ (h args hwa hpre) hwa (fun k c hk => by simp at hk) V1 vals (ofRess_data V V1 hok1 _ _ _ hv) hH1 (fun k hk => hk.elim)
  refine .inl ⟨h1, h2.mono fun ee w' ⟨v, V', sv, heap', he, hw', hK, hws, _, hvr, hg, hH, _⟩ => ?_⟩
  subst he; subst hw'
  obtain ⟨W, hg⟩ := hg
  refine ⟨v, rfl, ⟨hg.os, hg.tape, hg.output, hg.size, fun b hb => hg.blk b hb fun k _ hk => hk.elim⟩, ?_⟩
  rw [hfm]
  simp only
  unfold GivesM at hK
  split at hK
  · rename_i k c
    split at hK
    · rename_i kt' g' e' c' xs hk
      obtain ⟨rfl, rfl, rfl, hc, rfl⟩ := hK
      obtain ⟨hd, hL, _, b, es, clock, hv', hp, hb, hr⟩ := map_at hH hvr hk hc
      exact ⟨b, es, clock, hv', hg.new k hd hL (fun h => h) b (by rw [hp]; rfl), hH.lt k b hd hL (by rw [hp]; rfl), hb, EntsRep_flat hfl hr⟩
    · exact hK.elim
  · exact hK.elim
theorem contractHM (hm : P.follows .mixedOrders = true) (hG : ∀ f ct, G f = some ct → SoundCt P f ct) (wr : FuncId → Bool) (A : List (List C) → FuncId → Nat → LoopAnn) (n : Nat) (f : FuncId) (ct : Ct) {t : TypeId} {e : List Sh} {kt : IntKind} {g : Bool} {ks : List (List C) → List Int}
    (hbx : ct.bx = none) (how : ct.ow = none) (hfr : ct.fr = some (t, e)) (hfm : ct.fm = some (kt, g, ks)) (hfl : e.all noSl1 = true)
    (hwf : ∀ args, Wfs (ofRess ct.aps args) → ct.pre args → Wfs (ofRess ct.ars (ct.out args)))
    (h : ∀ args, Holds (Wfs (ofRess ct.ps args) → ct.pre args → vcF P G wr (A args) n f (ofRess ct.ps args) [] fun sv heap => GivesM kt g e ((ks args).zip (((ct.out args).headD []).headD default).list) sv heap)) : SoundCt P f ct :=
  contractM hm hG wr A n f ct hbx how hfr hfm hfl hwf fun args => (h args).out
end Go.Sx
