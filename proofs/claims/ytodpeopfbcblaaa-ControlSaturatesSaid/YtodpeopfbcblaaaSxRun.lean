/- What a symbolic operation says is what the operation does. -/
import Derived.Test.YtodpeopfbcblaaaSxOps
import Derived.Laws.CopyRow
import Derived.Laws.Rows
namespace Go.Sx
open Go.RowKit

def Lands (P : Program) (o : Oper) (a : Act) (V : Vw) (r : SV) (H' : Nat → Option HB) (W : List Nat) (n0 n1 : Nat) : Prop :=
  ∀ (K : Act → World → Prop) (Q : Exit → Act → World → Prop),
    (∀ v V', Grow V V' W → VR V' r v → Heap V' H' → (∀ k, V'.D k ↔ V.D k ∨ (n0 ≤ k ∧ k < n1)) → K (a.put o.dst v) V'.w) → o.wp P a V.w K Q

variable {P : Program} {o : Oper} {a : Act} {V : Vw} {H : Nat → Option HB}

theorem lands_value {r : SV} {v : Value} {n : Nat} {W : List Nat} (hrun : (execOp a.eval o).run P V.w = .ok (.value v) V.w) (hv : VR V r v) (hH : Heap V H) : Lands P o a V r H W n n := by
  intro K Q hK
  unfold Oper.wp
  rw [hrun]
  exact hK v V (Grow.refl V W) hv hH (fun k => ⟨.inl, fun h => h.elim id (fun h => by omega)⟩)

theorem Heap.congr {V : Vw} {H H' : Nat → Option HB} (h : Heap V H) (he : ∀ k, V.D k → H' k = H k) : Heap V H' :=
  ⟨fun k hk => by rw [he k hk]; exact h.rep k hk, h.lt, h.bd, h.inj⟩
theorem HBRep.mono {V V' : Vw} {k : Nat} {hb : HB} (hs : Stays V V') (hd : V.D k) (hb' : ∀ b, blkOf (V.p k) = some b → V'.w.heap[b]? = V.w.heap[b]?) (h : HBRep V k hb) : HBRep V' k hb := by
  cases hb with
  | box cells t =>
    obtain ⟨b, vs, hp, hh, h1, hr⟩ := h
    exact ⟨b, vs, by rw [(hs.D k hd).2]; exact hp, by rw [hb' b (by rw [hp]; rfl)]; exact hh, h1, VRs.mono hs _ _ hr⟩
  | row e t xs =>
    obtain ⟨n, us, hown, hn, hr⟩ := h
    refine ⟨n, us, ?_, hn, RepRow.mono hs.ok e xs us hr⟩
    rw [(hs.D k hd).2]
    refine ⟨hown.1, ?_⟩
    rcases hown.2 with h | ⟨g, cap, cur, hv, hg, hh, r⟩
    · exact .inl h
    · exact .inr ⟨g, cap, cur, hv, hg, by rw [hb' g (by rw [hv]; rfl)]; exact hh, r⟩
  | gone => exact h.elim

/-- A new block. -/
def Vw.new (V : Vw) (n : Nat) (o : Obj) : Vw := { w := V.w.alloc o, D := fun k => V.D k ∨ k = n, p := fun k => if k = n then .pointer (some ⟨V.w.heap.size, 0, none⟩) else V.p k, bad := V.bad }
theorem grow_new {V : Vw} {n : Nat} (hn : ¬ V.D n) (o : Obj) (W : List Nat) : Grow V (V.new n o) W where
  os := rfl
  tape := rfl
  output := rfl
  bad := rfl
  size := by show _ ≤ (V.w.alloc o).heap.size; rw [World.size_alloc]; omega
  D k hk := .inl hk
  p k hk := by simp only [Vw.new]; rw [if_neg (by rintro rfl; exact hn hk)]
  blk b hb _ := Below.heap_alloc V.w o b hb
  new k hk hk' b hb := by
    rcases hk with hk | rfl
    · exact (hk' hk).elim
    · simp only [Vw.new, if_pos, blkOf] at hb
      injection hb with hb; omega
theorem heap_new {V : Vw} {H : Nat → Option HB} (hH : Heap V H) {n : Nat} (hn : ¬ V.D n) {cs : List SV} {vs : List Value} {t : TypeId} (h1 : ∀ v ∈ vs, v.oneCell' = true) (hr : VRs V cs vs) {H' : Nat → Option HB}
    (hn' : H' n = some (.box cs t)) (hk' : ∀ k, V.D k → H' k = H k) : Heap (V.new n (.cells vs.toArray t)) H' := by
  have hg := grow_new hn (.cells vs.toArray t) []
  refine ⟨fun k hk => ?_, fun k b hk hb => ?_, fun b hb => Nat.lt_of_lt_of_le (hH.bd b hb) hg.size, fun k k' b hk hk' hb hb' => ?_⟩
  · by_cases he : k = n
    · subst he
      refine ⟨_, hn', V.w.heap.size, vs, by simp [Vw.new], heap_alloc_new V.w _, h1, VRs.mono hg.stays _ _ hr⟩
    · have hd : V.D k := hk.elim id (fun h => (he h).elim)
      obtain ⟨hb, h2, h3⟩ := hH.rep k hd
      exact ⟨hb, by rw [hk' k hd]; exact h2, h3.mono hg.stays hd fun b hb => hg.blk b (hH.lt k b hd hb) (by simp)⟩
  · simp only [Vw.new] at hb ⊢
    by_cases he : k = n
    · subst he
      simp only [if_pos, blkOf] at hb
      injection hb with hb; subst hb
      rw [World.size_alloc]; omega
    · rw [if_neg he] at hb
      have := hH.lt k b (hk.elim id (fun h => (he h).elim)) hb
      rw [World.size_alloc]; omega
  · simp only [Vw.new] at hb hb'
    by_cases he : k = n <;> by_cases he' : k' = n
    · omega
    · rw [if_pos he] at hb; rw [if_neg he'] at hb'
      have := hH.lt k' b (hk'.elim id (fun h => (he' h).elim)) hb'
      simp only [blkOf] at hb; injection hb with hb; omega
    · rw [if_neg he] at hb; rw [if_pos he'] at hb'
      have := hH.lt k b (hk.elim id (fun h => (he h).elim)) hb
      simp only [blkOf] at hb'; injection hb' with hb'; omega
    · rw [if_neg he] at hb; rw [if_neg he'] at hb'
      exact hH.inj k k' b (hk.elim id (fun h => (he h).elim)) (hk'.elim id (fun h => (he' h).elim)) hb hb'

theorem Heap.grow {V V' : Vw} {H : Nat → Option HB} (hH : Heap V H) (hg : Grow V V' []) (hD : ∀ k, V'.D k → V.D k) : Heap V' H := by
  refine ⟨fun k hk => ?_, fun k b hk hb => ?_, fun b hb => ?_, fun k k' b hk hk' hb hb' => ?_⟩
  · obtain ⟨hb, h1, h2⟩ := hH.rep k (hD k hk)
    exact ⟨hb, h1, h2.mono hg.stays (hD k hk) fun b hb => hg.blk b (hH.lt k b (hD k hk) hb) (by simp)⟩
  · rw [hg.p k (hD k hk)] at hb
    exact Nat.lt_of_lt_of_le (hH.lt k b (hD k hk) hb) hg.size
  · rw [hg.bad] at hb
    exact Nat.lt_of_lt_of_le (hH.bd b hb) hg.size
  · rw [hg.p k (hD k hk)] at hb
    rw [hg.p k' (hD k' hk')] at hb'
    exact hH.inj k k' b (hD k hk) (hD k' hk') hb hb'

theorem lands_new {cs : List SV} {vs : List Value} {t : TypeId} {n : Nat} {H' : Nat → Option HB} (hn : ¬ V.D n)
    (hrun : (execOp a.eval o).run P V.w = .ok (.value (.pointer (some ⟨V.w.heap.size, 0, none⟩))) (V.w.alloc (.cells vs.toArray t)))
    (h1 : ∀ v ∈ vs, v.oneCell' = true) (hr : VRs V cs vs) (hH : Heap V H) (hn' : H' n = some (.box cs t)) (hk' : ∀ k, V.D k → H' k = H k) : Lands P o a V (.ref n 0) H' [] n (n + 1) := by
  intro K Q hK
  unfold Oper.wp
  rw [hrun]
  refine hK _ (V.new n (.cells vs.toArray t)) (grow_new hn _ _) ?_ (heap_new hH hn h1 hr hn' hk') fun k => ?_
  · simp only [VR]
    exact ⟨.inr rfl, V.w.heap.size, by simp [Vw.new], rfl⟩
  · simp only [Vw.new]
    constructor
    · rintro (h | h)
      · exact .inl h
      · exact .inr (by omega)
    · rintro (h | h)
      · exact .inl h
      · exact .inr (by omega)
end Go.Sx
