/- What is computed to be shown suffices: branches, blocks, loops, calls. -/
import Derived.Test.YtodpeopfbcblaaaSxVcs
namespace Go.Sx
open Go.RowKit
variable {P : Program} {G : Nat → Option Ct}

/-! ### A weaker symbolic value -/
mutual
theorem svLe_rep {V : Vw} : ∀ (y x : SV) (v : Value), svLe x y → VR V x v → VR V y v
  | .any, x, v, _, _ => by simp [VR]
  | .int k n, x, v, h, hv => by
    cases x <;> simp only [svLe] at h <;> try (exact h.elim)
    all_goals (obtain ⟨rfl, rfl⟩ := h; simpa only [VR] using hv)
  | .lit k n, x, v, h, hv => by
    cases x <;> simp only [svLe] at h <;> try (exact h.elim)
    obtain ⟨rfl, rfl⟩ := h; simpa only [VR] using hv
  | .bool b, x, v, h, hv => by
    cases x <;> simp only [svLe] at h <;> try (exact h.elim)
    all_goals (subst h; simpa only [VR] using hv)
  | .blit b, x, v, h, hv => by
    cases x <;> simp only [svLe] at h <;> try (exact h.elim)
    subst h; simpa only [VR] using hv
  | .str s, x, v, h, hv => by
    cases x <;> simp only [svLe] at h <;> try (exact h.elim)
    subst h; simpa only [VR] using hv
  | .sl e xs, x, v, h, hv => by
    cases x <;> simp only [svLe] at h <;> try (exact h.elim)
    · obtain ⟨rfl, rfl⟩ := h; exact hv
    · subst h
      have := toC_rep V (.sl e) .nils (.l []) v rfl hv
      simpa only [VR] using this
    · rename_i n sz cs
      have := toC_rep V (.sl e) (.slit n sz cs) (.l xs) v (by simp only [toC]; rw [if_pos h.1, h.2]; rfl) hv
      simpa only [VR] using this
  | .nils, x, v, h, hv => by cases x <;> simp only [svLe] at h <;> first | exact h.elim | exact hv
  | .nilp, x, v, h, hv => by cases x <;> simp only [svLe] at h <;> first | exact h.elim | exact hv
  | .ref k o, x, v, h, hv => by
    cases x <;> simp only [svLe] at h <;> try (exact h.elim)
    obtain ⟨rfl, rfl⟩ := h; exact hv
  | .own k, x, v, h, hv => by
    cases x <;> simp only [svLe] at h <;> try (exact h.elim)
    subst h; exact hv
  | .undef, x, v, h, hv => by cases x <;> simp only [svLe] at h <;> first | exact h.elim | exact hv
  | .agg cs, x, v, h, hv => by
    cases x <;> simp only [svLe] at h <;> try (exact h.elim)
    simp only [VR] at hv ⊢
    obtain ⟨vs, rfl, h1, h2⟩ := hv
    exact ⟨vs, rfl, h1, svLes_rep cs _ vs h h2⟩
  | .fn f cs, x, v, h, hv => by
    cases x <;> simp only [svLe] at h <;> try (exact h.elim)
    obtain ⟨rfl, h⟩ := h
    simp only [VR] at hv ⊢
    obtain ⟨vs, rfl, h2⟩ := hv
    exact ⟨vs, rfl, svLes_rep cs _ vs h h2⟩
  | .tup _, x, v, h, hv => by cases x <;> simp [svLe] at h
  | .slit _ _ _, x, v, h, hv => by cases x <;> simp [svLe] at h
  | .cref _, x, v, h, hv => by cases x <;> simp [svLe] at h
theorem svLes_rep {V : Vw} : ∀ (ys xs : List SV) (vs : List Value), svLes xs ys → VRs V xs vs → VRs V ys vs
  | [], xs, vs, h, hv => by
    cases xs with
    | nil => exact hv
    | cons x xs => simp [svLes, svLe.go] at h
  | y :: ys, xs, vs, h, hv => by
    cases xs with
    | nil => simp [svLes, svLe.go] at h
    | cons x xs =>
      simp only [svLes, svLe.go] at h
      simp only [VRs] at hv ⊢
      obtain ⟨v, r, rfl, h1, h2⟩ := hv
      exact ⟨v, r, rfl, svLe_rep y x v h.1 h1, svLes_rep ys xs r h.2 h2⟩
end
mutual
theorem svLe_wf : ∀ (y x : SV), svLe x y → Wf x → Wf y
  | .any, x, _, _ => by simp [Wf]
  | .int k n, x, h, hv => by
    cases x <;> simp only [svLe] at h <;> try (exact h.elim)
    all_goals (obtain ⟨rfl, rfl⟩ := h; simpa only [Wf] using hv)
  | .lit k n, x, h, hv => by
    cases x <;> simp only [svLe] at h <;> try (exact h.elim)
    obtain ⟨rfl, rfl⟩ := h; simpa only [Wf] using hv
  | .bool b, x, h, hv => by simp [Wf]
  | .blit b, x, h, hv => by simp [Wf]
  | .str s, x, h, hv => by
    cases x <;> simp only [svLe] at h <;> try (exact h.elim)
    subst h; exact hv
  | .sl e xs, x, h, hv => by
    cases x <;> simp only [svLe] at h <;> try (exact h.elim)
    · obtain ⟨rfl, rfl⟩ := h; exact hv
    · subst h; simp [Wf]
    · rename_i n sz cs
      have := toC_wf (.sl e) (.slit n sz cs) (.l xs) (by simp only [toC]; rw [if_pos h.1, h.2]; rfl) hv
      simpa only [Wf, WfC, C.list] using this
  | .nils, x, h, hv => by simp [Wf]
  | .nilp, x, h, hv => by simp [Wf]
  | .ref k o, x, h, hv => by simp [Wf]
  | .own k, x, h, hv => by simp [Wf]
  | .undef, x, h, hv => by simp [Wf]
  | .agg cs, x, h, hv => by
    cases x <;> simp only [svLe] at h <;> try (exact h.elim)
    simp only [Wf] at hv ⊢
    exact svLes_wf cs _ h hv
  | .fn f cs, x, h, hv => by
    cases x <;> simp only [svLe] at h <;> try (exact h.elim)
    simp only [Wf] at hv ⊢
    exact svLes_wf cs _ h.2 hv
  | .tup _, x, h, hv => by cases x <;> simp [svLe] at h
  | .slit _ _ _, x, h, hv => by cases x <;> simp [svLe] at h
  | .cref _, x, h, hv => by cases x <;> simp [svLe] at h
theorem svLes_wf : ∀ (ys xs : List SV), svLes xs ys → Wfs xs → Wfs ys
  | [], xs, h, hv => by simp [Wfs]
  | y :: ys, xs, h, hv => by
    cases xs with
    | nil => simp [svLes, svLe.go] at h
    | cons x xs =>
      simp only [svLes, svLe.go] at h
      simp only [Wfs] at hv ⊢
      exact ⟨svLe_wf y x h.1 hv.1, svLes_wf ys xs h.2 hv.2⟩
end
theorem hbLe_rep {V : Vw} {k : Nat} {x y : HB} (h : hbLe x y) (hx : HBRep V k x) : HBRep V k y := by
  cases x <;> cases y <;> simp only [hbLe] at h <;> try (exact h.elim)
  · obtain ⟨h, rfl⟩ := h
    obtain ⟨b, vs, hp, hh, h1, hr⟩ := hx
    exact ⟨b, vs, hp, hh, h1, svLes_rep _ _ _ h hr⟩
  · obtain ⟨rfl, rfl, rfl⟩ := h; exact hx
theorem hbLe_wf {x y : HB} (h : hbLe x y) (hx : WfHB x) : WfHB y := by
  cases x <;> cases y <;> simp only [hbLe] at h <;> try (exact h.elim)
  · obtain ⟨h, rfl⟩ := h
    simp only [WfHB] at hx ⊢
    exact svLes_wf _ _ h hx
  · obtain ⟨rfl, rfl, rfl⟩ := h; exact hx

/-! ### Blocks are let go -/
def Vw.cut (V : Vw) (n : Nat) : Vw := { V with D := fun k => V.D k ∧ k < n }
theorem cut_ok {V : Vw} {n b : Nat} (h : V.ok b) : (V.cut n).ok b := ⟨h.1, h.2.1, fun k hk => h.2.2 k hk.1⟩
mutual
theorem VR.cut {V : Vw} {n : Nat} : ∀ (s : SV) (v : Value), below n s = true → VR V s v → VR (V.cut n) s v
  | .any, v, _, _ => by simp only [VR]
  | .undef, v, _, h => by simpa only [VR] using h
  | .int k m, v, _, h => by simpa only [VR] using h
  | .lit k m, v, _, h => by simpa only [VR] using h
  | .bool b, v, _, h => by simpa only [VR] using h
  | .blit b, v, _, h => by simpa only [VR] using h
  | .str s, v, _, h => by simpa only [VR] using h
  | .agg cs, v, hb, hr => by
    simp only [VR] at hr ⊢
    simp only [below] at hb
    obtain ⟨vs, hv, h1, hs⟩ := hr
    exact ⟨vs, hv, h1, VRs.cut cs vs hb hs⟩
  | .tup cs, v, hb, hr => by
    simp only [VR] at hr ⊢
    simp only [below] at hb
    obtain ⟨vs, hv, hs⟩ := hr
    exact ⟨vs, hv, VRs.cut cs vs hb hs⟩
  | .sl e xs, v, _, hr => by
    simp only [VR] at hr ⊢
    exact RepC.mono (fun b hb => ⟨cut_ok hb, rfl⟩) _ _ _ hr
  | .nils, v, _, h => by simpa only [VR] using h
  | .slit m sz cs, v, hb, hr => by
    simp only [VR] at hr ⊢
    simp only [below] at hb
    obtain ⟨a, cap, hv, h1, h2, h3, b, o, ha, hok, hc⟩ := hr
    exact ⟨a, cap, hv, h1, h2, h3, b, o, ha, cut_ok hok, VRc.cut cs b o hb hc⟩
  | .ref k off, v, hb, hr => by
    simp only [VR] at hr ⊢
    simp only [below, decide_eq_true_eq] at hb
    obtain ⟨hd, b, hp, hv⟩ := hr
    exact ⟨⟨hd, hb⟩, b, hp, hv⟩
  | .cref cs, v, hb, hr => by
    simp only [VR] at hr ⊢
    simp only [below] at hb
    obtain ⟨b, o, hv, hok, hc⟩ := hr
    exact ⟨b, o, hv, cut_ok hok, VRc.cut cs b o hb hc⟩
  | .nilp, v, _, h => by simpa only [VR] using h
  | .own k, v, hb, hr => by
    simp only [VR] at hr ⊢
    simp only [below, decide_eq_true_eq] at hb
    exact ⟨⟨hr.1, hb⟩, hr.2⟩
  | .fn f cs, v, hb, hr => by
    simp only [VR] at hr ⊢
    simp only [below] at hb
    obtain ⟨vs, hv, hs⟩ := hr
    exact ⟨vs, hv, VRs.cut cs vs hb hs⟩
theorem VRs.cut {V : Vw} {n : Nat} : ∀ (cs : List SV) (vs : List Value), belows n cs = true → VRs V cs vs → VRs (V.cut n) cs vs
  | [], vs, _, h => by simpa only [VRs] using h
  | c :: cs, vs, hb, hr => by
    simp only [VRs] at hr ⊢
    simp only [belows, Bool.and_eq_true] at hb
    obtain ⟨v, r, hv, h1, h2⟩ := hr
    exact ⟨v, r, hv, VR.cut c v hb.1 h1, VRs.cut cs r hb.2 h2⟩
theorem VRc.cut {V : Vw} {n : Nat} : ∀ (cs : List SV) (b o : Nat), belows n cs = true → VRc V cs b o → VRc (V.cut n) cs b o
  | [], _, _, _, _ => by simp only [VRc]
  | c :: cs, b, o, hb, hr => by
    simp only [VRc] at hr ⊢
    simp only [belows, Bool.and_eq_true] at hb
    obtain ⟨⟨u, hu, h1, h2⟩, h3⟩ := hr
    exact ⟨⟨u, hu, h1, VR.cut c u hb.1 h2⟩, VRc.cut cs b _ hb.2 h3⟩
end
theorem HBRep.cut {V : Vw} {n k : Nat} {hb : HB} (hbl : belowHB n hb = true) (h : HBRep V k hb) : HBRep (V.cut n) k hb := by
  cases hb with
  | box cells t =>
    obtain ⟨b, vs, hp, hh, h1, hr⟩ := h
    exact ⟨b, vs, hp, hh, h1, VRs.cut _ _ hbl hr⟩
  | row e t xs =>
    obtain ⟨m, us, hown, hn, hr⟩ := h
    exact ⟨m, us, hown, hn, RepRow.mono (fun b hb => ⟨cut_ok hb, rfl⟩) e xs us hr⟩
  | gone => exact h.elim

/-! ### The loop's head -/
theorem maskT_len (ts : List Nat) : ∀ (l : List SV) (i : Nat), (maskT ts i l).length = l.length
  | [], _ => rfl
  | _ :: r, i => by simp [maskT, maskT_len ts r]
theorem maskT_get (ts : List Nat) : ∀ (l : List SV) (i j : Nat), (maskT ts i l)[j]? = (l[j]?).map fun x => if ts.contains (i + j) then .any else x
  | [], _, _ => by simp [maskT]
  | x :: r, i, 0 => by simp [maskT]
  | x :: r, i, j + 1 => by
    simp only [maskT, List.getElem?_cons_succ]
    rw [maskT_get ts r (i + 1) j, show i + 1 + j = i + (j + 1) by omega]
theorem maskH_len (ts : List Nat) : ∀ (l : List HB) (i : Nat), (maskH ts i l).length = l.length
  | [], _ => rfl
  | _ :: r, i => by simp [maskH, maskH_len ts r]
theorem maskH_get (ts : List Nat) : ∀ (l : List HB) (i j : Nat), (maskH ts i l)[j]? = (l[j]?).map fun x => if ts.contains (i + j) then .gone else x
  | [], _, _ => by simp [maskH]
  | x :: r, i, 0 => by simp [maskH]
  | x :: r, i, j + 1 => by
    simp only [maskH, List.getElem?_cons_succ]
    rw [maskH_get ts r (i + 1) j, show i + 1 + j = i + (j + 1) by omega]
theorem setsT_len : ∀ (xs : List (Nat × SV)) (l : List SV), (setsT l xs).length = l.length
  | [], l => rfl
  | (i, y) :: r, l => by simp only [setsT]; rw [setsT_len r]; simp
theorem setsT_get : ∀ (xs : List (Nat × SV)) (l : List SV) (j : Nat) (c : SV), (setsT l xs)[j]? = some c → (j, c) ∈ xs ∨ l[j]? = some c
  | [], l, j, c, h => .inr h
  | (i, y) :: r, l, j, c, h => by
    simp only [setsT] at h
    rcases setsT_get r _ j c h with h | h
    · exact .inl (by simp [h])
    · rw [List.getElem?_set] at h
      split at h
      · rename_i hij
        split at h
        · injection h with h; subst h; subst hij; exact .inl (by simp)
        · cases h
      · exact .inr h
theorem setsH_len : ∀ (xs : List (Nat × HB)) (l : List HB), (setsH l xs).length = l.length
  | [], l => rfl
  | (i, y) :: r, l => by simp only [setsH]; rw [setsH_len r]; simp
theorem setsH_get : ∀ (xs : List (Nat × HB)) (l : List HB) (j : Nat) (c : HB), (setsH l xs)[j]? = some c → (j, c) ∈ xs ∨ (l[j]? = some c ∧ j ∉ xs.map (·.1))
  | [], l, j, c, h => .inr ⟨h, by simp⟩
  | (i, y) :: r, l, j, c, h => by
    simp only [setsH] at h
    rcases setsH_get r _ j c h with h | ⟨h, h'⟩
    · exact .inl (by simp [h])
    · rw [List.getElem?_set] at h
      split at h
      · rename_i hij
        split at h
        · injection h with h; subst h; subst hij; exact .inl (by simp)
        · cases h
      · rename_i hij
        exact .inr ⟨h, by simp at h' ⊢; exact ⟨fun e => hij e.symm, h'⟩⟩
theorem leT_mem {l : List SV} : ∀ {xs : List (Nat × SV)} {i : Nat} {y : SV}, leT l xs → (i, y) ∈ xs → svLe (l.getD i .undef) y
  | (j, z) :: r, i, y, h, hm => by
    simp only [leT] at h
    rcases List.mem_cons.1 hm with hm | hm
    · injection hm with h1 h2; subst h1; subst h2; exact h.1
    · exact leT_mem h.2 hm
theorem leH_mem {l : List HB} : ∀ {xs : List (Nat × HB)} {i : Nat} {y : HB}, leH l xs → (i, y) ∈ xs → hbLe (l.getD i .gone) y
  | (j, z) :: r, i, y, h, hm => by
    simp only [leH] at h
    rcases List.mem_cons.1 hm with hm | hm
    · injection hm with h1 h2; subst h1; subst h2; exact h.1
    · exact leH_mem h.2 hm

/-- From a state to the loop's head: what the round wrote is forgotten but for what is said of it. -/
theorem head_rep {V : Vw} {a : Act} {s s' : St} {ws : List Nat} {ts : List (Nat × SV)} {hs : List (Nat × HB)} (hr : StRep V a s') (hw : StWf s')
    (hm : maskT ws 0 s'.tmps = maskT ws 0 s.tmps) (hmh : maskH (hs.map (·.1)) 0 (s'.heap.take s.heap.length) = maskH (hs.map (·.1)) 0 s.heap) (hle : leT s'.tmps ts) (hlh : leH s'.heap hs)
    (hb : belows s.heap.length (headOf ws s ts hs).tmps = true) (hbh : (headOf ws s ts hs).heap.all (belowHB s.heap.length) = true) :
    StRep (V.cut s.heap.length) a (headOf ws s ts hs) ∧ StWf (headOf ws s ts hs) := by
  have hlen : s'.tmps.length = s.tmps.length := by have := congrArg List.length hm; simpa [maskT_len] using this
  have hlenh : s.heap.length ≤ s'.heap.length := by have := congrArg List.length hmh; simp [maskH_len] at this; omega
  -- every temporary at the head is weaker than the one now
  have key : ∀ (i : Nat) (c : SV), (headOf ws s ts hs).tmps[i]? = some c → ∃ x, s'.tmps[i]? = some x ∧ (svLe x c ∨ c = .any ∨ x = c) := by
    intro i c hc
    simp only [headOf] at hc
    rcases setsT_get ts _ i c hc with h | h
    · have hi : i < s'.tmps.length := by
        have := (List.getElem?_eq_some_iff.1 hc).1
        rw [setsT_len, maskT_len] at this; omega
      refine ⟨s'.tmps[i], by simp [hi], .inl ?_⟩
      have := leT_mem hle h
      rwa [List.getD_eq_getElem?_getD, List.getElem?_eq_getElem hi, Option.getD_some] at this
    · have h2 := h
      rw [← hm, maskT_get] at h
      cases hx : s'.tmps[i]? with
      | none => simp [hx] at h
      | some x =>
        simp only [hx, Option.map_some, Option.some.injEq] at h
        refine ⟨x, rfl, ?_⟩
        split at h
        · exact .inr (.inl h.symm)
        · exact .inr (.inr h)
  have keyh : ∀ (i : Nat) (c : HB), (headOf ws s ts hs).heap[i]? = some c → ∃ x, s'.heap[i]? = some x ∧ (hbLe x c ∨ x = c) := by
    intro i c hc
    have hi : i < s.heap.length := by
      have := (List.getElem?_eq_some_iff.1 hc).1
      simp only [headOf] at this
      rwa [setsH_len] at this
    have hi' : i < s'.heap.length := by omega
    simp only [headOf] at hc
    refine ⟨s'.heap[i], by simp [hi'], ?_⟩
    rcases setsH_get hs _ i c hc with h | ⟨h, hn⟩
    · have := leH_mem hlh h
      rw [List.getD_eq_getElem?_getD, List.getElem?_eq_getElem hi', Option.getD_some] at this
      exact .inl this
    · right
      have h1 := maskH_get (hs.map (·.1)) (s'.heap.take s.heap.length) 0 i
      have h2 := maskH_get (hs.map (·.1)) s.heap 0 i
      rw [hmh, h2, h, List.getElem?_take, if_pos hi, List.getElem?_eq_getElem hi'] at h1
      simp only [Option.map_some, Nat.zero_add, Option.some.injEq] at h1
      have hc' : (hs.map (·.1)).contains i = false := by simpa using hn
      simp only [hc', Bool.false_eq_true, if_false] at h1
      exact h1.symm
  refine ⟨⟨?_, ⟨fun k hk => ?_, fun k b hk hbb => hr.hp.lt k b hk.1 hbb, hr.hp.bd, fun k k' b hk hk' h1 h2 => hr.hp.inj k k' b hk.1 hk'.1 h1 h2⟩, fun k hk => ?_, hr.df⟩, ⟨?_, fun k c hc => ?_⟩⟩
  · refine VRs.cut _ _ hb (VRs.of_get ?_ fun i c v hc hv => ?_)
    · have := hr.tm.len
      simp only [headOf, setsT_len, maskT_len]; omega
    · obtain ⟨x, hx, hle'⟩ := key i c hc
      obtain ⟨u, hu, hru⟩ := hr.tm.get i x hx
      rw [hv] at hu; injection hu with hu; subst hu
      rcases hle' with h | rfl | rfl
      · exact svLe_rep c x v h hru
      · simp [VR]
      · exact hru
  · have hlt : k < (headOf ws s ts hs).heap.length := by simp only [headOf, setsH_len]; exact hk.2
    refine ⟨(headOf ws s ts hs).heap[k], by simp [hlt], ?_⟩
    obtain ⟨x, hx, hle'⟩ := keyh k (headOf ws s ts hs).heap[k] (by simp [hlt])
    obtain ⟨hb', h1, h2⟩ := hr.hp.rep k hk.1
    rw [hx] at h1; injection h1 with h1; subst h1
    refine HBRep.cut ?_ ?_
    · exact (List.all_eq_true.1 hbh) _ (List.getElem_mem hlt)
    · rcases hle' with h | h
      · exact hbLe_rep h h2
      · rw [← h]; exact h2
  · simp only [headOf, setsH_len]; exact hk.2
  · refine Wfs.all.2 fun c hc => ?_
    obtain ⟨i, hi, rfl⟩ := List.getElem_of_mem hc
    obtain ⟨x, hx, hle'⟩ := key i _ (List.getElem?_eq_getElem hi)
    have hwx := Wfs.all.1 hw.tm x (List.mem_of_getElem? hx)
    rcases hle' with h | h | h
    · exact svLe_wf _ x h hwx
    · rw [h]; simp [Wf]
    · rw [← h]; exact hwx
  · obtain ⟨x, hx, hle'⟩ := keyh k c hc
    have hwx := hw.hp k x hx
    rcases hle' with h | rfl
    · exact hbLe_wf h hwx
    · exact hwx
end Go.Sx
