/- The pieces of a clock, one after the other: the iterator's contract. -/
import Derived.RangeFuncNested
import Derived.RangeFuncBound
import Derived.RangeFuncCalls
import Derived.RangeFuncLeaves
import Derived.Shelf.Abstract
import Derived.Shelf.RegionOpen
import Derived.WalkKit
import Derived.OwnWalkIn
import Derived.TacticsInMore
import Derived.LoopNIn
import Derived.LoopIn
import Derived.Test.YtmoeognojncmhaaSxOpen
import Derived.Test.YtmoeognojncmhaaC13b
set_option linter.unusedVariables false
set_option linter.unusedSimpArgs false
namespace Go
open Go.Sx
structure Pc where
  f : Int
  n : Int
  d : Int
  u : Int
  b : Int
def Sp.unt (xs : List (List C)) (k : Nat) : Int := if k + 1 < xs.length then Sp.cf (rGet xs ((k : Int) + 1)) else 1099511627776
def Sp.beg (xs : List (List C)) : Nat → Int
  | 0 => 0
  | k + 1 => Sp.pat (Sp.cf (rGet xs k)) (Sp.cn (rGet xs k)) (Sp.cd (rGet xs k)) (Sp.beg xs k) (Sp.unt xs k)
def Sp.pc (xs : List (List C)) (k : Nat) : Pc := ⟨Sp.cf (rGet xs k), Sp.cn (rGet xs k), Sp.cd (rGet xs k), Sp.unt xs k, Sp.beg xs k⟩
def Sp.pcs (xs : List (List C)) (k : Nat) : List Pc := (List.range k).map (Sp.pc xs)
def Pc.ok (p : Pc) : Prop := Sp.pok p.f p.n p.d p.u p.b
def Pc.enc (p : Pc) : Value := .agg #[.int .i64 p.f, .int .i64 p.n, .int .i64 p.d, .int .i64 p.u, .int .i64 p.b]
abbrev Pq := { p : Pc // p.ok }
end Go
namespace Go.Proofs
open Go.RowKit Go.Shelf Go.Sx
attribute [local go_sem] Oper.semAt_some
/-- Cells lie as they lay but for some. -/
def KpB (O : Nat → Prop) (A B : World) : Prop := A.heap.size ≤ B.heap.size ∧ ∀ (k : Nat) (o : Obj), A.heap[k]? = some o → o.isCells = true → ¬ O k → B.heap[k]? = some o
theorem KpB.refl (O : Nat → Prop) (A : World) : KpB O A A := ⟨Nat.le_refl _, fun _ _ h _ _ => h⟩
theorem KpB.trans {O : Nat → Prop} {A B D : World} (h : KpB O A B) (k : KpB O B D) : KpB O A D := ⟨Nat.le_trans h.1 k.1, fun i o h1 h2 h3 => k.2 i o (h.2 i o h1 h2 h3) h2 h3⟩

theorem KpB.alloc (O : Nat → Prop) (A : World) (o : Obj) : KpB O A (A.alloc o) := ⟨by simp, fun k ob h _ _ => (Below.heap_alloc A o k (Array.getElem?_eq_some_iff.1 h).1).trans h⟩
theorem KpB.below {O : Nat → Prop} {A B : World} (h : Below A.heap.size A B) : KpB O A B := ⟨h.size, fun k ob h1 _ _ => (h.block k (Array.getElem?_eq_some_iff.1 h1).1).trans h1⟩
theorem KpB.cell {O : Nat → Prop} {A B : World} (h : KpB O A B) {c o : Nat} {v : Value} (hn : ¬ O c) (h1 : A.cell? ⟨c, o, none⟩ = some v) : B.cell? ⟨c, o, none⟩ = some v := by
  obtain ⟨ob, h2, h3⟩ := cells_of_cell h1
  exact (World.cell?_of_block ((h.2 c ob h2 h3 hn).trans h2.symm)).trans h1
theorem cell_al {W : World} {a : Addr} {v : Value} (o : Obj) (h : W.cell? a = some v) : (W.alloc o).cell? a = some v := cell_kept h (World.grownBy_alloc W o none) (fun r e => by cases e)
theorem grown_below {A B : World} (h : Below A.heap.size A B) : A.grownBy B none := ⟨h.os, h.tape, h.output, h.size, fun k hk _ => h.block k hk⟩
/-- What a contract says of a call, in words of the machine. -/
theorem calls_ct {P : Program} {f : FuncId} {ct : Ct} (hs : SoundCt P f ct) (he : entersB P f = true) (hbx : ct.bx = none) {args : List (List C)} {vals : List Value} {w : World} (hw : Wfs (ofRess ct.ps args)) (hp : ct.pre args) (hv : VRs (V0 w) (ofRess ct.ps args) vals) :
    Calls P f vals.toArray w fun e w' => ∃ v, e = .returned v ∧ Below w.heap.size w w' ∧ VR { V0 w with w := w' } (ct.sv args) v := by
  rcases hs.runs hbx (V0 w) args vals (fun k b hd => hd.elim) (fun b hb => hb.elim) hw hp hv with ⟨_, h⟩ | ⟨v, w', h, _⟩
  · exact h
  · exfalso
    unfold entersB at he
    cases hf : P.funcs[f]? with
    | none => simp [hf] at he
    | some fn =>
      simp only [hf, Bool.and_eq_true, Bool.not_eq_true'] at he
      simp only [callFunc, Sem.run_bind, run_program, Result.andThen_ok, hf] at h
      have hb : fn.body.isNone = false := by simpa using he.1
      simp [he.2, hb] at h
theorem at_in (n : Nat) (f m d u b t : Int) (hok : Sp.pok f m d u b) (ht : f ≤ t ∧ t ≤ u) (w : World) :
    CallsIn Fence.wide n Go.Proofs.Try.prog 37 #[.agg #[.int .i64 f, .int .i64 m, .int .i64 d, .int .i64 u, .int .i64 b], .int .i64 t] w fun e w' => e = .returned (.int .i64 (Sp.pat f m d b t)) ∧ Below w.heap.size w w' := by
  refine callsIn_wide.2 ?_
  obtain ⟨_, h1, h2, h3, h4, _, h5⟩ := Sp.cu_rv hok.1
  obtain ⟨k0, k1, k2, k3, k4, k5⟩ := hok
  have := calls_ct (P := Go.Proofs.Try.prog) (w := w) s37 (by kernel_rfl) rfl (args := [[.i f, .i m, .i d, .i u, .i b], [.i t]]) (vals := [.agg #[.int .i64 f, .int .i64 m, .int .i64 d, .int .i64 u, .int .i64 b], .int .i64 t])
    (show Wfs [.agg [.int .i64 f, .int .i64 m, .int .i64 d, .int .i64 u, .int .i64 b], .int .i64 t] by simp only [Wfs, Wf, InR, and_true]; omega)
    (show Sp.pok f m d u b ∧ (f ≤ t ∧ t ≤ u) from ⟨⟨k0, k1, k2, k3, k4, k5⟩, ht⟩)
    (show VRs (V0 w) [.agg [.int .i64 f, .int .i64 m, .int .i64 d, .int .i64 u, .int .i64 b], .int .i64 t] _ by
      simp only [VRs, VR]
      exact ⟨_, _, rfl, ⟨[.int .i64 f, .int .i64 m, .int .i64 d, .int .i64 u, .int .i64 b], rfl, by simp [Value.oneCell'], _, _, rfl, rfl, _, _, rfl, rfl, _, _, rfl, rfl, _, _, rfl, rfl, _, _, rfl, rfl, rfl⟩, _, _, rfl, rfl, rfl⟩)
  refine this.mono fun e w' => ?_
  rintro ⟨v, rfl, hb, hv⟩
  have hv' : v = .int .i64 (Sp.pat f m d b t) := hv
  rw [hv']
  exact ⟨rfl, hb⟩

set_option maxRecDepth 100000 in
set_option maxHeartbeats 2000000 in
theorem pieces1_in (n : Nat) (hn : 2 ≤ n) (l Bs b off cap len : Nat) (F N D U G : Nat → Int) (O : Nat → Prop) (J Jx : List Pq → World → Prop)
    (W : World) (hO : ∀ k, O k → k < W.heap.size) (hJ : AbidesFrom W.heap.size J)
    (hY : ∀ pre x W1, J pre W1 → pre.length < len → YieldAt Fence.wide (n - 1) Go.Proofs.Try.prog l #[(x.1).enc] W1 fun e W' =>
      (e = .returned (.bool true) ∧ J (pre ++ [x]) W' ∧ KpB O W1 W') ∨ (e = .returned (.bool false) ∧ Jx (pre ++ [x]) W'))
    (hBs : W.cell? ⟨Bs, 0, none⟩ = some (.slice (some ⟨b, off, none⟩) len cap))
    (hc : ∀ k : Nat, k < len → W.cell? ⟨b, off + k * 3, none⟩ = some (.int .i64 (F k)) ∧ W.cell? ⟨b, off + k * 3 + 1, none⟩ = some (.int .i64 (N k)) ∧ W.cell? ⟨b, off + k * 3 + 2, none⟩ = some (.int .i64 (D k)))
    (hU : ∀ k, k + 1 < len → U k = F (k + 1)) (hU' : ∀ k, ¬ k + 1 < len → U k = 1099511627776) (hG0 : G 0 = 0) (hG : ∀ k, k < len → G (k + 1) = Sp.pat (F k) (N k) (D k) (G k) (U k))
    (hOb : ¬ O b) (hOs : ¬ O Bs) (hok : ∀ k : Nat, k < len → (Pc.mk (F k) (N k) (D k) (U k) (G k)).ok) (hl64 : len ≤ 64)
    (h0 : J [] W) :
    CallsIn Fence.wide n Go.Proofs.Try.prog 47 #[.func (.yield l) #[] #[], .pointer (some ⟨Bs, 0, none⟩)] W fun e W' => (∃ v, e = .returned v) ∧
      ((∃ ys : List Pq, ys.map (·.1) = (List.range len).map (fun k => Pc.mk (F k) (N k) (D k) (U k) (G k)) ∧ J ys W') ∨ (∃ pre : List Pq, (∃ k, k ≤ len ∧ pre.map (·.1) = (List.range k).map (fun k => Pc.mk (F k) (N k) (D k) (U k) (G k))) ∧ Jx pre W')) := by
  refine callsIn_of_wp Go.Proofs.Try.func47 rfl trivial ?_ rfl
  simp only [Go.Proofs.Try.ntmps47, List.size_toArray, List.length_cons, List.length_nil, Nat.reduceAdd, Nat.reduceSub, Array.replicate_succ, Array.replicate_zero, List.push_toArray, List.append_toArray, List.nil_append, List.cons_append]
  gi_wp2
  gi_loopw [3, 10] (fun bg i wr => ∃ (k : Nat) (pre : List Pq), k ≤ len ∧ i = .int .i64 k ∧ bg = .int .i64 (G k) ∧ pre.map (·.1) = (List.range k).map (fun k => Pc.mk (F k) (N k) (D k) (U k) (G k)) ∧ J pre wr ∧ KpB O W wr) (fun _ i _ => len - (intOf i).toNat)
  case atStart => exact ⟨0, [], Nat.zero_le _, rfl, by rw [hG0], rfl, h0, KpB.refl O W⟩
  case round =>
    obtain ⟨k, pre, hk, rfl, rfl, hpre, hJs, hkp⟩ := hrel
    have cellK : ∀ {c o : Nat} {v : Value}, ¬ O c → W.cell? ⟨c, o, none⟩ = some v → wr.cell? ⟨c, o, none⟩ = some v := by
      intro c o v hn h
      obtain ⟨ob, h1, h2⟩ := cells_of_cell h
      exact (World.cell?_of_block ((hkp.2 c ob h1 h2 hn).trans h1.symm)).trans h
    have hBs' := cellK hOs hBs
    by_cases hlt : k < len
    · have hlen : pre.length < len := by
        have := congrArg List.length hpre
        simp at this
        omega
      have c0 := cellK hOb (hc k hlt).1
      have c1 := cellK hOb (hc k hlt).2.1
      have c2 := cellK hOb (hc k hlt).2.2
      have hB2 : ∀ o1 o2, ((wr.alloc o1).alloc o2).cell? ⟨Bs, 0, none⟩ = some (.slice (some ⟨b, off, none⟩) len cap) := fun o1 o2 => cell_al _ (cell_al _ hBs')
      by_cases hlast : k + 1 < len
      · have c3 : ∀ o1 o2, ((wr.alloc o1).alloc o2).cell? ⟨b, off + (k + 1) * 3, none⟩ = some (.int .i64 (F (k + 1))) := fun o1 o2 => cell_al _ (cell_al _ (cellK hOb (hc (k + 1) hlast).1))
        have hi : ((k : Int) + 1).toNat = k + 1 := by omega
        obtain ⟨W1, hW1⟩ : ∃ W1, W1 = (wr.alloc (.cells #[.int .i64 (F k), .int .i64 (N k), .int .i64 (D k)] 61)).alloc (.cells #[.int .i64 (F k), .int .i64 (N k), .int .i64 (D k), .int .i64 (F (k + 1)), .int .i64 (G k)] 71) := ⟨_, rfl⟩
        have eU : U k = F (k + 1) := hU k hlast
        have ok1 : (Pc.mk (F k) (N k) (D k) (F (k + 1)) (G k)).ok := by have := hok k hlt; rwa [eU] at this
        have g1 : wr.grownBy W1 none := by rw [hW1]; exact grown_below (((Below.refl _ wr).alloc (Nat.le_refl _) _).alloc (by simp) _)
        have J1 : J pre W1 := hJ _ _ _ none hJs g1 (fun r e => by cases e)
        have sz1 : W1.heap.size = wr.heap.size + 2 := by rw [hW1]; simp
        have kp1 : KpB O W W1 := hkp.trans (by rw [hW1]; exact (KpB.alloc O wr _).trans (KpB.alloc O _ _))
        have nO : ¬ O (wr.heap.size + 1) := fun h => by have := hO _ h; have := hkp.1; omega
        obtain ⟨fn, tmps, assign, body, hy, hR⟩ := hY pre (⟨_, ok1⟩ : Pq) W1 J1 hlen
        have cx : ∀ (j : Nat) (v : Value), (#[Value.int .i64 (F k), .int .i64 (N k), .int .i64 (D k), .int .i64 (F (k + 1)), .int .i64 (G k)] : Array Value)[j]? = some v → ∀ W3, KpB O W1 W3 → W3.cell? ⟨wr.heap.size + 1, j, none⟩ = some v := fun j v h W3 hk =>
          hk.cell nO (by rw [hW1]; exact (World.cell?_alloc_at _ _ _ _ (by simp)).trans h)
        dsimp only [Pc.enc] at hy
        have hnext : (pre ++ [(⟨_, ok1⟩ : Pq)]).map (·.1) = (List.range (k + 1)).map (fun k => Pc.mk (F k) (N k) (D k) (U k) (G k)) := by
          rw [List.map_append, hpre, List.range_succ, List.map_append]; simp [eU]
        have hGk := hG k hlt
        rw [eU] at hGk
        rw [hW1] at hy
        clear hc hok hU hU' hG hY hpre cellK
        gi_wp2
        rw [← hW1]
        refine ⟨fun _ => by omega, hR.mono ?_⟩
        rintro e W3 (⟨rfl, hJ3, hk3⟩ | ⟨rfl, hJx3⟩)
        · have y0 := cx 0 _ rfl W3 hk3
          have y1 := cx 1 _ rfl W3 hk3
          have y2 := cx 2 _ rfl W3 hk3
          have y3 := cx 3 _ rfl W3 hk3
          have y4 := cx 4 _ rfl W3 hk3
          clear cx
          have h37 : Fence.wide.fn 37 := trivial
          have hn1 : 1 ≤ n := by omega
          gi_wp2_with (gi_at_call 37; refine (at_in _ _ _ _ _ _ _ ok1 ⟨by have := ok1; exact this.2.2.1, Int.le_refl _⟩ _).mono ?_; rintro e W4 ⟨rfl, hb4⟩)
          go_roundw
          case rel => exact ⟨k + 1, pre ++ [(⟨_, ok1⟩ : Pq)], by omega, by simp, by rw [hGk], hnext, hJ _ _ _ none hJ3 (grown_below hb4) (fun r e => by cases e), (kp1.trans hk3).trans (KpB.below hb4)⟩
          case measure => simp [intOf]; omega
        · gi_wp2
          refine bodyPost_ret (results_none rfl _ _ _) rfl ?_
          exact ⟨⟨_, rfl⟩, .inr ⟨_, ⟨k + 1, by omega, hnext⟩, hJx3⟩⟩
      · obtain ⟨W1, hW1⟩ : ∃ W1, W1 = (wr.alloc (.cells #[.int .i64 (F k), .int .i64 (N k), .int .i64 (D k)] 61)).alloc (.cells #[.int .i64 (F k), .int .i64 (N k), .int .i64 (D k), .int .i64 (1099511627776), .int .i64 (G k)] 71) := ⟨_, rfl⟩
        have eU : U k = 1099511627776 := hU' k hlast
        have ok1 : (Pc.mk (F k) (N k) (D k) (1099511627776) (G k)).ok := by have := hok k hlt; rwa [eU] at this
        have g1 : wr.grownBy W1 none := by rw [hW1]; exact grown_below (((Below.refl _ wr).alloc (Nat.le_refl _) _).alloc (by simp) _)
        have J1 : J pre W1 := hJ _ _ _ none hJs g1 (fun r e => by cases e)
        have sz1 : W1.heap.size = wr.heap.size + 2 := by rw [hW1]; simp
        have kp1 : KpB O W W1 := hkp.trans (by rw [hW1]; exact (KpB.alloc O wr _).trans (KpB.alloc O _ _))
        have nO : ¬ O (wr.heap.size + 1) := fun h => by have := hO _ h; have := hkp.1; omega
        obtain ⟨fn, tmps, assign, body, hy, hR⟩ := hY pre (⟨_, ok1⟩ : Pq) W1 J1 hlen
        have cx : ∀ (j : Nat) (v : Value), (#[Value.int .i64 (F k), .int .i64 (N k), .int .i64 (D k), .int .i64 (1099511627776), .int .i64 (G k)] : Array Value)[j]? = some v → ∀ W3, KpB O W1 W3 → W3.cell? ⟨wr.heap.size + 1, j, none⟩ = some v := fun j v h W3 hk =>
          hk.cell nO (by rw [hW1]; exact (World.cell?_alloc_at _ _ _ _ (by simp)).trans h)
        dsimp only [Pc.enc] at hy
        have hnext : (pre ++ [(⟨_, ok1⟩ : Pq)]).map (·.1) = (List.range (k + 1)).map (fun k => Pc.mk (F k) (N k) (D k) (U k) (G k)) := by
          rw [List.map_append, hpre, List.range_succ, List.map_append]; simp [eU]
        have hGk := hG k hlt
        rw [eU] at hGk
        rw [hW1] at hy
        clear hc hok hU hU' hG hY hpre cellK
        gi_wp2
        rw [← hW1]
        refine ⟨fun _ => by omega, hR.mono ?_⟩
        rintro e W3 (⟨rfl, hJ3, hk3⟩ | ⟨rfl, hJx3⟩)
        · have y0 := cx 0 _ rfl W3 hk3
          have y1 := cx 1 _ rfl W3 hk3
          have y2 := cx 2 _ rfl W3 hk3
          have y3 := cx 3 _ rfl W3 hk3
          have y4 := cx 4 _ rfl W3 hk3
          clear cx
          have h37 : Fence.wide.fn 37 := trivial
          have hn1 : 1 ≤ n := by omega
          gi_wp2_with (gi_at_call 37; refine (at_in _ _ _ _ _ _ _ ok1 ⟨by have := ok1; exact this.2.2.1, Int.le_refl _⟩ _).mono ?_; rintro e W4 ⟨rfl, hb4⟩)
          go_roundw
          case rel => exact ⟨k + 1, pre ++ [(⟨_, ok1⟩ : Pq)], by omega, by simp, by rw [hGk], hnext, hJ _ _ _ none hJ3 (grown_below hb4) (fun r e => by cases e), (kp1.trans hk3).trans (KpB.below hb4)⟩
          case measure => simp [intOf]; omega
        · gi_wp2
          refine bodyPost_ret (results_none rfl _ _ _) rfl ?_
          exact ⟨⟨_, rfl⟩, .inr ⟨_, ⟨k + 1, by omega, hnext⟩, hJx3⟩⟩
    · obtain rfl : k = len := by omega
      gi_wp2
      go_end0
      exact ⟨⟨_, rfl⟩, .inl ⟨_, hpre, hJs⟩⟩
end Go.Proofs
