import Derived.Test.YtphaelepnjekoaaGreatSxOpen
import Derived.Test.YtphaelepnjekoaaGreatY27t
import Derived.WalkKit
import Derived.Deep.LoopGhost
import Derived.Shelf.RegionOpenPlain
import Derived.Lib.Walk
import Derived.Lib.SliceRun
import Derived.Lib.JoinLaws
import Derived.Lib.AppendZerosOnto
import Derived.Lib.Overlaps
import Derived.Laws.Externs
import Derived.KernelRfl
set_option linter.unusedVariables false
set_option linter.unusedSimpArgs false
namespace Go.Proofs
open Go.RowKit Go.Shelf Go.Lib Go.Sx
end Go.Proofs
namespace Go
open Go.Sx
def Sp.del (xs : List (List C)) (i j : Int) : List (List C) := xs.take i.toNat ++ xs.drop j.toNat
end Go
namespace Go.Proofs
open Go.RowKit Go.Shelf Go.Lib Go.Sx
theorem step_appS {P : Program} {ops : Array Oper} {o : Oper} {a : Act} {w : World} {K : Act → World → Prop} {Q : Exit → Act → World → Prop} {E : Prop}
 (hg : o.guard = none) (d x : Operand) (dT sT : TypeId) (hop : o.op = Op.call { callee := Callee.builtin Builtin.append, args := #[d, x], argTypes := #[dT, sT] })
 (v u : Value) (hd : a.eval d = v) (hx : a.eval x = u) {v' : Value} {w' : World} (hr : (Builtin.append_ #[dT, sT] o.type #[v, u]).run P w = .ok v' w') (hK : K (a.put o.dst v') w') :
 if Region.wanted o (yielded ops a.tmps) = true then Oper.wp P o a w K Q else E := by
 have hw : Region.wanted o (yielded ops a.tmps) = true := by simp [Region.wanted, hg]
 rw [if_pos hw]
 unfold Oper.wp
 simp [execOp, hop, resolve, invoke, builtin, hd, hx, hr, Result.andThen]
 exact hK
theorem info_of1 {P : Program} {t : TypeId} {K BY : Nat} (h : infoIs P t K BY = true) : ∃ i0, P.info? t = some i0 ∧ ∃ z, i0.zero = some z ∧ i0.size = K ∧ i0.bytes = BY ∧ z.cells.size = K ∧ ∀ u ∈ z.cells.toList, u.oneCell' = true := by
 unfold infoIs at h
 split at h
 · rename_i i hi
   split at h
   · rename_i z hz
     simp only [Bool.and_eq_true] at h
     exact ⟨i, hi, z, hz, Nat.eq_of_beq_eq_true h.1.1.2, Nat.eq_of_beq_eq_true h.1.2, Nat.eq_of_beq_eq_true h.1.1.1, fun u hu => List.all_eq_true.1 h.2 u hu⟩
   · cases h
 · cases h
theorem zeroCells_one {z : Value} {K : Nat} (hK : 0 < K) (hz : z.cells.size = K) (h1 : ∀ u ∈ z.cells.toList, u.oneCell' = true) (n : Nat) : ∀ u ∈ (Builtin.zeroCells z.cells n).toList, u.oneCell' = true := by
 intro u hu
 rw [Array.mem_toList_iff, Array.mem_iff_getElem] at hu
 obtain ⟨i, hi, rfl⟩ := hu
 have hsz : (Builtin.zeroCells z.cells n).size = n * z.cells.size := size_zeroCells _ _
 have hlt : i % z.cells.size < z.cells.size := Nat.mod_lt _ (by omega)
 refine h1 _ ?_
 simp only [Builtin.zeroCells, Array.getElem_ofFn]
 simp [hlt]
set_option maxHeartbeats 4000000 in
set_option maxRecDepth 100000 in
theorem del51_walk (us : List Value) (n c i j g : Nat) (cur : Array Value) (w : World) (hij : i < j) (hjn : j ≤ n) (hnc : n ≤ c) (hcm : c ≤ maxLen) (hul : us.length = n * 4)
 (hg : w.heap[g]? = some (.cells cur 41 (0, 0))) (hcs : cur.size = c * 4) (hct : cur.toList.take (n * 4) = us) (h1c : ∀ u ∈ us, u.oneCell' = true) :
 Calls Go.Proofs.Tryz.prog 30 #[.slice (some ⟨g, 0, none⟩) n c, .int .i64 i, .int .i64 j] w fun e w' => e = .returned (.slice (some ⟨g, 0, none⟩) (i + (n - j)) c) ∧ OwnRow w' 41 4 (.slice (some ⟨g, 0, none⟩) (i + (n - j)) c) (i + (n - j)) (us.take (i * 4) ++ us.drop (j * 4)) ∧
  w'.os = w.os ∧ w'.tape = w.tape ∧ w'.output = w.output ∧ w.heap.size ≤ w'.heap.size ∧ ∀ b, b < w.heap.size → b ≠ g → w'.heap[b]? = w.heap[b]? := by
 have mixed := followsMixed
 obtain ⟨i0, hi, z, hz0, hz1, hz2, hzs, hzo⟩ := info_of1 (P := Go.Proofs.Tryz.prog) (t := 41) (K := 4) (BY := 32) (by kernel_rfl)
 have t22 : Go.Proofs.Tryz.prog.underlying 29 = some (.slice 41) := by kernel_rfl
 have u22 := run_underlying t22
 have zz : ∀ w, (Go.sizeOf 41).run Go.Proofs.Tryz.prog w = .ok 4 w := fun w => by simp [sizeOf, typeInfo, hi, hz1]
 have zv : ∀ w, (zeroValue 41).run Go.Proofs.Tryz.prog w = .ok z w := fun w => by simp [zeroValue, typeInfo, hi, hz0]
 have hcm' : c ≤ 9223372036854775807 := by simpa [maxLen] using hcm
 have hi4 := Nat.mul_le_mul_right 4 (show i ≤ n by omega)
 have hj4 := Nat.mul_le_mul_right 4 (show j ≤ n by omega)
 have hown : (w.drew).ownsRow 0 41 4 (.slice (some ⟨g, 0, none⟩) i c) i (us.take (i * 4)) := ⟨by rw [List.length_take, hul]; omega, .inr ⟨g, c, cur, rfl, Nat.zero_le _, hg, by omega, hcm, hcs, by rw [← hct, List.take_take]; congr 1; omega⟩⟩
 have hcell : ∀ q u, us[q]? = some u → w.drew.cell? ⟨g, q, none⟩ = some u := fun q u hq => by
  rw [← hct, List.getElem?_take] at hq
  split at hq
  · show w.cell? _ = _
    simp only [World.cell?, hg]
    simpa using hq
  · cases hq
 have hdl : (us.drop (j * 4)).length = (n - j) * 4 := by rw [List.length_drop, hul, Nat.sub_mul]
 obtain ⟨A, hA, hsrc⟩ : ∃ A : Addr, (if c = j then some (⟨g, 0, none⟩ : Addr) else some ⟨g, j * 4, none⟩) = some A ∧ ∀ t u, (us.drop (j * 4))[t]? = some u → w.drew.cell? (A.add t) = some u := by
  by_cases h : c = j
  · refine ⟨⟨g, 0, none⟩, by simp [h], fun t u hu => ?_⟩
    have h0 : (us.drop (j * 4)).length = 0 := by rw [hdl, show n - j = 0 by omega, Nat.zero_mul]
    rw [List.length_eq_zero_iff.1 h0] at hu
    simp at hu
  · refine ⟨⟨g, j * 4, none⟩, by simp [h], fun t u hu => ?_⟩
    rw [Addr.add_lit]
    rw [List.getElem?_drop] at hu
    exact hcell _ u hu
 obtain ⟨w1, hrun, hrow, hgr⟩ := run_append_fits (P := Go.Proofs.Tryz.prog) w.drew 0 29 29 41 i0 4 t22 hi hz1 g i c (us.take (i * 4)) hown A (n - j) (c - j) (us.drop (j * 4)) hdl hsrc (fun u hu => h1c u (List.mem_of_mem_drop hu)) (by omega)
 rcases hrow with ⟨_, ⟨hv, _⟩ | ⟨g', c', cur1, hv, _, hg1, hn1, _, hcs1, hct1⟩⟩
 · cases hv
 injection hv with e1 _ e3
 subst e3
 injection e1 with e1
 injection e1 with e1
 subst e1
 have hzl : (Builtin.zeroCells z.cells (n - (i + (n - j)))).toList.length = (n - (i + (n - j))) * 4 := by rw [Array.length_toList, size_zeroCells, hzs]
 have hc4 := Nat.mul_le_mul_right 4 (show n ≤ c by omega)
 have hcl : ∀ ty, (Builtin.clear_ #[29] ty #[.slice (some ⟨g, (i + (n - j)) * 4, none⟩) (n - (i + (n - j))) (c - (i + (n - j)))]).run Go.Proofs.Tryz.prog w1 = .ok (.tuple #[]) (w1.setRow g (cur1.toList.take ((i + (n - j)) * 4) ++ (Builtin.zeroCells z.cells (n - (i + (n - j)))).toList ++ cur1.toList.drop ((i + (n - j)) * 4 + (Builtin.zeroCells z.cells (n - (i + (n - j)))).toList.length)).toArray) := fun ty => by
  have hst := run_storeCells_at Go.Proofs.Tryz.prog g ((i + (n - j)) * 4) 41 (Builtin.zeroCells z.cells (n - (i + (n - j)))).toList 0 cur1 w1 hg1 (by rw [hzl, hcs1]; omega) (zeroCells_one (by omega) hzs hzo _)
  simp only [Nat.add_zero] at hst
  obtain ⟨q, hq⟩ : ∃ q, n - (i + (n - j)) = q + 1 := ⟨n - (i + (n - j)) - 1, by omega⟩
  rw [hq] at hst ⊢
  simp [Builtin.clear_, run_underlying t22, zv, hst]
 generalize hA1 : (cur1.toList.take ((i + (n - j)) * 4) ++ (Builtin.zeroCells z.cells (n - (i + (n - j)))).toList ++ cur1.toList.drop ((i + (n - j)) * 4 + (Builtin.zeroCells z.cells (n - (i + (n - j)))).toList.length)) = A1 at hcl
 have fin : OwnRow (w1.setRow g A1.toArray) 41 4 (.slice (some ⟨g, 0, none⟩) (i + (n - j)) c) (i + (n - j)) (us.take (i * 4) ++ us.drop (j * 4)) ∧
  (w1.setRow g A1.toArray).os = w.os ∧ (w1.setRow g A1.toArray).tape = w.tape ∧ (w1.setRow g A1.toArray).output = w.output ∧ w.heap.size ≤ (w1.setRow g A1.toArray).heap.size ∧ ∀ b, b < w.heap.size → b ≠ g → (w1.setRow g A1.toArray).heap[b]? = w.heap[b]? := by
  refine ⟨⟨?_, .inr ⟨g, c, _, rfl, by omega, setRow_heap _ _ _ _ _ _ hg1, by omega, hcm, ?_, ?_⟩⟩, hgr.os, hgr.tape, hgr.output, ?_, fun b hb hne => ?_⟩
  · rw [List.length_append, List.length_take, hdl, hul, Nat.add_mul]; omega
  · show _ = c * 4
    rw [← hA1]
    simp only [List.size_toArray, List.length_append, List.length_take, List.length_drop, Array.length_toList, hcs1, size_zeroCells, hzs]
    have := Nat.mul_le_mul_right 4 (show i + (n - j) ≤ c by omega)
    omega
  · rw [← hct1, ← hA1]
    have := Nat.mul_le_mul_right 4 (show i + (n - j) ≤ c by omega)
    rw [List.append_assoc, List.take_append_of_le_length (by rw [List.length_take, Array.length_toList, hcs1]; omega), List.take_take, Nat.min_self]
  · rw [setRow_size]; exact hgr.size
  · rw [setRow_other _ _ _ _ hne]
    exact hgr.block b hb (by simp [Value.ownBlock]; omega)
 have hz2' : ¬ ((i : Int) = (j : Int)) := by omega
 have hij' : i ≤ j := by omega
 have hin' : i ≤ n := by omega
 have hic : i ≤ c := by omega
 have hjc : j ≤ c := by omega
 have A0 : Aside (∀ t u, (us.drop (j * 4))[t]? = some u → w.drew.cell? (A.add t) = some u) := hsrc
 clear hsrc hcell hg1 hct1 hcs1 hgr hA1
 go_enter Go.Proofs.Tryz.func30, Go.Proofs.Tryz.ntmps30
 go_wp2_with fail
 go_region_law_o (refine step_appS rfl _ _ 29 29 rfl _ _ (by simp [Act.eval, Act.put]) (by simp [Act.eval, Act.put, hA]) hrun ?_)
 go_wp2
 go_ret
 exact ⟨rfl, fin⟩
end Go.Proofs
namespace Go.Sx
open Go.RowKit
def ct30 : Ct := { ps := [(false, [.int .i64]), (false, [.int .i64])], rs := [], pre := fun a => (pLe 0 (cel 0 (arg 1 a)).int ∧ pLe (iAdd (cel 0 (arg 1 a)).int 1) (cel 0 (arg 2 a)).int) ∧ (pLe (cel 0 (arg 2 a)).int ((cel 0 (arg 0 a)).list.length : Int) ∧ pLe ((cel 0 (arg 0 a)).list.length : Int) 1000000), out := fun a => [[.l (Sp.del (cel 0 (arg 0 a)).list (cel 0 (arg 1 a)).int (cel 0 (arg 2 a)).int)]], ow := some (41, [.int .i64, .int .u64, .int .i64, .int .i64], true) }
set_option maxHeartbeats 1000000 in
set_option maxRecDepth 100000 in
theorem s30 : SoundCt Go.Proofs.Tryz.prog 30 ct30 := by
 refine ⟨fun args ha hp => ?_, fun _ h _ => (by cases h), fun t e h => (by cases h), fun t e r _ h V xs args vals v us hlt hbd hblk hown hrow hw hpre hv => ?_, fun t e _ h => (by cases h)⟩
 · simp only [Ct.aps, Ct.ars, ct30, ofRess, Wfs, ofRes, ofCs, ofC, List.headD_cons, Wf, and_true] at ha ⊢
   show (Sp.del (cel 0 (arg 0 args)).list (cel 0 (arg 1 args)).int (cel 0 (arg 2 args)).int).length ≤ maxLen ∧ ∀ x ∈ Sp.del (cel 0 (arg 0 args)).list (cel 0 (arg 1 args)).int (cel 0 (arg 2 args)).int, WfCs [.int .i64, .int .u64, .int .i64, .int .i64] x
   have hp' := hp.2
   have hp0 := hp.1
   simp only [pLe, iAdd] at hp' hp0
   have h0 := ha.1
   refine ⟨?_, fun x hx => ?_⟩
   · have hm : (1000000 : Nat) ≤ maxLen := by decide
     simp only [Sp.del, List.length_append, List.length_take, List.length_drop]
     omega
   · simp only [Sp.del, List.mem_append] at hx
     rcases hx with hx | hx
     · exact h0.2 x (List.mem_of_mem_take hx)
     · exact h0.2 x (List.mem_of_mem_drop hx)
 · simp only [ct30, Option.some.injEq, Prod.mk.injEq] at h
   obtain ⟨rfl, rfl, rfl⟩ := h
   simp only [ct30, ofRess, VRs, ofRes, ofCs, ofC, List.headD_cons, VR] at hv
   obtain ⟨v1, _, rfl, hv1, v2, _, rfl, hv2, rfl⟩ := hv
   simp only [ct30] at hpre
   have e0 : (cel 0 (arg 0 ([.l xs] :: args))).list = xs := rfl
   have e1 : (cel 0 (arg 1 ([.l xs] :: args))) = (args.headD []).headD default := rfl
   have e2 : (cel 0 (arg 2 ([.l xs] :: args))) = (args.tail.headD []).headD default := rfl
   rw [e0, e1, e2] at hpre
   simp only [ct30, e0, e1, e2, List.headD_cons, show ∀ x, (C.l x).list = x from fun _ => rfl]
   generalize ((args.headD []).headD default).int = i at hv1 hpre ⊢
   generalize ((args.tail.headD []).headD default).int = j at hv2 hpre ⊢
   simp only [pLe, iAdd] at hpre
   obtain ⟨⟨hp1, hp2⟩, hp3, hp4⟩ := hpre
   obtain ⟨p, rfl⟩ : ∃ p : Nat, i = (p : Int) := ⟨i.toNat, by omega⟩
   obtain ⟨q, rfl⟩ : ∃ q : Nat, j = (q : Int) := ⟨j.toNat, by omega⟩
   subst hv1
   subst hv2
   have hus : us.length = xs.length * 4 := hrow.len
   have hlen : (Sp.del xs (p : Int) (q : Int)).length = p + (xs.length - q) := by simp only [Sp.del, List.length_append, List.length_take, List.length_drop, Int.toNat_natCast]; omega
   rw [hlen]
   have hrep : RepRow V.w V.ok [.int .i64, .int .u64, .int .i64, .int .i64] (Sp.del xs (p : Int) (q : Int)) (us.take (p * 4) ++ us.drop (q * 4)) := (hrow.split p (by omega)).1.append (hrow.split q (by omega)).2
   refine runs_of_calls (by kernel_rfl) ?_
   rcases hown with ⟨hol, ⟨h0, a, rfl⟩ | ⟨g, cap, cur, rfl, hc0, hg, hn, hcm, hcs, hct⟩⟩
   · omega
   · have hgw : g < V.w.heap.size := (Array.getElem?_eq_some_iff.1 hg).1
     have hb0 : ∀ k : Nat, blkOf (.slice (some ⟨g, 0, none⟩) k cap) = some g := fun k => by simp [blkOf]; omega
     refine (Go.Proofs.del51_walk us xs.length cap p q g cur V.w (by omega) (by omega) hn hcm hus hg hcs hct hrow.one).mono ?_
     rintro e w' ⟨rfl, q1, q2, q3, q4, q5, q6⟩
     refine ⟨_, rfl, _, _, rfl, (by intro h; cases h), q2, q3, q4, q5, fun b hb hne => q6 b hb ?_, fun b hb => ?_, q1, hrep⟩
     · intro h; subst h; exact hne (hb0 _)
     · rw [hb0] at hb
       obtain rfl : g = b := by simpa using hb
       exact ⟨.inl (hb0 _), Nat.lt_of_lt_of_le hgw q5⟩
end Go.Sx
namespace Go.Proofs
open Go.RowKit Go.Shelf Go.Lib Go.Sx
end Go.Proofs
