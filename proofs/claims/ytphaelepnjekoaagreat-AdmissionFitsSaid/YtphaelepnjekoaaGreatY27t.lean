import Derived.Test.YtphaelepnjekoaaGreatSxOpen
import Derived.Test.YtphaelepnjekoaaGreatY27s
import Derived.WalkKit
import Derived.Deep.LoopGhost
import Derived.Shelf.RegionOpenPlain
import Derived.Lib.Walk
import Derived.Lib.SliceRun
import Derived.Lib.JoinLaws
import Derived.Lib.AppendZerosOnto
import Derived.Lib.Overlaps
import Derived.Laws.Externs
import Derived.KernelRfl
set_option linter.unusedVariables false
set_option linter.unusedSimpArgs false
namespace Go.Proofs
open Go.RowKit Go.Shelf Go.Lib Go.Sx
end Go.Proofs
namespace Go
open Go.Sx
def Sp.ins (xs : List (List C)) (i : Int) (ys : List (List C)) : List (List C) := xs.take i.toNat ++ ys ++ xs.drop i.toNat
end Go
namespace Go.Sx
theorem RepRow.split {w : World} {ok : Nat → Prop} {e : List Sh} : ∀ {xs : List (List C)} {us : List Value}, RepRow w ok e xs us → ∀ k, k ≤ xs.length → RepRow w ok e (xs.take k) (us.take (k * e.length)) ∧ RepRow w ok e (xs.drop k) (us.drop (k * e.length))
 | [], us, h, k, hk => by
  obtain rfl : k = 0 := by simpa using hk
  simp only [Nat.zero_mul, List.take_zero, List.drop_zero]
  exact ⟨rfl, h⟩
 | x :: r, us, h, 0, _ => by
  simp only [Nat.zero_mul, List.take_zero, List.drop_zero]
  exact ⟨rfl, h⟩
 | x :: r, us, ⟨a, t, he, h1, h2⟩, k + 1, hk => by
  subst he
  obtain ⟨r1, r2⟩ := RepRow.split h2 k (by simpa using hk)
  have hl := h1.len
  have e1 : (a ++ t).take ((k + 1) * e.length) = a ++ t.take (k * e.length) := by
   rw [List.take_append, List.take_of_length_le (by rw [hl, Nat.add_mul]; omega)]
   congr 2
   rw [hl, Nat.add_mul]; omega
  have e2 : (a ++ t).drop ((k + 1) * e.length) = t.drop (k * e.length) := by
   rw [List.drop_append, List.drop_eq_nil_of_le (by rw [hl, Nat.add_mul]; omega), List.nil_append]
   congr 1
   rw [hl, Nat.add_mul]; omega
  rw [e1, e2]
  exact ⟨⟨a, _, rfl, h1, r1⟩, r2⟩
theorem wf_ins {e : List Sh} {xs ys : List (List C)} {i : Int} (h1 : Wf (.sl e xs)) (h2 : Wf (.sl e ys)) (hl : xs.length + ys.length ≤ maxLen) : Wf (.sl e (Sp.ins xs i ys)) := by
 simp only [Wf] at *
 refine ⟨?_, fun x hx => ?_⟩
 · simp only [Sp.ins, List.length_append, List.length_take, List.length_drop]
   omega
 · simp only [Sp.ins, List.mem_append] at hx
   rcases hx with (hx | hx) | hx
   · exact h1.2 x (List.mem_of_mem_take hx)
   · exact h2.2 x hx
   · exact h1.2 x (List.mem_of_mem_drop hx)
end Go.Sx
namespace Go.Proofs
open Go.RowKit Go.Shelf Go.Lib Go.Sx
theorem ins_take (us news cur : List Value) (K k n : Nat) (hk : k ≤ n) (hu : us.length = n * K) (hn : news.length = K) (hc : (n + 1) * K ≤ cur.length) (ht : cur.take (n * K) = us) :
 ((cur.take ((k + 1) * K) ++ us.drop (k * K) ++ cur.drop ((k + 1) * K + (us.drop (k * K)).length)).take (k * K) ++ news ++ (cur.take ((k + 1) * K) ++ us.drop (k * K) ++ cur.drop ((k + 1) * K + (us.drop (k * K)).length)).drop (k * K + news.length)).take ((n + 1) * K) = us.take (k * K) ++ news ++ us.drop (k * K) := by
 have hkn : k * K ≤ n * K := Nat.mul_le_mul_right _ hk
 have e0 : (n + 1) * K = n * K + K := by rw [Nat.add_mul]; omega
 have e1 : (k + 1) * K = k * K + K := by rw [Nat.add_mul]; omega
 have f1 : (cur.take ((k + 1) * K) ++ us.drop (k * K) ++ cur.drop ((k + 1) * K + (us.drop (k * K)).length)).take (k * K) = us.take (k * K) := by
  rw [List.append_assoc, List.take_append_of_le_length (by rw [List.length_take]; omega), List.take_take, ← ht, List.take_take]
  congr 1
  omega
 have f2 : (cur.take ((k + 1) * K) ++ us.drop (k * K) ++ cur.drop ((k + 1) * K + (us.drop (k * K)).length)).drop (k * K + news.length) = us.drop (k * K) ++ cur.drop ((k + 1) * K + (us.drop (k * K)).length) := by
  rw [List.append_assoc, List.drop_append, List.drop_eq_nil_of_le (by rw [List.length_take]; omega), List.nil_append]
  rw [show k * K + news.length - (cur.take ((k + 1) * K)).length = 0 by rw [List.length_take]; omega, List.drop_zero]
 rw [f1, f2, ← List.append_assoc]
 rw [List.take_append_of_le_length (by simp only [List.length_append, List.length_take, List.length_drop]; omega)]
 exact List.take_of_length_le (by simp only [List.length_append, List.length_take, List.length_drop]; omega)
theorem run_overlaps_row {P : Program} (w : World) (tS tR e : TypeId) (ht : P.underlying tS = some (.slice e)) (size : Nat) (hz : ∀ w, (Go.sizeOf e).run P w = .ok size w)
 (a b : Addr) (la ca lb cb : Nat) (hne : a.block ≠ b.block) (tA tB : TypeId) (kA kB : Nat)
 (hsa : w.shape? a.block = some (tA, kA)) (hsb : w.shape? b.block = some (tB, kB)) (hkB : kB ≠ 0) (hkA : kA ≠ 0)
 (hfb : w.frozen? b = false) (hfe : w.frozen? { block := b.block, off := kB } = false) :
 (Extern.SlicesOverlaps.overlaps #[tS, tS] #[tR] #[.slice (some a) la ca, .slice (some b) lb cb]).run P w = .ok (.bool false) w := by
 have hnb : (a.block != b.block) = true := by simpa using hne
 have hnb' : (a.block == b.block) = false := by simpa using hne
 change Sem.run P (α := Value) (do
  let some t := (#[tS, tS] : Array TypeId)[0]? | stuck "slices.overlaps: no parameter types"
  let .slice elem ← underlying t | stuck "slices.overlaps: slice type expected"
  let size ← sizeOf elem
  match (some a : Option Addr), (some b : Option Addr) with
  | some a, some b =>
   if la = 0 ∨ lb = 0 ∨ size = 0 then pure (Value.bool false)
   else if a.block != b.block && (← frozen a) && (← frozen b) then unsupported .addressObserved
   else do
    if a.block != b.block then do
     noView a; noView b
     if ← mayBeOne a b then return Value.bool ((← choose (.extern "sameAddr.stringBytes" 2)) == 1)
    pure (Value.bool (a.block == b.block && a.off < b.off + lb * size && b.off < a.off + la * size))
  | _, _ => pure (Value.bool false)) w = _
 by_cases h0 : la = 0 ∨ lb = 0 ∨ size = 0
 · simp [run_underlying ht, hz, h0]
 · obtain ⟨kB, rfl⟩ := Nat.exists_eq_succ_of_ne_zero hkB
   obtain ⟨kA, rfl⟩ := Nat.exists_eq_succ_of_ne_zero hkA
   simp [run_underlying ht, hz, h0, hnb, hnb', frozen, noView, viewAt, mayBeOne, stringish, shape, Sem.run, hsa, hsb, hfb, hfe]
set_option maxHeartbeats 4000000 in
set_option maxRecDepth 100000 in
theorem ins490_end (us news : List Value) (n c mc : Nat) (base : Option Addr) (a : Addr) (w : World) (hown : OwnRow w 41 4 (.slice base n c) n us) (hl : news.length = 4) (hbig : (n + 1) * 32 ≤ 140737488355328) (hnc : n ≤ c) (hcm : c ≤ maxLen)
 (hc : ∀ j u, news[j]? = some u → w.cell? (a.add j) = some u) (h1 : ∀ u ∈ news, u.oneCell' = true) :
 Calls Go.Proofs.Tryz.prog 28 #[.slice base n c, .int .i64 n, .slice (some a) 1 mc] w fun e w' => ∃ v', e = .returned v' ∧ OwnRow w' 41 4 v' (n + 1) (us ++ news) ∧
  w'.os = w.os ∧ w'.tape = w.tape ∧ w'.output = w.output ∧ w.heap.size ≤ w'.heap.size ∧ (∀ b, b < w.heap.size → blkOf (.slice base n c) ≠ some b → w'.heap[b]? = w.heap[b]?) ∧
  ∀ b, blkOf v' = some b → (blkOf (.slice base n c) = some b ∨ w.heap.size ≤ b) ∧ b < w'.heap.size := by
 have mixed := followsMixed
 obtain ⟨i0, hi, z, hz0, hz1, hz2, hzs⟩ := info_of (P := Go.Proofs.Tryz.prog) (t := 41) (K := 4) (BY := 32) (by kernel_rfl)
 have t22 : Go.Proofs.Tryz.prog.underlying 29 = some (.slice 41) := by kernel_rfl
 have u22 := run_underlying t22
 have zz : ∀ w, (Go.sizeOf 41).run Go.Proofs.Tryz.prog w = .ok 4 w := fun w => by simp [sizeOf, typeInfo, hi, hz1]
 have hcm' : c ≤ 9223372036854775807 := by simpa [maxLen] using hcm
 obtain ⟨v', w', hrun, hrest⟩ := run_append (P := Go.Proofs.Tryz.prog) (V := V0 w) t22 hi hz0 hz1 hz2 hzs (by decide) (by decide) hown (x := .slice (some a) 1 mc) (m := 1) (news := news) (.inr ⟨a, mc, rfl, by omega, hc, h1⟩) hbig 29
 generalize blkOf (.slice base n c) = B at hrest ⊢
 go_enter Go.Proofs.Tryz.func28, Go.Proofs.Tryz.ntmps28
 cases base with
 | none =>
  go_wp2_with (at_builtin; refine Lib.wpList_append_run _ rfl _ _ _ _ rfl _ _ rfl rfl _ _ hrun ?_)
  all_goals (go_ret; exact ⟨_, rfl, hrest⟩)
 | some a0 =>
  obtain ⟨ab, ao, asp⟩ := a0
  go_wp2_with (at_builtin; refine Lib.wpList_append_run _ rfl _ _ _ _ rfl _ _ rfl rfl _ _ hrun ?_)
  all_goals (go_ret; exact ⟨_, rfl, hrest⟩)
set_option maxHeartbeats 4000000 in
set_option maxRecDepth 100000 in
theorem ins490_room (us news : List Value) (n c i mc g : Nat) (a : Addr) (cur : Array Value) (w : World) (hin : i < n) (hroom : n + 1 ≤ c) (hcm : c ≤ maxLen) (hul : us.length = n * 4) (hl : news.length = 4)
 (hg : w.heap[g]? = some (.cells cur 41 (0, 0))) (hcs : cur.size = c * 4) (hct : cur.toList.take (n * 4) = us) (h1c : ∀ u ∈ us, u.oneCell' = true) (hag : a.block ≠ g)
 (hc : ∀ j u, news[j]? = some u → w.cell? (a.add j) = some u) (h1 : ∀ u ∈ news, u.oneCell' = true) :
 Calls Go.Proofs.Tryz.prog 28 #[.slice (some ⟨g, 0, none⟩) n c, .int .i64 i, .slice (some a) 1 mc] w fun e w' => e = .returned (.slice (some ⟨g, 0, none⟩) (n + 1) c) ∧
  w' = (w.drew.setRow g (cur.toList.take ((i + 1) * 4) ++ us.drop (i * 4) ++ cur.toList.drop ((i + 1) * 4 + (us.drop (i * 4)).length)).toArray).setRow g
   ((cur.toList.take ((i + 1) * 4) ++ us.drop (i * 4) ++ cur.toList.drop ((i + 1) * 4 + (us.drop (i * 4)).length)).take (i * 4) ++ news ++ (cur.toList.take ((i + 1) * 4) ++ us.drop (i * 4) ++ cur.toList.drop ((i + 1) * 4 + (us.drop (i * 4)).length)).drop (i * 4 + news.length)).toArray := by
 have mixed := followsMixed
 obtain ⟨i0, hi, z, hz0, hz1, hz2, hzs⟩ := info_of (P := Go.Proofs.Tryz.prog) (t := 41) (K := 4) (BY := 32) (by kernel_rfl)
 have t22 : Go.Proofs.Tryz.prog.underlying 29 = some (.slice 41) := by kernel_rfl
 have u22 := run_underlying t22
 have zz : ∀ w, (Go.sizeOf 41).run Go.Proofs.Tryz.prog w = .ok 4 w := fun w => by simp [sizeOf, typeInfo, hi, hz1]
 have hsz : (Go.Proofs.Tryz.prog.info? 41).map (·.size) = some 4 := by rw [hi]; simp [hz1]
 have hcm' : c ≤ 9223372036854775807 := by simpa [maxLen] using hcm
 have hgs : w.shape? g = some (41, cur.size) := by simp [World.shape?, hg]
 have hsa : ∃ tA kA, w.shape? a.block = some (tA, kA) ∧ kA ≠ 0 := by
  have h0 := hc 0 _ (List.getElem?_eq_getElem (by omega))
  unfold World.cell? at h0
  unfold World.shape?
  simp only [Addr.add, if_true] at h0
  split at h0
  · rename_i c' _ _ hh
    refine ⟨_, _, rfl, ?_⟩
    split at h0
    · cases h0
    · have := (Array.getElem?_eq_some_iff.1 h0).1
      omega
  · cases h0
 obtain ⟨tA, kA, hsa, hkA⟩ := hsa
 have hov : ∀ lb cb, (callFunc 55 #[.slice (some a) 1 mc, .slice (some ⟨g, (i + 1) * 4, none⟩) lb cb]).run Go.Proofs.Tryz.prog w = .ok (.value (.bool false)) w := fun lb cb => by
  rw [run_callFunc_extern (fn := Go.Proofs.Tryz.f55) (by kernel_rfl) (by kernel_rfl) (by kernel_rfl) (by kernel_rfl) (e := Extern.SlicesOverlaps.overlaps #[29, 29] #[4]) (by kernel_rfl),
   run_overlaps_row w 29 4 41 t22 4 zz a ⟨g, (i + 1) * 4, none⟩ 1 mc lb cb hag tA 41 kA cur.size hsa hgs (by omega) hkA (by simp [World.frozen?, hg]) (by simp [World.frozen?, hg])]
  rfl
 have hdl : (us.drop (i * 4)).length = (n - i) * 4 := by rw [List.length_drop, hul, Nat.sub_mul]
 have hus : ∀ (W : World), W.heap[g]? = some (.cells cur 41 (0, 0)) → ∀ j v, (us.drop (i * 4))[j]? = some v → W.cell? ((⟨g, i * 4, none⟩ : Addr).add j) = some v := fun W hW j v hj => by
  rw [List.getElem?_drop, ← hct, List.getElem?_take] at hj
  split at hj
  · simp only [Addr.add_lit, World.cell?, hW]
    simpa using hj
  · cases hj
 have hcp1 : ∀ ty dc sc, (Builtin.copy_ #[29, 29] ty #[.slice (some ⟨g, (i + 1) * 4, none⟩) (n - i) dc, .slice (some ⟨g, i * 4, none⟩) (n + 1 - i) sc]).run Go.Proofs.Tryz.prog w.drew = .ok (goInt (Nat.min (n + 1 - i) (n - i))) _ := fun ty dc sc =>
  run_copy_rowK w.drew 29 29 ty 41 4 g ((i + 1) * 4) (n - i) dc ⟨g, i * 4, none⟩ (n + 1 - i) sc cur 41 (us.drop (i * 4)) t22 hsz hg (by rw [hdl]; congr 1; simp only [Nat.min_def]; split <;> omega)
   (hus _ hg) (by rw [hdl, ← Nat.add_mul, hcs]; exact Nat.mul_le_mul_right _ (by omega)) (fun v hv => h1c v (List.mem_of_mem_drop hv))
 generalize hA1 : (cur.toList.take ((i + 1) * 4) ++ us.drop (i * 4) ++ cur.toList.drop ((i + 1) * 4 + (us.drop (i * 4)).length)) = A1 at hcp1 ⊢
 have hA1l : A1.length = c * 4 := by
  rw [← hA1]
  simp only [List.length_append, List.length_take, List.length_drop, Array.length_toList, hcs, hul]
  omega
 obtain ⟨W1, hW1⟩ : ∃ W1, W1 = w.drew.setRow g A1.toArray := ⟨_, rfl⟩
 rw [← hW1] at hcp1 ⊢
 have hg1 : W1.heap[g]? = some (.cells A1.toArray 41 (0, 0)) := by
  rw [hW1]
  exact setRow_heap w.drew g cur _ _ _ hg
 have hnw : ∀ (W : World), W.heap = W1.heap → ∀ j v, news[j]? = some v → W.cell? (a.add j) = some v := fun W hW j v hj => by
  rw [← hc j v hj]
  have hb : (a.add j).block = a.block := by unfold Addr.add; split <;> rfl
  unfold World.cell?
  rw [hW, hW1, hb, setRow_other _ _ _ _ hag]
  rfl
 have hcp2 : ∀ (W : World), W.heap = W1.heap → ∀ ty dc, (Builtin.copy_ #[29, 29] ty #[.slice (some ⟨g, i * 4, none⟩) (n + 1 - i) dc, .slice (some a) 1 mc]).run Go.Proofs.Tryz.prog W = .ok (goInt (Nat.min 1 (n + 1 - i))) _ := fun W hW ty dc =>
  run_copy_rowK W 29 29 ty 41 4 g (i * 4) (n + 1 - i) dc a 1 mc A1.toArray 41 news t22 hsz (by rw [hW]; exact hg1) (by rw [hl, show Nat.min 1 (n + 1 - i) = 1 from Nat.min_eq_left (by omega)])
   (hnw W hW) (by rw [hl]; simp only [List.size_toArray, hA1l]; have := Nat.mul_le_mul_right 4 (show i + 1 ≤ c by omega); omega) h1
 have hz2' : ¬ ((i : Int) = (n : Int)) := by omega
 have hw1 : IntKind.i64.wrap ((i : Int) + 1) = (i : Int) + 1 := by rw [IntKind.wrap_i64]; omega
 have hb1 : (0 : Int) ≤ (i : Int) + 1 := by omega
 have hin' : i ≤ n := by omega
 have htn : ((i : Int) + 1).toNat = i + 1 := by omega
 have hb2 : ¬ (c = i + 1) := by omega
 have hb3 : (i : Int) ≤ (n : Int) + 1 := by omega
 have hb4 : ¬ (c = i) := by omega
 go_enter Go.Proofs.Tryz.func28, Go.Proofs.Tryz.ntmps28
 go_wp2_with (simp only [hov])
 go_region_law_o (refine step_copyS rfl _ _ 29 29 rfl _ _ (by simp [Act.eval, Act.put]) (by simp [Act.eval, Act.put]) (hcp1 _ _ _) ?_)
 go_wp2_with (at_builtin; refine wpList_copyS _ rfl _ _ 29 29 rfl _ _ rfl rfl (hcp2 _ rfl _ _) ?_)
 go_ret
 refine ⟨rfl, ?_⟩
 rw [hW1]
 simp [hl]
set_option maxHeartbeats 4000000 in
set_option maxRecDepth 100000 in
theorem ins490_grow (us news : List Value) (n c i mc g : Nat) (a : Addr) (cur : Array Value) (w : World) (hin : i < n) (hnc : n ≤ c) (hroom : c < n + 1) (hcm : c ≤ maxLen) (hbig : (n + 1) * 32 ≤ 140737488355328) (hul : us.length = n * 4) (hl : news.length = 4)
    (hg : w.heap[g]? = some (.cells cur 41 (0, 0))) (hcs : cur.size = c * 4) (hct : cur.toList.take (n * 4) = us) (h1c : ∀ u ∈ us, u.oneCell' = true) (haw : a.block < w.heap.size)
    (hc : ∀ j u, news[j]? = some u → w.cell? (a.add j) = some u) (h1 : ∀ u ∈ news, u.oneCell' = true) :
    Calls Go.Proofs.Tryz.prog 28 #[.slice (some ⟨g, 0, none⟩) n c, .int .i64 i, .slice (some a) 1 mc] w fun e w' => ∃ v', e = .returned v' ∧ OwnRow w' 41 4 v' (n + 1) (us.take (i * 4) ++ news ++ us.drop (i * 4)) ∧
      w'.os = w.os ∧ w'.tape = w.tape ∧ w'.output = w.output ∧ w.heap.size ≤ w'.heap.size ∧ (∀ b, b < w.heap.size → w'.heap[b]? = w.heap[b]?) ∧
      ∀ b, blkOf v' = some b → w.heap.size ≤ b ∧ b < w'.heap.size := by
  have mixed := followsMixed
  obtain ⟨i0, hi, z, hz0, hz1, hz2, hzs⟩ := info_of (P := Go.Proofs.Tryz.prog) (t := 41) (K := 4) (BY := 32) (by kernel_rfl)
  have t22 : Go.Proofs.Tryz.prog.underlying 29 = some (.slice 41) := by kernel_rfl
  have t3 : Go.Proofs.Tryz.prog.underlying 3 = some (.int .i64) := by kernel_rfl
  have u22 := run_underlying t22
  have zz : ∀ w, (Go.sizeOf 41).run Go.Proofs.Tryz.prog w = .ok 4 w := fun w => by simp [sizeOf, typeInfo, hi, hz1]
  have hsz : (Go.Proofs.Tryz.prog.info? 41).map (·.size) = some 4 := by rw [hi]; simp [hz1]
  obtain rfl : n = c := by omega
  have hgw : g < w.heap.size := (Array.getElem?_eq_some_iff.1 hg).1
  have hkk : (n : Int) + 1 - (i : Int) = ((n + 1 - i : Nat) : Int) := by omega
  have hik : i + (n + 1 - i) = n + 1 := by omega
  have hcell : ∀ (W : World), W.heap[g]? = some (.cells cur 41 (0, 0)) → ∀ j v, us[j]? = some v → W.cell? ⟨g, j, none⟩ = some v := fun W hW j v hj => by
    rw [← hct, List.getElem?_take] at hj
    split at hj
    · simp only [World.cell?, hW]
      simpa using hj
    · cases hj
  have hold : (Builtin.firstCells i0.size i (.slice (some ⟨g, 0, none⟩) i n)).run Go.Proofs.Tryz.prog w.drew = .ok (us.take (i * 4)).toArray w.drew := by
    rw [hz1]
    exact run_firstCells_some w.drew 4 i ⟨g, 0, none⟩ i n (us.take (i * 4)) (by rw [List.length_take, hul]; have := Nat.mul_le_mul_right 4 (show i ≤ n by omega); omega) (fun j v hj => by
      rw [Addr.add_lit, Nat.zero_add]
      rw [List.getElem?_take] at hj
      split at hj
      · exact hcell w hg j v hj
      · cases hj)
  have hfit0 := growslice_fits (need := n + 1) (old := n) (bytes := 32) (by omega) hbig
  have hrz : ∀ ty, (Builtin.append_ #[29, 3] ty #[.slice (some ⟨g, 0, none⟩) i n, .int .i64 ((n : Int) + 1 - (i : Int))]).run Go.Proofs.Tryz.prog w =
      .ok (.slice (some ⟨w.heap.size, 0, none⟩) (n + 1) (grownCap w (n + 1) n 41)) (w.drew.alloc (.cells ((us.take (i * 4)).toArray ++ Builtin.zeroCells z.cells (n + 1 - i) ++ Builtin.zeroCells z.cells (grownCap w (n + 1) n 41 - (n + 1))) 41)) := fun ty => by
    have h := Lib.run_append_grow_zeros w 29 3 ty 41 i0 _ .i64 .i64 t22 t3 hi hz0 (some ⟨g, 0, none⟩) i n (us.take (i * 4)) hold (n + 1 - i) (by omega) (by omega) (by omega) (by omega) (by rw [hz2]; omega) (by rw [hz2, hik]; exact hfit0)
    rw [hik] at h
    rw [hkk]
    exact h
  obtain ⟨G, hG⟩ : ∃ G, G = grownCap w (n + 1) n 41 := ⟨_, rfl⟩
  obtain ⟨ROW, hROW⟩ : ∃ ROW : Array Value, ROW = (us.take (i * 4)).toArray ++ Builtin.zeroCells z.cells (n + 1 - i) ++ Builtin.zeroCells z.cells (G - (n + 1)) := ⟨_, rfl⟩
  rw [← hG] at hrz
  rw [← hROW] at hrz
  have hGn : n + 1 ≤ G := by rw [hG]; exact grownCap_ge w _ _ _
  have hGM : G ≤ maxLen := by rw [hG]; exact grownCap_le_maxLen w (n + 1) n 41 (by unfold maxLen; omega)
  have hG63 : G ≤ 9223372036854775807 := by simpa [maxLen] using hGM
  have hRl : ROW.size = G * 4 := by
    rw [hROW]
    simp only [Array.size_append, List.size_toArray, List.length_take, hul, size_zeroCells, hzs]
    have := Nat.mul_le_mul_right 4 (show i ≤ n by omega)
    omega
  obtain ⟨W1, hW1⟩ : ∃ W1, W1 = w.drew.alloc (.cells ROW 41) := ⟨_, rfl⟩
  rw [← hW1] at hrz
  have hg1 : W1.heap[w.heap.size]? = some (.cells ROW 41 (0, 0)) := by
    rw [hW1]
    show (w.heap.push _)[w.heap.size]? = _
    simp
  have hlow : ∀ b, b < w.heap.size → W1.heap[b]? = w.heap[b]? := fun b hb => by
    rw [hW1]
    show (w.heap.push _)[b]? = _
    rw [Array.getElem?_push, if_neg (by omega)]
  have hnw : ∀ (W : World), W.heap = W1.heap → ∀ j v, news[j]? = some v → W.cell? (a.add j) = some v := fun W hW j v hj => by
    rw [← hc j v hj]
    have hb : (a.add j).block = a.block := by unfold Addr.add; split <;> rfl
    unfold World.cell?
    rw [hW, hb, hlow _ haw]
  have hcpA : ∀ (W : World), W.heap = W1.heap → ∀ ty dc, (Builtin.copy_ #[29, 29] ty #[.slice (some ⟨w.heap.size, i * 4, none⟩) (n + 1 - i) dc, .slice (some a) 1 mc]).run Go.Proofs.Tryz.prog W = .ok (goInt (Nat.min 1 (n + 1 - i))) _ := fun W hW ty dc =>
    run_copy_rowK W 29 29 ty 41 4 w.heap.size (i * 4) (n + 1 - i) dc a 1 mc ROW 41 news t22 hsz (by rw [hW]; exact hg1) (by rw [hl, show Nat.min 1 (n + 1 - i) = 1 from Nat.min_eq_left (by omega)])
      (hnw W hW) (by rw [hl, hRl]; have := Nat.mul_le_mul_right 4 (show i + 1 ≤ G by omega); omega) h1
  generalize hA1 : (ROW.toList.take (i * 4) ++ news ++ ROW.toList.drop (i * 4 + news.length)) = A1 at hcpA
  have hA1l : A1.length = G * 4 := by
    rw [← hA1]
    simp only [List.length_append, List.length_take, List.length_drop, Array.length_toList, hRl, hl]
    have := Nat.mul_le_mul_right 4 (show i + 1 ≤ G by omega)
    omega
  have hdl : (us.drop (i * 4)).length = (n - i) * 4 := by rw [List.length_drop, hul, Nat.sub_mul]
  have hcpB : ∀ (W : World), W.heap = (W1.setRow w.heap.size A1.toArray).heap → ∀ ty dc sc, (Builtin.copy_ #[29, 29] ty #[.slice (some ⟨w.heap.size, (i + 1) * 4, none⟩) (n - i) dc, .slice (some ⟨g, i * 4, none⟩) (n - i) sc]).run Go.Proofs.Tryz.prog W = .ok (goInt (Nat.min (n - i) (n - i))) _ := fun W hW ty dc sc =>
    run_copy_rowK W 29 29 ty 41 4 w.heap.size ((i + 1) * 4) (n - i) dc ⟨g, i * 4, none⟩ (n - i) sc A1.toArray 41 (us.drop (i * 4)) t22 hsz (by rw [hW]; exact setRow_heap W1 w.heap.size ROW _ _ _ hg1) (by rw [hdl, show Nat.min (n - i) (n - i) = n - i from Nat.min_self _])
      (fun j v hj => by
        rw [Addr.add_lit]
        refine hcell W ?_ _ v (by rwa [List.getElem?_drop] at hj)
        rw [hW, setRow_other _ _ _ _ (by omega), hlow g hgw]
        exact hg)
      (by rw [hdl]; simp only [List.size_toArray, hA1l]; have := Nat.mul_le_mul_right 4 (show n + 1 ≤ G by omega); rw [← Nat.add_mul]; exact Nat.mul_le_mul_right _ (by omega)) (fun v hv => h1c v (List.mem_of_mem_drop hv))
  have hz2' : ¬ ((i : Int) = (n : Int)) := by omega
  have hz3 : (n : Int) < (n : Int) + 1 := by omega
  have hw1 : IntKind.i64.wrap ((i : Int) + 1) = (i : Int) + 1 := by rw [IntKind.wrap_i64]; have : n ≤ maxLen := hcm; unfold maxLen at this; omega
  have hb1 : (0 : Int) ≤ (i : Int) + 1 := by omega
  have hin' : i ≤ n := by omega
  have hcm' : n ≤ 9223372036854775807 := by simpa [maxLen] using hcm
  have htn : ((i : Int) + 1).toNat = i + 1 := by omega
  have hb2 : ¬ (n = i) := by omega
  have hb3 : (i : Int) ≤ (n : Int) := by omega
  have hGi : ¬ (G = i) := by omega
  have hGim : ¬ (G = i + 1) := by omega
  have hA2 : (A1.take ((i + 1) * 4) ++ us.drop (i * 4) ++ A1.drop ((i + 1) * 4 + (us.drop (i * 4)).length)).take ((n + 1) * 4) = us.take (i * 4) ++ news ++ us.drop (i * 4) := by
    have e1 : A1.take ((i + 1) * 4) = us.take (i * 4) ++ news := by
      rw [← hA1, hROW]
      have hi4 := Nat.mul_le_mul_right 4 (show i ≤ n by omega)
      rw [List.take_append_of_le_length (by simp only [List.length_append, List.length_take, Array.length_toList, Array.size_append, List.size_toArray, hul, hl, size_zeroCells, hzs]; omega), List.take_of_length_le (by simp only [List.length_append, List.length_take, hl]; omega)]
      congr 1
      simp only [Array.toList_append, List.append_assoc]
      rw [List.take_append_of_le_length (by simp only [List.length_take, hul]; omega), List.take_of_length_le (by simp only [List.length_take]; omega)]
    rw [e1, List.take_append_of_le_length (by simp only [List.length_append, List.length_take, hdl, hul, hl]; have := Nat.mul_le_mul_right 4 (show i ≤ n by omega); omega)]
    exact List.take_of_length_le (by simp only [List.length_append, List.length_take, hdl, hul, hl]; have := Nat.mul_le_mul_right 4 (show i ≤ n by omega); omega)
  generalize hA3 : (A1.take ((i + 1) * 4) ++ us.drop (i * 4) ++ A1.drop ((i + 1) * 4 + (us.drop (i * 4)).length)) = A2 at hcpB hA2
  have hA2l : A2.length = G * 4 := by
    rw [← hA3]
    simp only [List.length_append, List.length_take, List.length_drop, hA1l, hdl, hul]
    have := Nat.mul_le_mul_right 4 (show i + 1 ≤ G by omega)
    have := Nat.mul_le_mul_right 4 (show n + 1 ≤ G by omega)
    omega
  clear hkk hik hold hROW hG hA1 hA3
  have fin : ∀ W : World, W.heap = ((W1.setRow w.heap.size A1.toArray).setRow w.heap.size A2.toArray).heap → OwnRow W 41 4 (.slice (some ⟨w.heap.size, 0, none⟩) (n + 1) G) (n + 1) (us.take (i * 4) ++ news ++ us.drop (i * 4)) ∧ w.heap.size ≤ W.heap.size ∧ (∀ b, b < w.heap.size → W.heap[b]? = w.heap[b]?) ∧
      ∀ b, blkOf (.slice (some ⟨w.heap.size, 0, none⟩) (n + 1) G) = some b → w.heap.size ≤ b ∧ b < W.heap.size := fun W hW => by
    have hs : W.heap[w.heap.size]? = some (.cells A2.toArray 41 (0, 0)) := by
      rw [hW]
      exact setRow_heap _ _ _ _ _ _ (setRow_heap W1 w.heap.size ROW _ _ _ hg1)
    have hlt := (Array.getElem?_eq_some_iff.1 hs).1
    refine ⟨⟨?_, .inr ⟨_, _, _, rfl, by omega, hs, hGn, hGM, by simpa using hA2l, hA2⟩⟩, by omega, fun b hb => ?_, fun b hb => ?_⟩
    · simp only [List.length_append, List.length_take, hdl, hul, hl]
      have := Nat.mul_le_mul_right 4 (show i ≤ n by omega)
      omega
    · rw [hW, setRow_other _ _ _ _ (by omega), setRow_other _ _ _ _ (by omega), hlow b hb]
    · have e : w.heap.size = b := by
        unfold blkOf at hb
        simp only [show (G == 0) = false by simpa using (show G ≠ 0 by omega)] at hb
        simpa [show G ≠ 0 by omega] using hb
      omega
  have hcpB1 := hcpB (((w.alloc (.cells ROW 41)).drew.setRow w.heap.size A1.toArray).drew) (by rw [hW1]; rfl)
  have hos : W1.os = w.os ∧ W1.tape = w.tape ∧ W1.output = w.output := by rw [hW1]; exact ⟨rfl, rfl, rfl⟩
  go_enter Go.Proofs.Tryz.func28, Go.Proofs.Tryz.ntmps28
  go_wp2_with (first
    | (at_builtin; refine Lib.wpList_append_run _ rfl _ _ _ _ rfl _ _ rfl rfl _ _ (hrz _) ?_)
    | (at_builtin; refine wpList_copyS _ rfl _ _ 29 29 rfl _ _ rfl rfl (hcpA _ rfl _ _) ?_)
    | (at_builtin; refine wpList_copyS _ rfl _ _ 29 29 rfl _ _ rfl rfl (hcpB _ rfl _ _ _) ?_))
  go_region_law_o (refine step_copyS rfl _ _ 29 29 rfl (.slice (some ⟨w.heap.size, (i + 1) * 4, none⟩) (n - i) (G - (i + 1))) (.slice (some ⟨g, i * 4, none⟩) (n - i) (n - i)) (by simp [Act.eval, Act.put]) (by simp [Act.eval, Act.put]) (hcpB1 3 (G - (i + 1)) (n - i)) ?_)
  go_wp2
  go_ret
  obtain ⟨f1, f2, f3, f4⟩ := fin (((w.alloc (.cells ROW 41)).drew.setRow w.heap.size A1.toArray).drew.setRow w.heap.size A2.toArray) (by rw [hW1]; rfl)
  exact ⟨_, rfl, f1, rfl, rfl, rfl, f2, f3, f4⟩
end Go.Proofs
namespace Go.Sx
open Go.RowKit
def ct28 : Ct := { ps := [(false, [.int .i64]), (false, [.sl [.int .i64, .int .u64, .int .i64, .int .i64]])], rs := [], pre := fun a => (pLe 0 (cel 0 (arg 1 a)).int ∧ pLe (cel 0 (arg 1 a)).int ((cel 0 (arg 0 a)).list.length : Int)) ∧ ((cel 0 (arg 2 a)).list.length = 1 ∧ pLe ((cel 0 (arg 0 a)).list.length : Int) 999999), out := fun a => [[.l (Sp.ins (cel 0 (arg 0 a)).list (cel 0 (arg 1 a)).int (cel 0 (arg 2 a)).list)]], ow := some (41, [.int .i64, .int .u64, .int .i64, .int .i64], true) }
set_option maxHeartbeats 1000000 in
set_option maxRecDepth 100000 in
theorem s28 : SoundCt Go.Proofs.Tryz.prog 28 ct28 := by
  refine ⟨fun args ha hp => ?_, fun _ h _ => (by cases h), fun t e h => (by cases h), fun t e r _ h V xs args vals v us hlt hbd hblk hown hrow hw hpre hv => ?_, fun t e _ h => (by cases h)⟩
  · simp only [Ct.aps, Ct.ars, ct28, ofRess, Wfs, ofRes, ofCs, ofC, List.headD_cons, Wf, and_true] at ha ⊢
    refine wf_ins (by simp only [Wf]; exact ha.1) (by simp only [Wf]; exact ha.2.2) ?_
    have hp' := hp.2
    simp only [pLe] at hp'
    have : (1000000 : Nat) ≤ maxLen := by decide
    simp only [maxLen]
    omega
  · simp only [ct28, Option.some.injEq, Prod.mk.injEq] at h
    obtain ⟨rfl, rfl, rfl⟩ := h
    simp only [ct28, ofRess, VRs, ofRes, ofCs, ofC, List.headD_cons, VR] at hv
    obtain ⟨v1, _, rfl, hv1, v2, _, rfl, hv2, rfl⟩ := hv
    simp only [ct28] at hpre
    have e0 : (cel 0 (arg 0 ([.l xs] :: args))).list = xs := rfl
    have e1 : (cel 0 (arg 1 ([.l xs] :: args))) = (args.headD []).headD default := rfl
    have e2 : (cel 0 (arg 2 ([.l xs] :: args))) = (args.tail.headD []).headD default := rfl
    rw [e0, e1, e2] at hpre
    simp only [ct28, e0, e1, e2, List.headD_cons, show ∀ x, (C.l x).list = x from fun _ => rfl]
    generalize ((args.headD []).headD default).int = i at hv1 hpre ⊢
    generalize ((args.tail.headD []).headD default).list = ys at hv2 hpre ⊢
    simp only [pLe] at hpre
    obtain ⟨⟨hp1, hp2⟩, hp3, hp4⟩ := hpre
    obtain ⟨k, rfl⟩ : ∃ k : Nat, i = (k : Int) := ⟨i.toNat, by omega⟩
    subst hv1
    simp only [RepC, show ∀ x, (C.l x).list = x from fun _ => rfl] at hv2
    obtain ⟨a, m, mc, rfl, h1, h2, h3, h4⟩ := hv2
    obtain rfl : m = 1 := by omega
    rcases h4 with h4 | ⟨ab, ao, rfl, hok, h6⟩
    · omega
    obtain ⟨news, u1, u2, u3, u4⟩ := Go.Proofs.RepRow_of_cells (w := V.w) (ok := V.ok) (e := [.int .i64, .int .u64, .int .i64, .int .i64]) (b := ab) ys ao fun i hi => h6 i (by omega)
    have hnl : news.length = 4 := by rw [u2, ← h3]; rfl
    have hus : us.length = xs.length * 4 := hrow.len
    have hc : ∀ j u, news[j]? = some u → V.w.cell? ((⟨ab, ao, none⟩ : Addr).add j) = some u := fun j u hj => by rw [Addr.add_lit]; exact u3 j u hj
    have habw : ab < V.w.heap.size := hok.1
    have hlen : (Sp.ins xs (k : Int) ys).length = xs.length + 1 := by simp [Sp.ins]; omega
    rw [hlen]
    have hk : k ≤ xs.length := by omega
    obtain ⟨r1, r2⟩ := hrow.split k hk
    have hrep : RepRow V.w V.ok [.int .i64, .int .u64, .int .i64, .int .i64] (Sp.ins xs (k : Int) ys) (us.take (k * 4) ++ news ++ us.drop (k * 4)) := by
      have := (r1.append u1).append r2
      simpa [Sp.ins] using this
    refine runs_of_calls (by kernel_rfl) ?_
    obtain ⟨base, cap, rfl, hn1, hn2⟩ := hown.slice
    by_cases hkn : k = xs.length
    · subst hkn
      refine (Go.Proofs.ins490_end us news _ cap mc base ⟨ab, ao, none⟩ V.w hown hnl (by omega) hn1 hn2 hc u4).mono ?_
      rintro e w' ⟨v', rfl, q1, q2, q3, q4, q5, q6, q7⟩
      rw [show us.take (xs.length * 4) = us from List.take_of_length_le (by omega), show us.drop (xs.length * 4) = [] from List.drop_eq_nil_of_le (by omega), List.append_nil] at hrep
      refine ⟨_, rfl, v', us ++ news, rfl, (by intro h; cases h), q2, q3, q4, q5, ?_, ?_, ?_, ?_⟩
      · exact q6
      · exact q7
      · exact q1
      · exact hrep
    · rcases hown.2 with ⟨h0, _⟩ | ⟨g, cap', cur, hvv, hc0, hg, hg1, hg2, hg3, hg4⟩
      · omega
      · injection hvv with hb _ hcc
        subst hb
        subst hcc
        replace hg3 : cur.size = cap * 4 := hg3
        have hcl : cur.toList.length = cap * 4 := by rw [Array.length_toList]; exact hg3
        have hne : ab ≠ g := fun h => (hblk g (by simp [blkOf]; omega)).2 (h ▸ hok)
        have hgw : g < V.w.heap.size := (Array.getElem?_eq_some_iff.1 hg).1
        by_cases hroom : xs.length + 1 ≤ cap
        · refine (Go.Proofs.ins490_room us news _ cap k mc g ⟨ab, ao, none⟩ cur V.w (by omega) hroom hn2 hus hnl hg hg3 hg4 hrow.one hne hc u4).mono ?_
          rintro e w' ⟨rfl, rfl⟩
          refine ⟨_, rfl, _, _, rfl, fun h => by (cases h), rfl, rfl, rfl, by simp [setRow_size], fun b hb hnb => ?_, fun b hb => ?_, ?_, hrep⟩
          · have : b ≠ g := fun h => hnb (by subst h; simp [blkOf]; omega)
            rw [setRow_other _ _ _ _ this, setRow_other _ _ _ _ this]; rfl
          · have e : g = b := by
              unfold blkOf at hb
              simp only [show (cap == 0) = false by simpa using (show cap ≠ 0 by omega)] at hb
              simpa [show cap ≠ 0 by omega] using hb
            subst e
            exact ⟨.inl (by simp [blkOf]; omega), by simpa [setRow_size] using hgw⟩
          · refine ⟨by simp [hus, hnl]; omega, .inr ⟨g, cap, _, rfl, hc0, setRow_heap _ _ _ _ _ _ (setRow_heap V.w.drew g cur _ _ _ hg), hroom, hn2, ?_, ?_⟩⟩
            · show _ = cap * 4
              simp only [List.size_toArray, List.length_append, List.length_take, List.length_drop, Array.length_toList, hg3, hus, hnl]
              have := Nat.mul_le_mul_right 4 hroom
              omega
            · exact Go.Proofs.ins_take us news cur.toList 4 k xs.length (by omega) hus hnl (by rw [hcl]; exact Nat.mul_le_mul_right _ hroom) hg4
        · refine (Go.Proofs.ins490_grow us news _ cap k mc g ⟨ab, ao, none⟩ cur V.w (by omega) hn1 (by omega) hn2 (by omega) hus hnl hg hg3 hg4 hrow.one habw hc u4).mono ?_
          rintro e w' ⟨v', rfl, q1, q2, q3, q4, q5, q6, q7⟩
          exact ⟨_, rfl, v', _, rfl, fun h => by (cases h), q2, q3, q4, q5, fun b hb _ => q6 b hb, fun b hb => ⟨.inr (q7 b hb).1, (q7 b hb).2⟩, q1, hrep⟩
end Go.Sx
namespace Go.Proofs
open Go.RowKit Go.Shelf Go.Lib Go.Sx
set_option maxHeartbeats 4000000 in
set_option maxRecDepth 100000 in
theorem ins521_end (us news : List Value) (n c mc : Nat) (base : Option Addr) (a : Addr) (w : World) (hown : OwnRow w 61 2 (.slice base n c) n us) (hl : news.length = 2) (hbig : (n + 1) * 16 ≤ 140737488355328) (hnc : n ≤ c) (hcm : c ≤ maxLen)
 (hc : ∀ j u, news[j]? = some u → w.cell? (a.add j) = some u) (h1 : ∀ u ∈ news, u.oneCell' = true) :
 Calls Go.Proofs.Tryz.prog 40 #[.slice base n c, .int .i64 n, .slice (some a) 1 mc] w fun e w' => ∃ v', e = .returned v' ∧ OwnRow w' 61 2 v' (n + 1) (us ++ news) ∧
  w'.os = w.os ∧ w'.tape = w.tape ∧ w'.output = w.output ∧ w.heap.size ≤ w'.heap.size ∧ (∀ b, b < w.heap.size → blkOf (.slice base n c) ≠ some b → w'.heap[b]? = w.heap[b]?) ∧
  ∀ b, blkOf v' = some b → (blkOf (.slice base n c) = some b ∨ w.heap.size ≤ b) ∧ b < w'.heap.size := by
 have mixed := followsMixed
 obtain ⟨i0, hi, z, hz0, hz1, hz2, hzs⟩ := info_of (P := Go.Proofs.Tryz.prog) (t := 61) (K := 2) (BY := 16) (by kernel_rfl)
 have t22 : Go.Proofs.Tryz.prog.underlying 28 = some (.slice 61) := by kernel_rfl
 have u22 := run_underlying t22
 have zz : ∀ w, (Go.sizeOf 61).run Go.Proofs.Tryz.prog w = .ok 2 w := fun w => by simp [sizeOf, typeInfo, hi, hz1]
 have hcm' : c ≤ 9223372036854775807 := by simpa [maxLen] using hcm
 obtain ⟨v', w', hrun, hrest⟩ := run_append (P := Go.Proofs.Tryz.prog) (V := V0 w) t22 hi hz0 hz1 hz2 hzs (by decide) (by decide) hown (x := .slice (some a) 1 mc) (m := 1) (news := news) (.inr ⟨a, mc, rfl, by omega, hc, h1⟩) hbig 28
 generalize blkOf (.slice base n c) = B at hrest ⊢
 go_enter Go.Proofs.Tryz.func40, Go.Proofs.Tryz.ntmps40
 cases base with
 | none =>
  go_wp2_with (at_builtin; refine Lib.wpList_append_run _ rfl _ _ _ _ rfl _ _ rfl rfl _ _ hrun ?_)
  all_goals (go_ret; exact ⟨_, rfl, hrest⟩)
 | some a0 =>
  obtain ⟨ab, ao, asp⟩ := a0
  go_wp2_with (at_builtin; refine Lib.wpList_append_run _ rfl _ _ _ _ rfl _ _ rfl rfl _ _ hrun ?_)
  all_goals (go_ret; exact ⟨_, rfl, hrest⟩)
set_option maxHeartbeats 4000000 in
set_option maxRecDepth 100000 in
theorem ins521_room (us news : List Value) (n c i mc g : Nat) (a : Addr) (cur : Array Value) (w : World) (hin : i < n) (hroom : n + 1 ≤ c) (hcm : c ≤ maxLen) (hul : us.length = n * 2) (hl : news.length = 2)
 (hg : w.heap[g]? = some (.cells cur 61 (0, 0))) (hcs : cur.size = c * 2) (hct : cur.toList.take (n * 2) = us) (h1c : ∀ u ∈ us, u.oneCell' = true) (hag : a.block ≠ g)
 (hc : ∀ j u, news[j]? = some u → w.cell? (a.add j) = some u) (h1 : ∀ u ∈ news, u.oneCell' = true) :
 Calls Go.Proofs.Tryz.prog 40 #[.slice (some ⟨g, 0, none⟩) n c, .int .i64 i, .slice (some a) 1 mc] w fun e w' => e = .returned (.slice (some ⟨g, 0, none⟩) (n + 1) c) ∧
  w' = (w.drew.setRow g (cur.toList.take ((i + 1) * 2) ++ us.drop (i * 2) ++ cur.toList.drop ((i + 1) * 2 + (us.drop (i * 2)).length)).toArray).setRow g
   ((cur.toList.take ((i + 1) * 2) ++ us.drop (i * 2) ++ cur.toList.drop ((i + 1) * 2 + (us.drop (i * 2)).length)).take (i * 2) ++ news ++ (cur.toList.take ((i + 1) * 2) ++ us.drop (i * 2) ++ cur.toList.drop ((i + 1) * 2 + (us.drop (i * 2)).length)).drop (i * 2 + news.length)).toArray := by
 have mixed := followsMixed
 obtain ⟨i0, hi, z, hz0, hz1, hz2, hzs⟩ := info_of (P := Go.Proofs.Tryz.prog) (t := 61) (K := 2) (BY := 16) (by kernel_rfl)
 have t22 : Go.Proofs.Tryz.prog.underlying 28 = some (.slice 61) := by kernel_rfl
 have u22 := run_underlying t22
 have zz : ∀ w, (Go.sizeOf 61).run Go.Proofs.Tryz.prog w = .ok 2 w := fun w => by simp [sizeOf, typeInfo, hi, hz1]
 have hsz : (Go.Proofs.Tryz.prog.info? 61).map (·.size) = some 2 := by rw [hi]; simp [hz1]
 have hcm' : c ≤ 9223372036854775807 := by simpa [maxLen] using hcm
 have hgs : w.shape? g = some (61, cur.size) := by simp [World.shape?, hg]
 have hsa : ∃ tA kA, w.shape? a.block = some (tA, kA) ∧ kA ≠ 0 := by
  have h0 := hc 0 _ (List.getElem?_eq_getElem (by omega))
  unfold World.cell? at h0
  unfold World.shape?
  simp only [Addr.add, if_true] at h0
  split at h0
  · rename_i c' _ _ hh
    refine ⟨_, _, rfl, ?_⟩
    split at h0
    · cases h0
    · have := (Array.getElem?_eq_some_iff.1 h0).1
      omega
  · cases h0
 obtain ⟨tA, kA, hsa, hkA⟩ := hsa
 have hov : ∀ lb cb, (callFunc 62 #[.slice (some a) 1 mc, .slice (some ⟨g, (i + 1) * 2, none⟩) lb cb]).run Go.Proofs.Tryz.prog w = .ok (.value (.bool false)) w := fun lb cb => by
  rw [run_callFunc_extern (fn := Go.Proofs.Tryz.f62) (by kernel_rfl) (by kernel_rfl) (by kernel_rfl) (by kernel_rfl) (e := Extern.SlicesOverlaps.overlaps #[28, 28] #[4]) (by kernel_rfl),
   run_overlaps_row w 28 4 61 t22 2 zz a ⟨g, (i + 1) * 2, none⟩ 1 mc lb cb hag tA 61 kA cur.size hsa hgs (by omega) hkA (by simp [World.frozen?, hg]) (by simp [World.frozen?, hg])]
  rfl
 have hdl : (us.drop (i * 2)).length = (n - i) * 2 := by rw [List.length_drop, hul, Nat.sub_mul]
 have hus : ∀ (W : World), W.heap[g]? = some (.cells cur 61 (0, 0)) → ∀ j v, (us.drop (i * 2))[j]? = some v → W.cell? ((⟨g, i * 2, none⟩ : Addr).add j) = some v := fun W hW j v hj => by
  rw [List.getElem?_drop, ← hct, List.getElem?_take] at hj
  split at hj
  · simp only [Addr.add_lit, World.cell?, hW]
    simpa using hj
  · cases hj
 have hcp1 : ∀ ty dc sc, (Builtin.copy_ #[28, 28] ty #[.slice (some ⟨g, (i + 1) * 2, none⟩) (n - i) dc, .slice (some ⟨g, i * 2, none⟩) (n + 1 - i) sc]).run Go.Proofs.Tryz.prog w.drew = .ok (goInt (Nat.min (n + 1 - i) (n - i))) _ := fun ty dc sc =>
  run_copy_rowK w.drew 28 28 ty 61 2 g ((i + 1) * 2) (n - i) dc ⟨g, i * 2, none⟩ (n + 1 - i) sc cur 61 (us.drop (i * 2)) t22 hsz hg (by rw [hdl]; congr 1; simp only [Nat.min_def]; split <;> omega)
   (hus _ hg) (by rw [hdl, ← Nat.add_mul, hcs]; exact Nat.mul_le_mul_right _ (by omega)) (fun v hv => h1c v (List.mem_of_mem_drop hv))
 generalize hA1 : (cur.toList.take ((i + 1) * 2) ++ us.drop (i * 2) ++ cur.toList.drop ((i + 1) * 2 + (us.drop (i * 2)).length)) = A1 at hcp1 ⊢
 have hA1l : A1.length = c * 2 := by
  rw [← hA1]
  simp only [List.length_append, List.length_take, List.length_drop, Array.length_toList, hcs, hul]
  omega
 obtain ⟨W1, hW1⟩ : ∃ W1, W1 = w.drew.setRow g A1.toArray := ⟨_, rfl⟩
 rw [← hW1] at hcp1 ⊢
 have hg1 : W1.heap[g]? = some (.cells A1.toArray 61 (0, 0)) := by
  rw [hW1]
  exact setRow_heap w.drew g cur _ _ _ hg
 have hnw : ∀ (W : World), W.heap = W1.heap → ∀ j v, news[j]? = some v → W.cell? (a.add j) = some v := fun W hW j v hj => by
  rw [← hc j v hj]
  have hb : (a.add j).block = a.block := by unfold Addr.add; split <;> rfl
  unfold World.cell?
  rw [hW, hW1, hb, setRow_other _ _ _ _ hag]
  rfl
 have hcp2 : ∀ (W : World), W.heap = W1.heap → ∀ ty dc, (Builtin.copy_ #[28, 28] ty #[.slice (some ⟨g, i * 2, none⟩) (n + 1 - i) dc, .slice (some a) 1 mc]).run Go.Proofs.Tryz.prog W = .ok (goInt (Nat.min 1 (n + 1 - i))) _ := fun W hW ty dc =>
  run_copy_rowK W 28 28 ty 61 2 g (i * 2) (n + 1 - i) dc a 1 mc A1.toArray 61 news t22 hsz (by rw [hW]; exact hg1) (by rw [hl, show Nat.min 1 (n + 1 - i) = 1 from Nat.min_eq_left (by omega)])
   (hnw W hW) (by rw [hl]; simp only [List.size_toArray, hA1l]; have := Nat.mul_le_mul_right 2 (show i + 1 ≤ c by omega); omega) h1
 have hz2' : ¬ ((i : Int) = (n : Int)) := by omega
 have hw1 : IntKind.i64.wrap ((i : Int) + 1) = (i : Int) + 1 := by rw [IntKind.wrap_i64]; omega
 have hb1 : (0 : Int) ≤ (i : Int) + 1 := by omega
 have hin' : i ≤ n := by omega
 have htn : ((i : Int) + 1).toNat = i + 1 := by omega
 have hb2 : ¬ (c = i + 1) := by omega
 have hb3 : (i : Int) ≤ (n : Int) + 1 := by omega
 have hb4 : ¬ (c = i) := by omega
 go_enter Go.Proofs.Tryz.func40, Go.Proofs.Tryz.ntmps40
 go_wp2_with (simp only [hov])
 go_region_law_o (refine step_copyS rfl _ _ 28 28 rfl _ _ (by simp [Act.eval, Act.put]) (by simp [Act.eval, Act.put]) (hcp1 _ _ _) ?_)
 go_wp2_with (at_builtin; refine wpList_copyS _ rfl _ _ 28 28 rfl _ _ rfl rfl (hcp2 _ rfl _ _) ?_)
 go_ret
 refine ⟨rfl, ?_⟩
 rw [hW1]
 simp [hl]
set_option maxHeartbeats 4000000 in
set_option maxRecDepth 100000 in
theorem ins521_grow (us news : List Value) (n c i mc g : Nat) (a : Addr) (cur : Array Value) (w : World) (hin : i < n) (hnc : n ≤ c) (hroom : c < n + 1) (hcm : c ≤ maxLen) (hbig : (n + 1) * 16 ≤ 140737488355328) (hul : us.length = n * 2) (hl : news.length = 2)
    (hg : w.heap[g]? = some (.cells cur 61 (0, 0))) (hcs : cur.size = c * 2) (hct : cur.toList.take (n * 2) = us) (h1c : ∀ u ∈ us, u.oneCell' = true) (haw : a.block < w.heap.size)
    (hc : ∀ j u, news[j]? = some u → w.cell? (a.add j) = some u) (h1 : ∀ u ∈ news, u.oneCell' = true) :
    Calls Go.Proofs.Tryz.prog 40 #[.slice (some ⟨g, 0, none⟩) n c, .int .i64 i, .slice (some a) 1 mc] w fun e w' => ∃ v', e = .returned v' ∧ OwnRow w' 61 2 v' (n + 1) (us.take (i * 2) ++ news ++ us.drop (i * 2)) ∧
      w'.os = w.os ∧ w'.tape = w.tape ∧ w'.output = w.output ∧ w.heap.size ≤ w'.heap.size ∧ (∀ b, b < w.heap.size → w'.heap[b]? = w.heap[b]?) ∧
      ∀ b, blkOf v' = some b → w.heap.size ≤ b ∧ b < w'.heap.size := by
  have mixed := followsMixed
  obtain ⟨i0, hi, z, hz0, hz1, hz2, hzs⟩ := info_of (P := Go.Proofs.Tryz.prog) (t := 61) (K := 2) (BY := 16) (by kernel_rfl)
  have t22 : Go.Proofs.Tryz.prog.underlying 28 = some (.slice 61) := by kernel_rfl
  have t3 : Go.Proofs.Tryz.prog.underlying 3 = some (.int .i64) := by kernel_rfl
  have u22 := run_underlying t22
  have zz : ∀ w, (Go.sizeOf 61).run Go.Proofs.Tryz.prog w = .ok 2 w := fun w => by simp [sizeOf, typeInfo, hi, hz1]
  have hsz : (Go.Proofs.Tryz.prog.info? 61).map (·.size) = some 2 := by rw [hi]; simp [hz1]
  obtain rfl : n = c := by omega
  have hgw : g < w.heap.size := (Array.getElem?_eq_some_iff.1 hg).1
  have hkk : (n : Int) + 1 - (i : Int) = ((n + 1 - i : Nat) : Int) := by omega
  have hik : i + (n + 1 - i) = n + 1 := by omega
  have hcell : ∀ (W : World), W.heap[g]? = some (.cells cur 61 (0, 0)) → ∀ j v, us[j]? = some v → W.cell? ⟨g, j, none⟩ = some v := fun W hW j v hj => by
    rw [← hct, List.getElem?_take] at hj
    split at hj
    · simp only [World.cell?, hW]
      simpa using hj
    · cases hj
  have hold : (Builtin.firstCells i0.size i (.slice (some ⟨g, 0, none⟩) i n)).run Go.Proofs.Tryz.prog w.drew = .ok (us.take (i * 2)).toArray w.drew := by
    rw [hz1]
    exact run_firstCells_some w.drew 2 i ⟨g, 0, none⟩ i n (us.take (i * 2)) (by rw [List.length_take, hul]; have := Nat.mul_le_mul_right 2 (show i ≤ n by omega); omega) (fun j v hj => by
      rw [Addr.add_lit, Nat.zero_add]
      rw [List.getElem?_take] at hj
      split at hj
      · exact hcell w hg j v hj
      · cases hj)
  have hfit0 := growslice_fits (need := n + 1) (old := n) (bytes := 16) (by omega) hbig
  have hrz : ∀ ty, (Builtin.append_ #[28, 3] ty #[.slice (some ⟨g, 0, none⟩) i n, .int .i64 ((n : Int) + 1 - (i : Int))]).run Go.Proofs.Tryz.prog w =
      .ok (.slice (some ⟨w.heap.size, 0, none⟩) (n + 1) (grownCap w (n + 1) n 61)) (w.drew.alloc (.cells ((us.take (i * 2)).toArray ++ Builtin.zeroCells z.cells (n + 1 - i) ++ Builtin.zeroCells z.cells (grownCap w (n + 1) n 61 - (n + 1))) 61)) := fun ty => by
    have h := Lib.run_append_grow_zeros w 28 3 ty 61 i0 _ .i64 .i64 t22 t3 hi hz0 (some ⟨g, 0, none⟩) i n (us.take (i * 2)) hold (n + 1 - i) (by omega) (by omega) (by omega) (by omega) (by rw [hz2]; omega) (by rw [hz2, hik]; exact hfit0)
    rw [hik] at h
    rw [hkk]
    exact h
  obtain ⟨G, hG⟩ : ∃ G, G = grownCap w (n + 1) n 61 := ⟨_, rfl⟩
  obtain ⟨ROW, hROW⟩ : ∃ ROW : Array Value, ROW = (us.take (i * 2)).toArray ++ Builtin.zeroCells z.cells (n + 1 - i) ++ Builtin.zeroCells z.cells (G - (n + 1)) := ⟨_, rfl⟩
  rw [← hG] at hrz
  rw [← hROW] at hrz
  have hGn : n + 1 ≤ G := by rw [hG]; exact grownCap_ge w _ _ _
  have hGM : G ≤ maxLen := by rw [hG]; exact grownCap_le_maxLen w (n + 1) n 61 (by unfold maxLen; omega)
  have hG63 : G ≤ 9223372036854775807 := by simpa [maxLen] using hGM
  have hRl : ROW.size = G * 2 := by
    rw [hROW]
    simp only [Array.size_append, List.size_toArray, List.length_take, hul, size_zeroCells, hzs]
    have := Nat.mul_le_mul_right 2 (show i ≤ n by omega)
    omega
  obtain ⟨W1, hW1⟩ : ∃ W1, W1 = w.drew.alloc (.cells ROW 61) := ⟨_, rfl⟩
  rw [← hW1] at hrz
  have hg1 : W1.heap[w.heap.size]? = some (.cells ROW 61 (0, 0)) := by
    rw [hW1]
    show (w.heap.push _)[w.heap.size]? = _
    simp
  have hlow : ∀ b, b < w.heap.size → W1.heap[b]? = w.heap[b]? := fun b hb => by
    rw [hW1]
    show (w.heap.push _)[b]? = _
    rw [Array.getElem?_push, if_neg (by omega)]
  have hnw : ∀ (W : World), W.heap = W1.heap → ∀ j v, news[j]? = some v → W.cell? (a.add j) = some v := fun W hW j v hj => by
    rw [← hc j v hj]
    have hb : (a.add j).block = a.block := by unfold Addr.add; split <;> rfl
    unfold World.cell?
    rw [hW, hb, hlow _ haw]
  have hcpA : ∀ (W : World), W.heap = W1.heap → ∀ ty dc, (Builtin.copy_ #[28, 28] ty #[.slice (some ⟨w.heap.size, i * 2, none⟩) (n + 1 - i) dc, .slice (some a) 1 mc]).run Go.Proofs.Tryz.prog W = .ok (goInt (Nat.min 1 (n + 1 - i))) _ := fun W hW ty dc =>
    run_copy_rowK W 28 28 ty 61 2 w.heap.size (i * 2) (n + 1 - i) dc a 1 mc ROW 61 news t22 hsz (by rw [hW]; exact hg1) (by rw [hl, show Nat.min 1 (n + 1 - i) = 1 from Nat.min_eq_left (by omega)])
      (hnw W hW) (by rw [hl, hRl]; have := Nat.mul_le_mul_right 2 (show i + 1 ≤ G by omega); omega) h1
  generalize hA1 : (ROW.toList.take (i * 2) ++ news ++ ROW.toList.drop (i * 2 + news.length)) = A1 at hcpA
  have hA1l : A1.length = G * 2 := by
    rw [← hA1]
    simp only [List.length_append, List.length_take, List.length_drop, Array.length_toList, hRl, hl]
    have := Nat.mul_le_mul_right 2 (show i + 1 ≤ G by omega)
    omega
  have hdl : (us.drop (i * 2)).length = (n - i) * 2 := by rw [List.length_drop, hul, Nat.sub_mul]
  have hcpB : ∀ (W : World), W.heap = (W1.setRow w.heap.size A1.toArray).heap → ∀ ty dc sc, (Builtin.copy_ #[28, 28] ty #[.slice (some ⟨w.heap.size, (i + 1) * 2, none⟩) (n - i) dc, .slice (some ⟨g, i * 2, none⟩) (n - i) sc]).run Go.Proofs.Tryz.prog W = .ok (goInt (Nat.min (n - i) (n - i))) _ := fun W hW ty dc sc =>
    run_copy_rowK W 28 28 ty 61 2 w.heap.size ((i + 1) * 2) (n - i) dc ⟨g, i * 2, none⟩ (n - i) sc A1.toArray 61 (us.drop (i * 2)) t22 hsz (by rw [hW]; exact setRow_heap W1 w.heap.size ROW _ _ _ hg1) (by rw [hdl, show Nat.min (n - i) (n - i) = n - i from Nat.min_self _])
      (fun j v hj => by
        rw [Addr.add_lit]
        refine hcell W ?_ _ v (by rwa [List.getElem?_drop] at hj)
        rw [hW, setRow_other _ _ _ _ (by omega), hlow g hgw]
        exact hg)
      (by rw [hdl]; simp only [List.size_toArray, hA1l]; have := Nat.mul_le_mul_right 2 (show n + 1 ≤ G by omega); rw [← Nat.add_mul]; exact Nat.mul_le_mul_right _ (by omega)) (fun v hv => h1c v (List.mem_of_mem_drop hv))
  have hz2' : ¬ ((i : Int) = (n : Int)) := by omega
  have hz3 : (n : Int) < (n : Int) + 1 := by omega
  have hw1 : IntKind.i64.wrap ((i : Int) + 1) = (i : Int) + 1 := by rw [IntKind.wrap_i64]; have : n ≤ maxLen := hcm; unfold maxLen at this; omega
  have hb1 : (0 : Int) ≤ (i : Int) + 1 := by omega
  have hin' : i ≤ n := by omega
  have hcm' : n ≤ 9223372036854775807 := by simpa [maxLen] using hcm
  have htn : ((i : Int) + 1).toNat = i + 1 := by omega
  have hb2 : ¬ (n = i) := by omega
  have hb3 : (i : Int) ≤ (n : Int) := by omega
  have hGi : ¬ (G = i) := by omega
  have hGim : ¬ (G = i + 1) := by omega
  have hA2 : (A1.take ((i + 1) * 2) ++ us.drop (i * 2) ++ A1.drop ((i + 1) * 2 + (us.drop (i * 2)).length)).take ((n + 1) * 2) = us.take (i * 2) ++ news ++ us.drop (i * 2) := by
    have e1 : A1.take ((i + 1) * 2) = us.take (i * 2) ++ news := by
      rw [← hA1, hROW]
      have hi4 := Nat.mul_le_mul_right 2 (show i ≤ n by omega)
      rw [List.take_append_of_le_length (by simp only [List.length_append, List.length_take, Array.length_toList, Array.size_append, List.size_toArray, hul, hl, size_zeroCells, hzs]; omega), List.take_of_length_le (by simp only [List.length_append, List.length_take, hl]; omega)]
      congr 1
      simp only [Array.toList_append, List.append_assoc]
      rw [List.take_append_of_le_length (by simp only [List.length_take, hul]; omega), List.take_of_length_le (by simp only [List.length_take]; omega)]
    rw [e1, List.take_append_of_le_length (by simp only [List.length_append, List.length_take, hdl, hul, hl]; have := Nat.mul_le_mul_right 2 (show i ≤ n by omega); omega)]
    exact List.take_of_length_le (by simp only [List.length_append, List.length_take, hdl, hul, hl]; have := Nat.mul_le_mul_right 2 (show i ≤ n by omega); omega)
  generalize hA3 : (A1.take ((i + 1) * 2) ++ us.drop (i * 2) ++ A1.drop ((i + 1) * 2 + (us.drop (i * 2)).length)) = A2 at hcpB hA2
  have hA2l : A2.length = G * 2 := by
    rw [← hA3]
    simp only [List.length_append, List.length_take, List.length_drop, hA1l, hdl, hul]
    have := Nat.mul_le_mul_right 2 (show i + 1 ≤ G by omega)
    have := Nat.mul_le_mul_right 2 (show n + 1 ≤ G by omega)
    omega
  clear hkk hik hold hROW hG hA1 hA3
  have fin : ∀ W : World, W.heap = ((W1.setRow w.heap.size A1.toArray).setRow w.heap.size A2.toArray).heap → OwnRow W 61 2 (.slice (some ⟨w.heap.size, 0, none⟩) (n + 1) G) (n + 1) (us.take (i * 2) ++ news ++ us.drop (i * 2)) ∧ w.heap.size ≤ W.heap.size ∧ (∀ b, b < w.heap.size → W.heap[b]? = w.heap[b]?) ∧
      ∀ b, blkOf (.slice (some ⟨w.heap.size, 0, none⟩) (n + 1) G) = some b → w.heap.size ≤ b ∧ b < W.heap.size := fun W hW => by
    have hs : W.heap[w.heap.size]? = some (.cells A2.toArray 61 (0, 0)) := by
      rw [hW]
      exact setRow_heap _ _ _ _ _ _ (setRow_heap W1 w.heap.size ROW _ _ _ hg1)
    have hlt := (Array.getElem?_eq_some_iff.1 hs).1
    refine ⟨⟨?_, .inr ⟨_, _, _, rfl, by omega, hs, hGn, hGM, by simpa using hA2l, hA2⟩⟩, by omega, fun b hb => ?_, fun b hb => ?_⟩
    · simp only [List.length_append, List.length_take, hdl, hul, hl]
      have := Nat.mul_le_mul_right 2 (show i ≤ n by omega)
      omega
    · rw [hW, setRow_other _ _ _ _ (by omega), setRow_other _ _ _ _ (by omega), hlow b hb]
    · have e : w.heap.size = b := by
        unfold blkOf at hb
        simp only [show (G == 0) = false by simpa using (show G ≠ 0 by omega)] at hb
        simpa [show G ≠ 0 by omega] using hb
      omega
  have hcpB1 := hcpB (((w.alloc (.cells ROW 61)).drew.setRow w.heap.size A1.toArray).drew) (by rw [hW1]; rfl)
  have hos : W1.os = w.os ∧ W1.tape = w.tape ∧ W1.output = w.output := by rw [hW1]; exact ⟨rfl, rfl, rfl⟩
  go_enter Go.Proofs.Tryz.func40, Go.Proofs.Tryz.ntmps40
  go_wp2_with (first
    | (at_builtin; refine Lib.wpList_append_run _ rfl _ _ _ _ rfl _ _ rfl rfl _ _ (hrz _) ?_)
    | (at_builtin; refine wpList_copyS _ rfl _ _ 28 28 rfl _ _ rfl rfl (hcpA _ rfl _ _) ?_)
    | (at_builtin; refine wpList_copyS _ rfl _ _ 28 28 rfl _ _ rfl rfl (hcpB _ rfl _ _ _) ?_))
  go_region_law_o (refine step_copyS rfl _ _ 28 28 rfl (.slice (some ⟨w.heap.size, (i + 1) * 2, none⟩) (n - i) (G - (i + 1))) (.slice (some ⟨g, i * 2, none⟩) (n - i) (n - i)) (by simp [Act.eval, Act.put]) (by simp [Act.eval, Act.put]) (hcpB1 3 (G - (i + 1)) (n - i)) ?_)
  go_wp2
  go_ret
  obtain ⟨f1, f2, f3, f4⟩ := fin (((w.alloc (.cells ROW 61)).drew.setRow w.heap.size A1.toArray).drew.setRow w.heap.size A2.toArray) (by rw [hW1]; rfl)
  exact ⟨_, rfl, f1, rfl, rfl, rfl, f2, f3, f4⟩
end Go.Proofs
namespace Go.Sx
open Go.RowKit
def ct40 : Ct := { ps := [(false, [.int .i64]), (false, [.sl [.int .u64, .int .i64]])], rs := [], pre := fun a => (pLe 0 (cel 0 (arg 1 a)).int ∧ pLe (cel 0 (arg 1 a)).int ((cel 0 (arg 0 a)).list.length : Int)) ∧ ((cel 0 (arg 2 a)).list.length = 1 ∧ pLe ((cel 0 (arg 0 a)).list.length : Int) 999999), out := fun a => [[.l (Sp.ins (cel 0 (arg 0 a)).list (cel 0 (arg 1 a)).int (cel 0 (arg 2 a)).list)]], ow := some (61, [.int .u64, .int .i64], true) }
set_option maxHeartbeats 1000000 in
set_option maxRecDepth 100000 in
theorem s40 : SoundCt Go.Proofs.Tryz.prog 40 ct40 := by
  refine ⟨fun args ha hp => ?_, fun _ h _ => (by cases h), fun t e h => (by cases h), fun t e r _ h V xs args vals v us hlt hbd hblk hown hrow hw hpre hv => ?_, fun t e _ h => (by cases h)⟩
  · simp only [Ct.aps, Ct.ars, ct40, ofRess, Wfs, ofRes, ofCs, ofC, List.headD_cons, Wf, and_true] at ha ⊢
    refine wf_ins (by simp only [Wf]; exact ha.1) (by simp only [Wf]; exact ha.2.2) ?_
    have hp' := hp.2
    simp only [pLe] at hp'
    have : (1000000 : Nat) ≤ maxLen := by decide
    simp only [maxLen]
    omega
  · simp only [ct40, Option.some.injEq, Prod.mk.injEq] at h
    obtain ⟨rfl, rfl, rfl⟩ := h
    simp only [ct40, ofRess, VRs, ofRes, ofCs, ofC, List.headD_cons, VR] at hv
    obtain ⟨v1, _, rfl, hv1, v2, _, rfl, hv2, rfl⟩ := hv
    simp only [ct40] at hpre
    have e0 : (cel 0 (arg 0 ([.l xs] :: args))).list = xs := rfl
    have e1 : (cel 0 (arg 1 ([.l xs] :: args))) = (args.headD []).headD default := rfl
    have e2 : (cel 0 (arg 2 ([.l xs] :: args))) = (args.tail.headD []).headD default := rfl
    rw [e0, e1, e2] at hpre
    simp only [ct40, e0, e1, e2, List.headD_cons, show ∀ x, (C.l x).list = x from fun _ => rfl]
    generalize ((args.headD []).headD default).int = i at hv1 hpre ⊢
    generalize ((args.tail.headD []).headD default).list = ys at hv2 hpre ⊢
    simp only [pLe] at hpre
    obtain ⟨⟨hp1, hp2⟩, hp3, hp4⟩ := hpre
    obtain ⟨k, rfl⟩ : ∃ k : Nat, i = (k : Int) := ⟨i.toNat, by omega⟩
    subst hv1
    simp only [RepC, show ∀ x, (C.l x).list = x from fun _ => rfl] at hv2
    obtain ⟨a, m, mc, rfl, h1, h2, h3, h4⟩ := hv2
    obtain rfl : m = 1 := by omega
    rcases h4 with h4 | ⟨ab, ao, rfl, hok, h6⟩
    · omega
    obtain ⟨news, u1, u2, u3, u4⟩ := Go.Proofs.RepRow_of_cells (w := V.w) (ok := V.ok) (e := [.int .u64, .int .i64]) (b := ab) ys ao fun i hi => h6 i (by omega)
    have hnl : news.length = 2 := by rw [u2, ← h3]; rfl
    have hus : us.length = xs.length * 2 := hrow.len
    have hc : ∀ j u, news[j]? = some u → V.w.cell? ((⟨ab, ao, none⟩ : Addr).add j) = some u := fun j u hj => by rw [Addr.add_lit]; exact u3 j u hj
    have habw : ab < V.w.heap.size := hok.1
    have hlen : (Sp.ins xs (k : Int) ys).length = xs.length + 1 := by simp [Sp.ins]; omega
    rw [hlen]
    have hk : k ≤ xs.length := by omega
    obtain ⟨r1, r2⟩ := hrow.split k hk
    have hrep : RepRow V.w V.ok [.int .u64, .int .i64] (Sp.ins xs (k : Int) ys) (us.take (k * 2) ++ news ++ us.drop (k * 2)) := by
      have := (r1.append u1).append r2
      simpa [Sp.ins] using this
    refine runs_of_calls (by kernel_rfl) ?_
    obtain ⟨base, cap, rfl, hn1, hn2⟩ := hown.slice
    by_cases hkn : k = xs.length
    · subst hkn
      refine (Go.Proofs.ins521_end us news _ cap mc base ⟨ab, ao, none⟩ V.w hown hnl (by omega) hn1 hn2 hc u4).mono ?_
      rintro e w' ⟨v', rfl, q1, q2, q3, q4, q5, q6, q7⟩
      rw [show us.take (xs.length * 2) = us from List.take_of_length_le (by omega), show us.drop (xs.length * 2) = [] from List.drop_eq_nil_of_le (by omega), List.append_nil] at hrep
      refine ⟨_, rfl, v', us ++ news, rfl, (by intro h; cases h), q2, q3, q4, q5, ?_, ?_, ?_, ?_⟩
      · exact q6
      · exact q7
      · exact q1
      · exact hrep
    · rcases hown.2 with ⟨h0, _⟩ | ⟨g, cap', cur, hvv, hc0, hg, hg1, hg2, hg3, hg4⟩
      · omega
      · injection hvv with hb _ hcc
        subst hb
        subst hcc
        replace hg3 : cur.size = cap * 2 := hg3
        have hcl : cur.toList.length = cap * 2 := by rw [Array.length_toList]; exact hg3
        have hne : ab ≠ g := fun h => (hblk g (by simp [blkOf]; omega)).2 (h ▸ hok)
        have hgw : g < V.w.heap.size := (Array.getElem?_eq_some_iff.1 hg).1
        by_cases hroom : xs.length + 1 ≤ cap
        · refine (Go.Proofs.ins521_room us news _ cap k mc g ⟨ab, ao, none⟩ cur V.w (by omega) hroom hn2 hus hnl hg hg3 hg4 hrow.one hne hc u4).mono ?_
          rintro e w' ⟨rfl, rfl⟩
          refine ⟨_, rfl, _, _, rfl, fun h => by (cases h), rfl, rfl, rfl, by simp [setRow_size], fun b hb hnb => ?_, fun b hb => ?_, ?_, hrep⟩
          · have : b ≠ g := fun h => hnb (by subst h; simp [blkOf]; omega)
            rw [setRow_other _ _ _ _ this, setRow_other _ _ _ _ this]; rfl
          · have e : g = b := by
              unfold blkOf at hb
              simp only [show (cap == 0) = false by simpa using (show cap ≠ 0 by omega)] at hb
              simpa [show cap ≠ 0 by omega] using hb
            subst e
            exact ⟨.inl (by simp [blkOf]; omega), by simpa [setRow_size] using hgw⟩
          · refine ⟨by simp [hus, hnl]; omega, .inr ⟨g, cap, _, rfl, hc0, setRow_heap _ _ _ _ _ _ (setRow_heap V.w.drew g cur _ _ _ hg), hroom, hn2, ?_, ?_⟩⟩
            · show _ = cap * 2
              simp only [List.size_toArray, List.length_append, List.length_take, List.length_drop, Array.length_toList, hg3, hus, hnl]
              have := Nat.mul_le_mul_right 2 hroom
              omega
            · exact Go.Proofs.ins_take us news cur.toList 2 k xs.length (by omega) hus hnl (by rw [hcl]; exact Nat.mul_le_mul_right _ hroom) hg4
        · refine (Go.Proofs.ins521_grow us news _ cap k mc g ⟨ab, ao, none⟩ cur V.w (by omega) hn1 (by omega) hn2 (by omega) hus hnl hg hg3 hg4 hrow.one habw hc u4).mono ?_
          rintro e w' ⟨v', rfl, q1, q2, q3, q4, q5, q6, q7⟩
          exact ⟨_, rfl, v', _, rfl, fun h => by (cases h), q2, q3, q4, q5, fun b hb _ => q6 b hb, fun b hb => ⟨.inr (q7 b hb).1, (q7 b hb).2⟩, q1, hrep⟩
end Go.Sx
namespace Go.Proofs
open Go.RowKit Go.Shelf Go.Lib Go.Sx
end Go.Proofs
