/- slices.Sort at []int: the kit's contract, laid at this program in plain words; a row of the call's own is sorted in place. -/
import Derived.Test.YtojecjbhdligcaaDoorSxOpen
import Derived.Test.YtojecjbhdligcaaDoorS06c
import Derived.Shelf.SortG.Plain
import Derived.Shelf.SortG.SortNone
import Derived.Sort.OwnSortedInts
import Derived.Ground.SlgnProg
import Derived.KernelRfl
set_option linter.unusedVariables false
set_option linter.unusedSimpArgs false
namespace Go.Proofs
open Go.Shelf
def Tryd.sortInt_ren : Go.Shelf.Ren := ⟨fun | 53 => 29 | 64 => 35 | 63 => 34 | 78 => 50 | 79 => 51 | 70 => 41 | 71 => 42 | 72 => 43 | 73 => 44 | 74 => 45 | 75 => 46 | 59 => 47 | 76 => 48 | 77 => 49 | 88 => 58 | 89 => 59 | 90 => 60 | 91 => 61 | 92 => 62 | 68 => 63 | 96 => 69 | n => n, fun | 22 => 22 | 23 => 3 | 3 => 3 | 51 => 56 | 0 => 0 | 67 => 70 | 69 => 72 | 4 => 4 | 61 => 62 | 60 => 61 | 44 => 67 | 5 => 5 | 9 => 9 | 75 => 80 | 79 => 84 | 83 => 88 | 84 => 89 | n => n, fun | n => n⟩
theorem Tryd.sortInt : Go.Proofs.SlLaysN.n53 Tryd.prog Tryd.sortInt_ren := {
  mixed := by kernel_rfl,
  f53 := ⟨ "slices.Sort[[]int,int]", by decide, Tryd.func29.trans (congrArg some (by kernel_rfl))⟩,
  f59 := ⟨ "cmp.Less[int]", by decide, Tryd.func47.trans (congrArg some (by kernel_rfl))⟩,
  f63 := ⟨ "slices.pdqsortOrdered[int]", by decide, Tryd.func34.trans (congrArg some (by kernel_rfl))⟩,
  f64 := Tryd.func35.trans (congrArg some (by kernel_rfl)),
  f68 := ⟨ "cmp.isNaN[int]", by decide, Tryd.func63.trans (congrArg some (by kernel_rfl))⟩,
  f70 := ⟨ "slices.insertionSortOrdered[int]", by decide, Tryd.func41.trans (congrArg some (by kernel_rfl))⟩,
  f71 := ⟨ "slices.heapSortOrdered[int]", by decide, Tryd.func42.trans (congrArg some (by kernel_rfl))⟩,
  f72 := ⟨ "slices.breakPatternsOrdered[int]", by decide, Tryd.func43.trans (congrArg some (by kernel_rfl))⟩,
  f73 := ⟨ "slices.choosePivotOrdered[int]", by decide, Tryd.func44.trans (congrArg some (by kernel_rfl))⟩,
  f74 := ⟨ "slices.reverseRangeOrdered[int]", by decide, Tryd.func45.trans (congrArg some (by kernel_rfl))⟩,
  f75 := ⟨ "slices.partialInsertionSortOrdered[int]", by decide, Tryd.func46.trans (congrArg some (by kernel_rfl))⟩,
  f76 := ⟨ "slices.partitionEqualOrdered[int]", by decide, Tryd.func48.trans (congrArg some (by kernel_rfl))⟩,
  f77 := ⟨ "slices.partitionOrdered[int]", by decide, Tryd.func49.trans (congrArg some (by kernel_rfl))⟩,
  f78 := Tryd.func50.trans (congrArg some (by kernel_rfl)),
  f79 := Tryd.func51.trans (congrArg some (by kernel_rfl)),
  f88 := ⟨ "slices.siftDownOrdered[int]", by decide, Tryd.func58.trans (congrArg some (by kernel_rfl))⟩,
  f89 := Tryd.func59.trans (congrArg some (by kernel_rfl)),
  f90 := Tryd.func60.trans (congrArg some (by kernel_rfl)),
  f91 := ⟨ "slices.medianAdjacentOrdered[int]", by decide, Tryd.func61.trans (congrArg some (by kernel_rfl))⟩,
  f92 := ⟨ "slices.medianOrdered[int]", by decide, Tryd.func62.trans (congrArg some (by kernel_rfl))⟩,
  f96 := ⟨ "slices.order2Ordered[int]", by decide, Tryd.func69.trans (congrArg some (by kernel_rfl))⟩,
  t0 := Tryd.underlying0,
  a0 := Tryd.isAgg0,
  z0 := Tryd.sizeOf0,
  v0 := Tryd.zeroValue0,
  t3 := Tryd.underlying3,
  a3 := Tryd.isAgg3,
  z3 := Tryd.sizeOf3,
  v3 := Tryd.zeroValue3,
  t4 := Tryd.underlying4,
  a4 := Tryd.isAgg4,
  z4 := Tryd.sizeOf4,
  v4 := Tryd.zeroValue4,
  t5 := Tryd.underlying5,
  a5 := Tryd.isAgg5,
  z5 := Tryd.sizeOf5,
  v5 := Tryd.zeroValue5,
  t9 := Tryd.underlying9,
  a9 := Tryd.isAgg9,
  z9 := Tryd.sizeOf9,
  v9 := Tryd.zeroValue9,
  t22 := Tryd.underlying22,
  a22 := Tryd.isAgg22,
  z22 := Tryd.sizeOf22,
  v22 := Tryd.zeroValue22,
  t23 := Tryd.underlying3,
  a23 := Tryd.isAgg3,
  z23 := Tryd.sizeOf3,
  v23 := Tryd.zeroValue3,
  t44 := Tryd.underlying67,
  a44 := Tryd.isAgg67,
  z44 := Tryd.sizeOf67,
  v44 := Tryd.zeroValue67,
  t51 := Tryd.underlying56,
  a51 := Tryd.isAgg56,
  z51 := Tryd.sizeOf56,
  v51 := Tryd.zeroValue56,
  t60 := Tryd.underlying61,
  a60 := Tryd.isAgg61,
  z60 := Tryd.sizeOf61,
  v60 := Tryd.zeroValue61,
  t61 := Tryd.underlying62,
  a61 := Tryd.isAgg62,
  z61 := Tryd.sizeOf62,
  v61 := Tryd.zeroValue62,
  t67 := Tryd.underlying70,
  a67 := Tryd.isAgg70,
  z67 := Tryd.sizeOf70,
  v67 := Tryd.zeroValue70,
  t69 := Tryd.underlying72,
  a69 := Tryd.isAgg72,
  z69 := Tryd.sizeOf72,
  v69 := Tryd.zeroValue72,
  t75 := Tryd.underlying80,
  a75 := Tryd.isAgg80,
  z75 := Tryd.sizeOf80,
  v75 := Tryd.zeroValue80,
  t79 := Tryd.underlying84,
  a79 := Tryd.isAgg84,
  z79 := Tryd.sizeOf84,
  v79 := Tryd.zeroValue84,
  t83 := Tryd.underlying88,
  a83 := Tryd.isAgg88,
  z83 := Tryd.sizeOf88,
  v83 := Tryd.zeroValue88,
  t84 := Tryd.underlying89,
  a84 := Tryd.isAgg89,
  z84 := Tryd.sizeOf89,
  v84 := Tryd.zeroValue89 }
end Go.Proofs
namespace Go
open Go.Sx
def Sp.i0 (x : List C) : Int := (x.headD default).int
def Sp.srt (xs : List (List C)) : List (List C) := ((xs.map Sp.i0).mergeSort (fun x y => decide (x ≤ y))).map (fun n => [.i n])
end Go
namespace Go.Sx
open Go.RowKit Go.Proofs Go.Sort
theorem repRow_ints {w : World} {ok : Nat → Prop} : ∀ {xs : List (List C)} {us : List Value}, RepRow w ok [.int .i64] xs us → us = (xs.map Sp.i0).map (Value.int .i64)
  | [], us, h => by simp only [RepRow] at h; subst h; rfl
  | x :: r, us, h => by
    simp only [RepRow, RepVs] at h
    obtain ⟨a, t, rfl, ⟨u, t', rfl, h1, h2, rfl⟩, h3⟩ := h
    simp only [RepC] at h2
    rw [repRow_ints h3, h2]
    rfl
theorem ints_repRow {w : World} {ok : Nat → Prop} : ∀ (zs : List Int), RepRow w ok [.int .i64] (zs.map (fun n => [.i n])) (zs.map (Value.int .i64))
  | [] => rfl
  | z :: r => ⟨[.int .i64 z], r.map (Value.int .i64), rfl, ⟨.int .i64 z, [], rfl, rfl, rfl, rfl⟩, ints_repRow r⟩
def ct29 : Ct := { ps := [], rs := [], pre := fun a => pLe ((cel 0 (arg 0 a)).list.length : Int) 1000000, out := fun a => [[.l (Sp.srt (cel 0 (arg 0 a)).list)]], ow := some (3, [.int .i64], false) }
set_option maxHeartbeats 1000000 in
set_option maxRecDepth 100000 in
theorem s29 : SoundCt Go.Proofs.Tryd.prog 29 ct29 := by
  refine ⟨fun args ha hp => ?_, fun _ h _ => (by cases h), fun t e h => (by cases h), fun t e r _ h V xs args vals v us hlt hbd hblk hown hrow hw hpre hv => ?_, fun t e _ h => (by cases h)⟩
  · simp only [Ct.aps, Ct.ars, ct29, ofRess, Wfs, ofRes, ofCs, ofC, List.headD_cons, Wf, and_true] at ha ⊢
    show (Sp.srt (cel 0 (arg 0 args)).list).length ≤ maxLen ∧ ∀ x ∈ Sp.srt (cel 0 (arg 0 args)).list, WfCs [.int .i64] x
    refine ⟨?_, fun x hx => ?_⟩
    · simp only [Sp.srt, List.length_map, List.length_mergeSort]; exact ha.1
    · simp only [Sp.srt, List.mem_map, List.mem_mergeSort] at hx
      obtain ⟨n, ⟨y, hy, rfl⟩, rfl⟩ := hx
      have := ha.2 y hy
      simp only [WfCs, WfC] at this ⊢
      exact ⟨by simp, this.2.1, rfl⟩
  · simp only [ct29, Option.some.injEq, Prod.mk.injEq] at h
    obtain ⟨rfl, rfl, rfl⟩ := h
    simp only [ct29, ofRess, VRs] at hv
    subst hv
    simp only [ct29, pLe] at hpre
    have e0 : (cel 0 (arg 0 ([.l xs] :: args))).list = xs := rfl
    rw [e0] at hpre
    simp only [ct29, e0, List.headD_cons, show ∀ x, (C.l x).list = x from fun _ => rfl]
    have hus := repRow_ints hrow
    have hl : (Sp.srt xs).length = xs.length := by simp [Sp.srt]
    rw [hl]
    refine runs_of_calls (by kernel_rfl) ?_
    rcases hown with ⟨hol, ⟨h0, a, rfl⟩ | ⟨g, cap, cur, rfl, hc0, hg, hn, hcm, hcs, hct⟩⟩
    · have hcon := AnyG.slices_Sort_int_none Tryd.sortInt a 0 V.w
      change Calls Tryd.prog 29 _ _ _ at hcon
      refine hcon.mono ?_
      rintro e w' ⟨rfl, rfl⟩
      obtain rfl : xs = [] := List.eq_nil_of_length_eq_zero h0
      exact ⟨_, rfl, .slice a 0 0, [], rfl, fun _ => rfl, rfl, rfl, rfl, Nat.le_refl _, fun _ _ _ => rfl, fun b hb => ⟨.inl hb, (hblk b hb).1⟩, ⟨rfl, .inl ⟨rfl, a, rfl⟩⟩, by simp only [Sp.srt, List.map_nil, List.mergeSort_nil]; rfl⟩
    · have hgw : g < V.w.heap.size := (Array.getElem?_eq_some_iff.1 hg).1
      have hlen : (xs.map Sp.i0).length = xs.length := List.length_map _
      have hH : Go.Sort.Holds (Value.int .i64) V.w g 0 (xs.map Sp.i0).toArray := holds_of_blockI hg (by rw [hlen, ← hus]; rw [show [Sh.int IntKind.i64].length = 1 from rfl, Nat.mul_one] at hct; exact hct)
      have hcon := AnyG.slices_Sort_int Tryd.sortInt g 0 cap (xs.map Sp.i0) V.w hH hgw (by rw [hlen]; omega)
      change Calls Tryd.prog 29 _ _ _ at hcon
      rw [hlen] at hcon
      refine hcon.mono ?_
      rintro e w' ⟨rfl, n, os, rfl⟩
      obtain ⟨g1, g2, g3, g4, g5⟩ := grownBy_sortedI (w := V.w) (g := g) (n := n) (os := os) ((xs.map Sp.i0).mergeSort fun x y => decide (x ≤ y)).toArray
      have hb0 : blkOf (.slice (some ⟨g, 0, none⟩) xs.length cap) = some g := by simp [blkOf]; omega
      have hms : ((xs.map Sp.i0).mergeSort fun x y => decide (x ≤ y)).length = xs.length := by rw [List.length_mergeSort, hlen]
      refine ⟨_, rfl, _, ((xs.map Sp.i0).mergeSort fun x y => decide (x ≤ y)).map (Value.int .i64), rfl, fun _ => rfl, g1, g2, g3, g4, fun b hb hne => g5 b hb ?_, fun b hb => ?_, ⟨?_, .inr ⟨g, cap, _, rfl, hc0, heap_sortedI _ hg, hn, hcm, ?_, ?_⟩⟩, ints_repRow _⟩
      · intro h; rw [hb0] at hne; exact hne h.symm
      · rw [hb0] at hb
        obtain rfl : g = b := by simpa using hb
        exact ⟨.inl hb0, Nat.lt_of_lt_of_le hgw g4⟩
      · rw [List.length_map, hms]; simp
      · simpa [putCells] using hcs
      · rw [show [Sh.int IntKind.i64].length = 1 from rfl, Nat.mul_one, ← hms]
        exact take_putCellsI cur _ (by rw [hms, hcs]; simpa using hn)
end Go.Sx
