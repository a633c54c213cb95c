/- slices.Sort at []int: the kit's contract, laid at this program in plain words; a row of the call's own is sorted in place. -/
import Derived.Test.YtbobgakeaoigeaaSxOpen
import Derived.Test.YtbobgakeaoigeaaC22s
import Derived.Shelf.SortG.Plain
import Derived.Shelf.SortG.SortNone
import Derived.Sort.OwnSortedInts
import Derived.Ground.SlgnProg
import Derived.KernelRfl
set_option linter.unusedVariables false
set_option linter.unusedSimpArgs false
namespace Go.Proofs
open Go.Shelf
def Try.sortInt_ren : Go.Shelf.Ren := ⟨fun | 53 => 48 | 64 => 70 | 63 => 69 | 78 => 88 | 79 => 89 | 70 => 79 | 71 => 80 | 72 => 81 | 73 => 82 | 74 => 83 | 75 => 84 | 59 => 85 | 76 => 86 | 77 => 87 | 88 => 92 | 89 => 93 | 90 => 94 | 91 => 95 | 92 => 96 | 68 => 76 | 96 => 99 | n => n, fun | 22 => 31 | 23 => 3 | 3 => 3 | 51 => 95 | 0 => 0 | 67 => 112 | 69 => 114 | 4 => 4 | 61 => 105 | 60 => 104 | 44 => 41 | 5 => 5 | 9 => 9 | 75 => 115 | 79 => 119 | 83 => 123 | 84 => 124 | n => n, fun | n => n⟩
theorem Try.sortInt : Go.Proofs.SlLaysN.n53 Try.prog Try.sortInt_ren := {
  mixed := by kernel_rfl,
  f53 := ⟨ "slices.Sort[[]int,int]", by decide, Try.func48.trans (congrArg some (by kernel_rfl))⟩,
  f59 := ⟨ "cmp.Less[int]", by decide, Try.func85.trans (congrArg some (by kernel_rfl))⟩,
  f63 := ⟨ "slices.pdqsortOrdered[int]", by decide, Try.func69.trans (congrArg some (by kernel_rfl))⟩,
  f64 := Try.func70.trans (congrArg some (by kernel_rfl)),
  f68 := ⟨ "cmp.isNaN[int]", by decide, Try.func76.trans (congrArg some (by kernel_rfl))⟩,
  f70 := ⟨ "slices.insertionSortOrdered[int]", by decide, Try.func79.trans (congrArg some (by kernel_rfl))⟩,
  f71 := ⟨ "slices.heapSortOrdered[int]", by decide, Try.func80.trans (congrArg some (by kernel_rfl))⟩,
  f72 := ⟨ "slices.breakPatternsOrdered[int]", by decide, Try.func81.trans (congrArg some (by kernel_rfl))⟩,
  f73 := ⟨ "slices.choosePivotOrdered[int]", by decide, Try.func82.trans (congrArg some (by kernel_rfl))⟩,
  f74 := ⟨ "slices.reverseRangeOrdered[int]", by decide, Try.func83.trans (congrArg some (by kernel_rfl))⟩,
  f75 := ⟨ "slices.partialInsertionSortOrdered[int]", by decide, Try.func84.trans (congrArg some (by kernel_rfl))⟩,
  f76 := ⟨ "slices.partitionEqualOrdered[int]", by decide, Try.func86.trans (congrArg some (by kernel_rfl))⟩,
  f77 := ⟨ "slices.partitionOrdered[int]", by decide, Try.func87.trans (congrArg some (by kernel_rfl))⟩,
  f78 := Try.func88.trans (congrArg some (by kernel_rfl)),
  f79 := Try.func89.trans (congrArg some (by kernel_rfl)),
  f88 := ⟨ "slices.siftDownOrdered[int]", by decide, Try.func92.trans (congrArg some (by kernel_rfl))⟩,
  f89 := Try.func93.trans (congrArg some (by kernel_rfl)),
  f90 := Try.func94.trans (congrArg some (by kernel_rfl)),
  f91 := ⟨ "slices.medianAdjacentOrdered[int]", by decide, Try.func95.trans (congrArg some (by kernel_rfl))⟩,
  f92 := ⟨ "slices.medianOrdered[int]", by decide, Try.func96.trans (congrArg some (by kernel_rfl))⟩,
  f96 := ⟨ "slices.order2Ordered[int]", by decide, Try.func99.trans (congrArg some (by kernel_rfl))⟩,
  t0 := Try.underlying0,
  a0 := Try.isAgg0,
  z0 := Try.sizeOf0,
  v0 := Try.zeroValue0,
  t3 := Try.underlying3,
  a3 := Try.isAgg3,
  z3 := Try.sizeOf3,
  v3 := Try.zeroValue3,
  t4 := Try.underlying4,
  a4 := Try.isAgg4,
  z4 := Try.sizeOf4,
  v4 := Try.zeroValue4,
  t5 := Try.underlying5,
  a5 := Try.isAgg5,
  z5 := Try.sizeOf5,
  v5 := Try.zeroValue5,
  t9 := Try.underlying9,
  a9 := Try.isAgg9,
  z9 := Try.sizeOf9,
  v9 := Try.zeroValue9,
  t22 := Try.underlying31,
  a22 := Try.isAgg31,
  z22 := Try.sizeOf31,
  v22 := Try.zeroValue31,
  t23 := Try.underlying3,
  a23 := Try.isAgg3,
  z23 := Try.sizeOf3,
  v23 := Try.zeroValue3,
  t44 := Try.underlying41,
  a44 := Try.isAgg41,
  z44 := Try.sizeOf41,
  v44 := Try.zeroValue41,
  t51 := Try.underlying95,
  a51 := Try.isAgg95,
  z51 := Try.sizeOf95,
  v51 := Try.zeroValue95,
  t60 := Try.underlying104,
  a60 := Try.isAgg104,
  z60 := Try.sizeOf104,
  v60 := Try.zeroValue104,
  t61 := Try.underlying105,
  a61 := Try.isAgg105,
  z61 := Try.sizeOf105,
  v61 := Try.zeroValue105,
  t67 := Try.underlying112,
  a67 := Try.isAgg112,
  z67 := Try.sizeOf112,
  v67 := Try.zeroValue112,
  t69 := Try.underlying114,
  a69 := Try.isAgg114,
  z69 := Try.sizeOf114,
  v69 := Try.zeroValue114,
  t75 := Try.underlying115,
  a75 := Try.isAgg115,
  z75 := Try.sizeOf115,
  v75 := Try.zeroValue115,
  t79 := Try.underlying119,
  a79 := Try.isAgg119,
  z79 := Try.sizeOf119,
  v79 := Try.zeroValue119,
  t83 := Try.underlying123,
  a83 := Try.isAgg123,
  z83 := Try.sizeOf123,
  v83 := Try.zeroValue123,
  t84 := Try.underlying124,
  a84 := Try.isAgg124,
  z84 := Try.sizeOf124,
  v84 := Try.zeroValue124 }
end Go.Proofs
namespace Go
open Go.Sx
def Sp.srt (xs : List (List C)) : List (List C) := ((xs.map Sp.c0).mergeSort (fun x y => decide (x ≤ y))).map (fun n => [.i n])
end Go
namespace Go.Sx
open Go.RowKit Go.Proofs Go.Sort
theorem repRow_ints {w : World} {ok : Nat → Prop} : ∀ {xs : List (List C)} {us : List Value}, RepRow w ok [.int .i64] xs us → us = (xs.map Sp.c0).map (Value.int .i64)
  | [], us, h => by simp only [RepRow] at h; subst h; rfl
  | x :: r, us, h => by
    simp only [RepRow, RepVs] at h
    obtain ⟨a, t, rfl, ⟨u, t', rfl, h1, h2, rfl⟩, h3⟩ := h
    simp only [RepC] at h2
    rw [repRow_ints h3, h2]
    rfl
theorem ints_repRow {w : World} {ok : Nat → Prop} : ∀ (zs : List Int), RepRow w ok [.int .i64] (zs.map (fun n => [.i n])) (zs.map (Value.int .i64))
  | [] => rfl
  | z :: r => ⟨[.int .i64 z], r.map (Value.int .i64), rfl, ⟨.int .i64 z, [], rfl, rfl, rfl, rfl⟩, ints_repRow r⟩
def ct48 : Ct := { ps := [], rs := [], pre := fun a => pLe ((cel 0 (arg 0 a)).list.length : Int) 1000000, out := fun a => [[.l (Sp.srt (cel 0 (arg 0 a)).list)]], ow := some (3, [.int .i64], false) }
set_option maxHeartbeats 1000000 in
set_option maxRecDepth 100000 in
theorem s48 : SoundCt Go.Proofs.Try.prog 48 ct48 := by
  refine ⟨fun args ha hp => ?_, fun _ h _ => (by cases h), fun t e h => (by cases h), fun t e r _ h V xs args vals v us hlt hbd hblk hown hrow hw hpre hv => ?_, fun t e _ h => (by cases h)⟩
  · simp only [Ct.aps, Ct.ars, ct48, ofRess, Wfs, ofRes, ofCs, ofC, List.headD_cons, Wf, and_true] at ha ⊢
    show (Sp.srt (cel 0 (arg 0 args)).list).length ≤ maxLen ∧ ∀ x ∈ Sp.srt (cel 0 (arg 0 args)).list, WfCs [.int .i64] x
    refine ⟨?_, fun x hx => ?_⟩
    · simp only [Sp.srt, List.length_map, List.length_mergeSort]; exact ha.1
    · simp only [Sp.srt, List.mem_map, List.mem_mergeSort] at hx
      obtain ⟨n, ⟨y, hy, rfl⟩, rfl⟩ := hx
      have := ha.2 y hy
      simp only [WfCs, WfC] at this ⊢
      exact ⟨by simp, this.2.1, rfl⟩
  · simp only [ct48, Option.some.injEq, Prod.mk.injEq] at h
    obtain ⟨rfl, rfl, rfl⟩ := h
    simp only [ct48, ofRess, VRs] at hv
    subst hv
    simp only [ct48, pLe] at hpre
    have e0 : (cel 0 (arg 0 ([.l xs] :: args))).list = xs := rfl
    rw [e0] at hpre
    simp only [ct48, e0, List.headD_cons, show ∀ x, (C.l x).list = x from fun _ => rfl]
    have hus := repRow_ints hrow
    have hl : (Sp.srt xs).length = xs.length := by simp [Sp.srt]
    rw [hl]
    refine runs_of_calls (by kernel_rfl) ?_
    rcases hown with ⟨hol, ⟨h0, a, rfl⟩ | ⟨g, cap, cur, rfl, hc0, hg, hn, hcm, hcs, hct⟩⟩
    · have hcon := AnyG.slices_Sort_int_none Try.sortInt a 0 V.w
      change Calls Try.prog 48 _ _ _ at hcon
      refine hcon.mono ?_
      rintro e w' ⟨rfl, rfl⟩
      obtain rfl : xs = [] := List.eq_nil_of_length_eq_zero h0
      exact ⟨_, rfl, .slice a 0 0, [], rfl, fun _ => rfl, rfl, rfl, rfl, Nat.le_refl _, fun _ _ _ => rfl, fun b hb => ⟨.inl hb, (hblk b hb).1⟩, ⟨rfl, .inl ⟨rfl, a, rfl⟩⟩, by simp only [Sp.srt, List.map_nil, List.mergeSort_nil]; rfl⟩
    · have hgw : g < V.w.heap.size := (Array.getElem?_eq_some_iff.1 hg).1
      have hlen : (xs.map Sp.c0).length = xs.length := List.length_map _
      have hH : Go.Sort.Holds (Value.int .i64) V.w g 0 (xs.map Sp.c0).toArray := holds_of_blockI hg (by rw [hlen, ← hus]; rw [show [Sh.int IntKind.i64].length = 1 from rfl, Nat.mul_one] at hct; exact hct)
      have hcon := AnyG.slices_Sort_int Try.sortInt g 0 cap (xs.map Sp.c0) V.w hH hgw (by rw [hlen]; omega)
      change Calls Try.prog 48 _ _ _ at hcon
      rw [hlen] at hcon
      refine hcon.mono ?_
      rintro e w' ⟨rfl, n, os, rfl⟩
      obtain ⟨g1, g2, g3, g4, g5⟩ := grownBy_sortedI (w := V.w) (g := g) (n := n) (os := os) ((xs.map Sp.c0).mergeSort fun x y => decide (x ≤ y)).toArray
      have hb0 : blkOf (.slice (some ⟨g, 0, none⟩) xs.length cap) = some g := by simp [blkOf]; omega
      have hms : ((xs.map Sp.c0).mergeSort fun x y => decide (x ≤ y)).length = xs.length := by rw [List.length_mergeSort, hlen]
      refine ⟨_, rfl, _, ((xs.map Sp.c0).mergeSort fun x y => decide (x ≤ y)).map (Value.int .i64), rfl, fun _ => rfl, g1, g2, g3, g4, fun b hb hne => g5 b hb ?_, fun b hb => ?_, ⟨?_, .inr ⟨g, cap, _, rfl, hc0, heap_sortedI _ hg, hn, hcm, ?_, ?_⟩⟩, ints_repRow _⟩
      · intro h; rw [hb0] at hne; exact hne h.symm
      · rw [hb0] at hb
        obtain rfl : g = b := by simpa using hb
        exact ⟨.inl hb0, Nat.lt_of_lt_of_le hgw g4⟩
      · rw [List.length_map, hms]; simp
      · simpa [putCells] using hcs
      · rw [show [Sh.int IntKind.i64].length = 1 from rfl, Nat.mul_one, ← hms]
        exact take_putCellsI cur _ (by rw [hms, hcs]; simpa using hn)
end Go.Sx
