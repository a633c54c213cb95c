/- strings.Split at a separator of one byte: the kit's contracts for strings.Index's inner part, strings.Count and the walk of genSplit, laid at this program in plain words; what it gives. -/
import Derived.Test.YtojecjbhdligcaaDoorSxOpen
import Derived.Shelf.Strings.SplitCore
import Derived.Shelf.Strings.Search3
import Derived.Shelf.Strings.Count
import Derived.Lib.SplitLaws
import Derived.Test.YtojecjbhdligcaaDoorProg
import Derived.KernelRfl
set_option linter.unusedVariables false
set_option linter.unusedSimpArgs false
namespace Go.Sx
theorem followsMixed : Go.Proofs.Tryd.prog.follows .mixedOrders = true := by kernel_rfl
end Go.Sx
namespace Go.Proofs
open Go.Shelf Go.RowKit Go.Lib
def Tryd.laySplit_ren : Go.Shelf.Ren := ⟨fun | 146 => 22 | 221 => 30 | 268 => 36 | 138 => 37 | 143 => 38 | 195 => 52 | 197 => 53 | 218 => 54 | 219 => 55 | 260 => 64 | 217 => 65 | 225 => 66 | 224 => 67 | 267 => 68 | 266 => 70 | 314 => 71 | n => n, fun | 9 => 9 | 31 => 36 | 3 => 3 | 4 => 4 | 0 => 0 | 105 => 74 | 21 => 21 | 5 => 5 | 46 => 56 | 119 => 91 | 139 => 94 | 138 => 93 | 146 => 95 | 51 => 70 | n => n, fun | 1 => 1 | 3 => 2 | 4 => 3 | n => n⟩
theorem Tryd.laySplit : Go.Proofs.Lays.n146 Tryd.prog Tryd.laySplit_ren := {
  mixed := by kernel_rfl,
  f138 := Tryd.func37.trans (congrArg some (by kernel_rfl)),
  f143 := Tryd.func38.trans (congrArg some (by kernel_rfl)),
  f146 := Tryd.func22.trans (congrArg some (by kernel_rfl)),
  f195 := Tryd.func52.trans (congrArg some (by kernel_rfl)),
  f197 := Tryd.func53.trans (congrArg some (by kernel_rfl)),
  f217 := Tryd.func65.trans (congrArg some (by kernel_rfl)),
  f218 := Tryd.func54.trans (congrArg some (by kernel_rfl)),
  f219 := Tryd.func55.trans (congrArg some (by kernel_rfl)),
  f221 := Tryd.func30.trans (congrArg some (by kernel_rfl)),
  f224 := Tryd.func67.trans (congrArg some (by kernel_rfl)),
  f225 := Tryd.func66.trans (congrArg some (by kernel_rfl)),
  f260 := Tryd.func64.trans (congrArg some (by kernel_rfl)),
  f266 := Tryd.func70.trans (congrArg some (by kernel_rfl)),
  f267 := Tryd.func68.trans (congrArg some (by kernel_rfl)),
  f268 := Tryd.func36.trans (congrArg some (by kernel_rfl)),
  f314 := Tryd.func71.trans (congrArg some (by kernel_rfl)),
  t0 := Tryd.underlying0,
  a0 := Tryd.isAgg0,
  z0 := Tryd.sizeOf0,
  v0 := Tryd.zeroValue0,
  t3 := Tryd.underlying3,
  a3 := Tryd.isAgg3,
  z3 := Tryd.sizeOf3,
  v3 := Tryd.zeroValue3,
  t4 := Tryd.underlying4,
  a4 := Tryd.isAgg4,
  z4 := Tryd.sizeOf4,
  v4 := Tryd.zeroValue4,
  t5 := Tryd.underlying5,
  a5 := Tryd.isAgg5,
  z5 := Tryd.sizeOf5,
  v5 := Tryd.zeroValue5,
  t9 := Tryd.underlying9,
  a9 := Tryd.isAgg9,
  z9 := Tryd.sizeOf9,
  v9 := Tryd.zeroValue9,
  t21 := Tryd.underlying21,
  a21 := Tryd.isAgg21,
  z21 := Tryd.sizeOf21,
  v21 := Tryd.zeroValue21,
  t31 := Tryd.underlying36,
  a31 := Tryd.isAgg36,
  z31 := Tryd.sizeOf36,
  v31 := Tryd.zeroValue36,
  t46 := Tryd.underlying56,
  a46 := Tryd.isAgg56,
  z46 := Tryd.sizeOf56,
  v46 := Tryd.zeroValue56,
  t51 := Tryd.underlying70,
  a51 := Tryd.isAgg70,
  z51 := Tryd.sizeOf70,
  v51 := Tryd.zeroValue70,
  t105 := Tryd.underlying74,
  a105 := Tryd.isAgg74,
  z105 := Tryd.sizeOf74,
  v105 := Tryd.zeroValue74,
  t119 := Tryd.underlying91,
  a119 := Tryd.isAgg91,
  z119 := Tryd.sizeOf91,
  t138 := Tryd.underlying93,
  a138 := Tryd.isAgg93,
  z138 := Tryd.sizeOf93,
  v138 := Tryd.zeroValue93,
  t139 := Tryd.underlying94,
  a139 := Tryd.isAgg94,
  z139 := Tryd.sizeOf94,
  v139 := Tryd.zeroValue94,
  t146 := Tryd.underlying95,
  a146 := Tryd.isAgg95,
  z146 := Tryd.sizeOf95,
  v146 := Tryd.zeroValue95,
  g1 := by kernel_rfl,
  g3 := by kernel_rfl,
  g4 := by kernel_rfl }
theorem Tryd.index1 (s : ByteArray) (c : UInt8) (w : World) :
    Calls Tryd.prog 38 #[.string s, .string ⟨#[c]⟩] w fun e w' => e = .returned (.int .i64 (Lib.indexByte s.data.toList c)) ∧ w' = w := by
  have c1 := Any.stringslite_Index_one { Tryd.laySplit with } s c w
  go_enter Tryd.func38, Tryd.ntmps38
  go_wp2_with (go_at_call 55; refine c1.mono ?_; rintro e w' ⟨rfl, hw⟩; rw [hw])
  go_ret
  exact ⟨rfl, rfl⟩
set_option maxHeartbeats 1000000 in
theorem Tryd.split1 (s : ByteArray) (w : World) (hs : s.size < 4294967281) :
    Calls Tryd.prog 22 #[.string s, .string ⟨#[44]⟩] w fun e w' =>
      e = .returned (.slice (some ⟨w.heap.size, 0, none⟩) (Lib.countB s ⟨#[44]⟩ + 1) (Lib.countB s ⟨#[44]⟩ + 1)) ∧ w' = w.alloc (.cells ((Lib.splitB ⟨#[44]⟩ 0 (Lib.countB s ⟨#[44]⟩) s).map Value.string).toArray 9) := by
  have hi : ∀ (x : ByteArray), Lib.indexB x ⟨#[44]⟩ = Lib.indexByte x.data.toList 44 := fun x => Lib.index_one _ _
  have c := Any.strings_genSplit_core (ρ := Tryd.laySplit_ren) { Tryd.laySplit with } (by kernel_rfl) s ⟨#[44]⟩ 0 (-1) (Lib.countB s ⟨#[44]⟩ + 1) w hs (by decide) (Nat.zero_le _)
    (fun x ca hx => (Tryd.index1 x 44 _).mono fun e w' ⟨h1, h2⟩ => ⟨by rw [h1, hi], h2⟩)
    ((Any.strings_Count_one { Tryd.laySplit with } s 44 w).mono fun e w' ⟨h1, h2⟩ => ⟨by
      rw [h1]
      show _ = Ending.returned (Value.int .i64 ((Lib.count s.data.toList [44] : Nat) : Int))
      rw [Lib.count_one]
      rfl, h2⟩) (by decide) (by decide) (by
        have hle := Lib.countB_le ⟨#[44]⟩ (by decide) s.size s (Nat.le_refl _)
        rw [if_pos (by decide)]; omega)
  have hlen : (Lib.splitB ⟨#[44]⟩ 0 (Lib.countB s ⟨#[44]⟩) s).length = Lib.countB s ⟨#[44]⟩ + 1 := Lib.splitB_all _ (by decide) 0 _ s rfl
  rw [Nat.add_sub_cancel, hlen] at c
  have e2 : Lib.cellsOf (Lib.splitB ⟨#[44]⟩ 0 (Lib.countB s ⟨#[44]⟩) s) (Lib.countB s ⟨#[44]⟩ + 1) = ((Lib.splitB ⟨#[44]⟩ 0 (Lib.countB s ⟨#[44]⟩) s).map Value.string).toArray := by rw [← hlen]; exact Lib.cellsOf_full _
  rw [e2] at c
  go_enter Tryd.func22, Tryd.ntmps22
  go_wp2_with (go_at_call 30; refine c.mono ?_; rintro e w' ⟨rfl, hw⟩; rw [hw])
  go_ret
  exact ⟨rfl, rfl⟩
end Go.Proofs
namespace Go
open Go.Sx
def Sp.splB (s : ByteArray) : List ByteArray := Lib.splitB ⟨#[44]⟩ 0 (Lib.countB s ⟨#[44]⟩) s
def Sp.spP (s sep : ByteArray) : Prop := s.size ≤ 1000 ∧ sep = ⟨#[44]⟩
def Sp.spl (s : ByteArray) : List (List C) := (Sp.splB s).map fun x => [.s x]
theorem Sp.splB_len (s : ByteArray) : (Sp.splB s).length = Lib.countB s ⟨#[44]⟩ + 1 := Lib.splitB_all _ (by decide) 0 _ s rfl
theorem Sp.splB_le (s : ByteArray) : (Sp.splB s).length ≤ s.size + 1 := by
  have := Lib.countB_le ⟨#[44]⟩ (by decide) s.size s (Nat.le_refl _)
  rw [Sp.splB_len]; omega
theorem Sp.splitB_size (sep : ByteArray) : ∀ (k : Nat) (s x : ByteArray), x ∈ Lib.splitB sep 0 k s → x.size ≤ s.size
  | 0, s, x, h => by
    simp only [Lib.splitB, List.mem_singleton] at h
    subst h; exact Nat.le_refl _
  | k + 1, s, x, h => by
    unfold Lib.splitB at h
    split at h
    · simp only [List.mem_singleton] at h
      subst h; exact Nat.le_refl _
    · rcases List.mem_cons.1 h with rfl | h
      · simp only [ByteArray.size_extract]; omega
      · have := Sp.splitB_size sep k _ x h
        simp only [ByteArray.size_extract] at this; omega
theorem Sp.splB_size {s x : ByteArray} (h : x ∈ Sp.splB s) : x.size ≤ s.size := Sp.splitB_size _ _ s x h
end Go
namespace Go.Sx
open Go.RowKit Go.Proofs
def ct22 : Ct := { ps := [(false, [.str]), (false, [.str])], rs := [(false, [.sl [.str]])], pre := fun a => Sp.spP (cel 0 (arg 0 a)).str (cel 0 (arg 1 a)).str, out := fun a => [[.l (Sp.spl (cel 0 (arg 0 a)).str)]] }
theorem s22 : SoundCt Go.Proofs.Tryd.prog 22 ct22 := by
  refine ⟨fun args ha hp => ?_, fun _ _ _ V args vals hlt hbd hw hpre hv => ?_, fun t e h => (by cases h), fun t e r _ h => (by cases h), fun t e _ _ h => (by cases h)⟩
  · simp only [Ct.aps, Ct.ars, ct22, ofRess, Wfs, ofRes, ofCs, ofC, List.headD_cons, Wf, and_true] at ha ⊢
    show (Sp.spl (cel 0 (arg 0 args)).str).length ≤ maxLen ∧ ∀ x ∈ Sp.spl (cel 0 (arg 0 args)).str, WfCs [.str] x
    have hp1 : (cel 0 (arg 0 args)).str.size ≤ 1000 := hp.1
    refine ⟨?_, fun x hx => ?_⟩
    · have := Sp.splB_le (cel 0 (arg 0 args)).str
      simp only [Sp.spl, List.length_map, maxLen]; omega
    · simp only [Sp.spl, List.mem_map] at hx
      obtain ⟨n, hn, rfl⟩ := hx
      have := Sp.splB_size hn
      simp only [WfCs, WfC, List.headD_cons, List.tail_cons, C.str, maxLen]
      exact ⟨by simp, by omega, trivial⟩
  · simp only [ct22, ofRess, VRs, ofRes, ofCs, ofC, List.headD_cons, VR] at hv
    obtain ⟨v0, _, rfl, rfl, v1, _, rfl, rfl, rfl⟩ := hv
    obtain ⟨hp1, hp2⟩ := hpre
    have e0 : (cel 0 (arg 0 args)) = (args.headD []).headD default := rfl
    have e1 : (cel 0 (arg 1 args)) = (args.tail.headD []).headD default := rfl
    rw [e0] at hp1; rw [e1] at hp2
    rw [hp2]
    refine runs_of_calls (by kernel_rfl) ?_
    refine (Tryd.split1 ((args.headD []).headD default).str V.w (by omega)).mono ?_
    rintro e w' ⟨rfl, rfl⟩
    generalize hs : ((args.headD []).headD default).str = s at hp1
    have hl := Sp.splB_len s
    refine ⟨_, rfl, Below.alloc (Below.refl _ _) (Nat.le_refl _) _, ?_⟩
    simp only [Ct.sv, Ct.outs, ct22, ofRess, ofRes, ofCs, ofC, List.headD_cons, VR, RepC, e0, hs, show ∀ x, (C.l x).list = x from fun _ => rfl]
    refine ⟨_, _, _, rfl, Nat.le_refl _, ?_, ?_, .inr ⟨V.w.heap.size, 0, rfl, ?_, fun i hi => ?_⟩⟩
    · have := Sp.splB_le s
      rw [← hl]; simp only [maxLen]; omega
    · simp only [Sp.spl, List.length_map]; exact hl.symm
    · exact ⟨by rw [World.size_alloc]; omega, fun hx => by have := hbd.lt _ hx; omega, fun k hk hl he => by have := hlt k _ hk hl he; omega⟩
    · simp only [RepCs, and_true, List.length_singleton, Nat.mul_one, Nat.zero_add]
      rw [← hl] at hi
      refine ⟨.string (Sp.splB s)[i], ?_, rfl, ?_⟩
      · rw [World.cell?_alloc_new]
        show (((Sp.splB s).map Value.string).toArray)[i]? = _
        rw [List.getElem?_toArray, List.getElem?_map, List.getElem?_eq_getElem hi]; rfl
      · simp only [RepC, Sp.spl, List.getD_eq_getElem?_getD, List.getElem?_map, List.getElem?_eq_getElem hi, Option.map_some, Option.getD_some, List.headD_cons, C.str]
end Go.Sx
