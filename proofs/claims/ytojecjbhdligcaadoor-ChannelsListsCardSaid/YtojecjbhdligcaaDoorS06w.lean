/- What the rows' listed variables give: the names of the positions lie in their variable's block; and a world in which they lie. -/
import Derived.Test.YtojecjbhdligcaaDoorRows
import Derived.Test.YtojecjbhdligcaaDoorSxOpen
import Derived.WalkKit
import Derived.ProofKit
import Derived.LaidMore
import Derived.OpenShut
import Derived.Stop.Joined
import Derived.Lay
import Derived.LaidOnce
namespace Go.Proofs.YtojecjbhdligcaaDoor
open Go.ChangeShapes Go.WideShapes Go.ChangeAt Go.RowKit Go.Sx
set_option linter.unusedVariables false
theorem gNames : Tryd.prog.globalNamed "soundservice/channels.names" = some 0 := by kernel_rfl
theorem tNames : (Tryd.prog.globals[0]?).map (·.type) = some 39 := by kernel_rfl
theorem cells9 : Tryd.prog.cellsOf 9 = 1 := by kernel_rfl
def laidL : List (String × DataW Unit) := [("unicode/utf8.acceptRanges", Rows.laid_unicode_utf8_acceptRanges), ("soundservice/channels.names", Rows.laid_soundservice_channels_names), ("unicode/utf8.first", Rows.laid_unicode_utf8_first)]
theorem byt {s : ByteArray} {l : List UInt8} (h : s.data.toList = l) : s = ⟨⟨l⟩⟩ := by
  cases s with | mk a => cases a with | mk a => simp at h; rw [h]
theorem glob_of {W : World} (h : laidMetH Tryd.prog laidL W) : Glob (V0 W) := by
  rw [MakeChecks.laidMetH_plain _ _ _ (by kernel_rfl)] at h
  obtain ⟨ps, ⟨g0, t0, cs0, f0, p0, q0, _, _, _, _, ⟨g1, t1, cs1, f1, p1, q1, hg1, ht1, hv1, hd1, _, _⟩, _⟩, _, _⟩ := h
  obtain rfl := Option.some.inj (gNames.symm.trans hg1)
  obtain rfl := Option.some.inj (tNames.symm.trans ht1)
  obtain ⟨xs, m1, rfl, hx1, hlen, hn, hel⟩ := DataW.trod_array Tryd.underlying39 hd1
  simp only [Prod.mk.injEq, Rows.laid_soundservice_channels_names, DataW.agg.injEq] at hx1
  have hd := hx1.1
  have key : ∀ (i : Nat) (l : List UInt8), i < 9 → ((xs.map (·.1))[i]? = some (DataW.lit (.string l))) → W.cell? ⟨0, i, none⟩ = some (.string ⟨⟨l⟩⟩) := by
    intro i l hi hl
    have he := hel i hi
    rw [cells9, Nat.mul_one] at he
    rw [List.getElem?_map, Option.map_eq_some_iff] at hl
    obtain ⟨x, hx, hx2⟩ := hl
    rw [hx] at he
    obtain ⟨s, e1, e2, _⟩ := DataW.trod_string Tryd.underlying9 he
    rw [e2] at hx2
    simp only [DataW.lit.injEq, Lit.string.injEq] at hx2
    rw [World.var?_cell hg1 hv1 i]
    have e3 : cs1.toList[i]? = some (.string s) := by
      have := congrArg (fun z => z[0]?) e1
      simpa [List.getElem?_take] using this
    rw [← Array.getElem?_toList, e3, byt hx2]
  have h0 : 0 < W.heap.size := by
    have := key 0 [63] (by decide) (by rw [← hd]; rfl)
    exact World.block_lt_of_cell? _ _ this
  intro x hx
  simp only [glb, List.mem_singleton] at hx
  subst hx
  refine ⟨⟨h0, fun h => h, fun k hk => hk.elim⟩, ?_⟩
  simp only [List.replicate, RepCs, RepC, List.headD_cons, List.tail_cons, C.str, and_true, Nat.zero_add, Nat.reduceAdd]
  refine ⟨⟨_, key 0 [63] (by decide) (by rw [← hd]; rfl), rfl, rfl⟩, ⟨_, key 1 [70, 76] (by decide) (by rw [← hd]; rfl), rfl, rfl⟩, ⟨_, key 2 [70, 82] (by decide) (by rw [← hd]; rfl), rfl, rfl⟩, ⟨_, key 3 [70, 67] (by decide) (by rw [← hd]; rfl), rfl, rfl⟩,
    ⟨_, key 4 [76, 70] (by decide) (by rw [← hd]; rfl), rfl, rfl⟩, ⟨_, key 5 [66, 76] (by decide) (by rw [← hd]; rfl), rfl, rfl⟩, ⟨_, key 6 [66, 82] (by decide) (by rw [← hd]; rfl), rfl, rfl⟩, ⟨_, key 7 [83, 76] (by decide) (by rw [← hd]; rfl), rfl, rfl⟩, ⟨_, key 8 [83, 82] (by decide) (by rw [← hd]; rfl), rfl, rfl⟩⟩
theorem laid_shaped (os : Os) : ((World.laidAll Tryd.prog os laidL).forCall (fun _ _ => 0) ⟨#[], #[], []⟩).heap = ((World.laidAll Tryd.prog os laidL).forCall (fun _ _ => 0) ⟨#[], #[], []⟩).heap := rfl
theorem laid_met (os : Os) (args : Array Value) : laidMetH Tryd.prog laidL ((World.laidAll Tryd.prog os laidL).forCall (fun _ _ => 0) ⟨#[], args, []⟩).memory := by
  rw [MakeChecks.laidMetH_plain _ _ _ (by kernel_rfl)]
  exact laidMet_laidAll _ (by kernel_rfl) (by kernel_rfl)
end Go.Proofs.YtojecjbhdligcaaDoor
