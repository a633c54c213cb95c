/-
  No cell of these rows narrows 'for every input' (looked for: loops, veiled, ifaces, maps, wideKeys, modest, calm, conditions, laid).
  DERIVED. THE GIVEN ROWS OF THIS SEAT. 8 by the template 'for every input the law returns true; each argument reads behind the call as it read before'; 0 by the template 'total and deterministic' (their statements: YthflbgeplmecoaaGreatTotals.lean).
  GIVEN WITH THE SEED: the statements are not yours to turn. If you find one false, say at which input.
  Laid BY PROGRAM, IN A SANDBOX (cutbox-rows.mjs): the forced cells as the released guide's own fill.sh prints them over the translation 4a3dddb2b39ca549… (all of the seat's roots in one cut). By AI agents, Wed Nov 11 2026. No macro, syntax, notation, axiom, sorry.
-/
import Derived.Test.YthflbgeplmecoaaGreatChecked
import GoSem.Claim
import GoSem.ClaimJoined
import GoSem.ClaimMapViews
import Derived.JoinedTies
import Derived.KernelRfl
namespace Go.Proofs.YthflbgeplmecoaaGreat
/- THE CELL 'sum', in the pinned program and in every row, IS THE sha256 OF THE DUMP (.gsa) THAT YthflbgeplmecoaaGreatProg.lean LOADS. Nothing in Lean hashes anything: it is a label: what it is worth is what the hold of that sum in a sandbox is worth. -/
noncomputable def Tryz.pinned : Pinned := { name := "ythflbgeplmecoaagreat", sum := "4a3dddb2b39ca549083a1273517bd9a799d6d15ad298bb6d3f1c0d7ace857295", checked := Tryz.checked }
namespace Rows
def none {H : Type} : Left H := { results := [], args := [] }

/-- 'soundservicelaw21.DevicePlain': WHATEVER THE INPUT: true; the input reads as it did. -/
def devicePlainSpec : ChangeSpec := { name := "devicePlain", fn := fun _ => fun
  | [d1, d2, d3] => { results := [.lit (.bool true)], args := [d1, d2, d3] }
  | _ => none }
def devicePlainRow : OpenClaim := { program := "ythflbgeplmecoaagreat", sum := "4a3dddb2b39ca549083a1273517bd9a799d6d15ad298bb6d3f1c0d7ace857295", func := "soundservice/soundservicelaw21.DevicePlain", spec := "devicePlain", unfollowed := true, recurses := true, named := ["math/bits.divideError", "math/bits.overflowError"], apart := false }
def DevicePlainSaid : Prop := devicePlainRow.holds Tryz.pinned (OpenSpec.ofChange devicePlainSpec)

/-- ITS FALSE NEIGHBOUR: 'it returns false'. Refute it at one input. -/
def devicePlainWrong : ChangeSpec := { name := "devicePlain", fn := fun _ => fun
  | [d1, d2, d3] => { results := [.lit (.bool false)], args := [d1, d2, d3] }
  | _ => none }
def DevicePlainWrongFalsely : Prop := devicePlainRow.holds Tryz.pinned (OpenSpec.ofChange devicePlainWrong)

/-- 'soundservicelaw21.DeviceCounts': WHATEVER THE INPUT: true; the input reads as it did. -/
def deviceCountsSpec : ChangeSpec := { name := "deviceCounts", fn := fun _ => fun
  | [d1, d2] => { results := [.lit (.bool true)], args := [d1, d2] }
  | _ => none }
def deviceCountsRow : OpenClaim := { program := "ythflbgeplmecoaagreat", sum := "4a3dddb2b39ca549083a1273517bd9a799d6d15ad298bb6d3f1c0d7ace857295", func := "soundservice/soundservicelaw21.DeviceCounts", spec := "deviceCounts", unfollowed := true, recurses := true, named := ["math/bits.divideError", "math/bits.overflowError"], apart := false }
def DeviceCountsSaid : Prop := deviceCountsRow.holds Tryz.pinned (OpenSpec.ofChange deviceCountsSpec)

/-- ITS FALSE NEIGHBOUR: 'it returns false'. Refute it at one input. -/
def deviceCountsWrong : ChangeSpec := { name := "deviceCounts", fn := fun _ => fun
  | [d1, d2] => { results := [.lit (.bool false)], args := [d1, d2] }
  | _ => none }
def DeviceCountsWrongFalsely : Prop := deviceCountsRow.holds Tryz.pinned (OpenSpec.ofChange deviceCountsWrong)

/-- 'soundservicelaw21.DeviceMoves': WHATEVER THE INPUT: true; the input reads as it did. -/
def deviceMovesSpec : ChangeSpec := { name := "deviceMoves", fn := fun _ => fun
  | [d1, d2, d3, d4, d5, d6] => { results := [.lit (.bool true)], args := [d1, d2, d3, d4, d5, d6] }
  | _ => none }
def deviceMovesRow : OpenClaim := { program := "ythflbgeplmecoaagreat", sum := "4a3dddb2b39ca549083a1273517bd9a799d6d15ad298bb6d3f1c0d7ace857295", func := "soundservice/soundservicelaw21.DeviceMoves", spec := "deviceMoves", unfollowed := true, recurses := true, named := ["math/bits.divideError", "math/bits.overflowError"], apart := false }
def DeviceMovesSaid : Prop := deviceMovesRow.holds Tryz.pinned (OpenSpec.ofChange deviceMovesSpec)

/-- ITS FALSE NEIGHBOUR: 'it returns false'. Refute it at one input. -/
def deviceMovesWrong : ChangeSpec := { name := "deviceMoves", fn := fun _ => fun
  | [d1, d2, d3, d4, d5, d6] => { results := [.lit (.bool false)], args := [d1, d2, d3, d4, d5, d6] }
  | _ => none }
def DeviceMovesWrongFalsely : Prop := deviceMovesRow.holds Tryz.pinned (OpenSpec.ofChange deviceMovesWrong)

/-- 'soundservicelaw21.DeviceHolds': WHATEVER THE INPUT: true; the input reads as it did. -/
def deviceHoldsSpec : ChangeSpec := { name := "deviceHolds", fn := fun _ => fun
  | [d1, d2] => { results := [.lit (.bool true)], args := [d1, d2] }
  | _ => none }
def deviceHoldsRow : OpenClaim := { program := "ythflbgeplmecoaagreat", sum := "4a3dddb2b39ca549083a1273517bd9a799d6d15ad298bb6d3f1c0d7ace857295", func := "soundservice/soundservicelaw21.DeviceHolds", spec := "deviceHolds", unfollowed := true, recurses := true, named := ["math/bits.divideError", "math/bits.overflowError"], apart := false }
def DeviceHoldsSaid : Prop := deviceHoldsRow.holds Tryz.pinned (OpenSpec.ofChange deviceHoldsSpec)

/-- ITS FALSE NEIGHBOUR: 'it returns false'. Refute it at one input. -/
def deviceHoldsWrong : ChangeSpec := { name := "deviceHolds", fn := fun _ => fun
  | [d1, d2] => { results := [.lit (.bool false)], args := [d1, d2] }
  | _ => none }
def DeviceHoldsWrongFalsely : Prop := deviceHoldsRow.holds Tryz.pinned (OpenSpec.ofChange deviceHoldsWrong)

/-- 'soundservicelaw21.DeviceRests': WHATEVER THE INPUT: true; the input reads as it did. -/
def deviceRestsSpec : ChangeSpec := { name := "deviceRests", fn := fun _ => fun
  | [d1, d2, d3, d4, d5] => { results := [.lit (.bool true)], args := [d1, d2, d3, d4, d5] }
  | _ => none }
def deviceRestsRow : OpenClaim := { program := "ythflbgeplmecoaagreat", sum := "4a3dddb2b39ca549083a1273517bd9a799d6d15ad298bb6d3f1c0d7ace857295", func := "soundservice/soundservicelaw21.DeviceRests", spec := "deviceRests", unfollowed := true, recurses := true, named := ["math/bits.divideError", "math/bits.overflowError"], apart := false }
def DeviceRestsSaid : Prop := deviceRestsRow.holds Tryz.pinned (OpenSpec.ofChange deviceRestsSpec)

/-- ITS FALSE NEIGHBOUR: 'it returns false'. Refute it at one input. -/
def deviceRestsWrong : ChangeSpec := { name := "deviceRests", fn := fun _ => fun
  | [d1, d2, d3, d4, d5] => { results := [.lit (.bool false)], args := [d1, d2, d3, d4, d5] }
  | _ => none }
def DeviceRestsWrongFalsely : Prop := deviceRestsRow.holds Tryz.pinned (OpenSpec.ofChange deviceRestsWrong)

/-- 'soundservicelaw21.DeviceOpens': WHATEVER THE INPUT: true; the input reads as it did. -/
def deviceOpensSpec : ChangeSpec := { name := "deviceOpens", fn := fun _ => fun
  | [d1, d2, d3, d4, d5, d6, d7, d8] => { results := [.lit (.bool true)], args := [d1, d2, d3, d4, d5, d6, d7, d8] }
  | _ => none }
def deviceOpensRow : OpenClaim := { program := "ythflbgeplmecoaagreat", sum := "4a3dddb2b39ca549083a1273517bd9a799d6d15ad298bb6d3f1c0d7ace857295", func := "soundservice/soundservicelaw21.DeviceOpens", spec := "deviceOpens", unfollowed := true, recurses := true, named := ["math/bits.divideError", "math/bits.overflowError"], apart := false }
def DeviceOpensSaid : Prop := deviceOpensRow.holds Tryz.pinned (OpenSpec.ofChange deviceOpensSpec)

/-- ITS FALSE NEIGHBOUR: 'it returns false'. Refute it at one input. -/
def deviceOpensWrong : ChangeSpec := { name := "deviceOpens", fn := fun _ => fun
  | [d1, d2, d3, d4, d5, d6, d7, d8] => { results := [.lit (.bool false)], args := [d1, d2, d3, d4, d5, d6, d7, d8] }
  | _ => none }
def DeviceOpensWrongFalsely : Prop := deviceOpensRow.holds Tryz.pinned (OpenSpec.ofChange deviceOpensWrong)

/-- 'soundservicelaw21.DeviceLatency': WHATEVER THE INPUT: true; the input reads as it did. -/
def deviceLatencySpec : ChangeSpec := { name := "deviceLatency", fn := fun _ => fun
  | [d1, d2] => { results := [.lit (.bool true)], args := [d1, d2] }
  | _ => none }
def deviceLatencyRow : OpenClaim := { program := "ythflbgeplmecoaagreat", sum := "4a3dddb2b39ca549083a1273517bd9a799d6d15ad298bb6d3f1c0d7ace857295", func := "soundservice/soundservicelaw21.DeviceLatency", spec := "deviceLatency", unfollowed := true, recurses := true, named := ["math/bits.divideError", "math/bits.overflowError"], apart := false }
def DeviceLatencySaid : Prop := deviceLatencyRow.holds Tryz.pinned (OpenSpec.ofChange deviceLatencySpec)

/-- ITS FALSE NEIGHBOUR: 'it returns false'. Refute it at one input. -/
def deviceLatencyWrong : ChangeSpec := { name := "deviceLatency", fn := fun _ => fun
  | [d1, d2] => { results := [.lit (.bool false)], args := [d1, d2] }
  | _ => none }
def DeviceLatencyWrongFalsely : Prop := deviceLatencyRow.holds Tryz.pinned (OpenSpec.ofChange deviceLatencyWrong)

/-- 'soundservicelaw21.DeviceWatches': WHATEVER THE INPUT: true; the input reads as it did. -/
def deviceWatchesSpec : ChangeSpec := { name := "deviceWatches", fn := fun _ => fun
  | [d1, d2, d3] => { results := [.lit (.bool true)], args := [d1, d2, d3] }
  | _ => none }
def deviceWatchesRow : OpenClaim := { program := "ythflbgeplmecoaagreat", sum := "4a3dddb2b39ca549083a1273517bd9a799d6d15ad298bb6d3f1c0d7ace857295", func := "soundservice/soundservicelaw21.DeviceWatches", spec := "deviceWatches", inPlace := ["math/bits.Sub64", "math/bits.Add64"], unfollowed := true, recurses := true, named := ["math/bits.divideError", "math/bits.overflowError"], apart := false }
def DeviceWatchesSaid : Prop := deviceWatchesRow.holds Tryz.pinned (OpenSpec.ofChange deviceWatchesSpec)

/-- ITS FALSE NEIGHBOUR: 'it returns false'. Refute it at one input. -/
def deviceWatchesWrong : ChangeSpec := { name := "deviceWatches", fn := fun _ => fun
  | [d1, d2, d3] => { results := [.lit (.bool false)], args := [d1, d2, d3] }
  | _ => none }
def DeviceWatchesWrongFalsely : Prop := deviceWatchesRow.holds Tryz.pinned (OpenSpec.ofChange deviceWatchesWrong)

/- THE SECOND FORM. 'bulk': how many values and letters a reading holds, each counted each time it is reached (what is shared counts as often as it is met; a slice's spare places count too). A statement '..UptoSaid' is the law's where the arguments, and the package variables that the reading takes, are together of bulk at most 1048576: NARROWER than '..Said'. Prove '..Said' where nothing that the law and all that it calls make is longer than what came in: it says more and counts as full. Else prove '..UptoSaid'. A law counts once. -/
mutual
def uptoBulk {H : Type} : DataW H → Nat
  | .lit (.string bytes) => bytes.length + 1
  | .lit _ => 1
  | .nil => 1
  | .ptr d => uptoBulk d + 1
  | .slice elems spare => uptoBulkAll elems + uptoBulkAll spare + 1
  | .agg parts => uptoBulkAll parts + 1
  | .iface _ d => uptoBulk d + 1
  | .map entries => uptoBulkEntries entries + 1
  | .held _ => 1
def uptoBulkAll {H : Type} : List (DataW H) → Nat
  | [] => 0
  | d :: r => uptoBulk d + uptoBulkAll r
def uptoBulkEntries {H : Type} : List (Lit × DataW H) → Nat
  | [] => 0
  | x :: r => uptoBulkEntry x + uptoBulkEntries r
def uptoBulkEntry {H : Type} : Lit × DataW H → Nat
  | (.string bytes, d) => bytes.length + uptoBulk d + 1
  | (_, d) => uptoBulk d + 1
 end
def uptoSmall : (H : Type) → List (DataW H) → Bool := fun _ ds => decide (uptoBulkAll ds ≤ 1048576)
def OpenSpec.upto (s : _root_.Go.ChangeSpec) : _root_.Go.OpenSpec := { _root_.Go.OpenSpec.ofChange s with cond := some uptoSmall }

/-- 'soundservicelaw21.DevicePlain', WHERE WHAT IT READS IS OF BULK AT MOST 1048576: true; the input reads as it did. -/
def devicePlainUptoRow : OpenClaim := { program := "ythflbgeplmecoaagreat", sum := "4a3dddb2b39ca549083a1273517bd9a799d6d15ad298bb6d3f1c0d7ace857295", func := "soundservice/soundservicelaw21.DevicePlain", spec := "devicePlain", unfollowed := true, recurses := true, named := ["math/bits.divideError", "math/bits.overflowError"], apart := false, narrowed := true }
def DevicePlainUptoSaid : Prop := devicePlainUptoRow.holds Tryz.pinned (OpenSpec.upto devicePlainSpec)

/-- 'soundservicelaw21.DeviceCounts', WHERE WHAT IT READS IS OF BULK AT MOST 1048576: true; the input reads as it did. -/
def deviceCountsUptoRow : OpenClaim := { program := "ythflbgeplmecoaagreat", sum := "4a3dddb2b39ca549083a1273517bd9a799d6d15ad298bb6d3f1c0d7ace857295", func := "soundservice/soundservicelaw21.DeviceCounts", spec := "deviceCounts", unfollowed := true, recurses := true, named := ["math/bits.divideError", "math/bits.overflowError"], apart := false, narrowed := true }
def DeviceCountsUptoSaid : Prop := deviceCountsUptoRow.holds Tryz.pinned (OpenSpec.upto deviceCountsSpec)

/-- 'soundservicelaw21.DeviceMoves', WHERE WHAT IT READS IS OF BULK AT MOST 1048576: true; the input reads as it did. -/
def deviceMovesUptoRow : OpenClaim := { program := "ythflbgeplmecoaagreat", sum := "4a3dddb2b39ca549083a1273517bd9a799d6d15ad298bb6d3f1c0d7ace857295", func := "soundservice/soundservicelaw21.DeviceMoves", spec := "deviceMoves", unfollowed := true, recurses := true, named := ["math/bits.divideError", "math/bits.overflowError"], apart := false, narrowed := true }
def DeviceMovesUptoSaid : Prop := deviceMovesUptoRow.holds Tryz.pinned (OpenSpec.upto deviceMovesSpec)

/-- 'soundservicelaw21.DeviceHolds', WHERE WHAT IT READS IS OF BULK AT MOST 1048576: true; the input reads as it did. -/
def deviceHoldsUptoRow : OpenClaim := { program := "ythflbgeplmecoaagreat", sum := "4a3dddb2b39ca549083a1273517bd9a799d6d15ad298bb6d3f1c0d7ace857295", func := "soundservice/soundservicelaw21.DeviceHolds", spec := "deviceHolds", unfollowed := true, recurses := true, named := ["math/bits.divideError", "math/bits.overflowError"], apart := false, narrowed := true }
def DeviceHoldsUptoSaid : Prop := deviceHoldsUptoRow.holds Tryz.pinned (OpenSpec.upto deviceHoldsSpec)

/-- 'soundservicelaw21.DeviceRests', WHERE WHAT IT READS IS OF BULK AT MOST 1048576: true; the input reads as it did. -/
def deviceRestsUptoRow : OpenClaim := { program := "ythflbgeplmecoaagreat", sum := "4a3dddb2b39ca549083a1273517bd9a799d6d15ad298bb6d3f1c0d7ace857295", func := "soundservice/soundservicelaw21.DeviceRests", spec := "deviceRests", unfollowed := true, recurses := true, named := ["math/bits.divideError", "math/bits.overflowError"], apart := false, narrowed := true }
def DeviceRestsUptoSaid : Prop := deviceRestsUptoRow.holds Tryz.pinned (OpenSpec.upto deviceRestsSpec)

/-- 'soundservicelaw21.DeviceOpens', WHERE WHAT IT READS IS OF BULK AT MOST 1048576: true; the input reads as it did. -/
def deviceOpensUptoRow : OpenClaim := { program := "ythflbgeplmecoaagreat", sum := "4a3dddb2b39ca549083a1273517bd9a799d6d15ad298bb6d3f1c0d7ace857295", func := "soundservice/soundservicelaw21.DeviceOpens", spec := "deviceOpens", unfollowed := true, recurses := true, named := ["math/bits.divideError", "math/bits.overflowError"], apart := false, narrowed := true }
def DeviceOpensUptoSaid : Prop := deviceOpensUptoRow.holds Tryz.pinned (OpenSpec.upto deviceOpensSpec)

/-- 'soundservicelaw21.DeviceLatency', WHERE WHAT IT READS IS OF BULK AT MOST 1048576: true; the input reads as it did. -/
def deviceLatencyUptoRow : OpenClaim := { program := "ythflbgeplmecoaagreat", sum := "4a3dddb2b39ca549083a1273517bd9a799d6d15ad298bb6d3f1c0d7ace857295", func := "soundservice/soundservicelaw21.DeviceLatency", spec := "deviceLatency", unfollowed := true, recurses := true, named := ["math/bits.divideError", "math/bits.overflowError"], apart := false, narrowed := true }
def DeviceLatencyUptoSaid : Prop := deviceLatencyUptoRow.holds Tryz.pinned (OpenSpec.upto deviceLatencySpec)

/-- 'soundservicelaw21.DeviceWatches', WHERE WHAT IT READS IS OF BULK AT MOST 1048576: true; the input reads as it did. -/
def deviceWatchesUptoRow : OpenClaim := { program := "ythflbgeplmecoaagreat", sum := "4a3dddb2b39ca549083a1273517bd9a799d6d15ad298bb6d3f1c0d7ace857295", func := "soundservice/soundservicelaw21.DeviceWatches", spec := "deviceWatches", inPlace := ["math/bits.Sub64", "math/bits.Add64"], unfollowed := true, recurses := true, named := ["math/bits.divideError", "math/bits.overflowError"], apart := false, narrowed := true }
def DeviceWatchesUptoSaid : Prop := deviceWatchesUptoRow.holds Tryz.pinned (OpenSpec.upto deviceWatchesSpec)

end Rows
end Go.Proofs.YthflbgeplmecoaaGreat
