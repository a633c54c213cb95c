/-
  No cell of these rows narrows 'for every input' (looked for: loops, veiled, ifaces, maps, wideKeys, modest, calm, conditions, laid).
  DERIVED. THE GIVEN ROWS OF THIS SEAT. 6 by the template 'for every input the law returns true; each argument reads behind the call as it read before'; 0 by the template 'total and deterministic' (their statements: YtbobgakeaoigeaaTotals.lean).
  GIVEN WITH THE SEED: the statements are not yours to turn. If you find one false, say at which input.
  Laid BY PROGRAM, IN A SANDBOX (cutbox-rows.mjs): the forced cells as the released guide's own fill.sh prints them over the translation 646dbc6563a6cd64… (all of the seat's roots in one cut). By AI agents, Wed Nov 11 2026. No macro, syntax, notation, axiom, sorry.
-/
import Derived.Test.YtbobgakeaoigeaaChecked
import GoSem.Claim
import GoSem.ClaimJoined
import GoSem.ClaimMapViews
import Derived.JoinedTies
import Derived.KernelRfl
namespace Go.Proofs.Ytbobgakeaoigeaa
/- THE CELL 'sum', in the pinned program and in every row, IS THE sha256 OF THE DUMP (.gsa) THAT YtbobgakeaoigeaaProg.lean LOADS. Nothing in Lean hashes anything: it is a label: what it is worth is what the hold of that sum in a sandbox is worth. -/
noncomputable def Try.pinned : Pinned := { name := "ytbobgakeaoigeaa", sum := "646dbc6563a6cd643a94198faed6fa2a32fa868dedd69e57402d40dd276a5912", checked := Try.checked }
namespace Rows
def none {H : Type} : Left H := { results := [], args := [] }

/-- 'soundservicelaw22.GraphReads': WHATEVER THE INPUT: true; the input reads as it did. -/
def graphReadsSpec : ChangeSpec := { name := "graphReads", fn := fun _ => fun
  | [d1, d2, d3] => { results := [.lit (.bool true)], args := [d1, d2, d3] }
  | _ => none }
def graphReadsRow : OpenClaim := { program := "ytbobgakeaoigeaa", sum := "646dbc6563a6cd643a94198faed6fa2a32fa868dedd69e57402d40dd276a5912", func := "soundservice/soundservicelaw22.GraphReads", spec := "graphReads", inPlace := ["slices.overlaps[soundservice/api.Link]"], unfollowed := true, recurses := true, apart := false }
def GraphReadsSaid : Prop := graphReadsRow.holds Try.pinned (OpenSpec.ofChange graphReadsSpec)

/-- ITS FALSE NEIGHBOUR: 'it returns false'. Refute it at one input. -/
def graphReadsWrong : ChangeSpec := { name := "graphReads", fn := fun _ => fun
  | [d1, d2, d3] => { results := [.lit (.bool false)], args := [d1, d2, d3] }
  | _ => none }
def GraphReadsWrongFalsely : Prop := graphReadsRow.holds Try.pinned (OpenSpec.ofChange graphReadsWrong)

/-- 'soundservicelaw22.GraphOrders': WHATEVER THE INPUT: true; the input reads as it did. -/
def graphOrdersSpec : ChangeSpec := { name := "graphOrders", fn := fun _ => fun
  | [d] => { results := [.lit (.bool true)], args := [d] }
  | _ => none }
def graphOrdersRow : OpenClaim := { program := "ytbobgakeaoigeaa", sum := "646dbc6563a6cd643a94198faed6fa2a32fa868dedd69e57402d40dd276a5912", func := "soundservice/soundservicelaw22.GraphOrders", spec := "graphOrders", inPlace := ["slices.overlaps[soundservice/api.Link]"], unfollowed := true, recurses := true, apart := false }
def GraphOrdersSaid : Prop := graphOrdersRow.holds Try.pinned (OpenSpec.ofChange graphOrdersSpec)

/-- ITS FALSE NEIGHBOUR: 'it returns false'. Refute it at one input. -/
def graphOrdersWrong : ChangeSpec := { name := "graphOrders", fn := fun _ => fun
  | [d] => { results := [.lit (.bool false)], args := [d] }
  | _ => none }
def GraphOrdersWrongFalsely : Prop := graphOrdersRow.holds Try.pinned (OpenSpec.ofChange graphOrdersWrong)

/-- 'soundservicelaw22.GraphCycles': WHATEVER THE INPUT: true; the input reads as it did. -/
def graphCyclesSpec : ChangeSpec := { name := "graphCycles", fn := fun _ => fun
  | [d1, d2] => { results := [.lit (.bool true)], args := [d1, d2] }
  | _ => none }
def graphCyclesRow : OpenClaim := { program := "ytbobgakeaoigeaa", sum := "646dbc6563a6cd643a94198faed6fa2a32fa868dedd69e57402d40dd276a5912", func := "soundservice/soundservicelaw22.GraphCycles", spec := "graphCycles", inPlace := ["slices.overlaps[soundservice/api.Link]"], unfollowed := true, recurses := true, apart := false }
def GraphCyclesSaid : Prop := graphCyclesRow.holds Try.pinned (OpenSpec.ofChange graphCyclesSpec)

/-- ITS FALSE NEIGHBOUR: 'it returns false'. Refute it at one input. -/
def graphCyclesWrong : ChangeSpec := { name := "graphCycles", fn := fun _ => fun
  | [d1, d2] => { results := [.lit (.bool false)], args := [d1, d2] }
  | _ => none }
def GraphCyclesWrongFalsely : Prop := graphCyclesRow.holds Try.pinned (OpenSpec.ofChange graphCyclesWrong)

/-- 'soundservicelaw22.GraphReaches': WHATEVER THE INPUT: true; the input reads as it did. -/
def graphReachesSpec : ChangeSpec := { name := "graphReaches", fn := fun _ => fun
  | [d1, d2] => { results := [.lit (.bool true)], args := [d1, d2] }
  | _ => none }
def graphReachesRow : OpenClaim := { program := "ytbobgakeaoigeaa", sum := "646dbc6563a6cd643a94198faed6fa2a32fa868dedd69e57402d40dd276a5912", func := "soundservice/soundservicelaw22.GraphReaches", spec := "graphReaches", inPlace := ["slices.overlaps[soundservice/api.Link]"], unfollowed := true, recurses := true, apart := false }
def GraphReachesSaid : Prop := graphReachesRow.holds Try.pinned (OpenSpec.ofChange graphReachesSpec)

/-- ITS FALSE NEIGHBOUR: 'it returns false'. Refute it at one input. -/
def graphReachesWrong : ChangeSpec := { name := "graphReaches", fn := fun _ => fun
  | [d1, d2] => { results := [.lit (.bool false)], args := [d1, d2] }
  | _ => none }
def GraphReachesWrongFalsely : Prop := graphReachesRow.holds Try.pinned (OpenSpec.ofChange graphReachesWrong)

/-- 'soundservicelaw22.GraphChanges': WHATEVER THE INPUT: true; the input reads as it did. -/
def graphChangesSpec : ChangeSpec := { name := "graphChanges", fn := fun _ => fun
  | [d1, d2, d3, d4, d5] => { results := [.lit (.bool true)], args := [d1, d2, d3, d4, d5] }
  | _ => none }
def graphChangesRow : OpenClaim := { program := "ytbobgakeaoigeaa", sum := "646dbc6563a6cd643a94198faed6fa2a32fa868dedd69e57402d40dd276a5912", func := "soundservice/soundservicelaw22.GraphChanges", spec := "graphChanges", inPlace := ["slices.overlaps[soundservice/api.Link]", "slices.overlaps[soundservice/api.Node]"], unfollowed := true, recurses := true, apart := false }
def GraphChangesSaid : Prop := graphChangesRow.holds Try.pinned (OpenSpec.ofChange graphChangesSpec)

/-- ITS FALSE NEIGHBOUR: 'it returns false'. Refute it at one input. -/
def graphChangesWrong : ChangeSpec := { name := "graphChanges", fn := fun _ => fun
  | [d1, d2, d3, d4, d5] => { results := [.lit (.bool false)], args := [d1, d2, d3, d4, d5] }
  | _ => none }
def GraphChangesWrongFalsely : Prop := graphChangesRow.holds Try.pinned (OpenSpec.ofChange graphChangesWrong)

/-- 'soundservicelaw22.GraphBack': WHATEVER THE INPUT: true; the input reads as it did. -/
def graphBackSpec : ChangeSpec := { name := "graphBack", fn := fun _ => fun
  | [d1, d2, d3] => { results := [.lit (.bool true)], args := [d1, d2, d3] }
  | _ => none }
def graphBackRow : OpenClaim := { program := "ytbobgakeaoigeaa", sum := "646dbc6563a6cd643a94198faed6fa2a32fa868dedd69e57402d40dd276a5912", func := "soundservice/soundservicelaw22.GraphBack", spec := "graphBack", inPlace := ["slices.overlaps[soundservice/api.Link]", "slices.overlaps[soundservice/api.Node]"], unfollowed := true, recurses := true, apart := false }
def GraphBackSaid : Prop := graphBackRow.holds Try.pinned (OpenSpec.ofChange graphBackSpec)

/-- ITS FALSE NEIGHBOUR: 'it returns false'. Refute it at one input. -/
def graphBackWrong : ChangeSpec := { name := "graphBack", fn := fun _ => fun
  | [d1, d2, d3] => { results := [.lit (.bool false)], args := [d1, d2, d3] }
  | _ => none }
def GraphBackWrongFalsely : Prop := graphBackRow.holds Try.pinned (OpenSpec.ofChange graphBackWrong)

/- THE SECOND FORM. 'bulk': how many values and letters a reading holds, each counted each time it is reached (what is shared counts as often as it is met; a slice's spare places count too). A statement '..UptoSaid' is the law's where the arguments, and the package variables that the reading takes, are together of bulk at most 1048576: NARROWER than '..Said'. Prove '..Said' where nothing that the law and all that it calls make is longer than what came in: it says more and counts as full. Else prove '..UptoSaid'. A law counts once. -/
mutual
def uptoBulk {H : Type} : DataW H → Nat
  | .lit (.string bytes) => bytes.length + 1
  | .lit _ => 1
  | .nil => 1
  | .ptr d => uptoBulk d + 1
  | .slice elems spare => uptoBulkAll elems + uptoBulkAll spare + 1
  | .agg parts => uptoBulkAll parts + 1
  | .iface _ d => uptoBulk d + 1
  | .map entries => uptoBulkEntries entries + 1
  | .held _ => 1
def uptoBulkAll {H : Type} : List (DataW H) → Nat
  | [] => 0
  | d :: r => uptoBulk d + uptoBulkAll r
def uptoBulkEntries {H : Type} : List (Lit × DataW H) → Nat
  | [] => 0
  | x :: r => uptoBulkEntry x + uptoBulkEntries r
def uptoBulkEntry {H : Type} : Lit × DataW H → Nat
  | (.string bytes, d) => bytes.length + uptoBulk d + 1
  | (_, d) => uptoBulk d + 1
 end
def uptoSmall : (H : Type) → List (DataW H) → Bool := fun _ ds => decide (uptoBulkAll ds ≤ 1048576)
def OpenSpec.upto (s : _root_.Go.ChangeSpec) : _root_.Go.OpenSpec := { _root_.Go.OpenSpec.ofChange s with cond := some uptoSmall }

/-- 'soundservicelaw22.GraphReads', WHERE WHAT IT READS IS OF BULK AT MOST 1048576: true; the input reads as it did. -/
def graphReadsUptoRow : OpenClaim := { program := "ytbobgakeaoigeaa", sum := "646dbc6563a6cd643a94198faed6fa2a32fa868dedd69e57402d40dd276a5912", func := "soundservice/soundservicelaw22.GraphReads", spec := "graphReads", inPlace := ["slices.overlaps[soundservice/api.Link]"], unfollowed := true, recurses := true, apart := false, narrowed := true }
def GraphReadsUptoSaid : Prop := graphReadsUptoRow.holds Try.pinned (OpenSpec.upto graphReadsSpec)

/-- 'soundservicelaw22.GraphOrders', WHERE WHAT IT READS IS OF BULK AT MOST 1048576: true; the input reads as it did. -/
def graphOrdersUptoRow : OpenClaim := { program := "ytbobgakeaoigeaa", sum := "646dbc6563a6cd643a94198faed6fa2a32fa868dedd69e57402d40dd276a5912", func := "soundservice/soundservicelaw22.GraphOrders", spec := "graphOrders", inPlace := ["slices.overlaps[soundservice/api.Link]"], unfollowed := true, recurses := true, apart := false, narrowed := true }
def GraphOrdersUptoSaid : Prop := graphOrdersUptoRow.holds Try.pinned (OpenSpec.upto graphOrdersSpec)

/-- 'soundservicelaw22.GraphCycles', WHERE WHAT IT READS IS OF BULK AT MOST 1048576: true; the input reads as it did. -/
def graphCyclesUptoRow : OpenClaim := { program := "ytbobgakeaoigeaa", sum := "646dbc6563a6cd643a94198faed6fa2a32fa868dedd69e57402d40dd276a5912", func := "soundservice/soundservicelaw22.GraphCycles", spec := "graphCycles", inPlace := ["slices.overlaps[soundservice/api.Link]"], unfollowed := true, recurses := true, apart := false, narrowed := true }
def GraphCyclesUptoSaid : Prop := graphCyclesUptoRow.holds Try.pinned (OpenSpec.upto graphCyclesSpec)

/-- 'soundservicelaw22.GraphReaches', WHERE WHAT IT READS IS OF BULK AT MOST 1048576: true; the input reads as it did. -/
def graphReachesUptoRow : OpenClaim := { program := "ytbobgakeaoigeaa", sum := "646dbc6563a6cd643a94198faed6fa2a32fa868dedd69e57402d40dd276a5912", func := "soundservice/soundservicelaw22.GraphReaches", spec := "graphReaches", inPlace := ["slices.overlaps[soundservice/api.Link]"], unfollowed := true, recurses := true, apart := false, narrowed := true }
def GraphReachesUptoSaid : Prop := graphReachesUptoRow.holds Try.pinned (OpenSpec.upto graphReachesSpec)

/-- 'soundservicelaw22.GraphChanges', WHERE WHAT IT READS IS OF BULK AT MOST 1048576: true; the input reads as it did. -/
def graphChangesUptoRow : OpenClaim := { program := "ytbobgakeaoigeaa", sum := "646dbc6563a6cd643a94198faed6fa2a32fa868dedd69e57402d40dd276a5912", func := "soundservice/soundservicelaw22.GraphChanges", spec := "graphChanges", inPlace := ["slices.overlaps[soundservice/api.Link]", "slices.overlaps[soundservice/api.Node]"], unfollowed := true, recurses := true, apart := false, narrowed := true }
def GraphChangesUptoSaid : Prop := graphChangesUptoRow.holds Try.pinned (OpenSpec.upto graphChangesSpec)

/-- 'soundservicelaw22.GraphBack', WHERE WHAT IT READS IS OF BULK AT MOST 1048576: true; the input reads as it did. -/
def graphBackUptoRow : OpenClaim := { program := "ytbobgakeaoigeaa", sum := "646dbc6563a6cd643a94198faed6fa2a32fa868dedd69e57402d40dd276a5912", func := "soundservice/soundservicelaw22.GraphBack", spec := "graphBack", inPlace := ["slices.overlaps[soundservice/api.Link]", "slices.overlaps[soundservice/api.Node]"], unfollowed := true, recurses := true, apart := false, narrowed := true }
def GraphBackUptoSaid : Prop := graphBackUptoRow.holds Try.pinned (OpenSpec.upto graphBackSpec)

end Rows
end Go.Proofs.Ytbobgakeaoigeaa
