/-
  No cell of these rows narrows 'for every input' (looked for: loops, veiled, ifaces, maps, wideKeys, modest, calm, conditions, laid).
  DERIVED. THE GIVEN ROWS OF THIS SEAT. 6 by the template 'for every input the law returns true; each argument reads behind the call as it read before'; 0 by the template 'total and deterministic' (their statements: YtmoeognojncmhaaTotals.lean).
  GIVEN WITH THE SEED: the statements are not yours to turn. If you find one false, say at which input.
  Laid BY PROGRAM, IN A SANDBOX (cutbox-rows.mjs): the forced cells as the released guide's own fill.sh prints them over the translation dc4ca2bdd4758588… (all of the seat's roots in one cut). By AI agents, Wed Nov 11 2026. No macro, syntax, notation, axiom, sorry.
-/
import Derived.Test.YtmoeognojncmhaaChecked
import GoSem.Claim
import GoSem.ClaimJoined
import GoSem.ClaimMapViews
import Derived.JoinedTies
import Derived.KernelRfl
namespace Go.Proofs.Ytmoeognojncmhaa
/- THE CELL 'sum', in the pinned program and in every row, IS THE sha256 OF THE DUMP (.gsa) THAT YtmoeognojncmhaaProg.lean LOADS. Nothing in Lean hashes anything: it is a label: what it is worth is what the hold of that sum in a sandbox is worth. -/
noncomputable def Try.pinned : Pinned := { name := "ytmoeognojncmhaa", sum := "dc4ca2bdd47585887c576c3ec8ccd157888fa7373bceba9efb48917a67d4e6ea", checked := Try.checked }
namespace Rows
def none {H : Type} : Left H := { results := [], args := [] }

/-- 'soundservicelaw13.ClockMakes': WHATEVER THE INPUT: true; the input reads as it did. -/
def clockMakesSpec : ChangeSpec := { name := "clockMakes", fn := fun _ => fun
  | [d1, d2, d3, d4] => { results := [.lit (.bool true)], args := [d1, d2, d3, d4] }
  | _ => none }
def clockMakesRow : OpenClaim := { program := "ytmoeognojncmhaa", sum := "dc4ca2bdd47585887c576c3ec8ccd157888fa7373bceba9efb48917a67d4e6ea", func := "soundservice/soundservicelaw13.ClockMakes", spec := "clockMakes", unfollowed := true, recurses := true, named := ["math/bits.divideError", "math/bits.overflowError"], apart := false }
def ClockMakesSaid : Prop := clockMakesRow.holds Try.pinned (OpenSpec.ofChange clockMakesSpec)

/-- ITS FALSE NEIGHBOUR: 'it returns false'. Refute it at one input. -/
def clockMakesWrong : ChangeSpec := { name := "clockMakes", fn := fun _ => fun
  | [d1, d2, d3, d4] => { results := [.lit (.bool false)], args := [d1, d2, d3, d4] }
  | _ => none }
def ClockMakesWrongFalsely : Prop := clockMakesRow.holds Try.pinned (OpenSpec.ofChange clockMakesWrong)

/-- 'soundservicelaw13.ClockChanges': WHATEVER THE INPUT: true; the input reads as it did. -/
def clockChangesSpec : ChangeSpec := { name := "clockChanges", fn := fun _ => fun
  | [d1, d2, d3] => { results := [.lit (.bool true)], args := [d1, d2, d3] }
  | _ => none }
def clockChangesRow : OpenClaim := { program := "ytmoeognojncmhaa", sum := "dc4ca2bdd47585887c576c3ec8ccd157888fa7373bceba9efb48917a67d4e6ea", func := "soundservice/soundservicelaw13.ClockChanges", spec := "clockChanges", unfollowed := true, recurses := true, named := ["math/bits.divideError", "math/bits.overflowError"], apart := false }
def ClockChangesSaid : Prop := clockChangesRow.holds Try.pinned (OpenSpec.ofChange clockChangesSpec)

/-- ITS FALSE NEIGHBOUR: 'it returns false'. Refute it at one input. -/
def clockChangesWrong : ChangeSpec := { name := "clockChanges", fn := fun _ => fun
  | [d1, d2, d3] => { results := [.lit (.bool false)], args := [d1, d2, d3] }
  | _ => none }
def ClockChangesWrongFalsely : Prop := clockChangesRow.holds Try.pinned (OpenSpec.ofChange clockChangesWrong)

/-- 'soundservicelaw13.ClockDoubles': WHATEVER THE INPUT: true; the input reads as it did. -/
def clockDoublesSpec : ChangeSpec := { name := "clockDoubles", fn := fun _ => fun
  | [d1, d2, d3] => { results := [.lit (.bool true)], args := [d1, d2, d3] }
  | _ => none }
def clockDoublesRow : OpenClaim := { program := "ytmoeognojncmhaa", sum := "dc4ca2bdd47585887c576c3ec8ccd157888fa7373bceba9efb48917a67d4e6ea", func := "soundservice/soundservicelaw13.ClockDoubles", spec := "clockDoubles", unfollowed := true, recurses := true, named := ["math/bits.divideError", "math/bits.overflowError"], apart := false }
def ClockDoublesSaid : Prop := clockDoublesRow.holds Try.pinned (OpenSpec.ofChange clockDoublesSpec)

/-- ITS FALSE NEIGHBOUR: 'it returns false'. Refute it at one input. -/
def clockDoublesWrong : ChangeSpec := { name := "clockDoubles", fn := fun _ => fun
  | [d1, d2, d3] => { results := [.lit (.bool false)], args := [d1, d2, d3] }
  | _ => none }
def ClockDoublesWrongFalsely : Prop := clockDoublesRow.holds Try.pinned (OpenSpec.ofChange clockDoublesWrong)

/-- 'soundservicelaw13.ClockReads': WHATEVER THE INPUT: true; the input reads as it did. -/
def clockReadsSpec : ChangeSpec := { name := "clockReads", fn := fun _ => fun
  | [d1, d2, d3, d4] => { results := [.lit (.bool true)], args := [d1, d2, d3, d4] }
  | _ => none }
def clockReadsRow : OpenClaim := { program := "ytmoeognojncmhaa", sum := "dc4ca2bdd47585887c576c3ec8ccd157888fa7373bceba9efb48917a67d4e6ea", func := "soundservice/soundservicelaw13.ClockReads", spec := "clockReads", unfollowed := true, recurses := true, named := ["math/bits.divideError", "math/bits.overflowError"], apart := false }
def ClockReadsSaid : Prop := clockReadsRow.holds Try.pinned (OpenSpec.ofChange clockReadsSpec)

/-- ITS FALSE NEIGHBOUR: 'it returns false'. Refute it at one input. -/
def clockReadsWrong : ChangeSpec := { name := "clockReads", fn := fun _ => fun
  | [d1, d2, d3, d4] => { results := [.lit (.bool false)], args := [d1, d2, d3, d4] }
  | _ => none }
def ClockReadsWrongFalsely : Prop := clockReadsRow.holds Try.pinned (OpenSpec.ofChange clockReadsWrong)

/-- 'soundservicelaw13.ClockAscends': WHATEVER THE INPUT: true; the input reads as it did. -/
def clockAscendsSpec : ChangeSpec := { name := "clockAscends", fn := fun _ => fun
  | [d1, d2, d3, d4] => { results := [.lit (.bool true)], args := [d1, d2, d3, d4] }
  | _ => none }
def clockAscendsRow : OpenClaim := { program := "ytmoeognojncmhaa", sum := "dc4ca2bdd47585887c576c3ec8ccd157888fa7373bceba9efb48917a67d4e6ea", func := "soundservice/soundservicelaw13.ClockAscends", spec := "clockAscends", unfollowed := true, recurses := true, named := ["math/bits.divideError", "math/bits.overflowError"], apart := false }
def ClockAscendsSaid : Prop := clockAscendsRow.holds Try.pinned (OpenSpec.ofChange clockAscendsSpec)

/-- ITS FALSE NEIGHBOUR: 'it returns false'. Refute it at one input. -/
def clockAscendsWrong : ChangeSpec := { name := "clockAscends", fn := fun _ => fun
  | [d1, d2, d3, d4] => { results := [.lit (.bool false)], args := [d1, d2, d3, d4] }
  | _ => none }
def ClockAscendsWrongFalsely : Prop := clockAscendsRow.holds Try.pinned (OpenSpec.ofChange clockAscendsWrong)

/-- 'soundservicelaw13.ClockSteady': WHATEVER THE INPUT: true; the input reads as it did. -/
def clockSteadySpec : ChangeSpec := { name := "clockSteady", fn := fun _ => fun
  | [d1, d2, d3, d4, d5] => { results := [.lit (.bool true)], args := [d1, d2, d3, d4, d5] }
  | _ => none }
def clockSteadyRow : OpenClaim := { program := "ytmoeognojncmhaa", sum := "dc4ca2bdd47585887c576c3ec8ccd157888fa7373bceba9efb48917a67d4e6ea", func := "soundservice/soundservicelaw13.ClockSteady", spec := "clockSteady", inPlace := ["math/bits.Sub64"], unfollowed := true, recurses := true, named := ["math/bits.divideError", "math/bits.overflowError"], apart := false }
def ClockSteadySaid : Prop := clockSteadyRow.holds Try.pinned (OpenSpec.ofChange clockSteadySpec)

/-- ITS FALSE NEIGHBOUR: 'it returns false'. Refute it at one input. -/
def clockSteadyWrong : ChangeSpec := { name := "clockSteady", fn := fun _ => fun
  | [d1, d2, d3, d4, d5] => { results := [.lit (.bool false)], args := [d1, d2, d3, d4, d5] }
  | _ => none }
def ClockSteadyWrongFalsely : Prop := clockSteadyRow.holds Try.pinned (OpenSpec.ofChange clockSteadyWrong)

/- THE SECOND FORM. 'bulk': how many values and letters a reading holds, each counted each time it is reached (what is shared counts as often as it is met; a slice's spare places count too). A statement '..UptoSaid' is the law's where the arguments, and the package variables that the reading takes, are together of bulk at most 1048576: NARROWER than '..Said'. Prove '..Said' where nothing that the law and all that it calls make is longer than what came in: it says more and counts as full. Else prove '..UptoSaid'. A law counts once. -/
mutual
def uptoBulk {H : Type} : DataW H → Nat
  | .lit (.string bytes) => bytes.length + 1
  | .lit _ => 1
  | .nil => 1
  | .ptr d => uptoBulk d + 1
  | .slice elems spare => uptoBulkAll elems + uptoBulkAll spare + 1
  | .agg parts => uptoBulkAll parts + 1
  | .iface _ d => uptoBulk d + 1
  | .map entries => uptoBulkEntries entries + 1
  | .held _ => 1
def uptoBulkAll {H : Type} : List (DataW H) → Nat
  | [] => 0
  | d :: r => uptoBulk d + uptoBulkAll r
def uptoBulkEntries {H : Type} : List (Lit × DataW H) → Nat
  | [] => 0
  | x :: r => uptoBulkEntry x + uptoBulkEntries r
def uptoBulkEntry {H : Type} : Lit × DataW H → Nat
  | (.string bytes, d) => bytes.length + uptoBulk d + 1
  | (_, d) => uptoBulk d + 1
 end
def uptoSmall : (H : Type) → List (DataW H) → Bool := fun _ ds => decide (uptoBulkAll ds ≤ 1048576)
def OpenSpec.upto (s : _root_.Go.ChangeSpec) : _root_.Go.OpenSpec := { _root_.Go.OpenSpec.ofChange s with cond := some uptoSmall }

/-- 'soundservicelaw13.ClockMakes', WHERE WHAT IT READS IS OF BULK AT MOST 1048576: true; the input reads as it did. -/
def clockMakesUptoRow : OpenClaim := { program := "ytmoeognojncmhaa", sum := "dc4ca2bdd47585887c576c3ec8ccd157888fa7373bceba9efb48917a67d4e6ea", func := "soundservice/soundservicelaw13.ClockMakes", spec := "clockMakes", unfollowed := true, recurses := true, named := ["math/bits.divideError", "math/bits.overflowError"], apart := false, narrowed := true }
def ClockMakesUptoSaid : Prop := clockMakesUptoRow.holds Try.pinned (OpenSpec.upto clockMakesSpec)

/-- 'soundservicelaw13.ClockChanges', WHERE WHAT IT READS IS OF BULK AT MOST 1048576: true; the input reads as it did. -/
def clockChangesUptoRow : OpenClaim := { program := "ytmoeognojncmhaa", sum := "dc4ca2bdd47585887c576c3ec8ccd157888fa7373bceba9efb48917a67d4e6ea", func := "soundservice/soundservicelaw13.ClockChanges", spec := "clockChanges", unfollowed := true, recurses := true, named := ["math/bits.divideError", "math/bits.overflowError"], apart := false, narrowed := true }
def ClockChangesUptoSaid : Prop := clockChangesUptoRow.holds Try.pinned (OpenSpec.upto clockChangesSpec)

/-- 'soundservicelaw13.ClockDoubles', WHERE WHAT IT READS IS OF BULK AT MOST 1048576: true; the input reads as it did. -/
def clockDoublesUptoRow : OpenClaim := { program := "ytmoeognojncmhaa", sum := "dc4ca2bdd47585887c576c3ec8ccd157888fa7373bceba9efb48917a67d4e6ea", func := "soundservice/soundservicelaw13.ClockDoubles", spec := "clockDoubles", unfollowed := true, recurses := true, named := ["math/bits.divideError", "math/bits.overflowError"], apart := false, narrowed := true }
def ClockDoublesUptoSaid : Prop := clockDoublesUptoRow.holds Try.pinned (OpenSpec.upto clockDoublesSpec)

/-- 'soundservicelaw13.ClockReads', WHERE WHAT IT READS IS OF BULK AT MOST 1048576: true; the input reads as it did. -/
def clockReadsUptoRow : OpenClaim := { program := "ytmoeognojncmhaa", sum := "dc4ca2bdd47585887c576c3ec8ccd157888fa7373bceba9efb48917a67d4e6ea", func := "soundservice/soundservicelaw13.ClockReads", spec := "clockReads", unfollowed := true, recurses := true, named := ["math/bits.divideError", "math/bits.overflowError"], apart := false, narrowed := true }
def ClockReadsUptoSaid : Prop := clockReadsUptoRow.holds Try.pinned (OpenSpec.upto clockReadsSpec)

/-- 'soundservicelaw13.ClockAscends', WHERE WHAT IT READS IS OF BULK AT MOST 1048576: true; the input reads as it did. -/
def clockAscendsUptoRow : OpenClaim := { program := "ytmoeognojncmhaa", sum := "dc4ca2bdd47585887c576c3ec8ccd157888fa7373bceba9efb48917a67d4e6ea", func := "soundservice/soundservicelaw13.ClockAscends", spec := "clockAscends", unfollowed := true, recurses := true, named := ["math/bits.divideError", "math/bits.overflowError"], apart := false, narrowed := true }
def ClockAscendsUptoSaid : Prop := clockAscendsUptoRow.holds Try.pinned (OpenSpec.upto clockAscendsSpec)

/-- 'soundservicelaw13.ClockSteady', WHERE WHAT IT READS IS OF BULK AT MOST 1048576: true; the input reads as it did. -/
def clockSteadyUptoRow : OpenClaim := { program := "ytmoeognojncmhaa", sum := "dc4ca2bdd47585887c576c3ec8ccd157888fa7373bceba9efb48917a67d4e6ea", func := "soundservice/soundservicelaw13.ClockSteady", spec := "clockSteady", inPlace := ["math/bits.Sub64"], unfollowed := true, recurses := true, named := ["math/bits.divideError", "math/bits.overflowError"], apart := false, narrowed := true }
def ClockSteadyUptoSaid : Prop := clockSteadyUptoRow.holds Try.pinned (OpenSpec.upto clockSteadySpec)

end Rows
end Go.Proofs.Ytmoeognojncmhaa
