/-
  No cell of these rows narrows 'for every input' (looked for: loops, veiled, ifaces, maps, wideKeys, modest, calm, conditions, laid).
  DERIVED. THE GIVEN ROWS OF THIS SEAT. 7 by the template 'for every input the law returns true; each argument reads behind the call as it read before'; 0 by the template 'total and deterministic' (their statements: YtodpeopfbcblaaaTotals.lean).
  GIVEN WITH THE SEED: the statements are not yours to turn. If you find one false, say at which input.
  Laid BY PROGRAM, IN A SANDBOX (cutbox-rows.mjs): the forced cells as the released guide's own fill.sh prints them over the translation b11fa7362af8a481… (all of the seat's roots in one cut). By AI agents, Wed Nov 11 2026. No macro, syntax, notation, axiom, sorry.
-/
import Derived.Test.YtodpeopfbcblaaaChecked
import GoSem.Claim
import GoSem.ClaimJoined
import GoSem.ClaimMapViews
import Derived.JoinedTies
import Derived.KernelRfl
namespace Go.Proofs.Ytodpeopfbcblaaa
/- THE CELL 'sum', in the pinned program and in every row, IS THE sha256 OF THE DUMP (.gsa) THAT YtodpeopfbcblaaaProg.lean LOADS. Nothing in Lean hashes anything: it is a label: what it is worth is what the hold of that sum in a sandbox is worth. -/
noncomputable def Try.pinned : Pinned := { name := "ytodpeopfbcblaaa", sum := "b11fa7362af8a4818f554363c8f569ffa6ef587fd8915febdd305e9a06828de0", checked := Try.checked }
namespace Rows
def none {H : Type} : Left H := { results := [], args := [] }

/-- 'soundservicelaw18.ControlAdjusts': WHATEVER THE INPUT: true; the input reads as it did. -/
def controlAdjustsSpec : ChangeSpec := { name := "controlAdjusts", fn := fun _ => fun
  | [d1, d2, d3] => { results := [.lit (.bool true)], args := [d1, d2, d3] }
  | _ => none }
def controlAdjustsRow : OpenClaim := { program := "ytodpeopfbcblaaa", sum := "b11fa7362af8a4818f554363c8f569ffa6ef587fd8915febdd305e9a06828de0", func := "soundservice/soundservicelaw18.ControlAdjusts", spec := "controlAdjusts", unfollowed := true, recurses := true, apart := false }
def ControlAdjustsSaid : Prop := controlAdjustsRow.holds Try.pinned (OpenSpec.ofChange controlAdjustsSpec)

/-- ITS FALSE NEIGHBOUR: 'it returns false'. Refute it at one input. -/
def controlAdjustsWrong : ChangeSpec := { name := "controlAdjusts", fn := fun _ => fun
  | [d1, d2, d3] => { results := [.lit (.bool false)], args := [d1, d2, d3] }
  | _ => none }
def ControlAdjustsWrongFalsely : Prop := controlAdjustsRow.holds Try.pinned (OpenSpec.ofChange controlAdjustsWrong)

/-- 'soundservicelaw18.ControlAscends': WHATEVER THE INPUT: true; the input reads as it did. -/
def controlAscendsSpec : ChangeSpec := { name := "controlAscends", fn := fun _ => fun
  | [d1, d2, d3] => { results := [.lit (.bool true)], args := [d1, d2, d3] }
  | _ => none }
def controlAscendsRow : OpenClaim := { program := "ytodpeopfbcblaaa", sum := "b11fa7362af8a4818f554363c8f569ffa6ef587fd8915febdd305e9a06828de0", func := "soundservice/soundservicelaw18.ControlAscends", spec := "controlAscends", unfollowed := true, recurses := true, apart := false }
def ControlAscendsSaid : Prop := controlAscendsRow.holds Try.pinned (OpenSpec.ofChange controlAscendsSpec)

/-- ITS FALSE NEIGHBOUR: 'it returns false'. Refute it at one input. -/
def controlAscendsWrong : ChangeSpec := { name := "controlAscends", fn := fun _ => fun
  | [d1, d2, d3] => { results := [.lit (.bool false)], args := [d1, d2, d3] }
  | _ => none }
def ControlAscendsWrongFalsely : Prop := controlAscendsRow.holds Try.pinned (OpenSpec.ofChange controlAscendsWrong)

/-- 'soundservicelaw18.ControlSaturates': WHATEVER THE INPUT: true; the input reads as it did. -/
def controlSaturatesSpec : ChangeSpec := { name := "controlSaturates", fn := fun _ => fun
  | [d1, d2] => { results := [.lit (.bool true)], args := [d1, d2] }
  | _ => none }
def controlSaturatesRow : OpenClaim := { program := "ytodpeopfbcblaaa", sum := "b11fa7362af8a4818f554363c8f569ffa6ef587fd8915febdd305e9a06828de0", func := "soundservice/soundservicelaw18.ControlSaturates", spec := "controlSaturates", unfollowed := true, recurses := true, apart := false }
def ControlSaturatesSaid : Prop := controlSaturatesRow.holds Try.pinned (OpenSpec.ofChange controlSaturatesSpec)

/-- ITS FALSE NEIGHBOUR: 'it returns false'. Refute it at one input. -/
def controlSaturatesWrong : ChangeSpec := { name := "controlSaturates", fn := fun _ => fun
  | [d1, d2] => { results := [.lit (.bool false)], args := [d1, d2] }
  | _ => none }
def ControlSaturatesWrongFalsely : Prop := controlSaturatesRow.holds Try.pinned (OpenSpec.ofChange controlSaturatesWrong)

/-- 'soundservicelaw18.ControlBounds': WHATEVER THE INPUT: true; the input reads as it did. -/
def controlBoundsSpec : ChangeSpec := { name := "controlBounds", fn := fun _ => fun
  | [d1, d2, d3, d4, d5, d6, d7, d8] => { results := [.lit (.bool true)], args := [d1, d2, d3, d4, d5, d6, d7, d8] }
  | _ => none }
def controlBoundsRow : OpenClaim := { program := "ytodpeopfbcblaaa", sum := "b11fa7362af8a4818f554363c8f569ffa6ef587fd8915febdd305e9a06828de0", func := "soundservice/soundservicelaw18.ControlBounds", spec := "controlBounds", unfollowed := true, recurses := true, apart := false }
def ControlBoundsSaid : Prop := controlBoundsRow.holds Try.pinned (OpenSpec.ofChange controlBoundsSpec)

/-- ITS FALSE NEIGHBOUR: 'it returns false'. Refute it at one input. -/
def controlBoundsWrong : ChangeSpec := { name := "controlBounds", fn := fun _ => fun
  | [d1, d2, d3, d4, d5, d6, d7, d8] => { results := [.lit (.bool false)], args := [d1, d2, d3, d4, d5, d6, d7, d8] }
  | _ => none }
def ControlBoundsWrongFalsely : Prop := controlBoundsRow.holds Try.pinned (OpenSpec.ofChange controlBoundsWrong)

/-- 'soundservicelaw18.ControlWeaker': WHATEVER THE INPUT: true; the input reads as it did. -/
def controlWeakerSpec : ChangeSpec := { name := "controlWeaker", fn := fun _ => fun
  | [d1, d2, d3, d4] => { results := [.lit (.bool true)], args := [d1, d2, d3, d4] }
  | _ => none }
def controlWeakerRow : OpenClaim := { program := "ytodpeopfbcblaaa", sum := "b11fa7362af8a4818f554363c8f569ffa6ef587fd8915febdd305e9a06828de0", func := "soundservice/soundservicelaw18.ControlWeaker", spec := "controlWeaker", unfollowed := true, recurses := true, apart := false }
def ControlWeakerSaid : Prop := controlWeakerRow.holds Try.pinned (OpenSpec.ofChange controlWeakerSpec)

/-- ITS FALSE NEIGHBOUR: 'it returns false'. Refute it at one input. -/
def controlWeakerWrong : ChangeSpec := { name := "controlWeaker", fn := fun _ => fun
  | [d1, d2, d3, d4] => { results := [.lit (.bool false)], args := [d1, d2, d3, d4] }
  | _ => none }
def ControlWeakerWrongFalsely : Prop := controlWeakerRow.holds Try.pinned (OpenSpec.ofChange controlWeakerWrong)

/-- 'soundservicelaw18.ControlDeclares': WHATEVER THE INPUT: true; the input reads as it did. -/
def controlDeclaresSpec : ChangeSpec := { name := "controlDeclares", fn := fun _ => fun
  | [d1, d2, d3, d4, d5, d6] => { results := [.lit (.bool true)], args := [d1, d2, d3, d4, d5, d6] }
  | _ => none }
def controlDeclaresRow : OpenClaim := { program := "ytodpeopfbcblaaa", sum := "b11fa7362af8a4818f554363c8f569ffa6ef587fd8915febdd305e9a06828de0", func := "soundservice/soundservicelaw18.ControlDeclares", spec := "controlDeclares", inPlace := ["math/bits.Sub64", "math/bits.Add64"], unfollowed := true, recurses := true, apart := false }
def ControlDeclaresSaid : Prop := controlDeclaresRow.holds Try.pinned (OpenSpec.ofChange controlDeclaresSpec)

/-- ITS FALSE NEIGHBOUR: 'it returns false'. Refute it at one input. -/
def controlDeclaresWrong : ChangeSpec := { name := "controlDeclares", fn := fun _ => fun
  | [d1, d2, d3, d4, d5, d6] => { results := [.lit (.bool false)], args := [d1, d2, d3, d4, d5, d6] }
  | _ => none }
def ControlDeclaresWrongFalsely : Prop := controlDeclaresRow.holds Try.pinned (OpenSpec.ofChange controlDeclaresWrong)

/-- 'soundservicelaw18.ControlPlans': WHATEVER THE INPUT: true; the input reads as it did. -/
def controlPlansSpec : ChangeSpec := { name := "controlPlans", fn := fun _ => fun
  | [d1, d2, d3, d4] => { results := [.lit (.bool true)], args := [d1, d2, d3, d4] }
  | _ => none }
def controlPlansRow : OpenClaim := { program := "ytodpeopfbcblaaa", sum := "b11fa7362af8a4818f554363c8f569ffa6ef587fd8915febdd305e9a06828de0", func := "soundservice/soundservicelaw18.ControlPlans", spec := "controlPlans", inPlace := ["math/bits.Sub64"], unfollowed := true, recurses := true, apart := false }
def ControlPlansSaid : Prop := controlPlansRow.holds Try.pinned (OpenSpec.ofChange controlPlansSpec)

/-- ITS FALSE NEIGHBOUR: 'it returns false'. Refute it at one input. -/
def controlPlansWrong : ChangeSpec := { name := "controlPlans", fn := fun _ => fun
  | [d1, d2, d3, d4] => { results := [.lit (.bool false)], args := [d1, d2, d3, d4] }
  | _ => none }
def ControlPlansWrongFalsely : Prop := controlPlansRow.holds Try.pinned (OpenSpec.ofChange controlPlansWrong)

/- THE SECOND FORM. 'bulk': how many values and letters a reading holds, each counted each time it is reached (what is shared counts as often as it is met; a slice's spare places count too). A statement '..UptoSaid' is the law's where the arguments, and the package variables that the reading takes, are together of bulk at most 1048576: NARROWER than '..Said'. Prove '..Said' where nothing that the law and all that it calls make is longer than what came in: it says more and counts as full. Else prove '..UptoSaid'. A law counts once. -/
mutual
def uptoBulk {H : Type} : DataW H → Nat
  | .lit (.string bytes) => bytes.length + 1
  | .lit _ => 1
  | .nil => 1
  | .ptr d => uptoBulk d + 1
  | .slice elems spare => uptoBulkAll elems + uptoBulkAll spare + 1
  | .agg parts => uptoBulkAll parts + 1
  | .iface _ d => uptoBulk d + 1
  | .map entries => uptoBulkEntries entries + 1
  | .held _ => 1
def uptoBulkAll {H : Type} : List (DataW H) → Nat
  | [] => 0
  | d :: r => uptoBulk d + uptoBulkAll r
def uptoBulkEntries {H : Type} : List (Lit × DataW H) → Nat
  | [] => 0
  | x :: r => uptoBulkEntry x + uptoBulkEntries r
def uptoBulkEntry {H : Type} : Lit × DataW H → Nat
  | (.string bytes, d) => bytes.length + uptoBulk d + 1
  | (_, d) => uptoBulk d + 1
 end
def uptoSmall : (H : Type) → List (DataW H) → Bool := fun _ ds => decide (uptoBulkAll ds ≤ 1048576)
def OpenSpec.upto (s : _root_.Go.ChangeSpec) : _root_.Go.OpenSpec := { _root_.Go.OpenSpec.ofChange s with cond := some uptoSmall }

/-- 'soundservicelaw18.ControlAdjusts', WHERE WHAT IT READS IS OF BULK AT MOST 1048576: true; the input reads as it did. -/
def controlAdjustsUptoRow : OpenClaim := { program := "ytodpeopfbcblaaa", sum := "b11fa7362af8a4818f554363c8f569ffa6ef587fd8915febdd305e9a06828de0", func := "soundservice/soundservicelaw18.ControlAdjusts", spec := "controlAdjusts", unfollowed := true, recurses := true, apart := false, narrowed := true }
def ControlAdjustsUptoSaid : Prop := controlAdjustsUptoRow.holds Try.pinned (OpenSpec.upto controlAdjustsSpec)

/-- 'soundservicelaw18.ControlAscends', WHERE WHAT IT READS IS OF BULK AT MOST 1048576: true; the input reads as it did. -/
def controlAscendsUptoRow : OpenClaim := { program := "ytodpeopfbcblaaa", sum := "b11fa7362af8a4818f554363c8f569ffa6ef587fd8915febdd305e9a06828de0", func := "soundservice/soundservicelaw18.ControlAscends", spec := "controlAscends", unfollowed := true, recurses := true, apart := false, narrowed := true }
def ControlAscendsUptoSaid : Prop := controlAscendsUptoRow.holds Try.pinned (OpenSpec.upto controlAscendsSpec)

/-- 'soundservicelaw18.ControlSaturates', WHERE WHAT IT READS IS OF BULK AT MOST 1048576: true; the input reads as it did. -/
def controlSaturatesUptoRow : OpenClaim := { program := "ytodpeopfbcblaaa", sum := "b11fa7362af8a4818f554363c8f569ffa6ef587fd8915febdd305e9a06828de0", func := "soundservice/soundservicelaw18.ControlSaturates", spec := "controlSaturates", unfollowed := true, recurses := true, apart := false, narrowed := true }
def ControlSaturatesUptoSaid : Prop := controlSaturatesUptoRow.holds Try.pinned (OpenSpec.upto controlSaturatesSpec)

/-- 'soundservicelaw18.ControlBounds', WHERE WHAT IT READS IS OF BULK AT MOST 1048576: true; the input reads as it did. -/
def controlBoundsUptoRow : OpenClaim := { program := "ytodpeopfbcblaaa", sum := "b11fa7362af8a4818f554363c8f569ffa6ef587fd8915febdd305e9a06828de0", func := "soundservice/soundservicelaw18.ControlBounds", spec := "controlBounds", unfollowed := true, recurses := true, apart := false, narrowed := true }
def ControlBoundsUptoSaid : Prop := controlBoundsUptoRow.holds Try.pinned (OpenSpec.upto controlBoundsSpec)

/-- 'soundservicelaw18.ControlWeaker', WHERE WHAT IT READS IS OF BULK AT MOST 1048576: true; the input reads as it did. -/
def controlWeakerUptoRow : OpenClaim := { program := "ytodpeopfbcblaaa", sum := "b11fa7362af8a4818f554363c8f569ffa6ef587fd8915febdd305e9a06828de0", func := "soundservice/soundservicelaw18.ControlWeaker", spec := "controlWeaker", unfollowed := true, recurses := true, apart := false, narrowed := true }
def ControlWeakerUptoSaid : Prop := controlWeakerUptoRow.holds Try.pinned (OpenSpec.upto controlWeakerSpec)

/-- 'soundservicelaw18.ControlDeclares', WHERE WHAT IT READS IS OF BULK AT MOST 1048576: true; the input reads as it did. -/
def controlDeclaresUptoRow : OpenClaim := { program := "ytodpeopfbcblaaa", sum := "b11fa7362af8a4818f554363c8f569ffa6ef587fd8915febdd305e9a06828de0", func := "soundservice/soundservicelaw18.ControlDeclares", spec := "controlDeclares", inPlace := ["math/bits.Sub64", "math/bits.Add64"], unfollowed := true, recurses := true, apart := false, narrowed := true }
def ControlDeclaresUptoSaid : Prop := controlDeclaresUptoRow.holds Try.pinned (OpenSpec.upto controlDeclaresSpec)

/-- 'soundservicelaw18.ControlPlans', WHERE WHAT IT READS IS OF BULK AT MOST 1048576: true; the input reads as it did. -/
def controlPlansUptoRow : OpenClaim := { program := "ytodpeopfbcblaaa", sum := "b11fa7362af8a4818f554363c8f569ffa6ef587fd8915febdd305e9a06828de0", func := "soundservice/soundservicelaw18.ControlPlans", spec := "controlPlans", inPlace := ["math/bits.Sub64"], unfollowed := true, recurses := true, apart := false, narrowed := true }
def ControlPlansUptoSaid : Prop := controlPlansUptoRow.holds Try.pinned (OpenSpec.upto controlPlansSpec)

end Rows
end Go.Proofs.Ytodpeopfbcblaaa
