/-
  No cell of these rows narrows 'for every input' (looked for: loops, veiled, ifaces, maps, wideKeys, modest, calm, conditions, laid).
  DERIVED. THE GIVEN ROWS OF THIS SEAT. 2 by the template 'for every input the law returns true; each argument reads behind the call as it read before'; 0 by the template 'total and deterministic' (their statements: YtfbfaleilkebaaaTotals.lean).
  GIVEN WITH THE SEED: the statements are not yours to turn. If you find one false, say at which input.
  Laid BY PROGRAM, IN A SANDBOX (cutbox-rows.mjs): the forced cells as the released guide's own fill.sh prints them over the translation 857f81a685953419… (all of the seat's roots in one cut). By AI agents, Wed Nov 11 2026. No macro, syntax, notation, axiom, sorry.
-/
import Derived.Test.YtfbfaleilkebaaaChecked
import GoSem.Claim
import GoSem.ClaimJoined
import GoSem.ClaimMapViews
import Derived.JoinedTies
import Derived.KernelRfl
namespace Go.Proofs.Ytfbfaleilkebaaa
/- THE CELL 'sum', in the pinned program and in every row, IS THE sha256 OF THE DUMP (.gsa) THAT YtfbfaleilkebaaaProg.lean LOADS. Nothing in Lean hashes anything: it is a label: what it is worth is what the hold of that sum in a sandbox is worth. -/
noncomputable def Try.pinned : Pinned := { name := "ytfbfaleilkebaaa", sum := "857f81a68595341942fa83b305c29625f05581ea669f6d1bab3ca31a53e75393", checked := Try.checked }
namespace Rows
def none {H : Type} : Left H := { results := [], args := [] }

/-- 'soundservicelaw39.AnalyserHorizon': WHATEVER THE INPUT: true; the input reads as it did. -/
def analyserHorizonSpec : ChangeSpec := { name := "analyserHorizon", fn := fun _ => fun
  | [d1, d2, d3, d4] => { results := [.lit (.bool true)], args := [d1, d2, d3, d4] }
  | _ => none }
def analyserHorizonRow : OpenClaim := { program := "ytfbfaleilkebaaa", sum := "857f81a68595341942fa83b305c29625f05581ea669f6d1bab3ca31a53e75393", func := "soundservice/soundservicelaw39.AnalyserHorizon", spec := "analyserHorizon", apart := false }
def AnalyserHorizonSaid : Prop := analyserHorizonRow.holds Try.pinned (OpenSpec.ofChange analyserHorizonSpec)

/-- ITS FALSE NEIGHBOUR: 'it returns false'. Refute it at one input. -/
def analyserHorizonWrong : ChangeSpec := { name := "analyserHorizon", fn := fun _ => fun
  | [d1, d2, d3, d4] => { results := [.lit (.bool false)], args := [d1, d2, d3, d4] }
  | _ => none }
def AnalyserHorizonWrongFalsely : Prop := analyserHorizonRow.holds Try.pinned (OpenSpec.ofChange analyserHorizonWrong)

/-- 'soundservicelaw39.AnalyserExplains': WHATEVER THE INPUT: true; the input reads as it did. -/
def analyserExplainsSpec : ChangeSpec := { name := "analyserExplains", fn := fun _ => fun
  | [d1, d2, d3, d4] => { results := [.lit (.bool true)], args := [d1, d2, d3, d4] }
  | _ => none }
def analyserExplainsRow : OpenClaim := { program := "ytfbfaleilkebaaa", sum := "857f81a68595341942fa83b305c29625f05581ea669f6d1bab3ca31a53e75393", func := "soundservice/soundservicelaw39.AnalyserExplains", spec := "analyserExplains", apart := false }
def AnalyserExplainsSaid : Prop := analyserExplainsRow.holds Try.pinned (OpenSpec.ofChange analyserExplainsSpec)

/-- ITS FALSE NEIGHBOUR: 'it returns false'. Refute it at one input. -/
def analyserExplainsWrong : ChangeSpec := { name := "analyserExplains", fn := fun _ => fun
  | [d1, d2, d3, d4] => { results := [.lit (.bool false)], args := [d1, d2, d3, d4] }
  | _ => none }
def AnalyserExplainsWrongFalsely : Prop := analyserExplainsRow.holds Try.pinned (OpenSpec.ofChange analyserExplainsWrong)

/- THE SECOND FORM. 'bulk': how many values and letters a reading holds, each counted each time it is reached (what is shared counts as often as it is met; a slice's spare places count too). A statement '..UptoSaid' is the law's where the arguments, and the package variables that the reading takes, are together of bulk at most 1048576: NARROWER than '..Said'. Prove '..Said' where nothing that the law and all that it calls make is longer than what came in: it says more and counts as full. Else prove '..UptoSaid'. A law counts once. -/
mutual
def uptoBulk {H : Type} : DataW H → Nat
  | .lit (.string bytes) => bytes.length + 1
  | .lit _ => 1
  | .nil => 1
  | .ptr d => uptoBulk d + 1
  | .slice elems spare => uptoBulkAll elems + uptoBulkAll spare + 1
  | .agg parts => uptoBulkAll parts + 1
  | .iface _ d => uptoBulk d + 1
  | .map entries => uptoBulkEntries entries + 1
  | .held _ => 1
def uptoBulkAll {H : Type} : List (DataW H) → Nat
  | [] => 0
  | d :: r => uptoBulk d + uptoBulkAll r
def uptoBulkEntries {H : Type} : List (Lit × DataW H) → Nat
  | [] => 0
  | x :: r => uptoBulkEntry x + uptoBulkEntries r
def uptoBulkEntry {H : Type} : Lit × DataW H → Nat
  | (.string bytes, d) => bytes.length + uptoBulk d + 1
  | (_, d) => uptoBulk d + 1
 end
def uptoSmall : (H : Type) → List (DataW H) → Bool := fun _ ds => decide (uptoBulkAll ds ≤ 1048576)
def OpenSpec.upto (s : _root_.Go.ChangeSpec) : _root_.Go.OpenSpec := { _root_.Go.OpenSpec.ofChange s with cond := some uptoSmall }

/-- 'soundservicelaw39.AnalyserHorizon', WHERE WHAT IT READS IS OF BULK AT MOST 1048576: true; the input reads as it did. -/
def analyserHorizonUptoRow : OpenClaim := { program := "ytfbfaleilkebaaa", sum := "857f81a68595341942fa83b305c29625f05581ea669f6d1bab3ca31a53e75393", func := "soundservice/soundservicelaw39.AnalyserHorizon", spec := "analyserHorizon", apart := false, narrowed := true }
def AnalyserHorizonUptoSaid : Prop := analyserHorizonUptoRow.holds Try.pinned (OpenSpec.upto analyserHorizonSpec)

/-- 'soundservicelaw39.AnalyserExplains', WHERE WHAT IT READS IS OF BULK AT MOST 1048576: true; the input reads as it did. -/
def analyserExplainsUptoRow : OpenClaim := { program := "ytfbfaleilkebaaa", sum := "857f81a68595341942fa83b305c29625f05581ea669f6d1bab3ca31a53e75393", func := "soundservice/soundservicelaw39.AnalyserExplains", spec := "analyserExplains", apart := false, narrowed := true }
def AnalyserExplainsUptoSaid : Prop := analyserExplainsUptoRow.holds Try.pinned (OpenSpec.upto analyserExplainsSpec)

end Rows
end Go.Proofs.Ytfbfaleilkebaaa
