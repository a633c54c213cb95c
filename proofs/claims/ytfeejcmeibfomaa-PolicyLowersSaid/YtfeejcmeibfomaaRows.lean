/-
  No cell of these rows narrows 'for every input' (looked for: loops, veiled, ifaces, maps, wideKeys, modest, calm, conditions, laid).
  DERIVED. THE GIVEN ROWS OF THIS SEAT. 4 by the template 'for every input the law returns true; each argument reads behind the call as it read before'; 0 by the template 'total and deterministic' (their statements: YtfeejcmeibfomaaTotals.lean).
  GIVEN WITH THE SEED: the statements are not yours to turn. If you find one false, say at which input.
  Laid BY PROGRAM, IN A SANDBOX (cutbox-rows.mjs): the forced cells as the released guide's own fill.sh prints them over the translation 2f0e43dee6e0247b… (all of the seat's roots in one cut). By AI agents, Wed Nov 11 2026. No macro, syntax, notation, axiom, sorry.
-/
import Derived.Test.YtfeejcmeibfomaaChecked
import GoSem.Claim
import GoSem.ClaimJoined
import GoSem.ClaimMapViews
import Derived.JoinedTies
import Derived.KernelRfl
namespace Go.Proofs.Ytfeejcmeibfomaa
/- THE CELL 'sum', in the pinned program and in every row, IS THE sha256 OF THE DUMP (.gsa) THAT YtfeejcmeibfomaaProg.lean LOADS. Nothing in Lean hashes anything: it is a label: what it is worth is what the hold of that sum in a sandbox is worth. -/
noncomputable def Try.pinned : Pinned := { name := "ytfeejcmeibfomaa", sum := "2f0e43dee6e0247bffcfeec32510b178daec85aa7f309e402da3fe6689d72e7f", checked := Try.checked }
namespace Rows
def none {H : Type} : Left H := { results := [], args := [] }

/-- 'soundservicelaw31.PolicyDecides': WHATEVER THE INPUT: true; the input reads as it did. -/
def policyDecidesSpec : ChangeSpec := { name := "policyDecides", fn := fun _ => fun
  | [d1, d2, d3, d4, d5] => { results := [.lit (.bool true)], args := [d1, d2, d3, d4, d5] }
  | _ => none }
def policyDecidesRow : OpenClaim := { program := "ytfeejcmeibfomaa", sum := "2f0e43dee6e0247bffcfeec32510b178daec85aa7f309e402da3fe6689d72e7f", func := "soundservice/soundservicelaw31.PolicyDecides", spec := "policyDecides", unfollowed := true, recurses := true, apart := false }
def PolicyDecidesSaid : Prop := policyDecidesRow.holds Try.pinned (OpenSpec.ofChange policyDecidesSpec)

/-- ITS FALSE NEIGHBOUR: 'it returns false'. Refute it at one input. -/
def policyDecidesWrong : ChangeSpec := { name := "policyDecides", fn := fun _ => fun
  | [d1, d2, d3, d4, d5] => { results := [.lit (.bool false)], args := [d1, d2, d3, d4, d5] }
  | _ => none }
def PolicyDecidesWrongFalsely : Prop := policyDecidesRow.holds Try.pinned (OpenSpec.ofChange policyDecidesWrong)

/-- 'soundservicelaw31.PolicyFinds': WHATEVER THE INPUT: true; the input reads as it did. -/
def policyFindsSpec : ChangeSpec := { name := "policyFinds", fn := fun _ => fun
  | [d] => { results := [.lit (.bool true)], args := [d] }
  | _ => none }
def policyFindsRow : OpenClaim := { program := "ytfeejcmeibfomaa", sum := "2f0e43dee6e0247bffcfeec32510b178daec85aa7f309e402da3fe6689d72e7f", func := "soundservice/soundservicelaw31.PolicyFinds", spec := "policyFinds", unfollowed := true, recurses := true, apart := false }
def PolicyFindsSaid : Prop := policyFindsRow.holds Try.pinned (OpenSpec.ofChange policyFindsSpec)

/-- ITS FALSE NEIGHBOUR: 'it returns false'. Refute it at one input. -/
def policyFindsWrong : ChangeSpec := { name := "policyFinds", fn := fun _ => fun
  | [d] => { results := [.lit (.bool false)], args := [d] }
  | _ => none }
def PolicyFindsWrongFalsely : Prop := policyFindsRow.holds Try.pinned (OpenSpec.ofChange policyFindsWrong)

/-- 'soundservicelaw31.PolicyOrder': WHATEVER THE INPUT: true; the input reads as it did. -/
def policyOrderSpec : ChangeSpec := { name := "policyOrder", fn := fun _ => fun
  | [d1, d2] => { results := [.lit (.bool true)], args := [d1, d2] }
  | _ => none }
def policyOrderRow : OpenClaim := { program := "ytfeejcmeibfomaa", sum := "2f0e43dee6e0247bffcfeec32510b178daec85aa7f309e402da3fe6689d72e7f", func := "soundservice/soundservicelaw31.PolicyOrder", spec := "policyOrder", unfollowed := true, recurses := true, apart := false }
def PolicyOrderSaid : Prop := policyOrderRow.holds Try.pinned (OpenSpec.ofChange policyOrderSpec)

/-- ITS FALSE NEIGHBOUR: 'it returns false'. Refute it at one input. -/
def policyOrderWrong : ChangeSpec := { name := "policyOrder", fn := fun _ => fun
  | [d1, d2] => { results := [.lit (.bool false)], args := [d1, d2] }
  | _ => none }
def PolicyOrderWrongFalsely : Prop := policyOrderRow.holds Try.pinned (OpenSpec.ofChange policyOrderWrong)

/-- 'soundservicelaw31.PolicyLowers': WHATEVER THE INPUT: true; the input reads as it did. -/
def policyLowersSpec : ChangeSpec := { name := "policyLowers", fn := fun _ => fun
  | [d1, d2] => { results := [.lit (.bool true)], args := [d1, d2] }
  | _ => none }
def policyLowersRow : OpenClaim := { program := "ytfeejcmeibfomaa", sum := "2f0e43dee6e0247bffcfeec32510b178daec85aa7f309e402da3fe6689d72e7f", func := "soundservice/soundservicelaw31.PolicyLowers", spec := "policyLowers", unfollowed := true, recurses := true, apart := false }
def PolicyLowersSaid : Prop := policyLowersRow.holds Try.pinned (OpenSpec.ofChange policyLowersSpec)

/-- ITS FALSE NEIGHBOUR: 'it returns false'. Refute it at one input. -/
def policyLowersWrong : ChangeSpec := { name := "policyLowers", fn := fun _ => fun
  | [d1, d2] => { results := [.lit (.bool false)], args := [d1, d2] }
  | _ => none }
def PolicyLowersWrongFalsely : Prop := policyLowersRow.holds Try.pinned (OpenSpec.ofChange policyLowersWrong)

/- THE SECOND FORM. 'bulk': how many values and letters a reading holds, each counted each time it is reached (what is shared counts as often as it is met; a slice's spare places count too). A statement '..UptoSaid' is the law's where the arguments, and the package variables that the reading takes, are together of bulk at most 1048576: NARROWER than '..Said'. Prove '..Said' where nothing that the law and all that it calls make is longer than what came in: it says more and counts as full. Else prove '..UptoSaid'. A law counts once. -/
mutual
def uptoBulk {H : Type} : DataW H → Nat
  | .lit (.string bytes) => bytes.length + 1
  | .lit _ => 1
  | .nil => 1
  | .ptr d => uptoBulk d + 1
  | .slice elems spare => uptoBulkAll elems + uptoBulkAll spare + 1
  | .agg parts => uptoBulkAll parts + 1
  | .iface _ d => uptoBulk d + 1
  | .map entries => uptoBulkEntries entries + 1
  | .held _ => 1
def uptoBulkAll {H : Type} : List (DataW H) → Nat
  | [] => 0
  | d :: r => uptoBulk d + uptoBulkAll r
def uptoBulkEntries {H : Type} : List (Lit × DataW H) → Nat
  | [] => 0
  | x :: r => uptoBulkEntry x + uptoBulkEntries r
def uptoBulkEntry {H : Type} : Lit × DataW H → Nat
  | (.string bytes, d) => bytes.length + uptoBulk d + 1
  | (_, d) => uptoBulk d + 1
 end
def uptoSmall : (H : Type) → List (DataW H) → Bool := fun _ ds => decide (uptoBulkAll ds ≤ 1048576)
def OpenSpec.upto (s : _root_.Go.ChangeSpec) : _root_.Go.OpenSpec := { _root_.Go.OpenSpec.ofChange s with cond := some uptoSmall }

/-- 'soundservicelaw31.PolicyDecides', WHERE WHAT IT READS IS OF BULK AT MOST 1048576: true; the input reads as it did. -/
def policyDecidesUptoRow : OpenClaim := { program := "ytfeejcmeibfomaa", sum := "2f0e43dee6e0247bffcfeec32510b178daec85aa7f309e402da3fe6689d72e7f", func := "soundservice/soundservicelaw31.PolicyDecides", spec := "policyDecides", unfollowed := true, recurses := true, apart := false, narrowed := true }
def PolicyDecidesUptoSaid : Prop := policyDecidesUptoRow.holds Try.pinned (OpenSpec.upto policyDecidesSpec)

/-- 'soundservicelaw31.PolicyFinds', WHERE WHAT IT READS IS OF BULK AT MOST 1048576: true; the input reads as it did. -/
def policyFindsUptoRow : OpenClaim := { program := "ytfeejcmeibfomaa", sum := "2f0e43dee6e0247bffcfeec32510b178daec85aa7f309e402da3fe6689d72e7f", func := "soundservice/soundservicelaw31.PolicyFinds", spec := "policyFinds", unfollowed := true, recurses := true, apart := false, narrowed := true }
def PolicyFindsUptoSaid : Prop := policyFindsUptoRow.holds Try.pinned (OpenSpec.upto policyFindsSpec)

/-- 'soundservicelaw31.PolicyOrder', WHERE WHAT IT READS IS OF BULK AT MOST 1048576: true; the input reads as it did. -/
def policyOrderUptoRow : OpenClaim := { program := "ytfeejcmeibfomaa", sum := "2f0e43dee6e0247bffcfeec32510b178daec85aa7f309e402da3fe6689d72e7f", func := "soundservice/soundservicelaw31.PolicyOrder", spec := "policyOrder", unfollowed := true, recurses := true, apart := false, narrowed := true }
def PolicyOrderUptoSaid : Prop := policyOrderUptoRow.holds Try.pinned (OpenSpec.upto policyOrderSpec)

/-- 'soundservicelaw31.PolicyLowers', WHERE WHAT IT READS IS OF BULK AT MOST 1048576: true; the input reads as it did. -/
def policyLowersUptoRow : OpenClaim := { program := "ytfeejcmeibfomaa", sum := "2f0e43dee6e0247bffcfeec32510b178daec85aa7f309e402da3fe6689d72e7f", func := "soundservice/soundservicelaw31.PolicyLowers", spec := "policyLowers", unfollowed := true, recurses := true, apart := false, narrowed := true }
def PolicyLowersUptoSaid : Prop := policyLowersUptoRow.holds Try.pinned (OpenSpec.upto policyLowersSpec)

end Rows
end Go.Proofs.Ytfeejcmeibfomaa
