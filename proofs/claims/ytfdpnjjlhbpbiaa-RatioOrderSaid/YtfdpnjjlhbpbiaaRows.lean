/-
  No cell of these rows narrows 'for every input' (looked for: loops, veiled, ifaces, maps, wideKeys, modest, calm, conditions, laid).
  DERIVED. THE GIVEN ROWS OF THIS SEAT. 7 by the template 'for every input the law returns true; each argument reads behind the call as it read before'; 0 by the template 'total and deterministic' (their statements: YtfdpnjjlhbpbiaaTotals.lean).
  GIVEN WITH THE SEED: the statements are not yours to turn. If you find one false, say at which input.
  Laid BY PROGRAM, IN A SANDBOX (cutbox-rows.mjs): the forced cells as the released guide's own fill.sh prints them over the translation e75c5294d6d8f16c… (all of the seat's roots in one cut). By AI agents, Wed Nov 11 2026. No macro, syntax, notation, axiom, sorry.
-/
import Derived.Test.YtfdpnjjlhbpbiaaChecked
import GoSem.Claim
import GoSem.ClaimJoined
import GoSem.ClaimMapViews
import Derived.JoinedTies
import Derived.KernelRfl
namespace Go.Proofs.Ytfdpnjjlhbpbiaa
/- THE CELL 'sum', in the pinned program and in every row, IS THE sha256 OF THE DUMP (.gsa) THAT YtfdpnjjlhbpbiaaProg.lean LOADS. Nothing in Lean hashes anything: it is a label: what it is worth is what the hold of that sum in a sandbox is worth. -/
noncomputable def Try.pinned : Pinned := { name := "ytfdpnjjlhbpbiaa", sum := "e75c5294d6d8f16c23bb3a98367dfec3ecffc9a389067eddecba067e5b560aa2", checked := Try.checked }
namespace Rows
def none {H : Type} : Left H := { results := [], args := [] }

/-- 'soundservicelaw03.RatioMakes': WHATEVER THE INPUT: true; the input reads as it did. -/
def ratioMakesSpec : ChangeSpec := { name := "ratioMakes", fn := fun _ => fun
  | [d1, d2, d3] => { results := [.lit (.bool true)], args := [d1, d2, d3] }
  | _ => none }
def ratioMakesRow : OpenClaim := { program := "ytfdpnjjlhbpbiaa", sum := "e75c5294d6d8f16c23bb3a98367dfec3ecffc9a389067eddecba067e5b560aa2", func := "soundservice/soundservicelaw03.RatioMakes", spec := "ratioMakes", named := ["math/bits.divideError", "math/bits.overflowError"], apart := false }
def RatioMakesSaid : Prop := ratioMakesRow.holds Try.pinned (OpenSpec.ofChange ratioMakesSpec)

/-- ITS FALSE NEIGHBOUR: 'it returns false'. Refute it at one input. -/
def ratioMakesWrong : ChangeSpec := { name := "ratioMakes", fn := fun _ => fun
  | [d1, d2, d3] => { results := [.lit (.bool false)], args := [d1, d2, d3] }
  | _ => none }
def RatioMakesWrongFalsely : Prop := ratioMakesRow.holds Try.pinned (OpenSpec.ofChange ratioMakesWrong)

/-- 'soundservicelaw03.RatioFloors': WHATEVER THE INPUT: true; the input reads as it did. -/
def ratioFloorsSpec : ChangeSpec := { name := "ratioFloors", fn := fun _ => fun
  | [d1, d2, d3, d4] => { results := [.lit (.bool true)], args := [d1, d2, d3, d4] }
  | _ => none }
def ratioFloorsRow : OpenClaim := { program := "ytfdpnjjlhbpbiaa", sum := "e75c5294d6d8f16c23bb3a98367dfec3ecffc9a389067eddecba067e5b560aa2", func := "soundservice/soundservicelaw03.RatioFloors", spec := "ratioFloors", named := ["math/bits.divideError", "math/bits.overflowError"], apart := false }
def RatioFloorsSaid : Prop := ratioFloorsRow.holds Try.pinned (OpenSpec.ofChange ratioFloorsSpec)

/-- ITS FALSE NEIGHBOUR: 'it returns false'. Refute it at one input. -/
def ratioFloorsWrong : ChangeSpec := { name := "ratioFloors", fn := fun _ => fun
  | [d1, d2, d3, d4] => { results := [.lit (.bool false)], args := [d1, d2, d3, d4] }
  | _ => none }
def RatioFloorsWrongFalsely : Prop := ratioFloorsRow.holds Try.pinned (OpenSpec.ofChange ratioFloorsWrong)

/-- 'soundservicelaw03.RatioDivides': WHATEVER THE INPUT: true; the input reads as it did. -/
def ratioDividesSpec : ChangeSpec := { name := "ratioDivides", fn := fun _ => fun
  | [d1, d2, d3] => { results := [.lit (.bool true)], args := [d1, d2, d3] }
  | _ => none }
def ratioDividesRow : OpenClaim := { program := "ytfdpnjjlhbpbiaa", sum := "e75c5294d6d8f16c23bb3a98367dfec3ecffc9a389067eddecba067e5b560aa2", func := "soundservice/soundservicelaw03.RatioDivides", spec := "ratioDivides", named := ["math/bits.divideError", "math/bits.overflowError"], apart := false }
def RatioDividesSaid : Prop := ratioDividesRow.holds Try.pinned (OpenSpec.ofChange ratioDividesSpec)

/-- ITS FALSE NEIGHBOUR: 'it returns false'. Refute it at one input. -/
def ratioDividesWrong : ChangeSpec := { name := "ratioDivides", fn := fun _ => fun
  | [d1, d2, d3] => { results := [.lit (.bool false)], args := [d1, d2, d3] }
  | _ => none }
def RatioDividesWrongFalsely : Prop := ratioDividesRow.holds Try.pinned (OpenSpec.ofChange ratioDividesWrong)

/-- 'soundservicelaw03.RatioGalois': WHATEVER THE INPUT: true; the input reads as it did. -/
def ratioGaloisSpec : ChangeSpec := { name := "ratioGalois", fn := fun _ => fun
  | [d1, d2, d3, d4] => { results := [.lit (.bool true)], args := [d1, d2, d3, d4] }
  | _ => none }
def ratioGaloisRow : OpenClaim := { program := "ytfdpnjjlhbpbiaa", sum := "e75c5294d6d8f16c23bb3a98367dfec3ecffc9a389067eddecba067e5b560aa2", func := "soundservice/soundservicelaw03.RatioGalois", spec := "ratioGalois", named := ["math/bits.divideError", "math/bits.overflowError"], apart := false }
def RatioGaloisSaid : Prop := ratioGaloisRow.holds Try.pinned (OpenSpec.ofChange ratioGaloisSpec)

/-- ITS FALSE NEIGHBOUR: 'it returns false'. Refute it at one input. -/
def ratioGaloisWrong : ChangeSpec := { name := "ratioGalois", fn := fun _ => fun
  | [d1, d2, d3, d4] => { results := [.lit (.bool false)], args := [d1, d2, d3, d4] }
  | _ => none }
def RatioGaloisWrongFalsely : Prop := ratioGaloisRow.holds Try.pinned (OpenSpec.ofChange ratioGaloisWrong)

/-- 'soundservicelaw03.RatioChains': WHATEVER THE INPUT: true; the input reads as it did. -/
def ratioChainsSpec : ChangeSpec := { name := "ratioChains", fn := fun _ => fun
  | [d1, d2, d3, d4, d5, d6] => { results := [.lit (.bool true)], args := [d1, d2, d3, d4, d5, d6] }
  | _ => none }
def ratioChainsRow : OpenClaim := { program := "ytfdpnjjlhbpbiaa", sum := "e75c5294d6d8f16c23bb3a98367dfec3ecffc9a389067eddecba067e5b560aa2", func := "soundservice/soundservicelaw03.RatioChains", spec := "ratioChains", named := ["math/bits.divideError", "math/bits.overflowError"], apart := false }
def RatioChainsSaid : Prop := ratioChainsRow.holds Try.pinned (OpenSpec.ofChange ratioChainsSpec)

/-- ITS FALSE NEIGHBOUR: 'it returns false'. Refute it at one input. -/
def ratioChainsWrong : ChangeSpec := { name := "ratioChains", fn := fun _ => fun
  | [d1, d2, d3, d4, d5, d6] => { results := [.lit (.bool false)], args := [d1, d2, d3, d4, d5, d6] }
  | _ => none }
def RatioChainsWrongFalsely : Prop := ratioChainsRow.holds Try.pinned (OpenSpec.ofChange ratioChainsWrong)

/-- 'soundservicelaw03.RatioMuls': WHATEVER THE INPUT: true; the input reads as it did. -/
def ratioMulsSpec : ChangeSpec := { name := "ratioMuls", fn := fun _ => fun
  | [d1, d2, d3, d4, d5, d6] => { results := [.lit (.bool true)], args := [d1, d2, d3, d4, d5, d6] }
  | _ => none }
def ratioMulsRow : OpenClaim := { program := "ytfdpnjjlhbpbiaa", sum := "e75c5294d6d8f16c23bb3a98367dfec3ecffc9a389067eddecba067e5b560aa2", func := "soundservice/soundservicelaw03.RatioMuls", spec := "ratioMuls", named := ["math/bits.divideError", "math/bits.overflowError"], apart := false }
def RatioMulsSaid : Prop := ratioMulsRow.holds Try.pinned (OpenSpec.ofChange ratioMulsSpec)

/-- ITS FALSE NEIGHBOUR: 'it returns false'. Refute it at one input. -/
def ratioMulsWrong : ChangeSpec := { name := "ratioMuls", fn := fun _ => fun
  | [d1, d2, d3, d4, d5, d6] => { results := [.lit (.bool false)], args := [d1, d2, d3, d4, d5, d6] }
  | _ => none }
def RatioMulsWrongFalsely : Prop := ratioMulsRow.holds Try.pinned (OpenSpec.ofChange ratioMulsWrong)

/-- 'soundservicelaw03.RatioOrder': WHATEVER THE INPUT: true; the input reads as it did. -/
def ratioOrderSpec : ChangeSpec := { name := "ratioOrder", fn := fun _ => fun
  | [d1, d2, d3, d4, d5] => { results := [.lit (.bool true)], args := [d1, d2, d3, d4, d5] }
  | _ => none }
def ratioOrderRow : OpenClaim := { program := "ytfdpnjjlhbpbiaa", sum := "e75c5294d6d8f16c23bb3a98367dfec3ecffc9a389067eddecba067e5b560aa2", func := "soundservice/soundservicelaw03.RatioOrder", spec := "ratioOrder", named := ["math/bits.divideError", "math/bits.overflowError"], apart := false }
def RatioOrderSaid : Prop := ratioOrderRow.holds Try.pinned (OpenSpec.ofChange ratioOrderSpec)

/-- ITS FALSE NEIGHBOUR: 'it returns false'. Refute it at one input. -/
def ratioOrderWrong : ChangeSpec := { name := "ratioOrder", fn := fun _ => fun
  | [d1, d2, d3, d4, d5] => { results := [.lit (.bool false)], args := [d1, d2, d3, d4, d5] }
  | _ => none }
def RatioOrderWrongFalsely : Prop := ratioOrderRow.holds Try.pinned (OpenSpec.ofChange ratioOrderWrong)

/- THE SECOND FORM. 'bulk': how many values and letters a reading holds, each counted each time it is reached (what is shared counts as often as it is met; a slice's spare places count too). A statement '..UptoSaid' is the law's where the arguments, and the package variables that the reading takes, are together of bulk at most 1048576: NARROWER than '..Said'. Prove '..Said' where nothing that the law and all that it calls make is longer than what came in: it says more and counts as full. Else prove '..UptoSaid'. A law counts once. -/
mutual
def uptoBulk {H : Type} : DataW H → Nat
  | .lit (.string bytes) => bytes.length + 1
  | .lit _ => 1
  | .nil => 1
  | .ptr d => uptoBulk d + 1
  | .slice elems spare => uptoBulkAll elems + uptoBulkAll spare + 1
  | .agg parts => uptoBulkAll parts + 1
  | .iface _ d => uptoBulk d + 1
  | .map entries => uptoBulkEntries entries + 1
  | .held _ => 1
def uptoBulkAll {H : Type} : List (DataW H) → Nat
  | [] => 0
  | d :: r => uptoBulk d + uptoBulkAll r
def uptoBulkEntries {H : Type} : List (Lit × DataW H) → Nat
  | [] => 0
  | x :: r => uptoBulkEntry x + uptoBulkEntries r
def uptoBulkEntry {H : Type} : Lit × DataW H → Nat
  | (.string bytes, d) => bytes.length + uptoBulk d + 1
  | (_, d) => uptoBulk d + 1
 end
def uptoSmall : (H : Type) → List (DataW H) → Bool := fun _ ds => decide (uptoBulkAll ds ≤ 1048576)
def OpenSpec.upto (s : _root_.Go.ChangeSpec) : _root_.Go.OpenSpec := { _root_.Go.OpenSpec.ofChange s with cond := some uptoSmall }

/-- 'soundservicelaw03.RatioMakes', WHERE WHAT IT READS IS OF BULK AT MOST 1048576: true; the input reads as it did. -/
def ratioMakesUptoRow : OpenClaim := { program := "ytfdpnjjlhbpbiaa", sum := "e75c5294d6d8f16c23bb3a98367dfec3ecffc9a389067eddecba067e5b560aa2", func := "soundservice/soundservicelaw03.RatioMakes", spec := "ratioMakes", named := ["math/bits.divideError", "math/bits.overflowError"], apart := false, narrowed := true }
def RatioMakesUptoSaid : Prop := ratioMakesUptoRow.holds Try.pinned (OpenSpec.upto ratioMakesSpec)

/-- 'soundservicelaw03.RatioFloors', WHERE WHAT IT READS IS OF BULK AT MOST 1048576: true; the input reads as it did. -/
def ratioFloorsUptoRow : OpenClaim := { program := "ytfdpnjjlhbpbiaa", sum := "e75c5294d6d8f16c23bb3a98367dfec3ecffc9a389067eddecba067e5b560aa2", func := "soundservice/soundservicelaw03.RatioFloors", spec := "ratioFloors", named := ["math/bits.divideError", "math/bits.overflowError"], apart := false, narrowed := true }
def RatioFloorsUptoSaid : Prop := ratioFloorsUptoRow.holds Try.pinned (OpenSpec.upto ratioFloorsSpec)

/-- 'soundservicelaw03.RatioDivides', WHERE WHAT IT READS IS OF BULK AT MOST 1048576: true; the input reads as it did. -/
def ratioDividesUptoRow : OpenClaim := { program := "ytfdpnjjlhbpbiaa", sum := "e75c5294d6d8f16c23bb3a98367dfec3ecffc9a389067eddecba067e5b560aa2", func := "soundservice/soundservicelaw03.RatioDivides", spec := "ratioDivides", named := ["math/bits.divideError", "math/bits.overflowError"], apart := false, narrowed := true }
def RatioDividesUptoSaid : Prop := ratioDividesUptoRow.holds Try.pinned (OpenSpec.upto ratioDividesSpec)

/-- 'soundservicelaw03.RatioGalois', WHERE WHAT IT READS IS OF BULK AT MOST 1048576: true; the input reads as it did. -/
def ratioGaloisUptoRow : OpenClaim := { program := "ytfdpnjjlhbpbiaa", sum := "e75c5294d6d8f16c23bb3a98367dfec3ecffc9a389067eddecba067e5b560aa2", func := "soundservice/soundservicelaw03.RatioGalois", spec := "ratioGalois", named := ["math/bits.divideError", "math/bits.overflowError"], apart := false, narrowed := true }
def RatioGaloisUptoSaid : Prop := ratioGaloisUptoRow.holds Try.pinned (OpenSpec.upto ratioGaloisSpec)

/-- 'soundservicelaw03.RatioChains', WHERE WHAT IT READS IS OF BULK AT MOST 1048576: true; the input reads as it did. -/
def ratioChainsUptoRow : OpenClaim := { program := "ytfdpnjjlhbpbiaa", sum := "e75c5294d6d8f16c23bb3a98367dfec3ecffc9a389067eddecba067e5b560aa2", func := "soundservice/soundservicelaw03.RatioChains", spec := "ratioChains", named := ["math/bits.divideError", "math/bits.overflowError"], apart := false, narrowed := true }
def RatioChainsUptoSaid : Prop := ratioChainsUptoRow.holds Try.pinned (OpenSpec.upto ratioChainsSpec)

/-- 'soundservicelaw03.RatioMuls', WHERE WHAT IT READS IS OF BULK AT MOST 1048576: true; the input reads as it did. -/
def ratioMulsUptoRow : OpenClaim := { program := "ytfdpnjjlhbpbiaa", sum := "e75c5294d6d8f16c23bb3a98367dfec3ecffc9a389067eddecba067e5b560aa2", func := "soundservice/soundservicelaw03.RatioMuls", spec := "ratioMuls", named := ["math/bits.divideError", "math/bits.overflowError"], apart := false, narrowed := true }
def RatioMulsUptoSaid : Prop := ratioMulsUptoRow.holds Try.pinned (OpenSpec.upto ratioMulsSpec)

/-- 'soundservicelaw03.RatioOrder', WHERE WHAT IT READS IS OF BULK AT MOST 1048576: true; the input reads as it did. -/
def ratioOrderUptoRow : OpenClaim := { program := "ytfdpnjjlhbpbiaa", sum := "e75c5294d6d8f16c23bb3a98367dfec3ecffc9a389067eddecba067e5b560aa2", func := "soundservice/soundservicelaw03.RatioOrder", spec := "ratioOrder", named := ["math/bits.divideError", "math/bits.overflowError"], apart := false, narrowed := true }
def RatioOrderUptoSaid : Prop := ratioOrderUptoRow.holds Try.pinned (OpenSpec.upto ratioOrderSpec)

end Rows
end Go.Proofs.Ytfdpnjjlhbpbiaa
