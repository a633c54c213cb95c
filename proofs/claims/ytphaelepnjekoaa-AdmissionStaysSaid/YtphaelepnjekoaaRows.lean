/-
  No cell of these rows narrows 'for every input' (looked for: loops, veiled, ifaces, maps, wideKeys, modest, calm, conditions, laid).
  DERIVED. THE GIVEN ROWS OF THIS SEAT. 4 by the template 'for every input the law returns true; each argument reads behind the call as it read before'; 0 by the template 'total and deterministic' (their statements: YtphaelepnjekoaaTotals.lean).
  GIVEN WITH THE SEED: the statements are not yours to turn. If you find one false, say at which input.
  Laid BY PROGRAM, IN A SANDBOX (cutbox-rows.mjs): the forced cells as the released guide's own fill.sh prints them over the translation 0af135f5f99a6781… (all of the seat's roots in one cut). By AI agents, Wed Nov 11 2026. No macro, syntax, notation, axiom, sorry.
-/
import Derived.Test.YtphaelepnjekoaaChecked
import GoSem.Claim
import GoSem.ClaimJoined
import GoSem.ClaimMapViews
import Derived.JoinedTies
import Derived.KernelRfl
namespace Go.Proofs.Ytphaelepnjekoaa
/- THE CELL 'sum', in the pinned program and in every row, IS THE sha256 OF THE DUMP (.gsa) THAT YtphaelepnjekoaaProg.lean LOADS. Nothing in Lean hashes anything: it is a label: what it is worth is what the hold of that sum in a sandbox is worth. -/
noncomputable def Try.pinned : Pinned := { name := "ytphaelepnjekoaa", sum := "0af135f5f99a6781d3313ac959948957214242a4df57f03a97f1c9a6bf5f90c9", checked := Try.checked }
namespace Rows
def none {H : Type} : Left H := { results := [], args := [] }

/-- 'soundservicelaw27.AdmissionLoads': WHATEVER THE INPUT: true; the input reads as it did. -/
def admissionLoadsSpec : ChangeSpec := { name := "admissionLoads", fn := fun _ => fun
  | [d1, d2, d3] => { results := [.lit (.bool true)], args := [d1, d2, d3] }
  | _ => none }
def admissionLoadsRow : OpenClaim := { program := "ytphaelepnjekoaa", sum := "0af135f5f99a6781d3313ac959948957214242a4df57f03a97f1c9a6bf5f90c9", func := "soundservice/soundservicelaw27.AdmissionLoads", spec := "admissionLoads", inPlace := ["slices.overlaps[soundservice/api.Hosted]", "slices.overlaps[soundservice/api.Seat]"], unfollowed := true, recurses := true, apart := false }
def AdmissionLoadsSaid : Prop := admissionLoadsRow.holds Try.pinned (OpenSpec.ofChange admissionLoadsSpec)

/-- ITS FALSE NEIGHBOUR: 'it returns false'. Refute it at one input. -/
def admissionLoadsWrong : ChangeSpec := { name := "admissionLoads", fn := fun _ => fun
  | [d1, d2, d3] => { results := [.lit (.bool false)], args := [d1, d2, d3] }
  | _ => none }
def AdmissionLoadsWrongFalsely : Prop := admissionLoadsRow.holds Try.pinned (OpenSpec.ofChange admissionLoadsWrong)

/-- 'soundservicelaw27.AdmissionStays': WHATEVER THE INPUT: true; the input reads as it did. -/
def admissionStaysSpec : ChangeSpec := { name := "admissionStays", fn := fun _ => fun
  | [d1, d2, d3, d4] => { results := [.lit (.bool true)], args := [d1, d2, d3, d4] }
  | _ => none }
def admissionStaysRow : OpenClaim := { program := "ytphaelepnjekoaa", sum := "0af135f5f99a6781d3313ac959948957214242a4df57f03a97f1c9a6bf5f90c9", func := "soundservice/soundservicelaw27.AdmissionStays", spec := "admissionStays", inPlace := ["slices.overlaps[soundservice/api.Hosted]", "slices.overlaps[soundservice/api.Seat]"], unfollowed := true, recurses := true, apart := false }
def AdmissionStaysSaid : Prop := admissionStaysRow.holds Try.pinned (OpenSpec.ofChange admissionStaysSpec)

/-- ITS FALSE NEIGHBOUR: 'it returns false'. Refute it at one input. -/
def admissionStaysWrong : ChangeSpec := { name := "admissionStays", fn := fun _ => fun
  | [d1, d2, d3, d4] => { results := [.lit (.bool false)], args := [d1, d2, d3, d4] }
  | _ => none }
def AdmissionStaysWrongFalsely : Prop := admissionStaysRow.holds Try.pinned (OpenSpec.ofChange admissionStaysWrong)

/-- 'soundservicelaw27.AdmissionHosts': WHATEVER THE INPUT: true; the input reads as it did. -/
def admissionHostsSpec : ChangeSpec := { name := "admissionHosts", fn := fun _ => fun
  | [d1, d2, d3, d4] => { results := [.lit (.bool true)], args := [d1, d2, d3, d4] }
  | _ => none }
def admissionHostsRow : OpenClaim := { program := "ytphaelepnjekoaa", sum := "0af135f5f99a6781d3313ac959948957214242a4df57f03a97f1c9a6bf5f90c9", func := "soundservice/soundservicelaw27.AdmissionHosts", spec := "admissionHosts", inPlace := ["slices.overlaps[soundservice/api.Hosted]", "slices.overlaps[soundservice/api.Seat]"], unfollowed := true, recurses := true, apart := false }
def AdmissionHostsSaid : Prop := admissionHostsRow.holds Try.pinned (OpenSpec.ofChange admissionHostsSpec)

/-- ITS FALSE NEIGHBOUR: 'it returns false'. Refute it at one input. -/
def admissionHostsWrong : ChangeSpec := { name := "admissionHosts", fn := fun _ => fun
  | [d1, d2, d3, d4] => { results := [.lit (.bool false)], args := [d1, d2, d3, d4] }
  | _ => none }
def AdmissionHostsWrongFalsely : Prop := admissionHostsRow.holds Try.pinned (OpenSpec.ofChange admissionHostsWrong)

/-- 'soundservicelaw27.AdmissionSeats': WHATEVER THE INPUT: true; the input reads as it did. -/
def admissionSeatsSpec : ChangeSpec := { name := "admissionSeats", fn := fun _ => fun
  | [d1, d2, d3, d4, d5, d6, d7] => { results := [.lit (.bool true)], args := [d1, d2, d3, d4, d5, d6, d7] }
  | _ => none }
def admissionSeatsRow : OpenClaim := { program := "ytphaelepnjekoaa", sum := "0af135f5f99a6781d3313ac959948957214242a4df57f03a97f1c9a6bf5f90c9", func := "soundservice/soundservicelaw27.AdmissionSeats", spec := "admissionSeats", inPlace := ["slices.overlaps[soundservice/api.Hosted]", "slices.overlaps[soundservice/api.Seat]"], unfollowed := true, recurses := true, apart := false }
def AdmissionSeatsSaid : Prop := admissionSeatsRow.holds Try.pinned (OpenSpec.ofChange admissionSeatsSpec)

/-- ITS FALSE NEIGHBOUR: 'it returns false'. Refute it at one input. -/
def admissionSeatsWrong : ChangeSpec := { name := "admissionSeats", fn := fun _ => fun
  | [d1, d2, d3, d4, d5, d6, d7] => { results := [.lit (.bool false)], args := [d1, d2, d3, d4, d5, d6, d7] }
  | _ => none }
def AdmissionSeatsWrongFalsely : Prop := admissionSeatsRow.holds Try.pinned (OpenSpec.ofChange admissionSeatsWrong)

/- THE SECOND FORM. 'bulk': how many values and letters a reading holds, each counted each time it is reached (what is shared counts as often as it is met; a slice's spare places count too). A statement '..UptoSaid' is the law's where the arguments, and the package variables that the reading takes, are together of bulk at most 1048576: NARROWER than '..Said'. Prove '..Said' where nothing that the law and all that it calls make is longer than what came in: it says more and counts as full. Else prove '..UptoSaid'. A law counts once. -/
mutual
def uptoBulk {H : Type} : DataW H → Nat
  | .lit (.string bytes) => bytes.length + 1
  | .lit _ => 1
  | .nil => 1
  | .ptr d => uptoBulk d + 1
  | .slice elems spare => uptoBulkAll elems + uptoBulkAll spare + 1
  | .agg parts => uptoBulkAll parts + 1
  | .iface _ d => uptoBulk d + 1
  | .map entries => uptoBulkEntries entries + 1
  | .held _ => 1
def uptoBulkAll {H : Type} : List (DataW H) → Nat
  | [] => 0
  | d :: r => uptoBulk d + uptoBulkAll r
def uptoBulkEntries {H : Type} : List (Lit × DataW H) → Nat
  | [] => 0
  | x :: r => uptoBulkEntry x + uptoBulkEntries r
def uptoBulkEntry {H : Type} : Lit × DataW H → Nat
  | (.string bytes, d) => bytes.length + uptoBulk d + 1
  | (_, d) => uptoBulk d + 1
 end
def uptoSmall : (H : Type) → List (DataW H) → Bool := fun _ ds => decide (uptoBulkAll ds ≤ 1048576)
def OpenSpec.upto (s : _root_.Go.ChangeSpec) : _root_.Go.OpenSpec := { _root_.Go.OpenSpec.ofChange s with cond := some uptoSmall }

/-- 'soundservicelaw27.AdmissionLoads', WHERE WHAT IT READS IS OF BULK AT MOST 1048576: true; the input reads as it did. -/
def admissionLoadsUptoRow : OpenClaim := { program := "ytphaelepnjekoaa", sum := "0af135f5f99a6781d3313ac959948957214242a4df57f03a97f1c9a6bf5f90c9", func := "soundservice/soundservicelaw27.AdmissionLoads", spec := "admissionLoads", inPlace := ["slices.overlaps[soundservice/api.Hosted]", "slices.overlaps[soundservice/api.Seat]"], unfollowed := true, recurses := true, apart := false, narrowed := true }
def AdmissionLoadsUptoSaid : Prop := admissionLoadsUptoRow.holds Try.pinned (OpenSpec.upto admissionLoadsSpec)

/-- 'soundservicelaw27.AdmissionStays', WHERE WHAT IT READS IS OF BULK AT MOST 1048576: true; the input reads as it did. -/
def admissionStaysUptoRow : OpenClaim := { program := "ytphaelepnjekoaa", sum := "0af135f5f99a6781d3313ac959948957214242a4df57f03a97f1c9a6bf5f90c9", func := "soundservice/soundservicelaw27.AdmissionStays", spec := "admissionStays", inPlace := ["slices.overlaps[soundservice/api.Hosted]", "slices.overlaps[soundservice/api.Seat]"], unfollowed := true, recurses := true, apart := false, narrowed := true }
def AdmissionStaysUptoSaid : Prop := admissionStaysUptoRow.holds Try.pinned (OpenSpec.upto admissionStaysSpec)

/-- 'soundservicelaw27.AdmissionHosts', WHERE WHAT IT READS IS OF BULK AT MOST 1048576: true; the input reads as it did. -/
def admissionHostsUptoRow : OpenClaim := { program := "ytphaelepnjekoaa", sum := "0af135f5f99a6781d3313ac959948957214242a4df57f03a97f1c9a6bf5f90c9", func := "soundservice/soundservicelaw27.AdmissionHosts", spec := "admissionHosts", inPlace := ["slices.overlaps[soundservice/api.Hosted]", "slices.overlaps[soundservice/api.Seat]"], unfollowed := true, recurses := true, apart := false, narrowed := true }
def AdmissionHostsUptoSaid : Prop := admissionHostsUptoRow.holds Try.pinned (OpenSpec.upto admissionHostsSpec)

/-- 'soundservicelaw27.AdmissionSeats', WHERE WHAT IT READS IS OF BULK AT MOST 1048576: true; the input reads as it did. -/
def admissionSeatsUptoRow : OpenClaim := { program := "ytphaelepnjekoaa", sum := "0af135f5f99a6781d3313ac959948957214242a4df57f03a97f1c9a6bf5f90c9", func := "soundservice/soundservicelaw27.AdmissionSeats", spec := "admissionSeats", inPlace := ["slices.overlaps[soundservice/api.Hosted]", "slices.overlaps[soundservice/api.Seat]"], unfollowed := true, recurses := true, apart := false, narrowed := true }
def AdmissionSeatsUptoSaid : Prop := admissionSeatsUptoRow.holds Try.pinned (OpenSpec.upto admissionSeatsSpec)

end Rows
end Go.Proofs.Ytphaelepnjekoaa
