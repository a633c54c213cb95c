/-
  NARROWER THAN 'FOR EVERY INPUT', by the rows' own cells (each row's printed sentence says how): ChannelsTexts: laid · ChannelsApart: laid · ChannelsLists: laid · ChannelsBack: laid.
  DERIVED. THE GIVEN ROWS OF THIS SEAT. 4 by the template 'for every input the law returns true; each argument reads behind the call as it read before'; 0 by the template 'total and deterministic' (their statements: YtojecjbhdligcaaDoorTotals.lean).
  GIVEN WITH THE SEED: the statements are not yours to turn. If you find one false, say at which input.
  Laid BY PROGRAM, IN A SANDBOX (cutbox-rows.mjs): the forced cells as the released guide's own fill.sh prints them over the translation f6aea119d0b9de48… (all of the seat's roots in one cut). By AI agents, Wed Nov 11 2026. No macro, syntax, notation, axiom, sorry.
-/
import Derived.Test.YtojecjbhdligcaaDoorChecked
import GoSem.PinnedTables
import GoSem.Claim
import GoSem.ClaimJoined
import GoSem.ClaimMapViews
import Derived.JoinedTies
import Derived.KernelRfl
namespace Go.Proofs.YtojecjbhdligcaaDoor
/- THE CELL 'sum', in the pinned program and in every row, IS THE sha256 OF THE DUMP (.gsa) THAT YtojecjbhdligcaaDoorProg.lean LOADS. Nothing in Lean hashes anything: it is a label: what it is worth is what the hold of that sum in a sandbox is worth. -/
noncomputable def Tryd.pinned : Pinned := { name := "ytojecjbhdligcaadoor", sum := "f6aea119d0b9de48a06ed8e0f927aad5bfbdf903ce0bc2a8c8edf64b0c11ab6f", checked := Tryd.checked }
namespace Rows
def none {H : Type} : Left H := { results := [], args := [] }

/- WHAT THE LISTED PACKAGE-LEVEL VARIABLES READ AS WHEN THE CALL BEGINS. Each datum BY PROGRAM (the guide's laid-datum.mjs) off the statement by which the dump's own 'gosem.cut.vars' lays the variable. In a bare row this is a premise. The card (YtojecjbhdligcaaDoorCards.lean) ties it to the program's text. -/
def laid_unicode_utf8_acceptRanges {H : Type} : DataW H := .agg [.agg [.lit (.int .u8 128), .lit (.int .u8 191)], .agg [.lit (.int .u8 160), .lit (.int .u8 191)], .agg [.lit (.int .u8 128), .lit (.int .u8 159)], .agg [.lit (.int .u8 144), .lit (.int .u8 191)], .agg [.lit (.int .u8 128), .lit (.int .u8 143)], .agg [.lit (.int .u8 0), .lit (.int .u8 0)], .agg [.lit (.int .u8 0), .lit (.int .u8 0)], .agg [.lit (.int .u8 0), .lit (.int .u8 0)], .agg [.lit (.int .u8 0), .lit (.int .u8 0)], .agg [.lit (.int .u8 0), .lit (.int .u8 0)], .agg [.lit (.int .u8 0), .lit (.int .u8 0)], .agg [.lit (.int .u8 0), .lit (.int .u8 0)], .agg [.lit (.int .u8 0), .lit (.int .u8 0)], .agg [.lit (.int .u8 0), .lit (.int .u8 0)], .agg [.lit (.int .u8 0), .lit (.int .u8 0)], .agg [.lit (.int .u8 0), .lit (.int .u8 0)]]
def laid_soundservice_channels_names {H : Type} : DataW H := .agg [.lit (.string [63]), .lit (.string [70, 76]), .lit (.string [70, 82]), .lit (.string [70, 67]), .lit (.string [76, 70]), .lit (.string [66, 76]), .lit (.string [66, 82]), .lit (.string [83, 76]), .lit (.string [83, 82])]
/-- One of Go's own tables, pinned by name: the form's constant. -/
def laid_unicode_utf8_first : DataW Unit := Go.Pinned.utf8First

/-- 'soundservicelaw06.ChannelsTexts': WHATEVER THE INPUT: true; the input reads as it did. -/
def channelsTextsSpec : ChangeSpec := { name := "channelsTexts", fn := fun _ => fun
  | [d1, d2] => { results := [.lit (.bool true)], args := [d1, d2] }
  | _ => none }
def channelsTextsRow : OpenClaim := { program := "ytojecjbhdligcaadoor", sum := "f6aea119d0b9de48a06ed8e0f927aad5bfbdf903ce0bc2a8c8edf64b0c11ab6f", func := "soundservice/soundservicelaw06.ChannelsTexts", spec := "channelsTexts", inPlace := ["internal/bytealg.CountString", "internal/bytealg.IndexByteString", "internal/bytealg.IndexString", "internal/abi.NoEscape", "internal/bytealg.MakeNoZero"], named := ["soundservice/channels.names", "unicode/utf8.first", "unicode/utf8.acceptRanges", "internal/bytealg.MaxLen"], apart := false, laid := [("unicode/utf8.acceptRanges", laid_unicode_utf8_acceptRanges), ("soundservice/channels.names", laid_soundservice_channels_names), ("unicode/utf8.first", laid_unicode_utf8_first)] }
def ChannelsTextsSaid : Prop := channelsTextsRow.holds Tryd.pinned (OpenSpec.ofChange channelsTextsSpec)

/-- ITS FALSE NEIGHBOUR: 'it returns false'. Refute it at one input. -/
def channelsTextsWrong : ChangeSpec := { name := "channelsTexts", fn := fun _ => fun
  | [d1, d2] => { results := [.lit (.bool false)], args := [d1, d2] }
  | _ => none }
def ChannelsTextsWrongFalsely : Prop := channelsTextsRow.holds Tryd.pinned (OpenSpec.ofChange channelsTextsWrong)

/-- 'soundservicelaw06.ChannelsApart': WHATEVER THE INPUT: true; the input reads as it did. -/
def channelsApartSpec : ChangeSpec := { name := "channelsApart", fn := fun _ => fun
  | [d1, d2, d3] => { results := [.lit (.bool true)], args := [d1, d2, d3] }
  | _ => none }
def channelsApartRow : OpenClaim := { program := "ytojecjbhdligcaadoor", sum := "f6aea119d0b9de48a06ed8e0f927aad5bfbdf903ce0bc2a8c8edf64b0c11ab6f", func := "soundservice/soundservicelaw06.ChannelsApart", spec := "channelsApart", inPlace := ["internal/bytealg.CountString", "internal/bytealg.IndexByteString", "internal/bytealg.IndexString", "internal/abi.NoEscape", "internal/bytealg.MakeNoZero"], named := ["soundservice/channels.names", "unicode/utf8.first", "unicode/utf8.acceptRanges", "internal/bytealg.MaxLen"], apart := false, laid := [("unicode/utf8.acceptRanges", laid_unicode_utf8_acceptRanges), ("soundservice/channels.names", laid_soundservice_channels_names), ("unicode/utf8.first", laid_unicode_utf8_first)] }
def ChannelsApartSaid : Prop := channelsApartRow.holds Tryd.pinned (OpenSpec.ofChange channelsApartSpec)

/-- ITS FALSE NEIGHBOUR: 'it returns false'. Refute it at one input. -/
def channelsApartWrong : ChangeSpec := { name := "channelsApart", fn := fun _ => fun
  | [d1, d2, d3] => { results := [.lit (.bool false)], args := [d1, d2, d3] }
  | _ => none }
def ChannelsApartWrongFalsely : Prop := channelsApartRow.holds Tryd.pinned (OpenSpec.ofChange channelsApartWrong)

/-- 'soundservicelaw06.ChannelsLists': WHATEVER THE INPUT: true; the input reads as it did. -/
def channelsListsSpec : ChangeSpec := { name := "channelsLists", fn := fun _ => fun
  | [d1, d2, d3] => { results := [.lit (.bool true)], args := [d1, d2, d3] }
  | _ => none }
def channelsListsRow : OpenClaim := { program := "ytojecjbhdligcaadoor", sum := "f6aea119d0b9de48a06ed8e0f927aad5bfbdf903ce0bc2a8c8edf64b0c11ab6f", func := "soundservice/soundservicelaw06.ChannelsLists", spec := "channelsLists", inPlace := ["internal/bytealg.CountString", "internal/bytealg.IndexByteString", "internal/bytealg.IndexString", "internal/abi.NoEscape", "internal/bytealg.MakeNoZero"], recurses := true, named := ["soundservice/channels.names", "unicode/utf8.first", "unicode/utf8.acceptRanges", "internal/bytealg.MaxLen"], apart := false, laid := [("unicode/utf8.acceptRanges", laid_unicode_utf8_acceptRanges), ("soundservice/channels.names", laid_soundservice_channels_names), ("unicode/utf8.first", laid_unicode_utf8_first)] }
def ChannelsListsSaid : Prop := channelsListsRow.holds Tryd.pinned (OpenSpec.ofChange channelsListsSpec)

/-- ITS FALSE NEIGHBOUR: 'it returns false'. Refute it at one input. -/
def channelsListsWrong : ChangeSpec := { name := "channelsLists", fn := fun _ => fun
  | [d1, d2, d3] => { results := [.lit (.bool false)], args := [d1, d2, d3] }
  | _ => none }
def ChannelsListsWrongFalsely : Prop := channelsListsRow.holds Tryd.pinned (OpenSpec.ofChange channelsListsWrong)

/-- 'soundservicelaw06.ChannelsBack': WHATEVER THE INPUT: true; the input reads as it did. -/
def channelsBackSpec : ChangeSpec := { name := "channelsBack", fn := fun _ => fun
  | [d1, d2] => { results := [.lit (.bool true)], args := [d1, d2] }
  | _ => none }
def channelsBackRow : OpenClaim := { program := "ytojecjbhdligcaadoor", sum := "f6aea119d0b9de48a06ed8e0f927aad5bfbdf903ce0bc2a8c8edf64b0c11ab6f", func := "soundservice/soundservicelaw06.ChannelsBack", spec := "channelsBack", inPlace := ["internal/bytealg.CountString", "internal/bytealg.IndexByteString", "internal/bytealg.IndexString", "internal/abi.NoEscape", "internal/bytealg.MakeNoZero"], recurses := true, named := ["soundservice/channels.names", "unicode/utf8.first", "unicode/utf8.acceptRanges", "internal/bytealg.MaxLen"], apart := false, laid := [("unicode/utf8.acceptRanges", laid_unicode_utf8_acceptRanges), ("soundservice/channels.names", laid_soundservice_channels_names), ("unicode/utf8.first", laid_unicode_utf8_first)] }
def ChannelsBackSaid : Prop := channelsBackRow.holds Tryd.pinned (OpenSpec.ofChange channelsBackSpec)

/-- ITS FALSE NEIGHBOUR: 'it returns false'. Refute it at one input. -/
def channelsBackWrong : ChangeSpec := { name := "channelsBack", fn := fun _ => fun
  | [d1, d2] => { results := [.lit (.bool false)], args := [d1, d2] }
  | _ => none }
def ChannelsBackWrongFalsely : Prop := channelsBackRow.holds Tryd.pinned (OpenSpec.ofChange channelsBackWrong)

/- THE SECOND FORM. 'bulk': how many values and letters a reading holds, each counted each time it is reached (what is shared counts as often as it is met; a slice's spare places count too). A statement '..UptoSaid' is the law's where the arguments, and the package variables that the reading takes, are together of bulk at most 1048576: NARROWER than '..Said'. Prove '..Said' where nothing that the law and all that it calls make is longer than what came in: it says more and counts as full. Else prove '..UptoSaid'. A law counts once. -/
mutual
def uptoBulk {H : Type} : DataW H → Nat
  | .lit (.string bytes) => bytes.length + 1
  | .lit _ => 1
  | .nil => 1
  | .ptr d => uptoBulk d + 1
  | .slice elems spare => uptoBulkAll elems + uptoBulkAll spare + 1
  | .agg parts => uptoBulkAll parts + 1
  | .iface _ d => uptoBulk d + 1
  | .map entries => uptoBulkEntries entries + 1
  | .held _ => 1
def uptoBulkAll {H : Type} : List (DataW H) → Nat
  | [] => 0
  | d :: r => uptoBulk d + uptoBulkAll r
def uptoBulkEntries {H : Type} : List (Lit × DataW H) → Nat
  | [] => 0
  | x :: r => uptoBulkEntry x + uptoBulkEntries r
def uptoBulkEntry {H : Type} : Lit × DataW H → Nat
  | (.string bytes, d) => bytes.length + uptoBulk d + 1
  | (_, d) => uptoBulk d + 1
 end
def uptoSmall : (H : Type) → List (DataW H) → Bool := fun _ ds => decide (uptoBulkAll ds ≤ 1048576)
def OpenSpec.upto (s : _root_.Go.ChangeSpec) : _root_.Go.OpenSpec := { _root_.Go.OpenSpec.ofChange s with cond := some uptoSmall }

/-- 'soundservicelaw06.ChannelsTexts', WHERE WHAT IT READS IS OF BULK AT MOST 1048576: true; the input reads as it did. -/
def channelsTextsUptoRow : OpenClaim := { program := "ytojecjbhdligcaadoor", sum := "f6aea119d0b9de48a06ed8e0f927aad5bfbdf903ce0bc2a8c8edf64b0c11ab6f", func := "soundservice/soundservicelaw06.ChannelsTexts", spec := "channelsTexts", inPlace := ["internal/bytealg.CountString", "internal/bytealg.IndexByteString", "internal/bytealg.IndexString", "internal/abi.NoEscape", "internal/bytealg.MakeNoZero"], named := ["soundservice/channels.names", "unicode/utf8.first", "unicode/utf8.acceptRanges", "internal/bytealg.MaxLen"], apart := false, laid := [("unicode/utf8.acceptRanges", laid_unicode_utf8_acceptRanges), ("soundservice/channels.names", laid_soundservice_channels_names), ("unicode/utf8.first", laid_unicode_utf8_first)], narrowed := true }
def ChannelsTextsUptoSaid : Prop := channelsTextsUptoRow.holds Tryd.pinned (OpenSpec.upto channelsTextsSpec)

/-- 'soundservicelaw06.ChannelsApart', WHERE WHAT IT READS IS OF BULK AT MOST 1048576: true; the input reads as it did. -/
def channelsApartUptoRow : OpenClaim := { program := "ytojecjbhdligcaadoor", sum := "f6aea119d0b9de48a06ed8e0f927aad5bfbdf903ce0bc2a8c8edf64b0c11ab6f", func := "soundservice/soundservicelaw06.ChannelsApart", spec := "channelsApart", inPlace := ["internal/bytealg.CountString", "internal/bytealg.IndexByteString", "internal/bytealg.IndexString", "internal/abi.NoEscape", "internal/bytealg.MakeNoZero"], named := ["soundservice/channels.names", "unicode/utf8.first", "unicode/utf8.acceptRanges", "internal/bytealg.MaxLen"], apart := false, laid := [("unicode/utf8.acceptRanges", laid_unicode_utf8_acceptRanges), ("soundservice/channels.names", laid_soundservice_channels_names), ("unicode/utf8.first", laid_unicode_utf8_first)], narrowed := true }
def ChannelsApartUptoSaid : Prop := channelsApartUptoRow.holds Tryd.pinned (OpenSpec.upto channelsApartSpec)

/-- 'soundservicelaw06.ChannelsLists', WHERE WHAT IT READS IS OF BULK AT MOST 1048576: true; the input reads as it did. -/
def channelsListsUptoRow : OpenClaim := { program := "ytojecjbhdligcaadoor", sum := "f6aea119d0b9de48a06ed8e0f927aad5bfbdf903ce0bc2a8c8edf64b0c11ab6f", func := "soundservice/soundservicelaw06.ChannelsLists", spec := "channelsLists", inPlace := ["internal/bytealg.CountString", "internal/bytealg.IndexByteString", "internal/bytealg.IndexString", "internal/abi.NoEscape", "internal/bytealg.MakeNoZero"], recurses := true, named := ["soundservice/channels.names", "unicode/utf8.first", "unicode/utf8.acceptRanges", "internal/bytealg.MaxLen"], apart := false, laid := [("unicode/utf8.acceptRanges", laid_unicode_utf8_acceptRanges), ("soundservice/channels.names", laid_soundservice_channels_names), ("unicode/utf8.first", laid_unicode_utf8_first)], narrowed := true }
def ChannelsListsUptoSaid : Prop := channelsListsUptoRow.holds Tryd.pinned (OpenSpec.upto channelsListsSpec)

/-- 'soundservicelaw06.ChannelsBack', WHERE WHAT IT READS IS OF BULK AT MOST 1048576: true; the input reads as it did. -/
def channelsBackUptoRow : OpenClaim := { program := "ytojecjbhdligcaadoor", sum := "f6aea119d0b9de48a06ed8e0f927aad5bfbdf903ce0bc2a8c8edf64b0c11ab6f", func := "soundservice/soundservicelaw06.ChannelsBack", spec := "channelsBack", inPlace := ["internal/bytealg.CountString", "internal/bytealg.IndexByteString", "internal/bytealg.IndexString", "internal/abi.NoEscape", "internal/bytealg.MakeNoZero"], recurses := true, named := ["soundservice/channels.names", "unicode/utf8.first", "unicode/utf8.acceptRanges", "internal/bytealg.MaxLen"], apart := false, laid := [("unicode/utf8.acceptRanges", laid_unicode_utf8_acceptRanges), ("soundservice/channels.names", laid_soundservice_channels_names), ("unicode/utf8.first", laid_unicode_utf8_first)], narrowed := true }
def ChannelsBackUptoSaid : Prop := channelsBackUptoRow.holds Tryd.pinned (OpenSpec.upto channelsBackSpec)

end Rows
end Go.Proofs.YtojecjbhdligcaaDoor
