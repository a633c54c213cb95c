/-
  DERIVED. GIVEN WITH THE SEED: THE CARDS: each row of YtojecjbhdligcaaDoorRows.lean that lists a variable, with what it lists TIED to the program's text (the seventh form; the later family's looks); each row that meets fmt, with fmt's text TOLD by the authors' own Lean function (tested against real Go, not proved from fmt's source: count such statements apart). THE CARD IS WHAT COUNTS. Prove the row's statement (the work); the ties are given (YtojecjbhdligcaaDoorTie.lean); close each card by the builder's one call (the guide's Derived/Test/ToyasCard.lean, 'card_holds'). Laid BY PROGRAM, IN A SANDBOX (cutbox-door.mjs). By AI agents, Wed Nov 11 2026. No macro, syntax, notation, axiom, sorry.
-/
import Derived.Test.YtojecjbhdligcaaDoorRows
import GoSem.ClaimSeven
namespace Go.Proofs.YtojecjbhdligcaaDoor
namespace Rows

/-- THE TIED CARD OF 'soundservicelaw06.ChannelsTexts'. -/
def channelsTextsCard : Claim7 := { stood := { row := channelsTextsRow, standIns := [], harness := (true, "5c92b5ce4fc97e1b0ee7a041c9e574a5b5447cfbd9f97ba7b642ee9087a8121a"), looks := false }, kinds := [], alts := [], laidByText := true, laidKinds := [.data, .widerDeep, .pinned], laidTests := true, laidLooks := .later }
def ChannelsTextsCardSaid : Prop := Claim7.holds Tryd.pinned (.plain (OpenSpec.ofChange channelsTextsSpec)) channelsTextsCard

/-- THE TIED CARD OF 'soundservicelaw06.ChannelsApart'. -/
def channelsApartCard : Claim7 := { stood := { row := channelsApartRow, standIns := [], harness := (true, "5c92b5ce4fc97e1b0ee7a041c9e574a5b5447cfbd9f97ba7b642ee9087a8121a"), looks := false }, kinds := [], alts := [], laidByText := true, laidKinds := [.data, .widerDeep, .pinned], laidTests := true, laidLooks := .later }
def ChannelsApartCardSaid : Prop := Claim7.holds Tryd.pinned (.plain (OpenSpec.ofChange channelsApartSpec)) channelsApartCard

/-- THE TIED CARD OF 'soundservicelaw06.ChannelsLists'. -/
def channelsListsCard : Claim7 := { stood := { row := channelsListsRow, standIns := [], harness := (true, "5c92b5ce4fc97e1b0ee7a041c9e574a5b5447cfbd9f97ba7b642ee9087a8121a"), looks := false }, kinds := [], alts := [], laidByText := true, laidKinds := [.data, .widerDeep, .pinned], laidTests := true, laidLooks := .later }
def ChannelsListsCardSaid : Prop := Claim7.holds Tryd.pinned (.plain (OpenSpec.ofChange channelsListsSpec)) channelsListsCard

/-- THE TIED CARD OF 'soundservicelaw06.ChannelsBack'. -/
def channelsBackCard : Claim7 := { stood := { row := channelsBackRow, standIns := [], harness := (true, "5c92b5ce4fc97e1b0ee7a041c9e574a5b5447cfbd9f97ba7b642ee9087a8121a"), looks := false }, kinds := [], alts := [], laidByText := true, laidKinds := [.data, .widerDeep, .pinned], laidTests := true, laidLooks := .later }
def ChannelsBackCardSaid : Prop := Claim7.holds Tryd.pinned (.plain (OpenSpec.ofChange channelsBackSpec)) channelsBackCard

/-- THE SECOND FORM's CARD OF 'soundservicelaw06.ChannelsTexts'. -/
def channelsTextsUptoCard : Claim7 := { stood := { row := channelsTextsUptoRow, standIns := [], harness := (true, "5c92b5ce4fc97e1b0ee7a041c9e574a5b5447cfbd9f97ba7b642ee9087a8121a"), looks := false }, kinds := [], alts := [], laidByText := true, laidKinds := [.data, .widerDeep, .pinned], laidTests := true, laidLooks := .later }
def ChannelsTextsUptoCardSaid : Prop := Claim7.holds Tryd.pinned (.plain (OpenSpec.upto channelsTextsSpec)) channelsTextsUptoCard

/-- THE SECOND FORM's CARD OF 'soundservicelaw06.ChannelsApart'. -/
def channelsApartUptoCard : Claim7 := { stood := { row := channelsApartUptoRow, standIns := [], harness := (true, "5c92b5ce4fc97e1b0ee7a041c9e574a5b5447cfbd9f97ba7b642ee9087a8121a"), looks := false }, kinds := [], alts := [], laidByText := true, laidKinds := [.data, .widerDeep, .pinned], laidTests := true, laidLooks := .later }
def ChannelsApartUptoCardSaid : Prop := Claim7.holds Tryd.pinned (.plain (OpenSpec.upto channelsApartSpec)) channelsApartUptoCard

/-- THE SECOND FORM's CARD OF 'soundservicelaw06.ChannelsLists'. -/
def channelsListsUptoCard : Claim7 := { stood := { row := channelsListsUptoRow, standIns := [], harness := (true, "5c92b5ce4fc97e1b0ee7a041c9e574a5b5447cfbd9f97ba7b642ee9087a8121a"), looks := false }, kinds := [], alts := [], laidByText := true, laidKinds := [.data, .widerDeep, .pinned], laidTests := true, laidLooks := .later }
def ChannelsListsUptoCardSaid : Prop := Claim7.holds Tryd.pinned (.plain (OpenSpec.upto channelsListsSpec)) channelsListsUptoCard

/-- THE SECOND FORM's CARD OF 'soundservicelaw06.ChannelsBack'. -/
def channelsBackUptoCard : Claim7 := { stood := { row := channelsBackUptoRow, standIns := [], harness := (true, "5c92b5ce4fc97e1b0ee7a041c9e574a5b5447cfbd9f97ba7b642ee9087a8121a"), looks := false }, kinds := [], alts := [], laidByText := true, laidKinds := [.data, .widerDeep, .pinned], laidTests := true, laidLooks := .later }
def ChannelsBackUptoCardSaid : Prop := Claim7.holds Tryd.pinned (.plain (OpenSpec.upto channelsBackSpec)) channelsBackUptoCard
end Rows
end Go.Proofs.YtojecjbhdligcaaDoor
