/-
  DERIVED. GIVEN WITH THE SEED: THE CARDS: each row of YtfmpjhjnpeheeaaGreatDoorRows.lean that lists a variable, with what it lists TIED to the program's text (the seventh form; the later family's looks); each row that meets fmt, with fmt's text TOLD by the authors' own Lean function (tested against real Go, not proved from fmt's source: count such statements apart). THE CARD IS WHAT COUNTS. Prove the row's statement (the work); the ties are given (YtfmpjhjnpeheeaaGreatDoorTie.lean); close each card by the builder's one call (the guide's Derived/Test/ToyasCard.lean, 'card_holds'). Laid BY PROGRAM, IN A SANDBOX (cutbox-door.mjs). By AI agents, Wed Nov 11 2026. No macro, syntax, notation, axiom, sorry.
-/
import Derived.Test.YtfmpjhjnpeheeaaGreatDoorRows
import GoSem.ClaimSeven
namespace Go.Proofs.YtfmpjhjnpeheeaaGreatDoor
namespace Rows

/-- THE TIED CARD OF 'laws.FnExactParseModule'. -/
def fnExactParseModuleCard : Claim7 := { stood := { row := fnExactParseModuleRow, standIns := [], harness := (true, "b33fba33a05dd772b19df8ed9fc0bed9a78cace21d33e8120b0f8bb692ba61f3"), looks := true }, kinds := [], alts := [], laidByText := true, laidKinds := [.data, .data, .data, .data, .sentinel, .sentinel, .pinned], laidTests := true, laidLooks := .later }
def FnExactParseModuleCardSaid : Prop := Claim7.holds Tryz.pinned (.plain (OpenSpec.ofChange fnExactParseModuleSpec)) fnExactParseModuleCard

/-- THE TIED CARD OF 'laws.FnPowers'. -/
def fnPowersCard : Claim7 := { stood := { row := fnPowersRow, standIns := [], harness := (true, "b33fba33a05dd772b19df8ed9fc0bed9a78cace21d33e8120b0f8bb692ba61f3"), looks := true }, kinds := [], alts := [], laidByText := true, laidKinds := [.data, .data, .data, .data, .sentinel, .sentinel, .pinned], laidTests := true, laidLooks := .later }
def FnPowersCardSaid : Prop := Claim7.holds Tryz.pinned (.plain (OpenSpec.ofChange fnPowersSpec)) fnPowersCard

/-- THE TIED CARD OF 'laws.FnExactParseRack'. -/
def fnExactParseRackCard : Claim7 := { stood := { row := fnExactParseRackRow, standIns := [], harness := (true, "b33fba33a05dd772b19df8ed9fc0bed9a78cace21d33e8120b0f8bb692ba61f3"), looks := true }, kinds := [], alts := [], laidByText := true, laidKinds := [.data, .data, .data, .data, .sentinel, .sentinel, .pinned], laidTests := true, laidLooks := .later }
def FnExactParseRackCardSaid : Prop := Claim7.holds Tryz.pinned (.plain (OpenSpec.ofChange fnExactParseRackSpec)) fnExactParseRackCard

/-- THE TIED CARD OF 'laws.FnUndone'. -/
def fnUndoneCard : Claim7 := { stood := { row := fnUndoneRow, standIns := [], harness := (true, "b33fba33a05dd772b19df8ed9fc0bed9a78cace21d33e8120b0f8bb692ba61f3"), looks := true }, kinds := [], alts := [], laidByText := true, laidKinds := [.data, .data, .data, .data, .sentinel, .sentinel, .pinned], laidTests := true, laidLooks := .later }
def FnUndoneCardSaid : Prop := Claim7.holds Tryz.pinned (.plain (OpenSpec.ofChange fnUndoneSpec)) fnUndoneCard

/-- THE SECOND FORM's CARD OF 'laws.FnExactParseModule'. -/
def fnExactParseModuleUptoCard : Claim7 := { stood := { row := fnExactParseModuleUptoRow, standIns := [], harness := (true, "b33fba33a05dd772b19df8ed9fc0bed9a78cace21d33e8120b0f8bb692ba61f3"), looks := true }, kinds := [], alts := [], laidByText := true, laidKinds := [.data, .data, .data, .data, .sentinel, .sentinel, .pinned], laidTests := true, laidLooks := .later }
def FnExactParseModuleUptoCardSaid : Prop := Claim7.holds Tryz.pinned (.plain (OpenSpec.upto fnExactParseModuleSpec)) fnExactParseModuleUptoCard

/-- THE SECOND FORM's CARD OF 'laws.FnPowers'. -/
def fnPowersUptoCard : Claim7 := { stood := { row := fnPowersUptoRow, standIns := [], harness := (true, "b33fba33a05dd772b19df8ed9fc0bed9a78cace21d33e8120b0f8bb692ba61f3"), looks := true }, kinds := [], alts := [], laidByText := true, laidKinds := [.data, .data, .data, .data, .sentinel, .sentinel, .pinned], laidTests := true, laidLooks := .later }
def FnPowersUptoCardSaid : Prop := Claim7.holds Tryz.pinned (.plain (OpenSpec.upto fnPowersSpec)) fnPowersUptoCard

/-- THE SECOND FORM's CARD OF 'laws.FnExactParseRack'. -/
def fnExactParseRackUptoCard : Claim7 := { stood := { row := fnExactParseRackUptoRow, standIns := [], harness := (true, "b33fba33a05dd772b19df8ed9fc0bed9a78cace21d33e8120b0f8bb692ba61f3"), looks := true }, kinds := [], alts := [], laidByText := true, laidKinds := [.data, .data, .data, .data, .sentinel, .sentinel, .pinned], laidTests := true, laidLooks := .later }
def FnExactParseRackUptoCardSaid : Prop := Claim7.holds Tryz.pinned (.plain (OpenSpec.upto fnExactParseRackSpec)) fnExactParseRackUptoCard

/-- THE SECOND FORM's CARD OF 'laws.FnUndone'. -/
def fnUndoneUptoCard : Claim7 := { stood := { row := fnUndoneUptoRow, standIns := [], harness := (true, "b33fba33a05dd772b19df8ed9fc0bed9a78cace21d33e8120b0f8bb692ba61f3"), looks := true }, kinds := [], alts := [], laidByText := true, laidKinds := [.data, .data, .data, .data, .sentinel, .sentinel, .pinned], laidTests := true, laidLooks := .later }
def FnUndoneUptoCardSaid : Prop := Claim7.holds Tryz.pinned (.plain (OpenSpec.upto fnUndoneSpec)) fnUndoneUptoCard
end Rows
end Go.Proofs.YtfmpjhjnpeheeaaGreatDoor
