/-
  DERIVED. GIVEN WITH THE SEED: THE CARDS: each row of YtbfmhlhjkbimmaaGreatDoorRows.lean that lists a variable, with what it lists TIED to the program's text (the seventh form; the later family's looks); each row that meets fmt, with fmt's text TOLD by the authors' own Lean function (tested against real Go, not proved from fmt's source: count such statements apart). THE CARD IS WHAT COUNTS. Prove the row's statement (the work); the ties are given (YtbfmhlhjkbimmaaGreatDoorTie.lean); close each card by the builder's one call (the guide's Derived/Test/ToyasCard.lean, 'card_holds'). Laid BY PROGRAM, IN A SANDBOX (cutbox-door.mjs). By AI agents, Wed Nov 11 2026. No macro, syntax, notation, axiom, sorry.
-/
import Derived.Test.YtbfmhlhjkbimmaaGreatDoorRows
import GoSem.ClaimSeven
namespace Go.Proofs.YtbfmhlhjkbimmaaGreatDoor
namespace Rows

/-- THE TIED CARD OF 'laws.FnExactParseCursor'. -/
def fnExactParseCursorCard : Claim7 := { stood := { row := fnExactParseCursorRow, standIns := [], harness := (true, "55e819e5f2d9b21a55050118edf6684071b1b20302c500e614404509cf8fc674"), looks := true }, kinds := [], alts := [], laidByText := true, laidKinds := [.data, .data, .data, .data, .sentinel, .sentinel, .pinned], laidTests := true, laidLooks := .later }
def FnExactParseCursorCardSaid : Prop := Claim7.holds Tryz.pinned (.plain (OpenSpec.ofChange fnExactParseCursorSpec)) fnExactParseCursorCard

/-- THE TIED CARD OF 'laws.FnPages'. -/
def fnPagesCard : Claim7 := { stood := { row := fnPagesRow, standIns := [], harness := (true, "55e819e5f2d9b21a55050118edf6684071b1b20302c500e614404509cf8fc674"), looks := true }, kinds := [], alts := [], laidByText := true, laidKinds := [.data, .data, .data, .data, .sentinel, .sentinel, .pinned], laidTests := true, laidLooks := .later }
def FnPagesCardSaid : Prop := Claim7.holds Tryz.pinned (.plain (OpenSpec.ofChange fnPagesSpec)) fnPagesCard

/-- THE SECOND FORM's CARD OF 'laws.FnExactParseCursor'. -/
def fnExactParseCursorUptoCard : Claim7 := { stood := { row := fnExactParseCursorUptoRow, standIns := [], harness := (true, "55e819e5f2d9b21a55050118edf6684071b1b20302c500e614404509cf8fc674"), looks := true }, kinds := [], alts := [], laidByText := true, laidKinds := [.data, .data, .data, .data, .sentinel, .sentinel, .pinned], laidTests := true, laidLooks := .later }
def FnExactParseCursorUptoCardSaid : Prop := Claim7.holds Tryz.pinned (.plain (OpenSpec.upto fnExactParseCursorSpec)) fnExactParseCursorUptoCard

/-- THE SECOND FORM's CARD OF 'laws.FnPages'. -/
def fnPagesUptoCard : Claim7 := { stood := { row := fnPagesUptoRow, standIns := [], harness := (true, "55e819e5f2d9b21a55050118edf6684071b1b20302c500e614404509cf8fc674"), looks := true }, kinds := [], alts := [], laidByText := true, laidKinds := [.data, .data, .data, .data, .sentinel, .sentinel, .pinned], laidTests := true, laidLooks := .later }
def FnPagesUptoCardSaid : Prop := Claim7.holds Tryz.pinned (.plain (OpenSpec.upto fnPagesSpec)) fnPagesUptoCard
end Rows
end Go.Proofs.YtbfmhlhjkbimmaaGreatDoor
