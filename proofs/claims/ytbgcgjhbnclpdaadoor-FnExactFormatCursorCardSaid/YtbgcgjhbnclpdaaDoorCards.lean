/-
  DERIVED. GIVEN WITH THE SEED: THE CARDS: each row of YtbgcgjhbnclpdaaDoorRows.lean that lists a variable, with what it lists TIED to the program's text (the seventh form; the later family's looks); each row that meets fmt, with fmt's text TOLD by the authors' own Lean function (tested against real Go, not proved from fmt's source: count such statements apart). THE CARD IS WHAT COUNTS. Prove the row's statement (the work); the ties are given (YtbgcgjhbnclpdaaDoorTie.lean); close each card by the builder's one call (the guide's Derived/Test/ToyasCard.lean, 'card_holds'). Laid BY PROGRAM, IN A SANDBOX (cutbox-door.mjs). By AI agents, Wed Nov 11 2026. No macro, syntax, notation, axiom, sorry.
-/
import Derived.Test.YtbgcgjhbnclpdaaDoorRows
import GoSem.ClaimSeven
namespace Go.Proofs.YtbgcgjhbnclpdaaDoor
namespace Rows

/-- THE TIED CARD OF 'laws.FnExactFormatCursor'. -/
def fnExactFormatCursorCard : Claim7 := { stood := { row := fnExactFormatCursorRow, standIns := [], harness := (true, "2700fc66714408ea4aefcbc945fb13100d08b171a1a0b364aed0c92049f1c759"), looks := false }, kinds := [], alts := [], laidByText := true, laidKinds := [.data, .data, .data], laidTests := true, laidLooks := .later }
def FnExactFormatCursorCardSaid : Prop := Claim7.holds Tryd.pinned (.plain (OpenSpec.ofChange fnExactFormatCursorSpec)) fnExactFormatCursorCard

/-- THE TIED CARD OF 'laws.FnExactEncodeRequest'. -/
def fnExactEncodeRequestCard : Claim7 := { stood := { row := fnExactEncodeRequestRow, standIns := [], harness := (true, "2700fc66714408ea4aefcbc945fb13100d08b171a1a0b364aed0c92049f1c759"), looks := false }, kinds := [], alts := [], laidByText := true, laidKinds := [.data, .data, .data], laidTests := true, laidLooks := .later }
def FnExactEncodeRequestCardSaid : Prop := Claim7.holds Tryd.pinned (.plain (OpenSpec.ofChange fnExactEncodeRequestSpec)) fnExactEncodeRequestCard

/-- THE TIED CARD OF 'laws.FnExactEncodeReply'. -/
def fnExactEncodeReplyCard : Claim7 := { stood := { row := fnExactEncodeReplyRow, standIns := [], harness := (true, "2700fc66714408ea4aefcbc945fb13100d08b171a1a0b364aed0c92049f1c759"), looks := false }, kinds := [], alts := [], laidByText := true, laidKinds := [.data, .data, .data], laidTests := true, laidLooks := .later }
def FnExactEncodeReplyCardSaid : Prop := Claim7.holds Tryd.pinned (.plain (OpenSpec.ofChange fnExactEncodeReplySpec)) fnExactEncodeReplyCard

/-- THE TIED CARD OF 'laws.FnExactDecodeRequest'. -/
def fnExactDecodeRequestCard : Claim7 := { stood := { row := fnExactDecodeRequestRow, standIns := [], harness := (true, "2700fc66714408ea4aefcbc945fb13100d08b171a1a0b364aed0c92049f1c759"), looks := false }, kinds := [], alts := [], laidByText := true, laidKinds := [.data, .data, .data], laidTests := true, laidLooks := .later }
def FnExactDecodeRequestCardSaid : Prop := Claim7.holds Tryd.pinned (.plain (OpenSpec.ofChange fnExactDecodeRequestSpec)) fnExactDecodeRequestCard

/-- THE TIED CARD OF 'laws.FnExactDecodeReply'. -/
def fnExactDecodeReplyCard : Claim7 := { stood := { row := fnExactDecodeReplyRow, standIns := [], harness := (true, "2700fc66714408ea4aefcbc945fb13100d08b171a1a0b364aed0c92049f1c759"), looks := false }, kinds := [], alts := [], laidByText := true, laidKinds := [.data, .data, .data], laidTests := true, laidLooks := .later }
def FnExactDecodeReplyCardSaid : Prop := Claim7.holds Tryd.pinned (.plain (OpenSpec.ofChange fnExactDecodeReplySpec)) fnExactDecodeReplyCard

/-- THE TIED CARD OF 'laws.FnRequests'. -/
def fnRequestsCard : Claim7 := { stood := { row := fnRequestsRow, standIns := [], harness := (true, "2700fc66714408ea4aefcbc945fb13100d08b171a1a0b364aed0c92049f1c759"), looks := false }, kinds := [], alts := [], laidByText := true, laidKinds := [.data, .data, .data], laidTests := true, laidLooks := .later }
def FnRequestsCardSaid : Prop := Claim7.holds Tryd.pinned (.plain (OpenSpec.ofChange fnRequestsSpec)) fnRequestsCard

/-- THE SECOND FORM's CARD OF 'laws.FnExactFormatCursor'. -/
def fnExactFormatCursorUptoCard : Claim7 := { stood := { row := fnExactFormatCursorUptoRow, standIns := [], harness := (true, "2700fc66714408ea4aefcbc945fb13100d08b171a1a0b364aed0c92049f1c759"), looks := false }, kinds := [], alts := [], laidByText := true, laidKinds := [.data, .data, .data], laidTests := true, laidLooks := .later }
def FnExactFormatCursorUptoCardSaid : Prop := Claim7.holds Tryd.pinned (.plain (OpenSpec.upto fnExactFormatCursorSpec)) fnExactFormatCursorUptoCard

/-- THE SECOND FORM's CARD OF 'laws.FnExactEncodeRequest'. -/
def fnExactEncodeRequestUptoCard : Claim7 := { stood := { row := fnExactEncodeRequestUptoRow, standIns := [], harness := (true, "2700fc66714408ea4aefcbc945fb13100d08b171a1a0b364aed0c92049f1c759"), looks := false }, kinds := [], alts := [], laidByText := true, laidKinds := [.data, .data, .data], laidTests := true, laidLooks := .later }
def FnExactEncodeRequestUptoCardSaid : Prop := Claim7.holds Tryd.pinned (.plain (OpenSpec.upto fnExactEncodeRequestSpec)) fnExactEncodeRequestUptoCard

/-- THE SECOND FORM's CARD OF 'laws.FnExactEncodeReply'. -/
def fnExactEncodeReplyUptoCard : Claim7 := { stood := { row := fnExactEncodeReplyUptoRow, standIns := [], harness := (true, "2700fc66714408ea4aefcbc945fb13100d08b171a1a0b364aed0c92049f1c759"), looks := false }, kinds := [], alts := [], laidByText := true, laidKinds := [.data, .data, .data], laidTests := true, laidLooks := .later }
def FnExactEncodeReplyUptoCardSaid : Prop := Claim7.holds Tryd.pinned (.plain (OpenSpec.upto fnExactEncodeReplySpec)) fnExactEncodeReplyUptoCard

/-- THE SECOND FORM's CARD OF 'laws.FnExactDecodeRequest'. -/
def fnExactDecodeRequestUptoCard : Claim7 := { stood := { row := fnExactDecodeRequestUptoRow, standIns := [], harness := (true, "2700fc66714408ea4aefcbc945fb13100d08b171a1a0b364aed0c92049f1c759"), looks := false }, kinds := [], alts := [], laidByText := true, laidKinds := [.data, .data, .data], laidTests := true, laidLooks := .later }
def FnExactDecodeRequestUptoCardSaid : Prop := Claim7.holds Tryd.pinned (.plain (OpenSpec.upto fnExactDecodeRequestSpec)) fnExactDecodeRequestUptoCard

/-- THE SECOND FORM's CARD OF 'laws.FnExactDecodeReply'. -/
def fnExactDecodeReplyUptoCard : Claim7 := { stood := { row := fnExactDecodeReplyUptoRow, standIns := [], harness := (true, "2700fc66714408ea4aefcbc945fb13100d08b171a1a0b364aed0c92049f1c759"), looks := false }, kinds := [], alts := [], laidByText := true, laidKinds := [.data, .data, .data], laidTests := true, laidLooks := .later }
def FnExactDecodeReplyUptoCardSaid : Prop := Claim7.holds Tryd.pinned (.plain (OpenSpec.upto fnExactDecodeReplySpec)) fnExactDecodeReplyUptoCard

/-- THE SECOND FORM's CARD OF 'laws.FnRequests'. -/
def fnRequestsUptoCard : Claim7 := { stood := { row := fnRequestsUptoRow, standIns := [], harness := (true, "2700fc66714408ea4aefcbc945fb13100d08b171a1a0b364aed0c92049f1c759"), looks := false }, kinds := [], alts := [], laidByText := true, laidKinds := [.data, .data, .data], laidTests := true, laidLooks := .later }
def FnRequestsUptoCardSaid : Prop := Claim7.holds Tryd.pinned (.plain (OpenSpec.upto fnRequestsSpec)) fnRequestsUptoCard
end Rows
end Go.Proofs.YtbgcgjhbnclpdaaDoor
