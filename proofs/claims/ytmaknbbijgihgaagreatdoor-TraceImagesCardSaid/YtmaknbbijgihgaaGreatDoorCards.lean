/-
  DERIVED. GIVEN WITH THE SEED: THE CARDS: each row of YtmaknbbijgihgaaGreatDoorRows.lean that lists a variable, with what it lists TIED to the program's text (the seventh form; the later family's looks); each row that meets fmt, with fmt's text TOLD by the authors' own Lean function (tested against real Go, not proved from fmt's source: count such statements apart). THE CARD IS WHAT COUNTS. Prove the row's statement (the work); the ties are given (YtmaknbbijgihgaaGreatDoorTie.lean); close each card by the builder's one call (the guide's Derived/Test/ToyasCard.lean, 'card_holds'). Laid BY PROGRAM, IN A SANDBOX (cutbox-door.mjs). By AI agents, Wed Nov 11 2026. No macro, syntax, notation, axiom, sorry.
-/
import Derived.Test.YtmaknbbijgihgaaGreatDoorRows
import GoSem.ClaimSeven
namespace Go.Proofs.YtmaknbbijgihgaaGreatDoor
namespace Rows

/-- THE TIED CARD OF 'winchlaw26.TraceImages'. -/
def traceImagesCard : Claim7 := { stood := { row := traceImagesRow, standIns := [], harness := (true, "e96f56128e82c9d5152c9763e3d3f9f2b2a10f6c11030d1ce5f6526f8beebf32"), looks := true }, kinds := [], alts := [], laidByText := true, laidKinds := [.data, .data, .data, .sentinel, .sentinel, .mapped, .mapped, .mappedDeep, .widerDeep], laidTests := true, laidLooks := .later }
def TraceImagesCardSaid : Prop := Claim7.holds Tryz.pinned (.plain (OpenSpec.ofChange traceImagesSpec)) traceImagesCard

/-- THE SECOND FORM's CARD OF 'winchlaw26.TraceImages'. -/
def traceImagesUptoCard : Claim7 := { stood := { row := traceImagesUptoRow, standIns := [], harness := (true, "e96f56128e82c9d5152c9763e3d3f9f2b2a10f6c11030d1ce5f6526f8beebf32"), looks := true }, kinds := [], alts := [], laidByText := true, laidKinds := [.data, .data, .data, .sentinel, .sentinel, .mapped, .mapped, .mappedDeep, .widerDeep], laidTests := true, laidLooks := .later }
def TraceImagesUptoCardSaid : Prop := Claim7.holds Tryz.pinned (.plain (OpenSpec.upto traceImagesSpec)) traceImagesUptoCard
end Rows
end Go.Proofs.YtmaknbbijgihgaaGreatDoor
