/-
  DERIVED. GIVEN WITH THE SEED: THE CARDS: each row of YtgnmeplfmkbkcaaGreatDoorRows.lean that lists a variable, with what it lists TIED to the program's text (the seventh form; the later family's looks); each row that meets fmt, with fmt's text TOLD by the authors' own Lean function (tested against real Go, not proved from fmt's source: count such statements apart). THE CARD IS WHAT COUNTS. Prove the row's statement (the work); the ties are given (YtgnmeplfmkbkcaaGreatDoorTie.lean); close each card by the builder's one call (the guide's Derived/Test/ToyasCard.lean, 'card_holds'). Laid BY PROGRAM, IN A SANDBOX (cutbox-door.mjs). By AI agents, Wed Nov 11 2026. No macro, syntax, notation, axiom, sorry.
-/
import Derived.Test.YtgnmeplfmkbkcaaGreatDoorRows
import GoSem.ClaimSeven
namespace Go.Proofs.YtgnmeplfmkbkcaaGreatDoor
namespace Rows

/-- THE TIED CARD OF 'drawloomlaw23.QueueNone'. -/
def queueNoneCard : Claim7 := { stood := { row := queueNoneRow, standIns := [], harness := (true, "606f3300dbbfea089fb713708358f1b66251560a5bb73f47f149c32b38fa7830"), looks := false }, kinds := [], alts := [], laidByText := true, laidKinds := [.listed, .data], laidTests := true, laidLooks := .later }
def QueueNoneCardSaid : Prop := Claim7.holds Tryz.pinned (.plain (OpenSpec.ofChange queueNoneSpec)) queueNoneCard

/-- THE SECOND FORM's CARD OF 'drawloomlaw23.QueueNone'. -/
def queueNoneUptoCard : Claim7 := { stood := { row := queueNoneUptoRow, standIns := [], harness := (true, "606f3300dbbfea089fb713708358f1b66251560a5bb73f47f149c32b38fa7830"), looks := false }, kinds := [], alts := [], laidByText := true, laidKinds := [.listed, .data], laidTests := true, laidLooks := .later }
def QueueNoneUptoCardSaid : Prop := Claim7.holds Tryz.pinned (.plain (OpenSpec.upto queueNoneSpec)) queueNoneUptoCard
end Rows
end Go.Proofs.YtgnmeplfmkbkcaaGreatDoor
