/-
  DERIVED. GIVEN WITH THE SEED: THE CARDS: each row of YtilpjnckfkjkbaaGreatDoorRows.lean that lists a variable, with what it lists TIED to the program's text (the seventh form; the later family's looks); each row that meets fmt, with fmt's text TOLD by the authors' own Lean function (tested against real Go, not proved from fmt's source: count such statements apart). THE CARD IS WHAT COUNTS. Prove the row's statement (the work); the ties are given (YtilpjnckfkjkbaaGreatDoorTie.lean); close each card by the builder's one call (the guide's Derived/Test/ToyasCard.lean, 'card_holds'). Laid BY PROGRAM, IN A SANDBOX (cutbox-door.mjs). By AI agents, Wed Nov 11 2026. No macro, syntax, notation, axiom, sorry.
-/
import Derived.Test.YtilpjnckfkjkbaaGreatDoorRows
import GoSem.ClaimSeven
namespace Go.Proofs.YtilpjnckfkjkbaaGreatDoor
namespace Rows

/-- THE TIED CARD OF 'drawloomlaw23.QueueStuck'. -/
def queueStuckCard : Claim7 := { stood := { row := queueStuckRow, standIns := [], harness := (true, "9a4192f2e417525080bafe3403847736359a8d23cab8e207354b075960c50e0c"), looks := true }, kinds := [], alts := [], laidByText := true, laidKinds := [.listed, .data], laidTests := true, laidLooks := .later }
def QueueStuckCardSaid : Prop := Claim7.holds Tryz.pinned (.plain (OpenSpec.ofChange queueStuckSpec)) queueStuckCard

/-- THE TIED CARD OF 'drawloomlaw23.QueueErrors'. -/
def queueErrorsCard : Claim7 := { stood := { row := queueErrorsRow, standIns := [], harness := (true, "9a4192f2e417525080bafe3403847736359a8d23cab8e207354b075960c50e0c"), looks := true }, kinds := [], alts := [], laidByText := true, laidKinds := [.listed, .data], laidTests := true, laidLooks := .later }
def QueueErrorsCardSaid : Prop := Claim7.holds Tryz.pinned (.plain (OpenSpec.ofChange queueErrorsSpec)) queueErrorsCard

/-- THE TIED CARD OF 'drawloomlaw23.QueueOrdered'. -/
def queueOrderedCard : Claim7 := { stood := { row := queueOrderedRow, standIns := [], harness := (true, "9a4192f2e417525080bafe3403847736359a8d23cab8e207354b075960c50e0c"), looks := true }, kinds := [], alts := [], laidByText := true, laidKinds := [.listed, .data], laidTests := true, laidLooks := .later }
def QueueOrderedCardSaid : Prop := Claim7.holds Tryz.pinned (.plain (OpenSpec.ofChange queueOrderedSpec)) queueOrderedCard

/-- THE TIED CARD OF 'drawloomlaw23.QueueWaves'. -/
def queueWavesCard : Claim7 := { stood := { row := queueWavesRow, standIns := [], harness := (true, "9a4192f2e417525080bafe3403847736359a8d23cab8e207354b075960c50e0c"), looks := true }, kinds := [], alts := [], laidByText := true, laidKinds := [.listed, .data], laidTests := true, laidLooks := .later }
def QueueWavesCardSaid : Prop := Claim7.holds Tryz.pinned (.plain (OpenSpec.ofChange queueWavesSpec)) queueWavesCard

/-- THE TIED CARD OF 'drawloomlaw23.QueueStreams'. -/
def queueStreamsCard : Claim7 := { stood := { row := queueStreamsRow, standIns := [], harness := (true, "9a4192f2e417525080bafe3403847736359a8d23cab8e207354b075960c50e0c"), looks := true }, kinds := [], alts := [], laidByText := true, laidKinds := [.listed, .data], laidTests := true, laidLooks := .later }
def QueueStreamsCardSaid : Prop := Claim7.holds Tryz.pinned (.plain (OpenSpec.ofChange queueStreamsSpec)) queueStreamsCard

/-- THE SECOND FORM's CARD OF 'drawloomlaw23.QueueStuck'. -/
def queueStuckUptoCard : Claim7 := { stood := { row := queueStuckUptoRow, standIns := [], harness := (true, "9a4192f2e417525080bafe3403847736359a8d23cab8e207354b075960c50e0c"), looks := true }, kinds := [], alts := [], laidByText := true, laidKinds := [.listed, .data], laidTests := true, laidLooks := .later }
def QueueStuckUptoCardSaid : Prop := Claim7.holds Tryz.pinned (.plain (OpenSpec.upto queueStuckSpec)) queueStuckUptoCard

/-- THE SECOND FORM's CARD OF 'drawloomlaw23.QueueErrors'. -/
def queueErrorsUptoCard : Claim7 := { stood := { row := queueErrorsUptoRow, standIns := [], harness := (true, "9a4192f2e417525080bafe3403847736359a8d23cab8e207354b075960c50e0c"), looks := true }, kinds := [], alts := [], laidByText := true, laidKinds := [.listed, .data], laidTests := true, laidLooks := .later }
def QueueErrorsUptoCardSaid : Prop := Claim7.holds Tryz.pinned (.plain (OpenSpec.upto queueErrorsSpec)) queueErrorsUptoCard

/-- THE SECOND FORM's CARD OF 'drawloomlaw23.QueueOrdered'. -/
def queueOrderedUptoCard : Claim7 := { stood := { row := queueOrderedUptoRow, standIns := [], harness := (true, "9a4192f2e417525080bafe3403847736359a8d23cab8e207354b075960c50e0c"), looks := true }, kinds := [], alts := [], laidByText := true, laidKinds := [.listed, .data], laidTests := true, laidLooks := .later }
def QueueOrderedUptoCardSaid : Prop := Claim7.holds Tryz.pinned (.plain (OpenSpec.upto queueOrderedSpec)) queueOrderedUptoCard

/-- THE SECOND FORM's CARD OF 'drawloomlaw23.QueueWaves'. -/
def queueWavesUptoCard : Claim7 := { stood := { row := queueWavesUptoRow, standIns := [], harness := (true, "9a4192f2e417525080bafe3403847736359a8d23cab8e207354b075960c50e0c"), looks := true }, kinds := [], alts := [], laidByText := true, laidKinds := [.listed, .data], laidTests := true, laidLooks := .later }
def QueueWavesUptoCardSaid : Prop := Claim7.holds Tryz.pinned (.plain (OpenSpec.upto queueWavesSpec)) queueWavesUptoCard

/-- THE SECOND FORM's CARD OF 'drawloomlaw23.QueueStreams'. -/
def queueStreamsUptoCard : Claim7 := { stood := { row := queueStreamsUptoRow, standIns := [], harness := (true, "9a4192f2e417525080bafe3403847736359a8d23cab8e207354b075960c50e0c"), looks := true }, kinds := [], alts := [], laidByText := true, laidKinds := [.listed, .data], laidTests := true, laidLooks := .later }
def QueueStreamsUptoCardSaid : Prop := Claim7.holds Tryz.pinned (.plain (OpenSpec.upto queueStreamsSpec)) queueStreamsUptoCard
end Rows
end Go.Proofs.YtilpjnckfkjkbaaGreatDoor
