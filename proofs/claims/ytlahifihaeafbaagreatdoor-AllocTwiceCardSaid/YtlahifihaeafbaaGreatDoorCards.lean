/-
  DERIVED. GIVEN WITH THE SEED: THE CARDS: each row of YtlahifihaeafbaaGreatDoorRows.lean that lists a variable, with what it lists TIED to the program's text (the seventh form; the later family's looks); each row that meets fmt, with fmt's text TOLD by the authors' own Lean function (tested against real Go, not proved from fmt's source: count such statements apart). THE CARD IS WHAT COUNTS. Prove the row's statement (the work); the ties are given (YtlahifihaeafbaaGreatDoorTie.lean); close each card by the builder's one call (the guide's Derived/Test/ToyasCard.lean, 'card_holds'). Laid BY PROGRAM, IN A SANDBOX (cutbox-door.mjs). By AI agents, Wed Nov 11 2026. No macro, syntax, notation, axiom, sorry.
-/
import Derived.Test.YtlahifihaeafbaaGreatDoorRows
import GoSem.ClaimSeven
namespace Go.Proofs.YtlahifihaeafbaaGreatDoor
namespace Rows

/-- THE TIED CARD OF 'candlinglaw19.AllocLives'. -/
def allocLivesCard : Claim7 := { stood := { row := allocLivesRow, standIns := [], harness := (true, "8a3bbbef7d30f58cb314d0d6d880e6bf53018c4f4d0721cb67f80ba50b7f320e"), looks := true }, kinds := [], alts := [], laidByText := true, laidKinds := [.data], laidTests := true, laidLooks := .later }
def AllocLivesCardSaid : Prop := Claim7.holds Tryz.pinned (.plain (OpenSpec.ofChange allocLivesSpec)) allocLivesCard

/-- THE TIED CARD OF 'candlinglaw19.AllocAccepts'. -/
def allocAcceptsCard : Claim7 := { stood := { row := allocAcceptsRow, standIns := [], harness := (true, "8a3bbbef7d30f58cb314d0d6d880e6bf53018c4f4d0721cb67f80ba50b7f320e"), looks := true }, kinds := [], alts := [], laidByText := true, laidKinds := [.data], laidTests := true, laidLooks := .later }
def AllocAcceptsCardSaid : Prop := Claim7.holds Tryz.pinned (.plain (OpenSpec.ofChange allocAcceptsSpec)) allocAcceptsCard

/-- THE TIED CARD OF 'candlinglaw19.AllocAllocates'. -/
def allocAllocatesCard : Claim7 := { stood := { row := allocAllocatesRow, standIns := [], harness := (true, "8a3bbbef7d30f58cb314d0d6d880e6bf53018c4f4d0721cb67f80ba50b7f320e"), looks := true }, kinds := [], alts := [], laidByText := true, laidKinds := [.data], laidTests := true, laidLooks := .later }
def AllocAllocatesCardSaid : Prop := Claim7.holds Tryz.pinned (.plain (OpenSpec.ofChange allocAllocatesSpec)) allocAllocatesCard

/-- THE TIED CARD OF 'candlinglaw19.AllocAlways'. -/
def allocAlwaysCard : Claim7 := { stood := { row := allocAlwaysRow, standIns := [], harness := (true, "8a3bbbef7d30f58cb314d0d6d880e6bf53018c4f4d0721cb67f80ba50b7f320e"), looks := true }, kinds := [], alts := [], laidByText := true, laidKinds := [.data], laidTests := true, laidLooks := .later }
def AllocAlwaysCardSaid : Prop := Claim7.holds Tryz.pinned (.plain (OpenSpec.ofChange allocAlwaysSpec)) allocAlwaysCard

/-- THE TIED CARD OF 'candlinglaw19.AllocSpares'. -/
def allocSparesCard : Claim7 := { stood := { row := allocSparesRow, standIns := [], harness := (true, "8a3bbbef7d30f58cb314d0d6d880e6bf53018c4f4d0721cb67f80ba50b7f320e"), looks := true }, kinds := [], alts := [], laidByText := true, laidKinds := [.data], laidTests := true, laidLooks := .later }
def AllocSparesCardSaid : Prop := Claim7.holds Tryz.pinned (.plain (OpenSpec.ofChange allocSparesSpec)) allocSparesCard

/-- THE TIED CARD OF 'candlinglaw19.AllocNames'. -/
def allocNamesCard : Claim7 := { stood := { row := allocNamesRow, standIns := [], harness := (true, "8a3bbbef7d30f58cb314d0d6d880e6bf53018c4f4d0721cb67f80ba50b7f320e"), looks := true }, kinds := [], alts := [], laidByText := true, laidKinds := [.data], laidTests := true, laidLooks := .later }
def AllocNamesCardSaid : Prop := Claim7.holds Tryz.pinned (.plain (OpenSpec.ofChange allocNamesSpec)) allocNamesCard

/-- THE TIED CARD OF 'candlinglaw19.AllocMore'. -/
def allocMoreCard : Claim7 := { stood := { row := allocMoreRow, standIns := [], harness := (true, "8a3bbbef7d30f58cb314d0d6d880e6bf53018c4f4d0721cb67f80ba50b7f320e"), looks := true }, kinds := [], alts := [], laidByText := true, laidKinds := [.data], laidTests := true, laidLooks := .later }
def AllocMoreCardSaid : Prop := Claim7.holds Tryz.pinned (.plain (OpenSpec.ofChange allocMoreSpec)) allocMoreCard

/-- THE TIED CARD OF 'candlinglaw19.AllocLive'. -/
def allocLiveCard : Claim7 := { stood := { row := allocLiveRow, standIns := [], harness := (true, "8a3bbbef7d30f58cb314d0d6d880e6bf53018c4f4d0721cb67f80ba50b7f320e"), looks := true }, kinds := [], alts := [], laidByText := true, laidKinds := [.data], laidTests := true, laidLooks := .later }
def AllocLiveCardSaid : Prop := Claim7.holds Tryz.pinned (.plain (OpenSpec.ofChange allocLiveSpec)) allocLiveCard

/-- THE TIED CARD OF 'candlinglaw19.AllocCaught'. -/
def allocCaughtCard : Claim7 := { stood := { row := allocCaughtRow, standIns := [], harness := (true, "8a3bbbef7d30f58cb314d0d6d880e6bf53018c4f4d0721cb67f80ba50b7f320e"), looks := true }, kinds := [], alts := [], laidByText := true, laidKinds := [.data], laidTests := true, laidLooks := .later }
def AllocCaughtCardSaid : Prop := Claim7.holds Tryz.pinned (.plain (OpenSpec.ofChange allocCaughtSpec)) allocCaughtCard

/-- THE TIED CARD OF 'candlinglaw19.AllocTwice'. -/
def allocTwiceCard : Claim7 := { stood := { row := allocTwiceRow, standIns := [], harness := (true, "8a3bbbef7d30f58cb314d0d6d880e6bf53018c4f4d0721cb67f80ba50b7f320e"), looks := true }, kinds := [], alts := [], laidByText := true, laidKinds := [.data], laidTests := true, laidLooks := .later }
def AllocTwiceCardSaid : Prop := Claim7.holds Tryz.pinned (.plain (OpenSpec.ofChange allocTwiceSpec)) allocTwiceCard

/-- THE TIED CARD OF 'candlinglaw19.AllocCode'. -/
def allocCodeCard : Claim7 := { stood := { row := allocCodeRow, standIns := [], harness := (true, "8a3bbbef7d30f58cb314d0d6d880e6bf53018c4f4d0721cb67f80ba50b7f320e"), looks := true }, kinds := [], alts := [], laidByText := true, laidKinds := [.data], laidTests := true, laidLooks := .later }
def AllocCodeCardSaid : Prop := Claim7.holds Tryz.pinned (.plain (OpenSpec.ofChange allocCodeSpec)) allocCodeCard

/-- THE SECOND FORM's CARD OF 'candlinglaw19.AllocLives'. -/
def allocLivesUptoCard : Claim7 := { stood := { row := allocLivesUptoRow, standIns := [], harness := (true, "8a3bbbef7d30f58cb314d0d6d880e6bf53018c4f4d0721cb67f80ba50b7f320e"), looks := true }, kinds := [], alts := [], laidByText := true, laidKinds := [.data], laidTests := true, laidLooks := .later }
def AllocLivesUptoCardSaid : Prop := Claim7.holds Tryz.pinned (.plain (OpenSpec.upto allocLivesSpec)) allocLivesUptoCard

/-- THE SECOND FORM's CARD OF 'candlinglaw19.AllocAccepts'. -/
def allocAcceptsUptoCard : Claim7 := { stood := { row := allocAcceptsUptoRow, standIns := [], harness := (true, "8a3bbbef7d30f58cb314d0d6d880e6bf53018c4f4d0721cb67f80ba50b7f320e"), looks := true }, kinds := [], alts := [], laidByText := true, laidKinds := [.data], laidTests := true, laidLooks := .later }
def AllocAcceptsUptoCardSaid : Prop := Claim7.holds Tryz.pinned (.plain (OpenSpec.upto allocAcceptsSpec)) allocAcceptsUptoCard

/-- THE SECOND FORM's CARD OF 'candlinglaw19.AllocAllocates'. -/
def allocAllocatesUptoCard : Claim7 := { stood := { row := allocAllocatesUptoRow, standIns := [], harness := (true, "8a3bbbef7d30f58cb314d0d6d880e6bf53018c4f4d0721cb67f80ba50b7f320e"), looks := true }, kinds := [], alts := [], laidByText := true, laidKinds := [.data], laidTests := true, laidLooks := .later }
def AllocAllocatesUptoCardSaid : Prop := Claim7.holds Tryz.pinned (.plain (OpenSpec.upto allocAllocatesSpec)) allocAllocatesUptoCard

/-- THE SECOND FORM's CARD OF 'candlinglaw19.AllocAlways'. -/
def allocAlwaysUptoCard : Claim7 := { stood := { row := allocAlwaysUptoRow, standIns := [], harness := (true, "8a3bbbef7d30f58cb314d0d6d880e6bf53018c4f4d0721cb67f80ba50b7f320e"), looks := true }, kinds := [], alts := [], laidByText := true, laidKinds := [.data], laidTests := true, laidLooks := .later }
def AllocAlwaysUptoCardSaid : Prop := Claim7.holds Tryz.pinned (.plain (OpenSpec.upto allocAlwaysSpec)) allocAlwaysUptoCard

/-- THE SECOND FORM's CARD OF 'candlinglaw19.AllocSpares'. -/
def allocSparesUptoCard : Claim7 := { stood := { row := allocSparesUptoRow, standIns := [], harness := (true, "8a3bbbef7d30f58cb314d0d6d880e6bf53018c4f4d0721cb67f80ba50b7f320e"), looks := true }, kinds := [], alts := [], laidByText := true, laidKinds := [.data], laidTests := true, laidLooks := .later }
def AllocSparesUptoCardSaid : Prop := Claim7.holds Tryz.pinned (.plain (OpenSpec.upto allocSparesSpec)) allocSparesUptoCard

/-- THE SECOND FORM's CARD OF 'candlinglaw19.AllocNames'. -/
def allocNamesUptoCard : Claim7 := { stood := { row := allocNamesUptoRow, standIns := [], harness := (true, "8a3bbbef7d30f58cb314d0d6d880e6bf53018c4f4d0721cb67f80ba50b7f320e"), looks := true }, kinds := [], alts := [], laidByText := true, laidKinds := [.data], laidTests := true, laidLooks := .later }
def AllocNamesUptoCardSaid : Prop := Claim7.holds Tryz.pinned (.plain (OpenSpec.upto allocNamesSpec)) allocNamesUptoCard

/-- THE SECOND FORM's CARD OF 'candlinglaw19.AllocMore'. -/
def allocMoreUptoCard : Claim7 := { stood := { row := allocMoreUptoRow, standIns := [], harness := (true, "8a3bbbef7d30f58cb314d0d6d880e6bf53018c4f4d0721cb67f80ba50b7f320e"), looks := true }, kinds := [], alts := [], laidByText := true, laidKinds := [.data], laidTests := true, laidLooks := .later }
def AllocMoreUptoCardSaid : Prop := Claim7.holds Tryz.pinned (.plain (OpenSpec.upto allocMoreSpec)) allocMoreUptoCard

/-- THE SECOND FORM's CARD OF 'candlinglaw19.AllocLive'. -/
def allocLiveUptoCard : Claim7 := { stood := { row := allocLiveUptoRow, standIns := [], harness := (true, "8a3bbbef7d30f58cb314d0d6d880e6bf53018c4f4d0721cb67f80ba50b7f320e"), looks := true }, kinds := [], alts := [], laidByText := true, laidKinds := [.data], laidTests := true, laidLooks := .later }
def AllocLiveUptoCardSaid : Prop := Claim7.holds Tryz.pinned (.plain (OpenSpec.upto allocLiveSpec)) allocLiveUptoCard

/-- THE SECOND FORM's CARD OF 'candlinglaw19.AllocCaught'. -/
def allocCaughtUptoCard : Claim7 := { stood := { row := allocCaughtUptoRow, standIns := [], harness := (true, "8a3bbbef7d30f58cb314d0d6d880e6bf53018c4f4d0721cb67f80ba50b7f320e"), looks := true }, kinds := [], alts := [], laidByText := true, laidKinds := [.data], laidTests := true, laidLooks := .later }
def AllocCaughtUptoCardSaid : Prop := Claim7.holds Tryz.pinned (.plain (OpenSpec.upto allocCaughtSpec)) allocCaughtUptoCard

/-- THE SECOND FORM's CARD OF 'candlinglaw19.AllocTwice'. -/
def allocTwiceUptoCard : Claim7 := { stood := { row := allocTwiceUptoRow, standIns := [], harness := (true, "8a3bbbef7d30f58cb314d0d6d880e6bf53018c4f4d0721cb67f80ba50b7f320e"), looks := true }, kinds := [], alts := [], laidByText := true, laidKinds := [.data], laidTests := true, laidLooks := .later }
def AllocTwiceUptoCardSaid : Prop := Claim7.holds Tryz.pinned (.plain (OpenSpec.upto allocTwiceSpec)) allocTwiceUptoCard

/-- THE SECOND FORM's CARD OF 'candlinglaw19.AllocCode'. -/
def allocCodeUptoCard : Claim7 := { stood := { row := allocCodeUptoRow, standIns := [], harness := (true, "8a3bbbef7d30f58cb314d0d6d880e6bf53018c4f4d0721cb67f80ba50b7f320e"), looks := true }, kinds := [], alts := [], laidByText := true, laidKinds := [.data], laidTests := true, laidLooks := .later }
def AllocCodeUptoCardSaid : Prop := Claim7.holds Tryz.pinned (.plain (OpenSpec.upto allocCodeSpec)) allocCodeUptoCard
end Rows
end Go.Proofs.YtlahifihaeafbaaGreatDoor
