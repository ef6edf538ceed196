/-
  DERIVED. GIVEN WITH THE SEED: THE CARDS: each row of YtmjmaellggknnaaDoorRows.lean that lists a variable, with what it lists TIED to the program's text (the seventh form; the later family's looks); each row that meets fmt, with fmt's text TOLD by the authors' own Lean function (tested against real Go, not proved from fmt's source: count such statements apart). THE CARD IS WHAT COUNTS. Prove the row's statement (the work); the ties are given (YtmjmaellggknnaaDoorTie.lean); close each card by the builder's one call (the guide's Derived/Test/ToyasCard.lean, 'card_holds'). Laid BY PROGRAM, IN A SANDBOX (cutbox-door.mjs). By AI agents, Wed Nov 11 2026. No macro, syntax, notation, axiom, sorry.
-/
import Derived.Test.YtmjmaellggknnaaDoorRows
import GoSem.ClaimSeven
namespace Go.Proofs.YtmjmaellggknnaaDoor
namespace Rows

/-- THE TIED CARD OF 'anvillaw17.GdbBack'. -/
def gdbBackCard : Claim7 := { stood := { row := gdbBackRow, standIns := [], harness := (true, "8ed22910a91a391dc6b1df76f5c93ebbb710197acb74ae6ba211312b8cd80921"), looks := false }, kinds := [], alts := [], laidByText := true, laidKinds := [.data, .pinned], laidTests := true, laidLooks := .later }
def GdbBackCardSaid : Prop := Claim7.holds Tryd.pinned (.plain (OpenSpec.ofChange gdbBackSpec)) gdbBackCard

/-- THE TIED CARD OF 'anvillaw17.GdbSum'. -/
def gdbSumCard : Claim7 := { stood := { row := gdbSumRow, standIns := [], harness := (true, "8ed22910a91a391dc6b1df76f5c93ebbb710197acb74ae6ba211312b8cd80921"), looks := false }, kinds := [], alts := [], laidByText := true, laidKinds := [.data, .pinned], laidTests := true, laidLooks := .later }
def GdbSumCardSaid : Prop := Claim7.holds Tryd.pinned (.plain (OpenSpec.ofChange gdbSumSpec)) gdbSumCard

/-- THE SECOND FORM's CARD OF 'anvillaw17.GdbBack'. -/
def gdbBackUptoCard : Claim7 := { stood := { row := gdbBackUptoRow, standIns := [], harness := (true, "8ed22910a91a391dc6b1df76f5c93ebbb710197acb74ae6ba211312b8cd80921"), looks := false }, kinds := [], alts := [], laidByText := true, laidKinds := [.data, .pinned], laidTests := true, laidLooks := .later }
def GdbBackUptoCardSaid : Prop := Claim7.holds Tryd.pinned (.plain (OpenSpec.upto gdbBackSpec)) gdbBackUptoCard

/-- THE SECOND FORM's CARD OF 'anvillaw17.GdbSum'. -/
def gdbSumUptoCard : Claim7 := { stood := { row := gdbSumUptoRow, standIns := [], harness := (true, "8ed22910a91a391dc6b1df76f5c93ebbb710197acb74ae6ba211312b8cd80921"), looks := false }, kinds := [], alts := [], laidByText := true, laidKinds := [.data, .pinned], laidTests := true, laidLooks := .later }
def GdbSumUptoCardSaid : Prop := Claim7.holds Tryd.pinned (.plain (OpenSpec.upto gdbSumSpec)) gdbSumUptoCard
end Rows
end Go.Proofs.YtmjmaellggknnaaDoor
