/-
  DERIVED. GIVEN WITH THE SEED: THE CARDS: each row of YtjomjnkapjgheaaDoorRows.lean that lists a variable, with what it lists TIED to the program's text (the seventh form; the later family's looks); each row that meets fmt, with fmt's text TOLD by the authors' own Lean function (tested against real Go, not proved from fmt's source: count such statements apart). THE CARD IS WHAT COUNTS. Prove the row's statement (the work); the ties are given (YtjomjnkapjgheaaDoorTie.lean); close each card by the builder's one call (the guide's Derived/Test/ToyasCard.lean, 'card_holds'). Laid BY PROGRAM, IN A SANDBOX (cutbox-door.mjs). By AI agents, Wed Nov 11 2026. No macro, syntax, notation, axiom, sorry.
-/
import Derived.Test.YtjomjnkapjgheaaDoorRows
import GoSem.ClaimSeven
namespace Go.Proofs.YtjomjnkapjgheaaDoor
namespace Rows

/-- THE TIED CARD OF 'dactyllaw31.SecretTwins'. -/
def secretTwinsCard : Claim7 := { stood := { row := secretTwinsRow, standIns := [], harness := (true, "13134ae0dcdab72fe5d40544040d9e4a8dea1b3ceb31db344c5c1036bb046be2"), looks := false }, kinds := [], alts := [], laidByText := true, laidKinds := [.data, .data, .data], laidTests := true, laidLooks := .later }
def SecretTwinsCardSaid : Prop := Claim7.holds Tryd.pinned (.plain (OpenSpec.ofChange secretTwinsSpec)) secretTwinsCard

/-- THE SECOND FORM's CARD OF 'dactyllaw31.SecretTwins'. -/
def secretTwinsUptoCard : Claim7 := { stood := { row := secretTwinsUptoRow, standIns := [], harness := (true, "13134ae0dcdab72fe5d40544040d9e4a8dea1b3ceb31db344c5c1036bb046be2"), looks := false }, kinds := [], alts := [], laidByText := true, laidKinds := [.data, .data, .data], laidTests := true, laidLooks := .later }
def SecretTwinsUptoCardSaid : Prop := Claim7.holds Tryd.pinned (.plain (OpenSpec.upto secretTwinsSpec)) secretTwinsUptoCard
end Rows
end Go.Proofs.YtjomjnkapjgheaaDoor
