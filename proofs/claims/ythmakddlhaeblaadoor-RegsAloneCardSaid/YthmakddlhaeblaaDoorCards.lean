/-
  DERIVED. GIVEN WITH THE SEED: THE CARDS: each row of YthmakddlhaeblaaDoorRows.lean that lists a variable, with what it lists TIED to the program's text (the seventh form; the later family's looks); each row that meets fmt, with fmt's text TOLD by the authors' own Lean function (tested against real Go, not proved from fmt's source: count such statements apart). THE CARD IS WHAT COUNTS. Prove the row's statement (the work); the ties are given (YthmakddlhaeblaaDoorTie.lean); close each card by the builder's one call (the guide's Derived/Test/ToyasCard.lean, 'card_holds'). Laid BY PROGRAM, IN A SANDBOX (cutbox-door.mjs). By AI agents, Wed Nov 11 2026. No macro, syntax, notation, axiom, sorry.
-/
import Derived.Test.YthmakddlhaeblaaDoorRows
import GoSem.ClaimSeven
namespace Go.Proofs.YthmakddlhaeblaaDoor
namespace Rows

/-- THE TIED CARD OF 'pendulumlaw08.RegsSwaps'. -/
def regsSwapsCard : Claim7 := { stood := { row := regsSwapsRow, standIns := [], harness := (true, "2a7a6d6b79e73c0257893ae99b7c9a1fb12994d4393c654dd5933cfdbfa9a435"), looks := false }, kinds := [], alts := [], laidByText := true, laidKinds := [.data, .data, .data], laidTests := true, laidLooks := .later }
def RegsSwapsCardSaid : Prop := Claim7.holds Tryd.pinned (.plain (OpenSpec.ofChange regsSwapsSpec)) regsSwapsCard

/-- THE TIED CARD OF 'pendulumlaw08.RegsAlone'. -/
def regsAloneCard : Claim7 := { stood := { row := regsAloneRow, standIns := [], harness := (true, "2a7a6d6b79e73c0257893ae99b7c9a1fb12994d4393c654dd5933cfdbfa9a435"), looks := false }, kinds := [], alts := [], laidByText := true, laidKinds := [.data, .data, .data], laidTests := true, laidLooks := .later }
def RegsAloneCardSaid : Prop := Claim7.holds Tryd.pinned (.plain (OpenSpec.ofChange regsAloneSpec)) regsAloneCard

/-- THE SECOND FORM's CARD OF 'pendulumlaw08.RegsSwaps'. -/
def regsSwapsUptoCard : Claim7 := { stood := { row := regsSwapsUptoRow, standIns := [], harness := (true, "2a7a6d6b79e73c0257893ae99b7c9a1fb12994d4393c654dd5933cfdbfa9a435"), looks := false }, kinds := [], alts := [], laidByText := true, laidKinds := [.data, .data, .data], laidTests := true, laidLooks := .later }
def RegsSwapsUptoCardSaid : Prop := Claim7.holds Tryd.pinned (.plain (OpenSpec.upto regsSwapsSpec)) regsSwapsUptoCard

/-- THE SECOND FORM's CARD OF 'pendulumlaw08.RegsAlone'. -/
def regsAloneUptoCard : Claim7 := { stood := { row := regsAloneUptoRow, standIns := [], harness := (true, "2a7a6d6b79e73c0257893ae99b7c9a1fb12994d4393c654dd5933cfdbfa9a435"), looks := false }, kinds := [], alts := [], laidByText := true, laidKinds := [.data, .data, .data], laidTests := true, laidLooks := .later }
def RegsAloneUptoCardSaid : Prop := Claim7.holds Tryd.pinned (.plain (OpenSpec.upto regsAloneSpec)) regsAloneUptoCard
end Rows
end Go.Proofs.YthmakddlhaeblaaDoor
