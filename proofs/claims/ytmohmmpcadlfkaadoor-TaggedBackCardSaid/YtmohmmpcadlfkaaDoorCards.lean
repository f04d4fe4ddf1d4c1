/-
  DERIVED. GIVEN WITH THE SEED: THE CARDS: each row of YtmohmmpcadlfkaaDoorRows.lean that lists a variable, with what it lists TIED to the program's text (the seventh form; the later family's looks); each row that meets fmt, with fmt's text TOLD by the authors' own Lean function (tested against real Go, not proved from fmt's source: count such statements apart). THE CARD IS WHAT COUNTS. Prove the row's statement (the work); the ties are given (YtmohmmpcadlfkaaDoorTie.lean); close each card by the builder's one call (the guide's Derived/Test/ToyasCard.lean, 'card_holds'). Laid BY PROGRAM, IN A SANDBOX (cutbox-door.mjs). By AI agents, Wed Nov 11 2026. No macro, syntax, notation, axiom, sorry.
-/
import Derived.Test.YtmohmmpcadlfkaaDoorRows
import GoSem.ClaimSeven
namespace Go.Proofs.YtmohmmpcadlfkaaDoor
namespace Rows

/-- THE TIED CARD OF 'annuletlaw10.TaggedEncs'. -/
def taggedEncsCard : Claim7 := { stood := { row := taggedEncsRow, standIns := [], harness := (true, "7dd52513c2aeb2f85164636a8737bd60cc47895e61aff3ad73bced8d0114f71d"), looks := false }, kinds := [], alts := [], laidByText := true, laidKinds := [.data, .pinned], laidTests := true, laidLooks := .later }
def TaggedEncsCardSaid : Prop := Claim7.holds Tryd.pinned (.plain (OpenSpec.ofChange taggedEncsSpec)) taggedEncsCard

/-- THE TIED CARD OF 'annuletlaw10.TaggedDecs'. -/
def taggedDecsCard : Claim7 := { stood := { row := taggedDecsRow, standIns := [], harness := (true, "7dd52513c2aeb2f85164636a8737bd60cc47895e61aff3ad73bced8d0114f71d"), looks := false }, kinds := [], alts := [], laidByText := true, laidKinds := [.data, .pinned], laidTests := true, laidLooks := .later }
def TaggedDecsCardSaid : Prop := Claim7.holds Tryd.pinned (.plain (OpenSpec.ofChange taggedDecsSpec)) taggedDecsCard

/-- THE TIED CARD OF 'annuletlaw10.TaggedBack'. -/
def taggedBackCard : Claim7 := { stood := { row := taggedBackRow, standIns := [], harness := (true, "7dd52513c2aeb2f85164636a8737bd60cc47895e61aff3ad73bced8d0114f71d"), looks := false }, kinds := [], alts := [], laidByText := true, laidKinds := [.data, .pinned], laidTests := true, laidLooks := .later }
def TaggedBackCardSaid : Prop := Claim7.holds Tryd.pinned (.plain (OpenSpec.ofChange taggedBackSpec)) taggedBackCard

/-- THE SECOND FORM's CARD OF 'annuletlaw10.TaggedEncs'. -/
def taggedEncsUptoCard : Claim7 := { stood := { row := taggedEncsUptoRow, standIns := [], harness := (true, "7dd52513c2aeb2f85164636a8737bd60cc47895e61aff3ad73bced8d0114f71d"), looks := false }, kinds := [], alts := [], laidByText := true, laidKinds := [.data, .pinned], laidTests := true, laidLooks := .later }
def TaggedEncsUptoCardSaid : Prop := Claim7.holds Tryd.pinned (.plain (OpenSpec.upto taggedEncsSpec)) taggedEncsUptoCard

/-- THE SECOND FORM's CARD OF 'annuletlaw10.TaggedDecs'. -/
def taggedDecsUptoCard : Claim7 := { stood := { row := taggedDecsUptoRow, standIns := [], harness := (true, "7dd52513c2aeb2f85164636a8737bd60cc47895e61aff3ad73bced8d0114f71d"), looks := false }, kinds := [], alts := [], laidByText := true, laidKinds := [.data, .pinned], laidTests := true, laidLooks := .later }
def TaggedDecsUptoCardSaid : Prop := Claim7.holds Tryd.pinned (.plain (OpenSpec.upto taggedDecsSpec)) taggedDecsUptoCard

/-- THE SECOND FORM's CARD OF 'annuletlaw10.TaggedBack'. -/
def taggedBackUptoCard : Claim7 := { stood := { row := taggedBackUptoRow, standIns := [], harness := (true, "7dd52513c2aeb2f85164636a8737bd60cc47895e61aff3ad73bced8d0114f71d"), looks := false }, kinds := [], alts := [], laidByText := true, laidKinds := [.data, .pinned], laidTests := true, laidLooks := .later }
def TaggedBackUptoCardSaid : Prop := Claim7.holds Tryd.pinned (.plain (OpenSpec.upto taggedBackSpec)) taggedBackUptoCard
end Rows
end Go.Proofs.YtmohmmpcadlfkaaDoor
