/-
  DERIVED. GIVEN WITH THE SEED: THE CARDS: each row of YtffhcongfbnbiaaDoorRows.lean that lists a variable, with what it lists TIED to the program's text (the seventh form; the later family's looks); each row that meets fmt, with fmt's text TOLD by the authors' own Lean function (tested against real Go, not proved from fmt's source: count such statements apart). THE CARD IS WHAT COUNTS. Prove the row's statement (the work); the ties are given (YtffhcongfbnbiaaDoorTie.lean); close each card by the builder's one call (the guide's Derived/Test/ToyasCard.lean, 'card_holds'). Laid BY PROGRAM, IN A SANDBOX (cutbox-door.mjs). By AI agents, Wed Nov 11 2026. No macro, syntax, notation, axiom, sorry.
-/
import Derived.Test.YtffhcongfbnbiaaDoorRows
import GoSem.ClaimSeven
namespace Go.Proofs.YtffhcongfbnbiaaDoor
namespace Rows

/-- THE TIED CARD OF 'annuletlaw04.UtfCounts'. -/
def utfCountsCard : Claim7 := { stood := { row := utfCountsRow, standIns := [], harness := (true, "0674f25c979004d06921b24facac72095823f208df64fc57636b6d9d9ad4f345"), looks := false }, kinds := [], alts := [], laidByText := true, laidKinds := [.data, .pinned], laidTests := true, laidLooks := .later }
def UtfCountsCardSaid : Prop := Claim7.holds Tryd.pinned (.plain (OpenSpec.ofChange utfCountsSpec)) utfCountsCard

/-- THE TIED CARD OF 'annuletlaw04.UtfClips'. -/
def utfClipsCard : Claim7 := { stood := { row := utfClipsRow, standIns := [], harness := (true, "0674f25c979004d06921b24facac72095823f208df64fc57636b6d9d9ad4f345"), looks := false }, kinds := [], alts := [], laidByText := true, laidKinds := [.data, .pinned], laidTests := true, laidLooks := .later }
def UtfClipsCardSaid : Prop := Claim7.holds Tryd.pinned (.plain (OpenSpec.ofChange utfClipsSpec)) utfClipsCard

/-- THE TIED CARD OF 'annuletlaw04.UtfQuotes'. -/
def utfQuotesCard : Claim7 := { stood := { row := utfQuotesRow, standIns := [], harness := (true, "0674f25c979004d06921b24facac72095823f208df64fc57636b6d9d9ad4f345"), looks := false }, kinds := [], alts := [], laidByText := true, laidKinds := [.data, .pinned], laidTests := true, laidLooks := .later }
def UtfQuotesCardSaid : Prop := Claim7.holds Tryd.pinned (.plain (OpenSpec.ofChange utfQuotesSpec)) utfQuotesCard

/-- THE TIED CARD OF 'annuletlaw04.UtfBack'. -/
def utfBackCard : Claim7 := { stood := { row := utfBackRow, standIns := [], harness := (true, "0674f25c979004d06921b24facac72095823f208df64fc57636b6d9d9ad4f345"), looks := false }, kinds := [], alts := [], laidByText := true, laidKinds := [.data, .pinned], laidTests := true, laidLooks := .later }
def UtfBackCardSaid : Prop := Claim7.holds Tryd.pinned (.plain (OpenSpec.ofChange utfBackSpec)) utfBackCard

/-- THE SECOND FORM's CARD OF 'annuletlaw04.UtfCounts'. -/
def utfCountsUptoCard : Claim7 := { stood := { row := utfCountsUptoRow, standIns := [], harness := (true, "0674f25c979004d06921b24facac72095823f208df64fc57636b6d9d9ad4f345"), looks := false }, kinds := [], alts := [], laidByText := true, laidKinds := [.data, .pinned], laidTests := true, laidLooks := .later }
def UtfCountsUptoCardSaid : Prop := Claim7.holds Tryd.pinned (.plain (OpenSpec.upto utfCountsSpec)) utfCountsUptoCard

/-- THE SECOND FORM's CARD OF 'annuletlaw04.UtfClips'. -/
def utfClipsUptoCard : Claim7 := { stood := { row := utfClipsUptoRow, standIns := [], harness := (true, "0674f25c979004d06921b24facac72095823f208df64fc57636b6d9d9ad4f345"), looks := false }, kinds := [], alts := [], laidByText := true, laidKinds := [.data, .pinned], laidTests := true, laidLooks := .later }
def UtfClipsUptoCardSaid : Prop := Claim7.holds Tryd.pinned (.plain (OpenSpec.upto utfClipsSpec)) utfClipsUptoCard

/-- THE SECOND FORM's CARD OF 'annuletlaw04.UtfQuotes'. -/
def utfQuotesUptoCard : Claim7 := { stood := { row := utfQuotesUptoRow, standIns := [], harness := (true, "0674f25c979004d06921b24facac72095823f208df64fc57636b6d9d9ad4f345"), looks := false }, kinds := [], alts := [], laidByText := true, laidKinds := [.data, .pinned], laidTests := true, laidLooks := .later }
def UtfQuotesUptoCardSaid : Prop := Claim7.holds Tryd.pinned (.plain (OpenSpec.upto utfQuotesSpec)) utfQuotesUptoCard

/-- THE SECOND FORM's CARD OF 'annuletlaw04.UtfBack'. -/
def utfBackUptoCard : Claim7 := { stood := { row := utfBackUptoRow, standIns := [], harness := (true, "0674f25c979004d06921b24facac72095823f208df64fc57636b6d9d9ad4f345"), looks := false }, kinds := [], alts := [], laidByText := true, laidKinds := [.data, .pinned], laidTests := true, laidLooks := .later }
def UtfBackUptoCardSaid : Prop := Claim7.holds Tryd.pinned (.plain (OpenSpec.upto utfBackSpec)) utfBackUptoCard
end Rows
end Go.Proofs.YtffhcongfbnbiaaDoor
