/-
  DERIVED. GIVEN WITH THE SEED: THE CARDS: each row of YtddnfbcfogpkgaaDoorRows.lean that lists a variable, with what it lists TIED to the program's text (the seventh form; the later family's looks); each row that meets fmt, with fmt's text TOLD by the authors' own Lean function (tested against real Go, not proved from fmt's source: count such statements apart). THE CARD IS WHAT COUNTS. Prove the row's statement (the work); the ties are given (YtddnfbcfogpkgaaDoorTie.lean); close each card by the builder's one call (the guide's Derived/Test/ToyasCard.lean, 'card_holds'). Laid BY PROGRAM, IN A SANDBOX (cutbox-door.mjs). By AI agents, Wed Nov 11 2026. No macro, syntax, notation, axiom, sorry.
-/
import Derived.Test.YtddnfbcfogpkgaaDoorRows
import GoSem.ClaimSeven
namespace Go.Proofs.YtddnfbcfogpkgaaDoor
namespace Rows

/-- THE TIED CARD OF 'annuletlaw08.MsgRight'. -/
def msgRightCard : Claim7 := { stood := { row := msgRightRow, standIns := [], harness := (true, "d14eabeca68874851744bc7bd9d53a405f92b3f6ef628a7d1e2da7a034c92d80"), looks := false }, kinds := [], alts := [], laidByText := true, laidKinds := [.data, .pinned], laidTests := true, laidLooks := .later }
def MsgRightCardSaid : Prop := Claim7.holds Tryd.pinned (.plain (OpenSpec.ofChange msgRightSpec)) msgRightCard

/-- THE TIED CARD OF 'annuletlaw08.MsgKinds'. -/
def msgKindsCard : Claim7 := { stood := { row := msgKindsRow, standIns := [], harness := (true, "d14eabeca68874851744bc7bd9d53a405f92b3f6ef628a7d1e2da7a034c92d80"), looks := false }, kinds := [], alts := [], laidByText := true, laidKinds := [.data, .pinned], laidTests := true, laidLooks := .later }
def MsgKindsCardSaid : Prop := Claim7.holds Tryd.pinned (.plain (OpenSpec.ofChange msgKindsSpec)) msgKindsCard

/-- THE TIED CARD OF 'annuletlaw08.MsgClean'. -/
def msgCleanCard : Claim7 := { stood := { row := msgCleanRow, standIns := [], harness := (true, "d14eabeca68874851744bc7bd9d53a405f92b3f6ef628a7d1e2da7a034c92d80"), looks := false }, kinds := [], alts := [], laidByText := true, laidKinds := [.data, .pinned], laidTests := true, laidLooks := .later }
def MsgCleanCardSaid : Prop := Claim7.holds Tryd.pinned (.plain (OpenSpec.ofChange msgCleanSpec)) msgCleanCard

/-- THE TIED CARD OF 'annuletlaw08.MsgBares'. -/
def msgBaresCard : Claim7 := { stood := { row := msgBaresRow, standIns := [], harness := (true, "d14eabeca68874851744bc7bd9d53a405f92b3f6ef628a7d1e2da7a034c92d80"), looks := false }, kinds := [], alts := [], laidByText := true, laidKinds := [.data, .pinned], laidTests := true, laidLooks := .later }
def MsgBaresCardSaid : Prop := Claim7.holds Tryd.pinned (.plain (OpenSpec.ofChange msgBaresSpec)) msgBaresCard

/-- THE SECOND FORM's CARD OF 'annuletlaw08.MsgRight'. -/
def msgRightUptoCard : Claim7 := { stood := { row := msgRightUptoRow, standIns := [], harness := (true, "d14eabeca68874851744bc7bd9d53a405f92b3f6ef628a7d1e2da7a034c92d80"), looks := false }, kinds := [], alts := [], laidByText := true, laidKinds := [.data, .pinned], laidTests := true, laidLooks := .later }
def MsgRightUptoCardSaid : Prop := Claim7.holds Tryd.pinned (.plain (OpenSpec.upto msgRightSpec)) msgRightUptoCard

/-- THE SECOND FORM's CARD OF 'annuletlaw08.MsgKinds'. -/
def msgKindsUptoCard : Claim7 := { stood := { row := msgKindsUptoRow, standIns := [], harness := (true, "d14eabeca68874851744bc7bd9d53a405f92b3f6ef628a7d1e2da7a034c92d80"), looks := false }, kinds := [], alts := [], laidByText := true, laidKinds := [.data, .pinned], laidTests := true, laidLooks := .later }
def MsgKindsUptoCardSaid : Prop := Claim7.holds Tryd.pinned (.plain (OpenSpec.upto msgKindsSpec)) msgKindsUptoCard

/-- THE SECOND FORM's CARD OF 'annuletlaw08.MsgClean'. -/
def msgCleanUptoCard : Claim7 := { stood := { row := msgCleanUptoRow, standIns := [], harness := (true, "d14eabeca68874851744bc7bd9d53a405f92b3f6ef628a7d1e2da7a034c92d80"), looks := false }, kinds := [], alts := [], laidByText := true, laidKinds := [.data, .pinned], laidTests := true, laidLooks := .later }
def MsgCleanUptoCardSaid : Prop := Claim7.holds Tryd.pinned (.plain (OpenSpec.upto msgCleanSpec)) msgCleanUptoCard

/-- THE SECOND FORM's CARD OF 'annuletlaw08.MsgBares'. -/
def msgBaresUptoCard : Claim7 := { stood := { row := msgBaresUptoRow, standIns := [], harness := (true, "d14eabeca68874851744bc7bd9d53a405f92b3f6ef628a7d1e2da7a034c92d80"), looks := false }, kinds := [], alts := [], laidByText := true, laidKinds := [.data, .pinned], laidTests := true, laidLooks := .later }
def MsgBaresUptoCardSaid : Prop := Claim7.holds Tryd.pinned (.plain (OpenSpec.upto msgBaresSpec)) msgBaresUptoCard
end Rows
end Go.Proofs.YtddnfbcfogpkgaaDoor
