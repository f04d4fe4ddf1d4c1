/-
  NARROWER THAN 'FOR EVERY INPUT', by the rows' own cells (each row's printed sentence says how): TaggedEncs: laid · TaggedDecs: laid · TaggedBack: laid.
  DERIVED. THE GIVEN ROWS OF THIS SEAT. 3 by the template 'for every input the law returns true; each argument reads behind the call as it read before'; 0 by the template 'total and deterministic' (their statements: YtmohmmpcadlfkaaDoorTotals.lean).
  GIVEN WITH THE SEED: the statements are not yours to turn. If you find one false, say at which input.
  Laid BY PROGRAM, IN A SANDBOX (cutbox-rows.mjs): the forced cells as the released guide's own fill.sh prints them over the translation 23c58cc1aaa26f61… (all of the seat's roots in one cut). By AI agents, Wed Nov 11 2026. No macro, syntax, notation, axiom, sorry.
-/
import Derived.Test.YtmohmmpcadlfkaaDoorChecked
import GoSem.PinnedTables
import GoSem.Claim
import GoSem.ClaimJoined
import GoSem.ClaimMapViews
import Derived.JoinedTies
import Derived.KernelRfl
namespace Go.Proofs.YtmohmmpcadlfkaaDoor
/- THE CELL 'sum', in the pinned program and in every row, IS THE sha256 OF THE DUMP (.gsa) THAT YtmohmmpcadlfkaaDoorProg.lean LOADS. Nothing in Lean hashes anything: it is a label: what it is worth is what the hold of that sum in a sandbox is worth. -/
noncomputable def Tryd.pinned : Pinned := { name := "ytmohmmpcadlfkaadoor", sum := "23c58cc1aaa26f613a34a0063a02027c03fa328639685ae552b65feaa4c891f2", checked := Tryd.checked }
namespace Rows
def none {H : Type} : Left H := { results := [], args := [] }

/- WHAT THE LISTED PACKAGE-LEVEL VARIABLES READ AS WHEN THE CALL BEGINS. Each datum BY PROGRAM (the guide's laid-datum.mjs) off the statement by which the dump's own 'gosem.cut.vars' lays the variable. In a bare row this is a premise. The card (YtmohmmpcadlfkaaDoorCards.lean) ties it to the program's text. -/
def laid_unicode_utf8_acceptRanges {H : Type} : DataW H := .agg [.agg [.lit (.int .u8 128), .lit (.int .u8 191)], .agg [.lit (.int .u8 160), .lit (.int .u8 191)], .agg [.lit (.int .u8 128), .lit (.int .u8 159)], .agg [.lit (.int .u8 144), .lit (.int .u8 191)], .agg [.lit (.int .u8 128), .lit (.int .u8 143)], .agg [.lit (.int .u8 0), .lit (.int .u8 0)], .agg [.lit (.int .u8 0), .lit (.int .u8 0)], .agg [.lit (.int .u8 0), .lit (.int .u8 0)], .agg [.lit (.int .u8 0), .lit (.int .u8 0)], .agg [.lit (.int .u8 0), .lit (.int .u8 0)], .agg [.lit (.int .u8 0), .lit (.int .u8 0)], .agg [.lit (.int .u8 0), .lit (.int .u8 0)], .agg [.lit (.int .u8 0), .lit (.int .u8 0)], .agg [.lit (.int .u8 0), .lit (.int .u8 0)], .agg [.lit (.int .u8 0), .lit (.int .u8 0)], .agg [.lit (.int .u8 0), .lit (.int .u8 0)]]
/-- One of Go's own tables, pinned by name: the form's constant. -/
def laid_unicode_utf8_first : DataW Unit := Go.Pinned.utf8First

/-- 'annuletlaw10.TaggedEncs': WHATEVER THE INPUT: true; the input reads as it did. -/
def taggedEncsSpec : ChangeSpec := { name := "taggedEncs", fn := fun _ => fun
  | [d] => { results := [.lit (.bool true)], args := [d] }
  | _ => none }
def taggedEncsRow : OpenClaim := { program := "ytmohmmpcadlfkaadoor", sum := "23c58cc1aaa26f613a34a0063a02027c03fa328639685ae552b65feaa4c891f2", func := "annulet/annuletlaw10.TaggedEncs", spec := "taggedEncs", unfollowed := true, recurses := true, named := ["unicode/utf8.first", "unicode/utf8.acceptRanges"], apart := false, laid := [("unicode/utf8.acceptRanges", laid_unicode_utf8_acceptRanges), ("unicode/utf8.first", laid_unicode_utf8_first)] }
def TaggedEncsSaid : Prop := taggedEncsRow.holds Tryd.pinned (OpenSpec.ofChange taggedEncsSpec)

/-- ITS FALSE NEIGHBOUR: 'it returns false'. Refute it at one input. -/
def taggedEncsWrong : ChangeSpec := { name := "taggedEncs", fn := fun _ => fun
  | [d] => { results := [.lit (.bool false)], args := [d] }
  | _ => none }
def TaggedEncsWrongFalsely : Prop := taggedEncsRow.holds Tryd.pinned (OpenSpec.ofChange taggedEncsWrong)

/-- 'annuletlaw10.TaggedDecs': WHATEVER THE INPUT: true; the input reads as it did. -/
def taggedDecsSpec : ChangeSpec := { name := "taggedDecs", fn := fun _ => fun
  | [d] => { results := [.lit (.bool true)], args := [d] }
  | _ => none }
def taggedDecsRow : OpenClaim := { program := "ytmohmmpcadlfkaadoor", sum := "23c58cc1aaa26f613a34a0063a02027c03fa328639685ae552b65feaa4c891f2", func := "annulet/annuletlaw10.TaggedDecs", spec := "taggedDecs", unfollowed := true, recurses := true, named := ["unicode/utf8.first", "unicode/utf8.acceptRanges"], apart := false, laid := [("unicode/utf8.acceptRanges", laid_unicode_utf8_acceptRanges), ("unicode/utf8.first", laid_unicode_utf8_first)] }
def TaggedDecsSaid : Prop := taggedDecsRow.holds Tryd.pinned (OpenSpec.ofChange taggedDecsSpec)

/-- ITS FALSE NEIGHBOUR: 'it returns false'. Refute it at one input. -/
def taggedDecsWrong : ChangeSpec := { name := "taggedDecs", fn := fun _ => fun
  | [d] => { results := [.lit (.bool false)], args := [d] }
  | _ => none }
def TaggedDecsWrongFalsely : Prop := taggedDecsRow.holds Tryd.pinned (OpenSpec.ofChange taggedDecsWrong)

/-- 'annuletlaw10.TaggedBack': WHATEVER THE INPUT: true; the input reads as it did. -/
def taggedBackSpec : ChangeSpec := { name := "taggedBack", fn := fun _ => fun
  | [d1, d2] => { results := [.lit (.bool true)], args := [d1, d2] }
  | _ => none }
def taggedBackRow : OpenClaim := { program := "ytmohmmpcadlfkaadoor", sum := "23c58cc1aaa26f613a34a0063a02027c03fa328639685ae552b65feaa4c891f2", func := "annulet/annuletlaw10.TaggedBack", spec := "taggedBack", unfollowed := true, recurses := true, named := ["unicode/utf8.first", "unicode/utf8.acceptRanges"], apart := false, laid := [("unicode/utf8.acceptRanges", laid_unicode_utf8_acceptRanges), ("unicode/utf8.first", laid_unicode_utf8_first)] }
def TaggedBackSaid : Prop := taggedBackRow.holds Tryd.pinned (OpenSpec.ofChange taggedBackSpec)

/-- ITS FALSE NEIGHBOUR: 'it returns false'. Refute it at one input. -/
def taggedBackWrong : ChangeSpec := { name := "taggedBack", fn := fun _ => fun
  | [d1, d2] => { results := [.lit (.bool false)], args := [d1, d2] }
  | _ => none }
def TaggedBackWrongFalsely : Prop := taggedBackRow.holds Tryd.pinned (OpenSpec.ofChange taggedBackWrong)

/- THE SECOND FORM. 'bulk': how many values and letters a reading holds, each counted each time it is reached (what is shared counts as often as it is met; a slice's spare places count too). A statement '..UptoSaid' is the law's where the arguments, and the package variables that the reading takes, are together of bulk at most 1048576: NARROWER than '..Said'. Prove '..Said' where nothing that the law and all that it calls make is longer than what came in: it says more and counts as full. Else prove '..UptoSaid'. A law counts once. -/
mutual
def uptoBulk {H : Type} : DataW H → Nat
  | .lit (.string bytes) => bytes.length + 1
  | .lit _ => 1
  | .nil => 1
  | .ptr d => uptoBulk d + 1
  | .slice elems spare => uptoBulkAll elems + uptoBulkAll spare + 1
  | .agg parts => uptoBulkAll parts + 1
  | .iface _ d => uptoBulk d + 1
  | .map entries => uptoBulkEntries entries + 1
  | .held _ => 1
def uptoBulkAll {H : Type} : List (DataW H) → Nat
  | [] => 0
  | d :: r => uptoBulk d + uptoBulkAll r
def uptoBulkEntries {H : Type} : List (Lit × DataW H) → Nat
  | [] => 0
  | x :: r => uptoBulkEntry x + uptoBulkEntries r
def uptoBulkEntry {H : Type} : Lit × DataW H → Nat
  | (.string bytes, d) => bytes.length + uptoBulk d + 1
  | (_, d) => uptoBulk d + 1
 end
def uptoSmall : (H : Type) → List (DataW H) → Bool := fun _ ds => decide (uptoBulkAll ds ≤ 1048576)
def OpenSpec.upto (s : _root_.Go.ChangeSpec) : _root_.Go.OpenSpec := { _root_.Go.OpenSpec.ofChange s with cond := some uptoSmall }

/-- 'annuletlaw10.TaggedEncs', WHERE WHAT IT READS IS OF BULK AT MOST 1048576: true; the input reads as it did. -/
def taggedEncsUptoRow : OpenClaim := { program := "ytmohmmpcadlfkaadoor", sum := "23c58cc1aaa26f613a34a0063a02027c03fa328639685ae552b65feaa4c891f2", func := "annulet/annuletlaw10.TaggedEncs", spec := "taggedEncs", unfollowed := true, recurses := true, named := ["unicode/utf8.first", "unicode/utf8.acceptRanges"], apart := false, laid := [("unicode/utf8.acceptRanges", laid_unicode_utf8_acceptRanges), ("unicode/utf8.first", laid_unicode_utf8_first)], narrowed := true }
def TaggedEncsUptoSaid : Prop := taggedEncsUptoRow.holds Tryd.pinned (OpenSpec.upto taggedEncsSpec)

/-- 'annuletlaw10.TaggedDecs', WHERE WHAT IT READS IS OF BULK AT MOST 1048576: true; the input reads as it did. -/
def taggedDecsUptoRow : OpenClaim := { program := "ytmohmmpcadlfkaadoor", sum := "23c58cc1aaa26f613a34a0063a02027c03fa328639685ae552b65feaa4c891f2", func := "annulet/annuletlaw10.TaggedDecs", spec := "taggedDecs", unfollowed := true, recurses := true, named := ["unicode/utf8.first", "unicode/utf8.acceptRanges"], apart := false, laid := [("unicode/utf8.acceptRanges", laid_unicode_utf8_acceptRanges), ("unicode/utf8.first", laid_unicode_utf8_first)], narrowed := true }
def TaggedDecsUptoSaid : Prop := taggedDecsUptoRow.holds Tryd.pinned (OpenSpec.upto taggedDecsSpec)

/-- 'annuletlaw10.TaggedBack', WHERE WHAT IT READS IS OF BULK AT MOST 1048576: true; the input reads as it did. -/
def taggedBackUptoRow : OpenClaim := { program := "ytmohmmpcadlfkaadoor", sum := "23c58cc1aaa26f613a34a0063a02027c03fa328639685ae552b65feaa4c891f2", func := "annulet/annuletlaw10.TaggedBack", spec := "taggedBack", unfollowed := true, recurses := true, named := ["unicode/utf8.first", "unicode/utf8.acceptRanges"], apart := false, laid := [("unicode/utf8.acceptRanges", laid_unicode_utf8_acceptRanges), ("unicode/utf8.first", laid_unicode_utf8_first)], narrowed := true }
def TaggedBackUptoSaid : Prop := taggedBackUptoRow.holds Tryd.pinned (OpenSpec.upto taggedBackSpec)

end Rows
end Go.Proofs.YtmohmmpcadlfkaaDoor
