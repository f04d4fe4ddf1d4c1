/-
  NARROWER THAN 'FOR EVERY INPUT', by the rows' own cells (each row's printed sentence says how): BenPrints: loops · BenBack: loops.
  DERIVED. THE GIVEN ROWS OF THIS SEAT. 4 by the template 'for every input the law returns true; each argument reads behind the call as it read before'; 0 by the template 'total and deterministic' (their statements: YtekcnfngcgchcaaTotals.lean).
  GIVEN WITH THE SEED: the statements are not yours to turn. If you find one false, say at which input.
  Laid BY PROGRAM, IN A SANDBOX (cutbox-rows.mjs): the forced cells as the released guide's own fill.sh prints them over the translation 66291bb92cb7c978… (all of the seat's roots in one cut). By AI agents, Wed Nov 11 2026. No macro, syntax, notation, axiom, sorry.
-/
import Derived.Test.YtekcnfngcgchcaaChecked
import GoSem.Claim
import GoSem.ClaimJoined
import GoSem.ClaimMapViews
import Derived.JoinedTies
import Derived.KernelRfl
namespace Go.Proofs.Ytekcnfngcgchcaa
/- THE CELL 'sum', in the pinned program and in every row, IS THE sha256 OF THE DUMP (.gsa) THAT YtekcnfngcgchcaaProg.lean LOADS. Nothing in Lean hashes anything: it is a label: what it is worth is what the hold of that sum in a sandbox is worth. -/
noncomputable def Try.pinned : Pinned := { name := "ytekcnfngcgchcaa", sum := "66291bb92cb7c978a848535518f47e5db173e3a264be47dade80721a6d7a0016", checked := Try.checked }
namespace Rows
def none {H : Type} : Left H := { results := [], args := [] }

/-- 'annuletlaw12.BenPrints': WHATEVER THE INPUT: true; the input reads as it did. -/
def benPrintsSpec : ChangeSpec := { name := "benPrints", fn := fun _ => fun
  | [d] => { results := [.lit (.bool true)], args := [d] }
  | _ => none }
def benPrintsRow : OpenClaim := { program := "ytekcnfngcgchcaa", sum := "66291bb92cb7c978a848535518f47e5db173e3a264be47dade80721a6d7a0016", func := "annulet/annuletlaw12.BenPrints", spec := "benPrints", inPlace := ["internal/bytealg.IndexByte"], unfollowed := true, recurses := true, loops := true, apart := false }
def BenPrintsSaid : Prop := benPrintsRow.holds Try.pinned (OpenSpec.ofChange benPrintsSpec)

/-- ITS FALSE NEIGHBOUR: 'it returns false'. Refute it at one input. -/
def benPrintsWrong : ChangeSpec := { name := "benPrints", fn := fun _ => fun
  | [d] => { results := [.lit (.bool false)], args := [d] }
  | _ => none }
def BenPrintsWrongFalsely : Prop := benPrintsRow.holds Try.pinned (OpenSpec.ofChange benPrintsWrong)

/-- 'annuletlaw12.BenParses': WHATEVER THE INPUT: true; the input reads as it did. -/
def benParsesSpec : ChangeSpec := { name := "benParses", fn := fun _ => fun
  | [d] => { results := [.lit (.bool true)], args := [d] }
  | _ => none }
def benParsesRow : OpenClaim := { program := "ytekcnfngcgchcaa", sum := "66291bb92cb7c978a848535518f47e5db173e3a264be47dade80721a6d7a0016", func := "annulet/annuletlaw12.BenParses", spec := "benParses", inPlace := ["internal/bytealg.IndexByte"], unfollowed := true, recurses := true, apart := false }
def BenParsesSaid : Prop := benParsesRow.holds Try.pinned (OpenSpec.ofChange benParsesSpec)

/-- ITS FALSE NEIGHBOUR: 'it returns false'. Refute it at one input. -/
def benParsesWrong : ChangeSpec := { name := "benParses", fn := fun _ => fun
  | [d] => { results := [.lit (.bool false)], args := [d] }
  | _ => none }
def BenParsesWrongFalsely : Prop := benParsesRow.holds Try.pinned (OpenSpec.ofChange benParsesWrong)

/-- 'annuletlaw12.BenBack': WHATEVER THE INPUT: true; the input reads as it did. -/
def benBackSpec : ChangeSpec := { name := "benBack", fn := fun _ => fun
  | [d1, d2] => { results := [.lit (.bool true)], args := [d1, d2] }
  | _ => none }
def benBackRow : OpenClaim := { program := "ytekcnfngcgchcaa", sum := "66291bb92cb7c978a848535518f47e5db173e3a264be47dade80721a6d7a0016", func := "annulet/annuletlaw12.BenBack", spec := "benBack", inPlace := ["internal/bytealg.IndexByte"], unfollowed := true, recurses := true, loops := true, apart := false }
def BenBackSaid : Prop := benBackRow.holds Try.pinned (OpenSpec.ofChange benBackSpec)

/-- ITS FALSE NEIGHBOUR: 'it returns false'. Refute it at one input. -/
def benBackWrong : ChangeSpec := { name := "benBack", fn := fun _ => fun
  | [d1, d2] => { results := [.lit (.bool false)], args := [d1, d2] }
  | _ => none }
def BenBackWrongFalsely : Prop := benBackRow.holds Try.pinned (OpenSpec.ofChange benBackWrong)

/-- 'annuletlaw12.BenDeep': WHATEVER THE INPUT: true; the input reads as it did. -/
def benDeepSpec : ChangeSpec := { name := "benDeep", fn := fun _ => fun
  | [d] => { results := [.lit (.bool true)], args := [d] }
  | _ => none }
def benDeepRow : OpenClaim := { program := "ytekcnfngcgchcaa", sum := "66291bb92cb7c978a848535518f47e5db173e3a264be47dade80721a6d7a0016", func := "annulet/annuletlaw12.BenDeep", spec := "benDeep", inPlace := ["internal/bytealg.IndexByte"], unfollowed := true, recurses := true, apart := false }
def BenDeepSaid : Prop := benDeepRow.holds Try.pinned (OpenSpec.ofChange benDeepSpec)

/-- ITS FALSE NEIGHBOUR: 'it returns false'. Refute it at one input. -/
def benDeepWrong : ChangeSpec := { name := "benDeep", fn := fun _ => fun
  | [d] => { results := [.lit (.bool false)], args := [d] }
  | _ => none }
def BenDeepWrongFalsely : Prop := benDeepRow.holds Try.pinned (OpenSpec.ofChange benDeepWrong)

/- THE SECOND FORM. 'bulk': how many values and letters a reading holds, each counted each time it is reached (what is shared counts as often as it is met; a slice's spare places count too). A statement '..UptoSaid' is the law's where the arguments, and the package variables that the reading takes, are together of bulk at most 1048576: NARROWER than '..Said'. Prove '..Said' where nothing that the law and all that it calls make is longer than what came in: it says more and counts as full. Else prove '..UptoSaid'. A law counts once. -/
mutual
def uptoBulk {H : Type} : DataW H → Nat
  | .lit (.string bytes) => bytes.length + 1
  | .lit _ => 1
  | .nil => 1
  | .ptr d => uptoBulk d + 1
  | .slice elems spare => uptoBulkAll elems + uptoBulkAll spare + 1
  | .agg parts => uptoBulkAll parts + 1
  | .iface _ d => uptoBulk d + 1
  | .map entries => uptoBulkEntries entries + 1
  | .held _ => 1
def uptoBulkAll {H : Type} : List (DataW H) → Nat
  | [] => 0
  | d :: r => uptoBulk d + uptoBulkAll r
def uptoBulkEntries {H : Type} : List (Lit × DataW H) → Nat
  | [] => 0
  | x :: r => uptoBulkEntry x + uptoBulkEntries r
def uptoBulkEntry {H : Type} : Lit × DataW H → Nat
  | (.string bytes, d) => bytes.length + uptoBulk d + 1
  | (_, d) => uptoBulk d + 1
 end
def uptoSmall : (H : Type) → List (DataW H) → Bool := fun _ ds => decide (uptoBulkAll ds ≤ 1048576)
def OpenSpec.upto (s : _root_.Go.ChangeSpec) : _root_.Go.OpenSpec := { _root_.Go.OpenSpec.ofChange s with cond := some uptoSmall }

/-- 'annuletlaw12.BenPrints', WHERE WHAT IT READS IS OF BULK AT MOST 1048576: true; the input reads as it did. -/
def benPrintsUptoRow : OpenClaim := { program := "ytekcnfngcgchcaa", sum := "66291bb92cb7c978a848535518f47e5db173e3a264be47dade80721a6d7a0016", func := "annulet/annuletlaw12.BenPrints", spec := "benPrints", inPlace := ["internal/bytealg.IndexByte"], unfollowed := true, recurses := true, loops := true, apart := false, narrowed := true }
def BenPrintsUptoSaid : Prop := benPrintsUptoRow.holds Try.pinned (OpenSpec.upto benPrintsSpec)

/-- 'annuletlaw12.BenParses', WHERE WHAT IT READS IS OF BULK AT MOST 1048576: true; the input reads as it did. -/
def benParsesUptoRow : OpenClaim := { program := "ytekcnfngcgchcaa", sum := "66291bb92cb7c978a848535518f47e5db173e3a264be47dade80721a6d7a0016", func := "annulet/annuletlaw12.BenParses", spec := "benParses", inPlace := ["internal/bytealg.IndexByte"], unfollowed := true, recurses := true, apart := false, narrowed := true }
def BenParsesUptoSaid : Prop := benParsesUptoRow.holds Try.pinned (OpenSpec.upto benParsesSpec)

/-- 'annuletlaw12.BenBack', WHERE WHAT IT READS IS OF BULK AT MOST 1048576: true; the input reads as it did. -/
def benBackUptoRow : OpenClaim := { program := "ytekcnfngcgchcaa", sum := "66291bb92cb7c978a848535518f47e5db173e3a264be47dade80721a6d7a0016", func := "annulet/annuletlaw12.BenBack", spec := "benBack", inPlace := ["internal/bytealg.IndexByte"], unfollowed := true, recurses := true, loops := true, apart := false, narrowed := true }
def BenBackUptoSaid : Prop := benBackUptoRow.holds Try.pinned (OpenSpec.upto benBackSpec)

/-- 'annuletlaw12.BenDeep', WHERE WHAT IT READS IS OF BULK AT MOST 1048576: true; the input reads as it did. -/
def benDeepUptoRow : OpenClaim := { program := "ytekcnfngcgchcaa", sum := "66291bb92cb7c978a848535518f47e5db173e3a264be47dade80721a6d7a0016", func := "annulet/annuletlaw12.BenDeep", spec := "benDeep", inPlace := ["internal/bytealg.IndexByte"], unfollowed := true, recurses := true, apart := false, narrowed := true }
def BenDeepUptoSaid : Prop := benDeepUptoRow.holds Try.pinned (OpenSpec.upto benDeepSpec)

end Rows
end Go.Proofs.Ytekcnfngcgchcaa
