/-
  No cell of these rows narrows 'for every input' (looked for: loops, veiled, ifaces, maps, wideKeys, modest, calm, conditions, laid).
  DERIVED. THE GIVEN ROWS OF THIS SEAT. 3 by the template 'for every input the law returns true; each argument reads behind the call as it read before'; 0 by the template 'total and deterministic' (their statements: YtopjffhmfgnedaaTotals.lean).
  GIVEN WITH THE SEED: the statements are not yours to turn. If you find one false, say at which input.
  Laid BY PROGRAM, IN A SANDBOX (cutbox-rows.mjs): the forced cells as the released guide's own fill.sh prints them over the translation 2524eb91c572b9f6… (all of the seat's roots in one cut). By AI agents, Wed Nov 11 2026. No macro, syntax, notation, axiom, sorry.
-/
import Derived.Test.YtopjffhmfgnedaaChecked
import GoSem.Claim
import GoSem.ClaimJoined
import GoSem.ClaimMapViews
import Derived.JoinedTies
import Derived.KernelRfl
namespace Go.Proofs.Ytopjffhmfgnedaa
/- THE CELL 'sum', in the pinned program and in every row, IS THE sha256 OF THE DUMP (.gsa) THAT YtopjffhmfgnedaaProg.lean LOADS. Nothing in Lean hashes anything: it is a label: what it is worth is what the hold of that sum in a sandbox is worth. -/
noncomputable def Try.pinned : Pinned := { name := "ytopjffhmfgnedaa", sum := "2524eb91c572b9f6a3658c84321cbca2fc8070335b542e74f8a65daf6e859a69", checked := Try.checked }
namespace Rows
def none {H : Type} : Left H := { results := [], args := [] }

/-- 'annuletlaw06.BufBack': WHATEVER THE INPUT: true; the input reads as it did. -/
def bufBackSpec : ChangeSpec := { name := "bufBack", fn := fun _ => fun
  | [d1, d2, d3, d4] => { results := [.lit (.bool true)], args := [d1, d2, d3, d4] }
  | _ => none }
def bufBackRow : OpenClaim := { program := "ytopjffhmfgnedaa", sum := "2524eb91c572b9f6a3658c84321cbca2fc8070335b542e74f8a65daf6e859a69", func := "annulet/annuletlaw06.BufBack", spec := "bufBack", apart := false }
def BufBackSaid : Prop := bufBackRow.holds Try.pinned (OpenSpec.ofChange bufBackSpec)

/-- ITS FALSE NEIGHBOUR: 'it returns false'. Refute it at one input. -/
def bufBackWrong : ChangeSpec := { name := "bufBack", fn := fun _ => fun
  | [d1, d2, d3, d4] => { results := [.lit (.bool false)], args := [d1, d2, d3, d4] }
  | _ => none }
def BufBackWrongFalsely : Prop := bufBackRow.holds Try.pinned (OpenSpec.ofChange bufBackWrong)

/-- 'annuletlaw06.BufReads': WHATEVER THE INPUT: true; the input reads as it did. -/
def bufReadsSpec : ChangeSpec := { name := "bufReads", fn := fun _ => fun
  | [d1, d2] => { results := [.lit (.bool true)], args := [d1, d2] }
  | _ => none }
def bufReadsRow : OpenClaim := { program := "ytopjffhmfgnedaa", sum := "2524eb91c572b9f6a3658c84321cbca2fc8070335b542e74f8a65daf6e859a69", func := "annulet/annuletlaw06.BufReads", spec := "bufReads", apart := false }
def BufReadsSaid : Prop := bufReadsRow.holds Try.pinned (OpenSpec.ofChange bufReadsSpec)

/-- ITS FALSE NEIGHBOUR: 'it returns false'. Refute it at one input. -/
def bufReadsWrong : ChangeSpec := { name := "bufReads", fn := fun _ => fun
  | [d1, d2] => { results := [.lit (.bool false)], args := [d1, d2] }
  | _ => none }
def BufReadsWrongFalsely : Prop := bufReadsRow.holds Try.pinned (OpenSpec.ofChange bufReadsWrong)

/-- 'annuletlaw06.BufStuck': WHATEVER THE INPUT: true; the input reads as it did. -/
def bufStuckSpec : ChangeSpec := { name := "bufStuck", fn := fun _ => fun
  | [d1, d2] => { results := [.lit (.bool true)], args := [d1, d2] }
  | _ => none }
def bufStuckRow : OpenClaim := { program := "ytopjffhmfgnedaa", sum := "2524eb91c572b9f6a3658c84321cbca2fc8070335b542e74f8a65daf6e859a69", func := "annulet/annuletlaw06.BufStuck", spec := "bufStuck", apart := false }
def BufStuckSaid : Prop := bufStuckRow.holds Try.pinned (OpenSpec.ofChange bufStuckSpec)

/-- ITS FALSE NEIGHBOUR: 'it returns false'. Refute it at one input. -/
def bufStuckWrong : ChangeSpec := { name := "bufStuck", fn := fun _ => fun
  | [d1, d2] => { results := [.lit (.bool false)], args := [d1, d2] }
  | _ => none }
def BufStuckWrongFalsely : Prop := bufStuckRow.holds Try.pinned (OpenSpec.ofChange bufStuckWrong)

/- THE SECOND FORM. 'bulk': how many values and letters a reading holds, each counted each time it is reached (what is shared counts as often as it is met; a slice's spare places count too). A statement '..UptoSaid' is the law's where the arguments, and the package variables that the reading takes, are together of bulk at most 1048576: NARROWER than '..Said'. Prove '..Said' where nothing that the law and all that it calls make is longer than what came in: it says more and counts as full. Else prove '..UptoSaid'. A law counts once. -/
mutual
def uptoBulk {H : Type} : DataW H → Nat
  | .lit (.string bytes) => bytes.length + 1
  | .lit _ => 1
  | .nil => 1
  | .ptr d => uptoBulk d + 1
  | .slice elems spare => uptoBulkAll elems + uptoBulkAll spare + 1
  | .agg parts => uptoBulkAll parts + 1
  | .iface _ d => uptoBulk d + 1
  | .map entries => uptoBulkEntries entries + 1
  | .held _ => 1
def uptoBulkAll {H : Type} : List (DataW H) → Nat
  | [] => 0
  | d :: r => uptoBulk d + uptoBulkAll r
def uptoBulkEntries {H : Type} : List (Lit × DataW H) → Nat
  | [] => 0
  | x :: r => uptoBulkEntry x + uptoBulkEntries r
def uptoBulkEntry {H : Type} : Lit × DataW H → Nat
  | (.string bytes, d) => bytes.length + uptoBulk d + 1
  | (_, d) => uptoBulk d + 1
 end
def uptoSmall : (H : Type) → List (DataW H) → Bool := fun _ ds => decide (uptoBulkAll ds ≤ 1048576)
def OpenSpec.upto (s : _root_.Go.ChangeSpec) : _root_.Go.OpenSpec := { _root_.Go.OpenSpec.ofChange s with cond := some uptoSmall }

/-- 'annuletlaw06.BufBack', WHERE WHAT IT READS IS OF BULK AT MOST 1048576: true; the input reads as it did. -/
def bufBackUptoRow : OpenClaim := { program := "ytopjffhmfgnedaa", sum := "2524eb91c572b9f6a3658c84321cbca2fc8070335b542e74f8a65daf6e859a69", func := "annulet/annuletlaw06.BufBack", spec := "bufBack", apart := false, narrowed := true }
def BufBackUptoSaid : Prop := bufBackUptoRow.holds Try.pinned (OpenSpec.upto bufBackSpec)

/-- 'annuletlaw06.BufReads', WHERE WHAT IT READS IS OF BULK AT MOST 1048576: true; the input reads as it did. -/
def bufReadsUptoRow : OpenClaim := { program := "ytopjffhmfgnedaa", sum := "2524eb91c572b9f6a3658c84321cbca2fc8070335b542e74f8a65daf6e859a69", func := "annulet/annuletlaw06.BufReads", spec := "bufReads", apart := false, narrowed := true }
def BufReadsUptoSaid : Prop := bufReadsUptoRow.holds Try.pinned (OpenSpec.upto bufReadsSpec)

/-- 'annuletlaw06.BufStuck', WHERE WHAT IT READS IS OF BULK AT MOST 1048576: true; the input reads as it did. -/
def bufStuckUptoRow : OpenClaim := { program := "ytopjffhmfgnedaa", sum := "2524eb91c572b9f6a3658c84321cbca2fc8070335b542e74f8a65daf6e859a69", func := "annulet/annuletlaw06.BufStuck", spec := "bufStuck", apart := false, narrowed := true }
def BufStuckUptoSaid : Prop := bufStuckUptoRow.holds Try.pinned (OpenSpec.upto bufStuckSpec)

end Rows
end Go.Proofs.Ytopjffhmfgnedaa
