/- The law, of its walk and its branches. No condition. -/
import Derived.Test.YtpopljbpbobgfaaPNegoAgreesz1
import Derived.Test.YtpopljbpbobgfaaPNegoAgreesz2
import Derived.Test.YtpopljbpbobgfaaPNegoAgreesz3
import Derived.Test.YtpopljbpbobgfaaPNegoAgreesz4
namespace Go.Proofs.Ytpopljbpbobgfaa.PNegoAgrees
open Go.RowKit Go.Proofs.YtpopljbpbobgfaaW.PrintWords Go.Proofs.YtpopljbpbobgfaaW.PrintLast Go.Proofs.YtpopljbpbobgfaaW.PrintMore
attribute [local go_sem] max2_int min2_int max_two min_two max_three min_three max_four min_four   -- for this text's walks alone
set_option linter.unusedVariables false
set_option linter.unusedSimpArgs false
theorem annuletlaw25_NegoAgrees.calls (k : Nat) (a0 : Int) (a1 : Int) (A2 : Option Addr) (c2 : Nat) (l2 : List S46) (r : Bool) (w : World) (hr2 : Kd.C k46 w A2 l2.length l2) (hc2 : l2.length ≤ c2) (h : annuletlaw25_NegoAgrees.f k a0 a1 l2 = some r) : Calls Try.prog 5 #[.int .u16 a0, .int .u16 a1, .slice A2 l2.length c2] w fun e w' => e = .returned (.bool r) ∧ Below w.heap.size w w' := agreesX.2.2.2.2.2.2.2.2.2.2.2.2 ⟨agreesXB0⟩ ⟨agreesXB1⟩ ⟨agreesXB2⟩ ⟨agreesXB3⟩ ⟨agreesXB4⟩ ⟨agreesXB5⟩ ⟨agreesXB6⟩ ⟨agreesXB7⟩ ⟨agreesXB8⟩ ⟨agreesXB9⟩ ⟨agreesXB10⟩ ⟨agreesXB11⟩ k a0 a1 A2 c2 l2 r w hr2 hc2 h

def annuletlaw25_NegoAgrees.Pure : Prop := ∀ (a0 : Int) (a1 : Int) (l2 : List (S46)), (Lit.int .u16 a0).wf = true → (Lit.int .u16 a1).wf = true → (l2.length ≤ maxLen ∧ ∀ z0 ∈ l2, ((Lit.int .i64 z0.f0).wf = true ∧ (Lit.int .i64 z0.f1).wf = true)) → ∃ k, annuletlaw25_NegoAgrees.f k a0 a1 l2 = some true

end Go.Proofs.Ytpopljbpbobgfaa.PNegoAgrees
