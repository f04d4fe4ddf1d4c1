/- Written by a program of this session (a turned copy of the kit's print): functions of the program, each with the Lean function that it comes to, and the row of one law. No condition. -/
import Derived.Test.YtplloiinedbnlaaRows
import Derived.Test.YtplloiinedbnlaaPSplitBackx7
import Derived.Test.YtplloiinedbnlaaPureSplitBack
import Derived.Test.YtplloiinedbnlaaO
import Derived.WalkKit
import Derived.ProofKit
import Derived.OpenShut
import Derived.ShutString
import Derived.ChangeOld
import Derived.Below
import Derived.SizedLaws
import Derived.Test.YtplloiinedbnlaaWSized
namespace Go.Proofs.Ytplloiinedbnlaa.splitBack
open Go.ChangeShapes Go.WideShapes Go.ChangeAt Go.RowKit Go.Proofs.Ytplloiinedbnlaa.PSplitBack Go.Proofs.YtplloiinedbnlaaW.PrintWords Go.Proofs.YtplloiinedbnlaaW.PrintLast Go.Proofs.YtplloiinedbnlaaW.PrintMore
open Go.ChangeMaps (open_string shut_string)
set_option linter.unusedVariables false
set_option linter.unusedSimpArgs false
theorem own : ownKnob Try.prog.godebug = none := by kernel_rfl
theorem laidOut : laidOutB Try.prog = true := by kernel_rfl
theorem opn1 : Opn Try.prog 32 k32 (fun x => ((Lit.int .u8 x.f0).wf = true ∧ (Lit.int .u8 x.f1).wf = true ∧ (Lit.int .u32 x.f2).wf = true ∧ (Lit.int .u32 x.f3).wf = true ∧ (Lit.int .u16 x.f4).wf = true ∧ (Lit.int .u16 x.f5).wf = true ∧ (x.f6.length ≤ maxLen ∧ ∀ z0 ∈ x.f6, (Lit.int .u8 z0).wf = true))) := (opn_iso (fun x : S32 => (x.f0, x.f1, x.f2, x.f3, x.f4, x.f5, x.f6)) (fun p => ⟨p.1, p.2.1, p.2.2.1, p.2.2.2.1, p.2.2.2.2.1, p.2.2.2.2.2.1, p.2.2.2.2.2.2⟩) (fun _ => rfl) (opn_struct Try.underlying32 (by first | rfl | kernel_rfl) (opnF_cons (opn_int Try.underlying5) rfl (by first | rfl | kernel_rfl) (opnF_cons (opn_int Try.underlying5) rfl (by first | rfl | kernel_rfl) (opnF_cons (opn_int Try.underlying28) rfl (by first | rfl | kernel_rfl) (opnF_cons (opn_int Try.underlying28) rfl (by first | rfl | kernel_rfl) (opnF_cons (opn_int Try.underlying29) rfl (by first | rfl | kernel_rfl) (opnF_cons (opn_int Try.underlying29) rfl (by first | rfl | kernel_rfl) (opnF_one (opn_slice Try.underlying30 (by first | rfl | kernel_rfl) (opn_int Try.underlying5)) rfl (by first | rfl | kernel_rfl))))))))))
set_option maxRecDepth 100000 in
theorem lifted (os : Os) (started : os.Started) (H : Type) (enc : TypeId × Value → H) :
    ReturnsInHanded {} Try.checked os 5 .any (Rows.splitBackSpec.pre6 enc Try.prog Try.f5 Rows.splitBackRow.domain false) (Rows.splitBackSpec.post enc Try.prog Try.f5 false true false false) := by
  refine returnsInHanded_of_change_sized (C := Try.checked) own started (by kernel_rfl) Try.func5
    (ChangeSpec.witness6 (enc := enc) (C := Try.checked) false ⟨#[], #[.int .i64 0, (.agg #[(.int .u8 0), (.int .u8 0), (.int .u32 0), (.int .u32 0), (.int .u16 0), (.int .u16 0), (.slice none 0 0)])], []⟩ 8 (by kernel_rfl) (by kernel_rfl) (by kernel_rfl) (by kernel_rfl)) ?_
  intro W base args ds gs before hval0 hW hcnd hsz0 _
  have hsz : (DataW.weightsEach Try.prog (Try.f5.params.toList ++ Rows.splitBackSpec.plain.varTypes Try.prog) (ds ++ gs)).all (· ≤ reachBytes) = true := hsz0
  have hval : ∀ (j : Nat) t v, Try.f5.params[j]? = some t → args[j]? = some v → Value.okWide Try.prog W .any base t v := hval0
  have hW' := hW
  obtain ⟨p, q, hA0, hV, rfl, hfz, hnd⟩ := hW
  have hA : DataW.TrodAll enc Try.prog W 0 (fun _ => true) true Try.f5.params.toList args.toList ds p := hA0
  rw [Try.params5] at hA hval hsz
  obtain ⟨v0, vs0, d0, ds0, p0, q0, hargs, rfl, rfl, h0, r0⟩ := trodAll_cons hA
  obtain ⟨v1, vs1, d1, ds1, p1, q1, rfl, rfl, rfl, h1, r1⟩ := trodAll_cons r0
  obtain ⟨rfl, rfl, rfl⟩ := trodAll_nil r1
  obtain rfl : args = #[v0, v1] := by cases args; simp_all
  obtain ⟨rfl, rfl⟩ := trodVars_none hV
  obtain ⟨a0, rfl, rfl, rfl, w0⟩ := open_int Try.underlying3 (hval 0 3 v0 rfl rfl) h0
  obtain ⟨cs1, rfl, hsz1⟩ := okWide_struct Try.underlying32 (hval 1 32 v1 rfl rfl)
  have k1 := h1
  have lt1 : ∀ x ∈ p1, x.block < W.heap.size := by obtain ⟨m, hm⟩ := k1; exact DataW.trod_lt m _ _ _ hm
  obtain ⟨x1, hK1, hG1⟩ : ∃ x, k32.K W x (Value.agg cs1).cells.toList ∧ ((Lit.int .u8 x.f0).wf = true ∧ (Lit.int .u8 x.f1).wf = true ∧ (Lit.int .u32 x.f2).wf = true ∧ (Lit.int .u32 x.f3).wf = true ∧ (Lit.int .u16 x.f4).wf = true ∧ (Lit.int .u16 x.f5).wf = true ∧ (x.f6.length ≤ maxLen ∧ ∀ z0 ∈ x.f6, (Lit.int .u8 z0).wf = true)) := by obtain ⟨fuel, hf⟩ := h1; exact opn1 hf
  obtain ⟨A1_6, c1_6, hcs1, hl1_6, hC1_6⟩ := k32_open hK1
  obtain rfl : cs1 = #[.int .u8 x1.f0, .int .u8 x1.f1, .int .u32 x1.f2, .int .u32 x1.f3, .int .u16 x1.f4, .int .u16 x1.f5, .slice A1_6 x1.f6.length c1_6] := Array.toList_inj.1 hcs1
  obtain ⟨hG1_0, hG1_1, hG1_2, hG1_3, hG1_4, hG1_5, hG1_6⟩ := hG1
  clear hA0 hval0 hsz0 hsz
  obtain ⟨k, hk⟩ := Pure.SplitBack a0 x1.f0 x1.f1 x1.f2 x1.f3 x1.f4 x1.f5 x1.f6 w0 hG1_0 hG1_1 hG1_2 hG1_3 hG1_4 hG1_5 hG1_6
  refine (PSplitBack.annuletlaw19_SplitBack.calls k a0 x1.f0 x1.f1 x1.f2 x1.f3 x1.f4 x1.f5 _ _ x1.f6 true W hC1_6 hl1_6 hk).mono fun e W' ⟨he, bel0⟩ => ?_
  have bel : Below W.heap.size W W' := bel0
  subst he
  exact ⟨_, rfl, _, _, _, [], _, [], hW', trodAll_mk1 (shut_bool Try.underlying4 _), (trodAll_cons_mk (shut_int Try.underlying3 w0) (trodAll_cons_mk (Below.trod laidOut (by kernel_rfl) (of_decide_eq_true (by kernel_rfl)) k1 bel lt1) trodAll_mk0)), rfl, bel.frame _, fun h => by cases h⟩
theorem over : Rows.splitBackRow.holds Try.pinned (OpenSpec.ofChange Rows.splitBackSpec) :=
  OpenClaim.holds_of_wide 5 Try.f5 rfl rfl rfl rfl rfl rfl rfl ⟨rfl, rfl, rfl, rfl, rfl⟩ rfl rfl rfl rfl rfl (by kernel_rfl) Try.func5 (by kernel_rfl)
    (of_decide_eq_true (by kernel_rfl)) (by unfold Func.isWrapper; first | (rw [if_pos (by decide +kernel)]; kernel_rfl) | (rw [if_neg (by decide +kernel)]; exact ⟨rfl, rfl⟩))
    (fun os started H enc _ => lifted os started H enc)
theorem proved : Rows.SplitBackSaid := over
#print axioms proved
end Go.Proofs.Ytplloiinedbnlaa.splitBack
namespace Go.Proofs.Ytplloiinedbnlaa
theorem splitBack_holds : Rows.SplitBackSaid := splitBack.proved
end Go.Proofs.Ytplloiinedbnlaa
