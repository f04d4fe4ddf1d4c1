/- Written by a program of this session (a turned copy of the kit's print): functions of the program, each with the Lean function that it comes to, and the row of one law. No condition. -/
import Derived.Test.YtekcnfngcgchcaaRows
import Derived.Test.YtekcnfngcgchcaaPBenPrintsx8
import Derived.Test.YtekcnfngcgchcaaPureBenPrints
import Derived.Test.YtekcnfngcgchcaaO
import Derived.WalkKit
import Derived.ProofKit
import Derived.OpenShut
import Derived.ShutString
import Derived.ChangeOld
import Derived.Below
import Derived.SizedLaws
import Derived.Test.YtekcnfngcgchcaaWSized
namespace Go.Proofs.Ytekcnfngcgchcaa.benPrints
open Go.ChangeShapes Go.WideShapes Go.ChangeAt Go.RowKit Go.Proofs.Ytekcnfngcgchcaa.PBenPrints Go.Proofs.YtekcnfngcgchcaaW.PrintWords Go.Proofs.YtekcnfngcgchcaaW.PrintLast Go.Proofs.YtekcnfngcgchcaaW.PrintMore
open Go.ChangeMaps (open_string shut_string)
set_option linter.unusedVariables false
set_option linter.unusedSimpArgs false
theorem own : ownKnob Try.prog.godebug = none := by kernel_rfl
theorem laidOut : laidOutB Try.prog = true := by kernel_rfl
theorem opn_rec25 : ∀ N, OpnU N Try.prog 25 k25 wfT25
  | 0 => opnU_zero
  | N + 1 => by
    have ih : OpnU N Try.prog 25 k25 wfT25 := opn_rec25 N
    refine fun hf hy => (opnU_iso (fun x : S25 => (x.f0, x.f1, x.f2, x.f3, x.f4)) (fun p => ⟨p.1, p.2.1, p.2.2.1, p.2.2.2.1, p.2.2.2.2⟩) (fun _ => rfl) (opnU_struct Try.underlying25 (by first | rfl | kernel_rfl) (opnFU_cons (Opn.u (opn_int Try.underlying3) N) rfl (by first | rfl | kernel_rfl) (opnFU_cons (Opn.u (opn_int Try.underlying2) N) rfl (by first | rfl | kernel_rfl) (opnFU_cons (Opn.u (opn_string Try.underlying9) N) rfl (by first | rfl | kernel_rfl) (opnFU_cons (Opn.u (opn_slice Try.underlying22 (by first | rfl | kernel_rfl) (opn_string Try.underlying9)) N) rfl (by first | rfl | kernel_rfl) (opnFU_one (OpnU.le (opnU_slice Try.underlying23 (by first | rfl | kernel_rfl) ih) (by omega)) rfl (by first | rfl | kernel_rfl))))))) hf hy).imp fun x ⟨hK, hG⟩ => ?_
    exact ⟨wfT25_K hK, wfT25_mk hG⟩
theorem opn0 : Opn Try.prog 25 k25 (fun x => ((Lit.int .i64 x.f0).wf = true ∧ (Lit.int .i64 x.f1).wf = true ∧ x.f2.size ≤ maxLen ∧ (x.f3.length ≤ maxLen ∧ ∀ z0 ∈ x.f3, z0.size ≤ maxLen) ∧ (x.f4.length ≤ maxLen ∧ ∀ z0 ∈ x.f4, wfT25 z0))) := fun hy => (opn_rec25 _ (Nat.le_refl _) hy).imp fun x ⟨hK, hG⟩ => ⟨hK, wfT25_open hG⟩
set_option maxRecDepth 100000 in
theorem lifted (os : Os) (started : os.Started) (H : Type) (enc : TypeId × Value → H) :
    ReturnsInHanded {} Try.checked os 3 .any (Rows.benPrintsSpec.pre6 enc Try.prog Try.f3 Rows.benPrintsRow.domain false) (Rows.benPrintsSpec.post enc Try.prog Try.f3 false true false false) := by
  refine returnsInHanded_of_change_sized (C := Try.checked) own started (by kernel_rfl) Try.func3
    (ChangeSpec.witness6 (enc := enc) (C := Try.checked) false ⟨#[], #[(.agg #[(.int .i64 0), (.int .i64 0), (.string ⟨#[]⟩), (.slice none 0 0), (.slice none 0 0)])], []⟩ 8 (by kernel_rfl) (by kernel_rfl) (by kernel_rfl) (by kernel_rfl)) ?_
  intro W base args ds gs before hval0 hW hcnd hsz0 _
  have hsz : (DataW.weightsEach Try.prog (Try.f3.params.toList ++ Rows.benPrintsSpec.plain.varTypes Try.prog) (ds ++ gs)).all (· ≤ reachBytes) = true := hsz0
  have hval : ∀ (j : Nat) t v, Try.f3.params[j]? = some t → args[j]? = some v → Value.okWide Try.prog W .any base t v := hval0
  have hW' := hW
  obtain ⟨p, q, hA0, hV, rfl, hfz, hnd⟩ := hW
  have hA : DataW.TrodAll enc Try.prog W 0 (fun _ => true) true Try.f3.params.toList args.toList ds p := hA0
  rw [Try.params3] at hA hval hsz
  obtain ⟨v0, vs0, d0, ds0, p0, q0, hargs, rfl, rfl, h0, r0⟩ := trodAll_cons hA
  obtain ⟨rfl, rfl, rfl⟩ := trodAll_nil r0
  obtain rfl : args = #[v0] := by cases args; simp_all
  obtain ⟨rfl, rfl⟩ := trodVars_none hV
  obtain ⟨cs0, rfl, hsz0⟩ := okWide_struct Try.underlying25 (hval 0 25 v0 rfl rfl)
  have k0 := h0
  have lt0 : ∀ x ∈ p0, x.block < W.heap.size := by obtain ⟨m, hm⟩ := k0; exact DataW.trod_lt m _ _ _ hm
  obtain ⟨x0, hK0, hG0⟩ : ∃ x, k25.K W x (Value.agg cs0).cells.toList ∧ ((Lit.int .i64 x.f0).wf = true ∧ (Lit.int .i64 x.f1).wf = true ∧ x.f2.size ≤ maxLen ∧ (x.f3.length ≤ maxLen ∧ ∀ z0 ∈ x.f3, z0.size ≤ maxLen) ∧ (x.f4.length ≤ maxLen ∧ ∀ z0 ∈ x.f4, wfT25 z0)) := by obtain ⟨fuel, hf⟩ := h0; exact opn0 hf
  obtain ⟨A0_3, c0_3, A0_4, c0_4, hcs0, hl0_3, hC0_3, hl0_4, hC0_4⟩ := k25_open hK0
  obtain rfl : cs0 = #[.int .i64 x0.f0, .int .i64 x0.f1, .string x0.f2, .slice A0_3 x0.f3.length c0_3, .slice A0_4 x0.f4.length c0_4] := Array.toList_inj.1 hcs0
  obtain ⟨hG0_0, hG0_1, hG0_2, hG0_3, hG0_4⟩ := hG0
  clear hA0 hval0 hsz0 hsz
  obtain ⟨k, hk⟩ := Pure.BenPrints x0.f0 x0.f1 x0.f2 x0.f3 x0.f4 hG0_0 hG0_1 hG0_2 hG0_3 hG0_4
  refine (PBenPrints.annuletlaw12_BenPrints.calls k x0.f0 x0.f1 x0.f2 _ _ x0.f3 _ _ x0.f4 true W hC0_3 hl0_3 hC0_4 hl0_4 hk).mono fun e W' ⟨he, bel0⟩ => ?_
  have bel : Below W.heap.size W W' := bel0
  subst he
  exact ⟨_, rfl, _, _, _, [], _, [], hW', trodAll_mk1 (shut_bool Try.underlying4 _), (trodAll_cons_mk (Below.trod laidOut (by kernel_rfl) (of_decide_eq_true (by kernel_rfl)) k0 bel lt0) trodAll_mk0), rfl, bel.frame _, fun h => by cases h⟩
theorem over : Rows.benPrintsRow.holds Try.pinned (OpenSpec.ofChange Rows.benPrintsSpec) :=
  OpenClaim.holds_of_wide 3 Try.f3 rfl rfl rfl rfl rfl rfl rfl ⟨rfl, rfl, rfl, rfl, rfl⟩ rfl rfl rfl rfl rfl (by kernel_rfl) Try.func3 (by kernel_rfl)
    (of_decide_eq_true (by kernel_rfl)) (by unfold Func.isWrapper; first | (rw [if_pos (by decide +kernel)]; kernel_rfl) | (rw [if_neg (by decide +kernel)]; exact ⟨rfl, rfl⟩))
    (fun os started H enc _ => lifted os started H enc)
theorem proved : Rows.BenPrintsSaid := over
#print axioms proved
end Go.Proofs.Ytekcnfngcgchcaa.benPrints
namespace Go.Proofs.Ytekcnfngcgchcaa
theorem benPrints_holds : Rows.BenPrintsSaid := benPrints.proved
end Go.Proofs.Ytekcnfngcgchcaa
