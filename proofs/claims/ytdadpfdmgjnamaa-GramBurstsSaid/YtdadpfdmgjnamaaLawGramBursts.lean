/- Written by a program of this session (a turned copy of the kit's print): functions of the program, each with the Lean function that it comes to, and the row of one law. No condition. -/
import Derived.Test.YtdadpfdmgjnamaaRows
import Derived.Test.YtdadpfdmgjnamaaPGramBurstsx5
import Derived.Test.YtdadpfdmgjnamaaPureGramBursts
import Derived.Test.YtdadpfdmgjnamaaO
import Derived.WalkKit
import Derived.ProofKit
import Derived.OpenShut
import Derived.ShutString
import Derived.ChangeOld
import Derived.Below
import Derived.SizedLaws
import Derived.Test.YtdadpfdmgjnamaaWSized
namespace Go.Proofs.Ytdadpfdmgjnamaa.gramBursts
open Go.ChangeShapes Go.WideShapes Go.ChangeAt Go.RowKit Go.Proofs.Ytdadpfdmgjnamaa.PGramBursts Go.Proofs.YtdadpfdmgjnamaaW.PrintWords Go.Proofs.YtdadpfdmgjnamaaW.PrintLast Go.Proofs.YtdadpfdmgjnamaaW.PrintMore
open Go.ChangeMaps (open_string shut_string)
set_option linter.unusedVariables false
set_option linter.unusedSimpArgs false
theorem own : ownKnob Try.prog.godebug = none := by kernel_rfl
theorem laidOut : laidOutB Try.prog = true := by kernel_rfl
theorem opn0 : Opn Try.prog 26 k26 (fun x => ((Lit.int .u8 x.f0).wf = true ∧ (Lit.int .u8 x.f1).wf = true ∧ (Lit.int .u32 x.f2).wf = true ∧ (Lit.int .u32 x.f3).wf = true ∧ (Lit.int .u16 x.f4).wf = true ∧ (Lit.int .u16 x.f5).wf = true ∧ (x.f6.length ≤ maxLen ∧ ∀ z0 ∈ x.f6, (Lit.int .u8 z0).wf = true))) := (opn_iso (fun x : S26 => (x.f0, x.f1, x.f2, x.f3, x.f4, x.f5, x.f6)) (fun p => ⟨p.1, p.2.1, p.2.2.1, p.2.2.2.1, p.2.2.2.2.1, p.2.2.2.2.2.1, p.2.2.2.2.2.2⟩) (fun _ => rfl) (opn_struct Try.underlying26 (by first | rfl | kernel_rfl) (opnF_cons (opn_int Try.underlying5) rfl (by first | rfl | kernel_rfl) (opnF_cons (opn_int Try.underlying5) rfl (by first | rfl | kernel_rfl) (opnF_cons (opn_int Try.underlying22) rfl (by first | rfl | kernel_rfl) (opnF_cons (opn_int Try.underlying22) rfl (by first | rfl | kernel_rfl) (opnF_cons (opn_int Try.underlying23) rfl (by first | rfl | kernel_rfl) (opnF_cons (opn_int Try.underlying23) rfl (by first | rfl | kernel_rfl) (opnF_one (opn_slice Try.underlying24 (by first | rfl | kernel_rfl) (opn_int Try.underlying5)) rfl (by first | rfl | kernel_rfl))))))))))
set_option maxRecDepth 100000 in
theorem lifted (os : Os) (started : os.Started) (H : Type) (enc : TypeId × Value → H) :
    ReturnsInHanded {} Try.checked os 6 .any (Rows.gramBurstsSpec.pre6 enc Try.prog Try.f6 Rows.gramBurstsRow.domain false) (Rows.gramBurstsSpec.post enc Try.prog Try.f6 false true false false) := by
  refine returnsInHanded_of_change_sized (C := Try.checked) own started (by kernel_rfl) Try.func6
    (ChangeSpec.witness6 (enc := enc) (C := Try.checked) false ⟨#[], #[(.agg #[(.int .u8 0), (.int .u8 0), (.int .u32 0), (.int .u32 0), (.int .u16 0), (.int .u16 0), (.slice none 0 0)]), .int .i64 0, .int .u32 0], []⟩ 8 (by kernel_rfl) (by kernel_rfl) (by kernel_rfl) (by kernel_rfl)) ?_
  intro W base args ds gs before hval0 hW hcnd hsz0 _
  have hsz : (DataW.weightsEach Try.prog (Try.f6.params.toList ++ Rows.gramBurstsSpec.plain.varTypes Try.prog) (ds ++ gs)).all (· ≤ reachBytes) = true := hsz0
  have hval : ∀ (j : Nat) t v, Try.f6.params[j]? = some t → args[j]? = some v → Value.okWide Try.prog W .any base t v := hval0
  have hW' := hW
  obtain ⟨p, q, hA0, hV, rfl, hfz, hnd⟩ := hW
  have hA : DataW.TrodAll enc Try.prog W 0 (fun _ => true) true Try.f6.params.toList args.toList ds p := hA0
  rw [Try.params6] at hA hval hsz
  obtain ⟨v0, vs0, d0, ds0, p0, q0, hargs, rfl, rfl, h0, r0⟩ := trodAll_cons hA
  obtain ⟨v1, vs1, d1, ds1, p1, q1, rfl, rfl, rfl, h1, r1⟩ := trodAll_cons r0
  obtain ⟨v2, vs2, d2, ds2, p2, q2, rfl, rfl, rfl, h2, r2⟩ := trodAll_cons r1
  obtain ⟨rfl, rfl, rfl⟩ := trodAll_nil r2
  obtain rfl : args = #[v0, v1, v2] := by cases args; simp_all
  obtain ⟨rfl, rfl⟩ := trodVars_none hV
  obtain ⟨cs0, rfl, hsz0⟩ := okWide_struct Try.underlying26 (hval 0 26 v0 rfl rfl)
  have k0 := h0
  have lt0 : ∀ x ∈ p0, x.block < W.heap.size := by obtain ⟨m, hm⟩ := k0; exact DataW.trod_lt m _ _ _ hm
  obtain ⟨x0, hK0, hG0⟩ : ∃ x, k26.K W x (Value.agg cs0).cells.toList ∧ ((Lit.int .u8 x.f0).wf = true ∧ (Lit.int .u8 x.f1).wf = true ∧ (Lit.int .u32 x.f2).wf = true ∧ (Lit.int .u32 x.f3).wf = true ∧ (Lit.int .u16 x.f4).wf = true ∧ (Lit.int .u16 x.f5).wf = true ∧ (x.f6.length ≤ maxLen ∧ ∀ z0 ∈ x.f6, (Lit.int .u8 z0).wf = true)) := by obtain ⟨fuel, hf⟩ := h0; exact opn0 hf
  obtain ⟨A0_6, c0_6, hcs0, hl0_6, hC0_6⟩ := k26_open hK0
  obtain rfl : cs0 = #[.int .u8 x0.f0, .int .u8 x0.f1, .int .u32 x0.f2, .int .u32 x0.f3, .int .u16 x0.f4, .int .u16 x0.f5, .slice A0_6 x0.f6.length c0_6] := Array.toList_inj.1 hcs0
  obtain ⟨hG0_0, hG0_1, hG0_2, hG0_3, hG0_4, hG0_5, hG0_6⟩ := hG0
  obtain ⟨a1, rfl, rfl, rfl, w1⟩ := open_int Try.underlying3 (hval 1 3 v1 rfl rfl) h1
  obtain ⟨a2, rfl, rfl, rfl, w2⟩ := open_int Try.underlying22 (hval 2 22 v2 rfl rfl) h2
  clear hA0 hval0 hsz0 hsz
  obtain ⟨k, hk⟩ := Pure.GramBursts x0.f0 x0.f1 x0.f2 x0.f3 x0.f4 x0.f5 x0.f6 a1 a2 hG0_0 hG0_1 hG0_2 hG0_3 hG0_4 hG0_5 hG0_6 w1 w2
  refine (PGramBursts.annuletlaw18_GramBursts.calls k x0.f0 x0.f1 x0.f2 x0.f3 x0.f4 x0.f5 _ _ x0.f6 a1 a2 true W hC0_6 hl0_6 hk).mono fun e W' ⟨he, bel0⟩ => ?_
  have bel : Below W.heap.size W W' := bel0
  subst he
  exact ⟨_, rfl, _, _, _, [], _, [], hW', trodAll_mk1 (shut_bool Try.underlying4 _), (trodAll_cons_mk (Below.trod laidOut (by kernel_rfl) (of_decide_eq_true (by kernel_rfl)) k0 bel lt0) (trodAll_cons_mk (shut_int Try.underlying3 w1) (trodAll_cons_mk (shut_int Try.underlying22 w2) trodAll_mk0))), rfl, bel.frame _, fun h => by cases h⟩
theorem over : Rows.gramBurstsRow.holds Try.pinned (OpenSpec.ofChange Rows.gramBurstsSpec) :=
  OpenClaim.holds_of_wide 6 Try.f6 rfl rfl rfl rfl rfl rfl rfl ⟨rfl, rfl, rfl, rfl, rfl⟩ rfl rfl rfl rfl rfl (by kernel_rfl) Try.func6 (by kernel_rfl)
    (of_decide_eq_true (by kernel_rfl)) (by unfold Func.isWrapper; first | (rw [if_pos (by decide +kernel)]; kernel_rfl) | (rw [if_neg (by decide +kernel)]; exact ⟨rfl, rfl⟩))
    (fun os started H enc _ => lifted os started H enc)
theorem proved : Rows.GramBurstsSaid := over
#print axioms proved
end Go.Proofs.Ytdadpfdmgjnamaa.gramBursts
namespace Go.Proofs.Ytdadpfdmgjnamaa
theorem gramBursts_holds : Rows.GramBurstsSaid := gramBursts.proved
end Go.Proofs.Ytdadpfdmgjnamaa
