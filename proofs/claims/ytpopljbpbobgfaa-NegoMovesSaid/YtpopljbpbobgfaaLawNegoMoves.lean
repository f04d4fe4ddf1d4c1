/- Written by a program of this session (a turned copy of the kit's print): functions of the program, each with the Lean function that it comes to, and the row of one law. No condition. -/
import Derived.Test.YtpopljbpbobgfaaRows
import Derived.Test.YtpopljbpbobgfaaPNegoMovesx7
import Derived.Test.YtpopljbpbobgfaaPureNegoMoves
import Derived.Test.YtpopljbpbobgfaaO
import Derived.WalkKit
import Derived.ProofKit
import Derived.OpenShut
import Derived.ShutString
import Derived.ChangeOld
import Derived.Below
import Derived.SizedLaws
import Derived.Test.YtpopljbpbobgfaaWSized
namespace Go.Proofs.Ytpopljbpbobgfaa.negoMoves
open Go.ChangeShapes Go.WideShapes Go.ChangeAt Go.RowKit Go.Proofs.Ytpopljbpbobgfaa.PNegoMoves Go.Proofs.YtpopljbpbobgfaaW.PrintWords Go.Proofs.YtpopljbpbobgfaaW.PrintLast Go.Proofs.YtpopljbpbobgfaaW.PrintMore
open Go.ChangeMaps (open_string shut_string)
set_option linter.unusedVariables false
set_option linter.unusedSimpArgs false
theorem own : ownKnob Try.prog.godebug = none := by kernel_rfl
theorem laidOut : laidOutB Try.prog = true := by kernel_rfl
theorem opn0 : Opn Try.prog 33 k33 (fun x => ((Lit.int .u16 x.f0).wf = true ∧ (Lit.int .i64 x.f1).wf = true ∧ (Lit.int .u16 x.f2).wf = true ∧ (Lit.int .i64 x.f3).wf = true ∧ (Lit.int .i64 x.f4).wf = true ∧ (Lit.int .u32 x.f5).wf = true ∧ (Lit.int .u32 x.f6).wf = true ∧ (x.f7.length ≤ maxLen ∧ ∀ z0 ∈ x.f7, ((Lit.int .i64 z0.f0).wf = true ∧ (Lit.int .u32 z0.f1).wf = true ∧ (Lit.int .u8 z0.f2).wf = true ∧ True ∧ (Lit.int .u64 z0.f4).wf = true ∧ z0.f5.size ≤ maxLen ∧ z0.f6.size ≤ maxLen ∧ ((Lit.int .u64 z0.f7.f0).wf = true ∧ (Lit.int .u16 z0.f7.f1).wf = true) ∧ (z0.f8.length ≤ maxLen ∧ ∀ z1 ∈ z0.f8, ((Lit.int .u64 z1.f0).wf = true ∧ (Lit.int .u16 z1.f1).wf = true)) ∧ (z0.f9.length ≤ maxLen ∧ ∀ z1 ∈ z0.f9, (z1.f0.size ≤ maxLen ∧ z1.f1.size ≤ maxLen)))))) := (opn_iso (fun x : S33 => (x.f0, x.f1, x.f2, x.f3, x.f4, x.f5, x.f6, x.f7)) (fun p => ⟨p.1, p.2.1, p.2.2.1, p.2.2.2.1, p.2.2.2.2.1, p.2.2.2.2.2.1, p.2.2.2.2.2.2.1, p.2.2.2.2.2.2.2⟩) (fun _ => rfl) (opn_struct Try.underlying33 (by first | rfl | kernel_rfl) (opnF_cons (opn_int Try.underlying22) rfl (by first | rfl | kernel_rfl) (opnF_cons (opn_int Try.underlying3) rfl (by first | rfl | kernel_rfl) (opnF_cons (opn_int Try.underlying22) rfl (by first | rfl | kernel_rfl) (opnF_cons (opn_int Try.underlying3) rfl (by first | rfl | kernel_rfl) (opnF_cons (opn_int Try.underlying3) rfl (by first | rfl | kernel_rfl) (opnF_cons (opn_int Try.underlying30) rfl (by first | rfl | kernel_rfl) (opnF_cons (opn_int Try.underlying30) rfl (by first | rfl | kernel_rfl) (opnF_one (opn_slice Try.underlying31 (by first | rfl | kernel_rfl) (opn_iso (fun x : S72 => (x.f0, x.f1, x.f2, x.f3, x.f4, x.f5, x.f6, x.f7, x.f8, x.f9)) (fun p => ⟨p.1, p.2.1, p.2.2.1, p.2.2.2.1, p.2.2.2.2.1, p.2.2.2.2.2.1, p.2.2.2.2.2.2.1, p.2.2.2.2.2.2.2.1, p.2.2.2.2.2.2.2.2.1, p.2.2.2.2.2.2.2.2.2⟩) (fun _ => rfl) (opn_struct Try.underlying72 (by first | rfl | kernel_rfl) (opnF_cons (opn_int Try.underlying3) rfl (by first | rfl | kernel_rfl) (opnF_cons (opn_int Try.underlying30) rfl (by first | rfl | kernel_rfl) (opnF_cons (opn_int Try.underlying5) rfl (by first | rfl | kernel_rfl) (opnF_cons (opn_bool Try.underlying4) rfl (by first | rfl | kernel_rfl) (opnF_cons (opn_int Try.underlying53) rfl (by first | rfl | kernel_rfl) (opnF_cons (opn_string Try.underlying9) rfl (by first | rfl | kernel_rfl) (opnF_cons (opn_string Try.underlying9) rfl (by first | rfl | kernel_rfl) (opnF_cons (opn_iso (fun x : S68 => (x.f0, x.f1)) (fun p => ⟨p.1, p.2⟩) (fun _ => rfl) (opn_struct Try.underlying68 (by first | rfl | kernel_rfl) (opnF_cons (opn_int Try.underlying53) rfl (by first | rfl | kernel_rfl) (opnF_one (opn_int Try.underlying22) rfl (by first | rfl | kernel_rfl))))) rfl (by first | rfl | kernel_rfl) (opnF_cons (opn_slice Try.underlying69 (by first | rfl | kernel_rfl) (opn_iso (fun x : S68 => (x.f0, x.f1)) (fun p => ⟨p.1, p.2⟩) (fun _ => rfl) (opn_struct Try.underlying68 (by first | rfl | kernel_rfl) (opnF_cons (opn_int Try.underlying53) rfl (by first | rfl | kernel_rfl) (opnF_one (opn_int Try.underlying22) rfl (by first | rfl | kernel_rfl)))))) rfl (by first | rfl | kernel_rfl) (opnF_one (opn_slice Try.underlying70 (by first | rfl | kernel_rfl) (opn_iso (fun x : S76 => (x.f0, x.f1)) (fun p => ⟨p.1, p.2⟩) (fun _ => rfl) (opn_struct Try.underlying76 (by first | rfl | kernel_rfl) (opnF_cons (opn_string Try.underlying9) rfl (by first | rfl | kernel_rfl) (opnF_one (opn_string Try.underlying9) rfl (by first | rfl | kernel_rfl)))))) rfl (by first | rfl | kernel_rfl)))))))))))))) rfl (by first | rfl | kernel_rfl)))))))))))
set_option maxRecDepth 100000 in
theorem lifted (os : Os) (started : os.Started) (H : Type) (enc : TypeId × Value → H) :
    ReturnsInHanded {} Try.checked os 4 .any (Rows.negoMovesSpec.pre6 enc Try.prog Try.f4 Rows.negoMovesRow.domain false) (Rows.negoMovesSpec.post enc Try.prog Try.f4 false true false false) := by
  refine returnsInHanded_of_change_sized (C := Try.checked) own started (by kernel_rfl) Try.func4
    (ChangeSpec.witness6 (enc := enc) (C := Try.checked) false ⟨#[], #[(.agg #[(.int .u16 0), (.int .i64 0), (.int .u16 0), (.int .i64 0), (.int .i64 0), (.int .u32 0), (.int .u32 0), (.slice none 0 0)]), .int .u16 0, .int .u16 0, .bool false], []⟩ 8 (by kernel_rfl) (by kernel_rfl) (by kernel_rfl) (by kernel_rfl)) ?_
  intro W base args ds gs before hval0 hW hcnd hsz0 _
  have hsz : (DataW.weightsEach Try.prog (Try.f4.params.toList ++ Rows.negoMovesSpec.plain.varTypes Try.prog) (ds ++ gs)).all (· ≤ reachBytes) = true := hsz0
  have hval : ∀ (j : Nat) t v, Try.f4.params[j]? = some t → args[j]? = some v → Value.okWide Try.prog W .any base t v := hval0
  have hW' := hW
  obtain ⟨p, q, hA0, hV, rfl, hfz, hnd⟩ := hW
  have hA : DataW.TrodAll enc Try.prog W 0 (fun _ => true) true Try.f4.params.toList args.toList ds p := hA0
  rw [Try.params4] at hA hval hsz
  obtain ⟨v0, vs0, d0, ds0, p0, q0, hargs, rfl, rfl, h0, r0⟩ := trodAll_cons hA
  obtain ⟨v1, vs1, d1, ds1, p1, q1, rfl, rfl, rfl, h1, r1⟩ := trodAll_cons r0
  obtain ⟨v2, vs2, d2, ds2, p2, q2, rfl, rfl, rfl, h2, r2⟩ := trodAll_cons r1
  obtain ⟨v3, vs3, d3, ds3, p3, q3, rfl, rfl, rfl, h3, r3⟩ := trodAll_cons r2
  obtain ⟨rfl, rfl, rfl⟩ := trodAll_nil r3
  obtain rfl : args = #[v0, v1, v2, v3] := by cases args; simp_all
  obtain ⟨rfl, rfl⟩ := trodVars_none hV
  obtain ⟨cs0, rfl, hsz0⟩ := okWide_struct Try.underlying33 (hval 0 33 v0 rfl rfl)
  have k0 := h0
  have lt0 : ∀ x ∈ p0, x.block < W.heap.size := by obtain ⟨m, hm⟩ := k0; exact DataW.trod_lt m _ _ _ hm
  obtain ⟨x0, hK0, hG0⟩ : ∃ x, k33.K W x (Value.agg cs0).cells.toList ∧ ((Lit.int .u16 x.f0).wf = true ∧ (Lit.int .i64 x.f1).wf = true ∧ (Lit.int .u16 x.f2).wf = true ∧ (Lit.int .i64 x.f3).wf = true ∧ (Lit.int .i64 x.f4).wf = true ∧ (Lit.int .u32 x.f5).wf = true ∧ (Lit.int .u32 x.f6).wf = true ∧ (x.f7.length ≤ maxLen ∧ ∀ z0 ∈ x.f7, ((Lit.int .i64 z0.f0).wf = true ∧ (Lit.int .u32 z0.f1).wf = true ∧ (Lit.int .u8 z0.f2).wf = true ∧ True ∧ (Lit.int .u64 z0.f4).wf = true ∧ z0.f5.size ≤ maxLen ∧ z0.f6.size ≤ maxLen ∧ ((Lit.int .u64 z0.f7.f0).wf = true ∧ (Lit.int .u16 z0.f7.f1).wf = true) ∧ (z0.f8.length ≤ maxLen ∧ ∀ z1 ∈ z0.f8, ((Lit.int .u64 z1.f0).wf = true ∧ (Lit.int .u16 z1.f1).wf = true)) ∧ (z0.f9.length ≤ maxLen ∧ ∀ z1 ∈ z0.f9, (z1.f0.size ≤ maxLen ∧ z1.f1.size ≤ maxLen))))) := by obtain ⟨fuel, hf⟩ := h0; exact opn0 hf
  obtain ⟨A0_7, c0_7, hcs0, hl0_7, hC0_7⟩ := k33_open hK0
  obtain rfl : cs0 = #[.int .u16 x0.f0, .int .i64 x0.f1, .int .u16 x0.f2, .int .i64 x0.f3, .int .i64 x0.f4, .int .u32 x0.f5, .int .u32 x0.f6, .slice A0_7 x0.f7.length c0_7] := Array.toList_inj.1 hcs0
  obtain ⟨hG0_0, hG0_1, hG0_2, hG0_3, hG0_4, hG0_5, hG0_6, hG0_7⟩ := hG0
  obtain ⟨a1, rfl, rfl, rfl, w1⟩ := open_int Try.underlying22 (hval 1 22 v1 rfl rfl) h1
  obtain ⟨a2, rfl, rfl, rfl, w2⟩ := open_int Try.underlying22 (hval 2 22 v2 rfl rfl) h2
  obtain ⟨a3, rfl, rfl, rfl⟩ := open_bool Try.underlying4 (hval 3 4 v3 rfl rfl) h3
  clear hA0 hval0 hsz0 hsz
  obtain ⟨k, hk⟩ := Pure.NegoMoves x0.f0 x0.f1 x0.f2 x0.f3 x0.f4 x0.f5 x0.f6 x0.f7 a1 a2 a3 hG0_0 hG0_1 hG0_2 hG0_3 hG0_4 hG0_5 hG0_6 hG0_7 w1 w2
  refine (PNegoMoves.annuletlaw25_NegoMoves.calls k x0.f0 x0.f1 x0.f2 x0.f3 x0.f4 x0.f5 x0.f6 _ _ x0.f7 a1 a2 a3 true W hC0_7 hl0_7 hk).mono fun e W' ⟨he, bel0⟩ => ?_
  have bel : Below W.heap.size W W' := bel0
  subst he
  exact ⟨_, rfl, _, _, _, [], _, [], hW', trodAll_mk1 (shut_bool Try.underlying4 _), (trodAll_cons_mk (Below.trod laidOut (by kernel_rfl) (of_decide_eq_true (by kernel_rfl)) k0 bel lt0) (trodAll_cons_mk (shut_int Try.underlying22 w1) (trodAll_cons_mk (shut_int Try.underlying22 w2) (trodAll_cons_mk (shut_bool Try.underlying4 _) trodAll_mk0)))), rfl, bel.frame _, fun h => by cases h⟩
theorem over : Rows.negoMovesRow.holds Try.pinned (OpenSpec.ofChange Rows.negoMovesSpec) :=
  OpenClaim.holds_of_wide 4 Try.f4 rfl rfl rfl rfl rfl rfl rfl ⟨rfl, rfl, rfl, rfl, rfl⟩ rfl rfl rfl rfl rfl (by kernel_rfl) Try.func4 (by kernel_rfl)
    (of_decide_eq_true (by kernel_rfl)) (by unfold Func.isWrapper; first | (rw [if_pos (by decide +kernel)]; kernel_rfl) | (rw [if_neg (by decide +kernel)]; exact ⟨rfl, rfl⟩))
    (fun os started H enc _ => lifted os started H enc)
theorem proved : Rows.NegoMovesSaid := over
#print axioms proved
end Go.Proofs.Ytpopljbpbobgfaa.negoMoves
namespace Go.Proofs.Ytpopljbpbobgfaa
theorem negoMoves_holds : Rows.NegoMovesSaid := negoMoves.proved
end Go.Proofs.Ytpopljbpbobgfaa
