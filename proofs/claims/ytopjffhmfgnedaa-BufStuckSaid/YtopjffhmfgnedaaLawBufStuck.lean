/- Written by a program of this session (a turned copy of the kit's print): functions of the program, each with the Lean function that it comes to, and the row of one law. No condition. -/
import Derived.Test.YtopjffhmfgnedaaRows
import Derived.Test.YtopjffhmfgnedaaPBufStuckx6
import Derived.Test.YtopjffhmfgnedaaPureBufStuck
import Derived.Test.YtopjffhmfgnedaaO
import Derived.WalkKit
import Derived.ProofKit
import Derived.OpenShut
import Derived.ShutString
import Derived.ChangeOld
import Derived.Below
import Derived.SizedLaws
import Derived.Test.YtopjffhmfgnedaaWSized
namespace Go.Proofs.Ytopjffhmfgnedaa.bufStuck
open Go.ChangeShapes Go.WideShapes Go.ChangeAt Go.RowKit Go.Proofs.Ytopjffhmfgnedaa.PBufStuck Go.Proofs.YtopjffhmfgnedaaW.PrintWords Go.Proofs.YtopjffhmfgnedaaW.PrintLast Go.Proofs.YtopjffhmfgnedaaW.PrintMore
open Go.ChangeMaps (open_string shut_string)
set_option linter.unusedVariables false
set_option linter.unusedSimpArgs false
theorem own : ownKnob Try.prog.godebug = none := by kernel_rfl
theorem laidOut : laidOutB Try.prog = true := by kernel_rfl
theorem opn0 : Opn Try.prog 26 (Kd.slice 5 (Kd.int .u8)) (fun x => (x.length ≤ maxLen ∧ ∀ z0 ∈ x, (Lit.int .u8 z0).wf = true)) := (opn_slice Try.underlying26 (by first | rfl | kernel_rfl) (opn_int Try.underlying5))
theorem opn1 : Opn Try.prog 35 (Kd.slice 41 k41) (fun x => (x.length ≤ maxLen ∧ ∀ z0 ∈ x, ((Lit.int .i64 z0.f0).wf = true ∧ (Lit.int .i64 z0.f1).wf = true ∧ (Lit.int .u64 z0.f2).wf = true))) := (opn_slice Try.underlying35 (by first | rfl | kernel_rfl) (opn_iso (fun x : S41 => (x.f0, x.f1, x.f2)) (fun p => ⟨p.1, p.2.1, p.2.2⟩) (fun _ => rfl) (opn_struct Try.underlying41 (by first | rfl | kernel_rfl) (opnF_cons (opn_int Try.underlying3) rfl (by first | rfl | kernel_rfl) (opnF_cons (opn_int Try.underlying3) rfl (by first | rfl | kernel_rfl) (opnF_one (opn_int Try.underlying22) rfl (by first | rfl | kernel_rfl)))))))
set_option maxRecDepth 100000 in
theorem lifted (os : Os) (started : os.Started) (H : Type) (enc : TypeId × Value → H) :
    ReturnsInHanded {} Try.checked os 5 .any (Rows.bufStuckSpec.pre6 enc Try.prog Try.f5 Rows.bufStuckRow.domain false) (Rows.bufStuckSpec.post enc Try.prog Try.f5 false true false false) := by
  refine returnsInHanded_of_change_sized (C := Try.checked) own started (by kernel_rfl) Try.func5
    (ChangeSpec.witness6 (enc := enc) (C := Try.checked) false ⟨#[], #[.slice none 0 0, .slice none 0 0], []⟩ 8 (by kernel_rfl) (by kernel_rfl) (by kernel_rfl) (by kernel_rfl)) ?_
  intro W base args ds gs before hval0 hW hcnd hsz0 _
  have hsz : (DataW.weightsEach Try.prog (Try.f5.params.toList ++ Rows.bufStuckSpec.plain.varTypes Try.prog) (ds ++ gs)).all (· ≤ reachBytes) = true := hsz0
  have hval : ∀ (j : Nat) t v, Try.f5.params[j]? = some t → args[j]? = some v → Value.okWide Try.prog W .any base t v := hval0
  have hW' := hW
  obtain ⟨p, q, hA0, hV, rfl, hfz, hnd⟩ := hW
  have hA : DataW.TrodAll enc Try.prog W 0 (fun _ => true) true Try.f5.params.toList args.toList ds p := hA0
  rw [Try.params5] at hA hval hsz
  obtain ⟨v0, vs0, d0, ds0, p0, q0, hargs, rfl, rfl, h0, r0⟩ := trodAll_cons hA
  obtain ⟨v1, vs1, d1, ds1, p1, q1, rfl, rfl, rfl, h1, r1⟩ := trodAll_cons r0
  obtain ⟨rfl, rfl, rfl⟩ := trodAll_nil r1
  obtain rfl : args = #[v0, v1] := by cases args; simp_all
  obtain ⟨rfl, rfl⟩ := trodVars_none hV
  obtain ⟨a0, len0, cap0, rfl⟩ := okWide_slice Try.underlying26 (hval 0 26 v0 rfl rfl)
  have k0 := h0
  have lt0 : ∀ x ∈ p0, x.block < W.heap.size := by obtain ⟨m, hm⟩ := k0; exact DataW.trod_lt m _ _ _ hm
  obtain ⟨x0, hK0, hG0⟩ : ∃ x, (Kd.slice 5 (Kd.int .u8)).K W x (Value.slice a0 len0 cap0).cells.toList ∧ (x.length ≤ maxLen ∧ ∀ z0 ∈ x, (Lit.int .u8 z0).wf = true) := by obtain ⟨fuel, hf⟩ := h0; exact opn0 hf
  obtain ⟨A0, c0, hcs0, hl0, hC0⟩ := hK0
  obtain ⟨rfl, rfl, rfl⟩ : a0 = A0 ∧ len0 = x0.length ∧ cap0 = c0 := by simpa [Value.cells] using hcs0
  obtain ⟨a1, len1, cap1, rfl⟩ := okWide_slice Try.underlying35 (hval 1 35 v1 rfl rfl)
  have k1 := h1
  have lt1 : ∀ x ∈ p1, x.block < W.heap.size := by obtain ⟨m, hm⟩ := k1; exact DataW.trod_lt m _ _ _ hm
  obtain ⟨x1, hK1, hG1⟩ : ∃ x, (Kd.slice 41 k41).K W x (Value.slice a1 len1 cap1).cells.toList ∧ (x.length ≤ maxLen ∧ ∀ z0 ∈ x, ((Lit.int .i64 z0.f0).wf = true ∧ (Lit.int .i64 z0.f1).wf = true ∧ (Lit.int .u64 z0.f2).wf = true)) := by obtain ⟨fuel, hf⟩ := h1; exact opn1 hf
  obtain ⟨A1, c1, hcs1, hl1, hC1⟩ := hK1
  obtain ⟨rfl, rfl, rfl⟩ : a1 = A1 ∧ len1 = x1.length ∧ cap1 = c1 := by simpa [Value.cells] using hcs1
  clear hA0 hval0 hsz0 hsz
  obtain ⟨k, hk⟩ := Pure.BufStuck x0 x1 hG0 hG1
  refine (PBufStuck.annuletlaw06_BufStuck.calls k _ _ x0 _ _ x1 true W hC0 hl0 hC1 hl1 hk).mono fun e W' ⟨he, bel0⟩ => ?_
  have bel : Below W.heap.size W W' := bel0
  subst he
  exact ⟨_, rfl, _, _, _, [], _, [], hW', trodAll_mk1 (shut_bool Try.underlying4 _), (trodAll_cons_mk (Below.trod laidOut (by kernel_rfl) (of_decide_eq_true (by kernel_rfl)) k0 bel lt0) (trodAll_cons_mk (Below.trod laidOut (by kernel_rfl) (of_decide_eq_true (by kernel_rfl)) k1 bel lt1) trodAll_mk0)), rfl, bel.frame _, fun h => by cases h⟩
theorem over : Rows.bufStuckRow.holds Try.pinned (OpenSpec.ofChange Rows.bufStuckSpec) :=
  OpenClaim.holds_of_wide 5 Try.f5 rfl rfl rfl rfl rfl rfl rfl ⟨rfl, rfl, rfl, rfl, rfl⟩ rfl rfl rfl rfl rfl (by kernel_rfl) Try.func5 (by kernel_rfl)
    (of_decide_eq_true (by kernel_rfl)) (by unfold Func.isWrapper; first | (rw [if_pos (by decide +kernel)]; kernel_rfl) | (rw [if_neg (by decide +kernel)]; exact ⟨rfl, rfl⟩))
    (fun os started H enc _ => lifted os started H enc)
theorem proved : Rows.BufStuckSaid := over
#print axioms proved
end Go.Proofs.Ytopjffhmfgnedaa.bufStuck
namespace Go.Proofs.Ytopjffhmfgnedaa
theorem bufStuck_holds : Rows.BufStuckSaid := bufStuck.proved
end Go.Proofs.Ytopjffhmfgnedaa
