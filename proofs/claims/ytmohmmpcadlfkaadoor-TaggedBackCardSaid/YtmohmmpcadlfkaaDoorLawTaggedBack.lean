/- Written by a program of this session (a turned copy of the kit's print): functions of the program, each with the Lean function that it comes to, and the row of one law. No condition. -/
import Derived.Test.YtmohmmpcadlfkaaDoorRows
import Derived.Test.YtmohmmpcadlfkaaDoorPTaggedBackx10
import Derived.Test.YtmohmmpcadlfkaaDoorPureTaggedBack
import Derived.Test.YtmohmmpcadlfkaaDoorO
import Derived.Test.YtmohmmpcadlfkaaDoorCards
import Derived.Test.YtmohmmpcadlfkaaDoorTie
import Derived.LaidMore
import Derived.Lay
import Derived.SevenTiedAt
import Derived.Stop.Joined
import Derived.WalkKit
import Derived.ProofKit
import Derived.OpenShut
import Derived.ShutString
import Derived.ChangeOld
import Derived.Below
import Derived.SizedLaws
import Derived.Test.YtmohmmpcadlfkaaDoorWSized
namespace Go.Proofs.YtmohmmpcadlfkaaDoor.taggedBack
open Go.ChangeShapes Go.WideShapes Go.ChangeAt Go.RowKit Go.Proofs.YtmohmmpcadlfkaaDoor.PTaggedBack Go.Proofs.YtmohmmpcadlfkaaDoorW.PrintWords Go.Proofs.YtmohmmpcadlfkaaDoorW.PrintLast Go.Proofs.YtmohmmpcadlfkaaDoorW.PrintMore
open Go.ChangeMaps (open_string shut_string)
set_option linter.unusedVariables false
set_option linter.unusedSimpArgs false
theorem own : ownKnob Tryd.prog.godebug = none := by kernel_rfl
theorem laidOut : laidOutB Tryd.prog = true := by kernel_rfl
theorem tabs_of {W : World} (h : laidMetH Tryd.prog Rows.taggedBackRow.laid W) : Lib.Utf8Tabs 0 1 W := by
  rw [MakeChecks.laidMetH_plain _ _ _ (by kernel_rfl)] at h
  have e1 : Rows.laid_unicode_utf8_first = Lib.firstData := by kernel_rfl
  have e2 : (Rows.laid_unicode_utf8_acceptRanges : DataW Unit) = Lib.acceptData := by kernel_rfl
  have m1 := Lib.laidMet.reads h (n := "unicode/utf8.first") (d := Rows.laid_unicode_utf8_first) (by simp [Rows.taggedBackRow])
  have m2 := Lib.laidMet.reads h (n := "unicode/utf8.acceptRanges") (d := Rows.laid_unicode_utf8_acceptRanges) (by simp [Rows.taggedBackRow])
  rw [e1] at m1
  rw [e2] at m2
  exact utf8Tabs_of_reads (ρ := Tryd.lays260_ren) Tryd.lays260 ⟨by kernel_rfl, by kernel_rfl, by kernel_rfl, by kernel_rfl, by kernel_rfl, by kernel_rfl, by kernel_rfl⟩ m1 m2
set_option maxRecDepth 100000 in
theorem opn0 : Opn Tryd.prog 30 k30 (fun x => ((Lit.int .i64 x.f0).wf = true ∧ (Lit.int .u32 x.f1).wf = true ∧ (Lit.int .u8 x.f2).wf = true ∧ True ∧ (Lit.int .u64 x.f4).wf = true ∧ x.f5.size ≤ maxLen ∧ x.f6.size ≤ maxLen ∧ ((Lit.int .u64 x.f7.f0).wf = true ∧ (Lit.int .u16 x.f7.f1).wf = true) ∧ (x.f8.length ≤ maxLen ∧ ∀ z0 ∈ x.f8, ((Lit.int .u64 z0.f0).wf = true ∧ (Lit.int .u16 z0.f1).wf = true)) ∧ (x.f9.length ≤ maxLen ∧ ∀ z0 ∈ x.f9, (z0.f0.size ≤ maxLen ∧ z0.f1.size ≤ maxLen)))) := (opn_iso (fun x : S30 => (x.f0, x.f1, x.f2, x.f3, x.f4, x.f5, x.f6, x.f7, x.f8, x.f9)) (fun p => ⟨p.1, p.2.1, p.2.2.1, p.2.2.2.1, p.2.2.2.2.1, p.2.2.2.2.2.1, p.2.2.2.2.2.2.1, p.2.2.2.2.2.2.2.1, p.2.2.2.2.2.2.2.2.1, p.2.2.2.2.2.2.2.2.2⟩) (fun _ => rfl) (opn_struct Tryd.underlying30 (by first | rfl | kernel_rfl) (opnF_cons (opn_int Tryd.underlying3) rfl (by first | rfl | kernel_rfl) (opnF_cons (opn_int Tryd.underlying22) rfl (by first | rfl | kernel_rfl) (opnF_cons (opn_int Tryd.underlying5) rfl (by first | rfl | kernel_rfl) (opnF_cons (opn_bool Tryd.underlying4) rfl (by first | rfl | kernel_rfl) (opnF_cons (opn_int Tryd.underlying23) rfl (by first | rfl | kernel_rfl) (opnF_cons (opn_string Tryd.underlying9) rfl (by first | rfl | kernel_rfl) (opnF_cons (opn_string Tryd.underlying9) rfl (by first | rfl | kernel_rfl) (opnF_cons (opn_iso (fun x : S26 => (x.f0, x.f1)) (fun p => ⟨p.1, p.2⟩) (fun _ => rfl) (opn_struct Tryd.underlying26 (by first | rfl | kernel_rfl) (opnF_cons (opn_int Tryd.underlying23) rfl (by first | rfl | kernel_rfl) (opnF_one (opn_int Tryd.underlying24) rfl (by first | rfl | kernel_rfl))))) rfl (by first | rfl | kernel_rfl) (opnF_cons (opn_slice Tryd.underlying27 (by first | rfl | kernel_rfl) (opn_iso (fun x : S26 => (x.f0, x.f1)) (fun p => ⟨p.1, p.2⟩) (fun _ => rfl) (opn_struct Tryd.underlying26 (by first | rfl | kernel_rfl) (opnF_cons (opn_int Tryd.underlying23) rfl (by first | rfl | kernel_rfl) (opnF_one (opn_int Tryd.underlying24) rfl (by first | rfl | kernel_rfl)))))) rfl (by first | rfl | kernel_rfl) (opnF_one (opn_slice Tryd.underlying28 (by first | rfl | kernel_rfl) (opn_iso (fun x : S43 => (x.f0, x.f1)) (fun p => ⟨p.1, p.2⟩) (fun _ => rfl) (opn_struct Tryd.underlying43 (by first | rfl | kernel_rfl) (opnF_cons (opn_string Tryd.underlying9) rfl (by first | rfl | kernel_rfl) (opnF_one (opn_string Tryd.underlying9) rfl (by first | rfl | kernel_rfl)))))) rfl (by first | rfl | kernel_rfl)))))))))))))
set_option maxRecDepth 100000 in
theorem opn1 : Opn Tryd.prog 33 (Kd.slice 5 (Kd.int .u8)) (fun x => (x.length ≤ maxLen ∧ ∀ z0 ∈ x, (Lit.int .u8 z0).wf = true)) := (opn_slice Tryd.underlying33 (by first | rfl | kernel_rfl) (opn_int Tryd.underlying5))
set_option maxRecDepth 100000 in
theorem lifted (os : Os) (started : os.Started) (H : Type) (enc : TypeId × Value → H) :
    ReturnsInHanded {} Tryd.checked os 5 .any (fun w args => (Rows.taggedBackSpec.pre enc Tryd.prog Tryd.f5 Rows.taggedBackRow.domain false w args ∧ laidMetH Tryd.prog Rows.taggedBackRow.laid w) ∧ sizedMet enc Tryd.prog Tryd.f5 (OpenSpec.ofChange Rows.taggedBackSpec) false w args) (Rows.taggedBackSpec.post enc Tryd.prog Tryd.f5 false true false false) := by
  refine returnsInHanded_of_change_and (C := Tryd.checked) (X := fun w _ => laidMetH Tryd.prog Rows.taggedBackRow.laid w) (fun _ _ _ hh h => h.of_heap hh) own started (by kernel_rfl) Tryd.func5
    (ChangeSpec.witness_shaped (enc := enc) (C := Tryd.checked) (os := os) (X := fun w _ => laidMetH Tryd.prog Rows.taggedBackRow.laid w) false (World.laidAll Tryd.prog os Rows.taggedBackRow.laid) #[(.agg #[(.int .i64 0), (.int .u32 0), (.int .u8 0), (.bool false), (.int .u64 0), (.string ⟨#[]⟩), (.string ⟨#[]⟩), (.int .u64 0), (.int .u16 0), (.slice none 0 0), (.slice none 0 0)]), .slice none 0 0] 8 (World.laidAll_os _ _ _)
      (World.shaped_of_ZipB (by kernel_rfl) (by kernel_rfl)) (by kernel_rfl) (by kernel_rfl) (by kernel_rfl)
      (by rw [MakeChecks.laidMetH_plain _ _ _ (by kernel_rfl)]; exact laidMet_laidAll _ (by kernel_rfl) (by kernel_rfl))) ?_
  intro W base args ds gs before hval0 hW hcnd hsz0 hL _
  have hsz : (DataW.weightsEach Tryd.prog (Tryd.f5.params.toList ++ Rows.taggedBackSpec.plain.varTypes Tryd.prog) (ds ++ gs)).all (· ≤ reachBytes) = true := hsz0
  have hval : ∀ (j : Nat) t v, Tryd.f5.params[j]? = some t → args[j]? = some v → Value.okWide Tryd.prog W .any base t v := hval0
  have hW' := hW
  obtain ⟨p, q, hA0, hV, rfl, hfz, hnd⟩ := hW
  have hA : DataW.TrodAll enc Tryd.prog W 0 (fun _ => true) true Tryd.f5.params.toList args.toList ds p := hA0
  rw [Tryd.params5] at hA hval hsz
  obtain ⟨v0, vs0, d0, ds0, p0, q0, hargs, rfl, rfl, h0, r0⟩ := trodAll_cons hA
  obtain ⟨v1, vs1, d1, ds1, p1, q1, rfl, rfl, rfl, h1, r1⟩ := trodAll_cons r0
  obtain ⟨rfl, rfl, rfl⟩ := trodAll_nil r1
  obtain rfl : args = #[v0, v1] := by cases args; simp_all
  obtain ⟨rfl, rfl⟩ := trodVars_none hV
  obtain ⟨cs0, rfl, hsz0⟩ := okWide_struct Tryd.underlying30 (hval 0 30 v0 rfl rfl)
  have k0 := h0
  have lt0 : ∀ x ∈ p0, x.block < W.heap.size := by obtain ⟨m, hm⟩ := k0; exact DataW.trod_lt m _ _ _ hm
  obtain ⟨x0, hK0, hG0⟩ : ∃ x, k30.K W x (Value.agg cs0).cells.toList ∧ ((Lit.int .i64 x.f0).wf = true ∧ (Lit.int .u32 x.f1).wf = true ∧ (Lit.int .u8 x.f2).wf = true ∧ True ∧ (Lit.int .u64 x.f4).wf = true ∧ x.f5.size ≤ maxLen ∧ x.f6.size ≤ maxLen ∧ ((Lit.int .u64 x.f7.f0).wf = true ∧ (Lit.int .u16 x.f7.f1).wf = true) ∧ (x.f8.length ≤ maxLen ∧ ∀ z0 ∈ x.f8, ((Lit.int .u64 z0.f0).wf = true ∧ (Lit.int .u16 z0.f1).wf = true)) ∧ (x.f9.length ≤ maxLen ∧ ∀ z0 ∈ x.f9, (z0.f0.size ≤ maxLen ∧ z0.f1.size ≤ maxLen))) := by obtain ⟨fuel, hf⟩ := h0; exact opn0 hf
  obtain ⟨A0_9, c0_9, A0_10, c0_10, hcs0, hl0_9, hC0_9, hl0_10, hC0_10⟩ := k30_open hK0
  obtain rfl : cs0 = #[.int .i64 x0.f0, .int .u32 x0.f1, .int .u8 x0.f2, .bool x0.f3, .int .u64 x0.f4, .string x0.f5, .string x0.f6, .int .u64 x0.f7.f0, .int .u16 x0.f7.f1, .slice A0_9 x0.f8.length c0_9, .slice A0_10 x0.f9.length c0_10] := Array.toList_inj.1 hcs0
  obtain ⟨hG0_0, hG0_1, hG0_2, hG0_3, hG0_4, hG0_5, hG0_6, ⟨hG0_7, hG0_8⟩, hG0_9, hG0_10⟩ := hG0
  obtain ⟨a1, len1, cap1, rfl⟩ := okWide_slice Tryd.underlying33 (hval 1 33 v1 rfl rfl)
  have k1 := h1
  have lt1 : ∀ x ∈ p1, x.block < W.heap.size := by obtain ⟨m, hm⟩ := k1; exact DataW.trod_lt m _ _ _ hm
  obtain ⟨x1, hK1, hG1⟩ : ∃ x, (Kd.slice 5 (Kd.int .u8)).K W x (Value.slice a1 len1 cap1).cells.toList ∧ (x.length ≤ maxLen ∧ ∀ z0 ∈ x, (Lit.int .u8 z0).wf = true) := by obtain ⟨fuel, hf⟩ := h1; exact opn1 hf
  obtain ⟨A1, c1, hcs1, hl1, hC1⟩ := hK1
  obtain ⟨rfl, rfl, rfl⟩ : a1 = A1 ∧ len1 = x1.length ∧ cap1 = c1 := by simpa [Value.cells] using hcs1
  have ht : Lib.Utf8Tabs 0 1 W := tabs_of hL
  clear hA0 hval0 hsz0 hsz
  obtain ⟨k, hk⟩ := Pure.TaggedBack x0.f0 x0.f1 x0.f2 x0.f3 x0.f4 x0.f5 x0.f6 x0.f7.f0 x0.f7.f1 x0.f8 x0.f9 x1 hG0_0 hG0_1 hG0_2 hG0_4 hG0_5 hG0_6 hG0_7 hG0_8 hG0_9 hG0_10 hG1
  refine (PTaggedBack.annuletlaw10_TaggedBack.calls k x0.f0 x0.f1 x0.f2 x0.f3 x0.f4 x0.f5 x0.f6 x0.f7.f0 x0.f7.f1 _ _ x0.f8 _ _ x0.f9 _ _ x1 true W hC0_9 hl0_9 hC0_10 hl0_10 hC1 hl1 ht hk).mono fun e W' ⟨he, bel0⟩ => ?_
  have bel : Below W.heap.size W W' := bel0
  subst he
  exact ⟨_, rfl, _, _, _, [], _, [], hW', trodAll_mk1 (shut_bool Tryd.underlying4 _), (trodAll_cons_mk (Below.trod laidOut (by kernel_rfl) (of_decide_eq_true (by kernel_rfl)) k0 bel lt0) (trodAll_cons_mk (Below.trod laidOut (by kernel_rfl) (of_decide_eq_true (by kernel_rfl)) k1 bel lt1) trodAll_mk0)), rfl, bel.frame _, fun h => by cases h⟩
theorem over : Rows.taggedBackRow.holds Tryd.pinned (OpenSpec.ofChange Rows.taggedBackSpec) :=
  OpenClaim.holds_of_wide 5 Tryd.f5 rfl rfl rfl rfl rfl rfl rfl ⟨rfl, rfl, rfl, rfl, rfl⟩ rfl rfl rfl rfl rfl (by kernel_rfl) Tryd.func5 (by kernel_rfl)
    (of_decide_eq_true (by kernel_rfl)) (by unfold Func.isWrapper; first | (rw [if_pos (by decide +kernel)]; kernel_rfl) | (rw [if_neg (by decide +kernel)]; exact ⟨rfl, rfl⟩))
    (fun os started H enc _ => lifted os started H enc)
theorem proved : Rows.TaggedBackSaid := over
theorem card : Rows.TaggedBackCardSaid :=
  Claim7.holds_tied_plain_at .later [] [.data, .pinned] true (true, "7dd52513c2aeb2f85164636a8737bd60cc47895e61aff3ad73bced8d0114f71d") false proved (fun _ h => by cases h) (by kernel_rfl) (fun _ h => by cases h) taggedBack_row_tie rfl ⟨rfl, rfl⟩ (by kernel_rfl) rfl
    (fun f fn hf hfn => by
      obtain rfl : f = 5 := Option.some.inj ((show Tryd.prog.funcNamed "annulet/annuletlaw10.TaggedBack" = some 5 by kernel_rfl).symm.trans hf) |>.symm
      obtain rfl : fn = Tryd.f5 := (Option.some.inj (Tryd.func5.symm.trans hfn)).symm
      exact ⟨by kernel_rfl, fun j t ht => by
        rw [Tryd.params5] at ht
        have hm : t ∈ [30, 33] := by simpa using Array.mem_of_getElem? ht
        have hall : ([30, 33].all fun u => !Tryd.prog.wantsStandIn u) = true := by kernel_rfl
        exact (show Tryd.prog.wantsStandIn t = false by simpa using List.all_eq_true.1 hall t hm)⟩)
    (by kernel_rfl)
#print axioms proved
end Go.Proofs.YtmohmmpcadlfkaaDoor.taggedBack
namespace Go.Proofs.YtmohmmpcadlfkaaDoor
theorem taggedBack_holds : Rows.TaggedBackCardSaid := taggedBack.card
end Go.Proofs.YtmohmmpcadlfkaaDoor
