/- Written by a program of this session (a turned copy of the kit's print): functions of the program, each with the Lean function that it comes to, and the row of one law. No condition. -/
import Derived.Test.YtlhmmegiklnppaaPNumBackx0
import Derived.Test.YtlhmmegiklnppaaPNumBackx1
import Derived.Test.YtlhmmegiklnppaaPNumBackx2
import Derived.Test.YtlhmmegiklnppaaPNumBackx3
namespace Go.Proofs.Ytlhmmegiklnppaa.PNumBack
open Go.RowKit Go.Proofs.YtlhmmegiklnppaaW.PrintWords Go.Proofs.YtlhmmegiklnppaaW.PrintLast Go.Proofs.YtlhmmegiklnppaaW.PrintMore
attribute [local go_sem] max2_int min2_int max_two min_two max_three min_three max_four min_four   -- for this text's walks alone
set_option linter.unusedVariables false
set_option linter.unusedSimpArgs false

/-! ### annuletlaw07_NumBack: function 5 -/
mutual
def annuletlaw07_NumBack.j0 : Nat → Int → Int → List Int → ByteArray → Bool → Option (Bool)
  | 0, _, _, _, _, _ => none
  | k + 1, x0, x1, x2, x3, x28 => if x28 = true then ((annuletlaw07_awake.f k).bind fun t146 => (some t146)) else ((num_Put.f x0).bind fun t147 => ((num_Get.f k t147).bind fun bt148 => ((num_Hex.f k x1).bind fun t150 => ((num_Unhex.f k t150).bind fun bt151 => ((num_Bytes.f k x2).bind fun t153 => ((num_Unbytes.f k t153).bind fun bt154 => (if bt148.1 = x0 then (if bt148.2 = 0 then (if bt151.1 = x1 then (if bt151.2 = 0 then (if (strOfNums bt154.1).toList = (strOfNums x2).toList then (annuletlaw07_NumBack.j1 k x3 (bt154.2 != 0)) else (annuletlaw07_NumBack.j1 k x3 true)) else (annuletlaw07_NumBack.j1 k x3 true)) else (annuletlaw07_NumBack.j1 k x3 true)) else (annuletlaw07_NumBack.j1 k x3 true)) else (annuletlaw07_NumBack.j1 k x3 true))))))))
def annuletlaw07_NumBack.j1 : Nat → ByteArray → Bool → Option (Bool)
  | 0, _, _ => none
  | k + 1, x3, x74 => if x74 = true then (none) else ((num_Get.f k x3).bind fun bt158 => ((num_Unhex.f k x3).bind fun bt160 => ((num_Unbytes.f k x3).bind fun bt162 => (if bt158.2 = 0 then ((num_Put.f bt158.1).bind fun t166 => (if t166.toList = x3.toList then (if bt160.2 = 0 then ((num_Hex.f k bt160.1).bind fun t167 => (if t167.toList = x3.toList then (if bt162.2 = 0 then ((num_Bytes.f k bt162.1).bind fun t168 => (if t168.toList = x3.toList then ((annuletlaw07_awake.f k).bind fun t169 => (some t169)) else (none))) else ((annuletlaw07_awake.f k).bind fun t170 => (some t170))) else (none))) else (if bt162.2 = 0 then ((num_Bytes.f k bt162.1).bind fun t171 => (if t171.toList = x3.toList then ((annuletlaw07_awake.f k).bind fun t172 => (some t172)) else (none))) else ((annuletlaw07_awake.f k).bind fun t173 => (some t173)))) else (none))) else (if bt160.2 = 0 then ((num_Hex.f k bt160.1).bind fun t174 => (if t174.toList = x3.toList then (if bt162.2 = 0 then ((num_Bytes.f k bt162.1).bind fun t175 => (if t175.toList = x3.toList then ((annuletlaw07_awake.f k).bind fun t176 => (some t176)) else (none))) else ((annuletlaw07_awake.f k).bind fun t177 => (some t177))) else (none))) else (if bt162.2 = 0 then ((num_Bytes.f k bt162.1).bind fun t178 => (if t178.toList = x3.toList then ((annuletlaw07_awake.f k).bind fun t179 => (some t179)) else (none))) else ((annuletlaw07_awake.f k).bind fun t180 => (some t180))))))))
end
def annuletlaw07_NumBack.f (k : Nat) (a0 : Int) (a1 : Int) (l2 : List Int) (a3 : ByteArray) : Option (Bool) := if (l2.length : Int) > 300 then (annuletlaw07_NumBack.j0 k a0 a1 l2 a3 true) else (annuletlaw07_NumBack.j0 k a0 a1 l2 a3 (decide ((a3.size : Int) > 300)))
theorem annuletlaw07_NumBack.mono_l : ∀ k, (∀ y0 y1 y2 y3 y4, LeO (annuletlaw07_NumBack.j0 k y0 y1 y2 y3 y4) (annuletlaw07_NumBack.j0 (k + 1) y0 y1 y2 y3 y4)) ∧ (∀ y0 y1, LeO (annuletlaw07_NumBack.j1 k y0 y1) (annuletlaw07_NumBack.j1 (k + 1) y0 y1))
  | 0 => ⟨fun _ _ _ _ _ r h => by simp [annuletlaw07_NumBack.j0] at h, fun _ _ r h => by simp [annuletlaw07_NumBack.j1] at h⟩
  | k + 1 => by
    obtain ⟨ih0, ih1⟩ := annuletlaw07_NumBack.mono_l k
    refine ⟨?_, ?_⟩
    · intro y0 y1 y2 y3 y4
      unfold annuletlaw07_NumBack.j0
      repeat' first
      | (with_reducible exact ih0 _ _ _ _ _)
      | (with_reducible exact ih1 _ _)
      | (with_reducible exact annuletlaw07_awake.mono _)
      | (with_reducible exact num_Bytes.mono _ _)
      | (with_reducible exact num_Get.mono _ _)
      | (with_reducible exact num_Hex.mono _ _)
      | (with_reducible exact num_Unbytes.mono _ _)
      | (with_reducible exact num_Unhex.mono _ _)
      | (with_reducible exact LeO.refl _)
      | (with_reducible exact LeO.none _)
      | (with_reducible refine LeO.ite ?_ ?_)
      | (with_reducible refine LeO.bind ?_ (fun _ => ?_))
      | exact ih0 _ _ _ _ _
      | exact ih1 _ _
      | exact annuletlaw07_awake.mono _
      | exact num_Bytes.mono _ _
      | exact num_Get.mono _ _
      | exact num_Hex.mono _ _
      | exact num_Unbytes.mono _ _
      | exact num_Unhex.mono _ _
      | exact LeO.none _
      | refine LeO.ite ?_ ?_
      | refine LeO.bind ?_ (fun _ => ?_)
    · intro y0 y1
      unfold annuletlaw07_NumBack.j1
      repeat' first
      | (with_reducible exact ih0 _ _ _ _ _)
      | (with_reducible exact ih1 _ _)
      | (with_reducible exact annuletlaw07_awake.mono _)
      | (with_reducible exact num_Bytes.mono _ _)
      | (with_reducible exact num_Get.mono _ _)
      | (with_reducible exact num_Hex.mono _ _)
      | (with_reducible exact num_Unbytes.mono _ _)
      | (with_reducible exact num_Unhex.mono _ _)
      | (with_reducible exact LeO.refl _)
      | (with_reducible exact LeO.none _)
      | (with_reducible refine LeO.ite ?_ ?_)
      | (with_reducible refine LeO.bind ?_ (fun _ => ?_))
      | exact ih0 _ _ _ _ _
      | exact ih1 _ _
      | exact annuletlaw07_awake.mono _
      | exact num_Bytes.mono _ _
      | exact num_Get.mono _ _
      | exact num_Hex.mono _ _
      | exact num_Unbytes.mono _ _
      | exact num_Unhex.mono _ _
      | exact LeO.none _
      | refine LeO.ite ?_ ?_
      | refine LeO.bind ?_ (fun _ => ?_)
theorem annuletlaw07_NumBack.mono : ∀ a0 a1 a2 a3 k, LeO (annuletlaw07_NumBack.f k a0 a1 a2 a3) (annuletlaw07_NumBack.f (k + 1) a0 a1 a2 a3) := by
  intro a0 a1 a2 a3 k
  obtain ⟨ih0, ih1⟩ := annuletlaw07_NumBack.mono_l k
  unfold annuletlaw07_NumBack.f
  repeat' first
      | (with_reducible exact ih0 _ _ _ _ _)
      | (with_reducible exact ih1 _ _)
      | (with_reducible exact annuletlaw07_awake.mono _)
      | (with_reducible exact num_Bytes.mono _ _)
      | (with_reducible exact num_Get.mono _ _)
      | (with_reducible exact num_Hex.mono _ _)
      | (with_reducible exact num_Unbytes.mono _ _)
      | (with_reducible exact num_Unhex.mono _ _)
      | (with_reducible exact LeO.refl _)
      | (with_reducible exact LeO.none _)
      | (with_reducible refine LeO.ite ?_ ?_)
      | (with_reducible refine LeO.bind ?_ (fun _ => ?_))
      | exact ih0 _ _ _ _ _
      | exact ih1 _ _
      | exact annuletlaw07_awake.mono _
      | exact num_Bytes.mono _ _
      | exact num_Get.mono _ _
      | exact num_Hex.mono _ _
      | exact num_Unbytes.mono _ _
      | exact num_Unhex.mono _ _
      | exact LeO.none _
      | refine LeO.ite ?_ ?_
      | refine LeO.bind ?_ (fun _ => ?_)
set_option maxHeartbeats 8000000 in
set_option maxRecDepth 100000 in
theorem annuletlaw07_NumBack.calls (k : Nat) (a0 : Int) (a1 : Int) (A2 : Option Addr) (c2 : Nat) (l2 : List Int) (a3 : ByteArray) (r : Bool) (w : World) (hr2 : Kd.C (Kd.int .u8) w A2 l2.length l2) (hc2 : l2.length ≤ c2) (h : annuletlaw07_NumBack.f k a0 a1 l2 a3 = some r) :
    Calls Try.prog 5 #[.int .i64 a0, .int .u64 a1, .slice A2 l2.length c2, .string a3] w fun e w' => e = .returned (.bool r) ∧ Below w.heap.size w w' := by
  have HR2 := Aside0.mk hr2
  have HC2 := Aside0.mk hc2
  clear hr2 hc2
  have HB := Aside0.mk (Below.refl w.heap.size w)
  have H : (if (l2.length : Int) > 300 then (annuletlaw07_NumBack.j0 k a0 a1 l2 a3 true) else (annuletlaw07_NumBack.j0 k a0 a1 l2 a3 (decide ((a3.size : Int) > 300)))) = some r := h
  clear h
  have HC5 := Aside0.mk H
  clear H
  go_enter Try.func5, Try.ntmps5
  go_upto_region 1 with (fail)
  go_cut [28] (fun v28 wc => ∃ (kq : Nat) (x28_4 : Bool), v28 = .bool x28_4 ∧ Aside0 (annuletlaw07_NumBack.j0 kq a0 a1 l2 a3 x28_4 = some r) ∧ Aside0 (kq ≤ k) ∧ Aside0 (Below w.heap.size w wc))
  case first =>
    have H := HC5.out
    clear HC5
    by_cases c6 : (l2.length : Int) > 300
    · rw [if_pos c6] at H
      have c6b0 : decide (300 < (l2.length : Int)) = true := decide_eq_true c6
      have c6b1 : decide (300 < l2.length) = true := decide_eq_true (by omega)
      clear c6
      (first | rw [c6b0] | (simp only [i64_w, i32_w]; rw [c6b0]) | skip)
      have H' := Aside0.mk H
      clear H
      go_wp2
      go_meet
      case rel => exact ⟨_, (true), (by first | rfl | (simp; done) | (simp [*]; done)), H', ⟨by first | omega | exact Nat.le_refl _⟩, ⟨by repeat (first | (with_reducible first | exact HB.out | apply below_alloc | apply pw_below_drewN | apply below_drew1) | exact HB.out)⟩⟩
    · rw [if_neg c6] at H
      have c6b0 : decide (300 < (l2.length : Int)) = false := decide_eq_false c6
      have c6b1 : decide (300 < l2.length) = false := decide_eq_false (by omega)
      clear c6
      (first | rw [c6b0] | (simp only [i64_w, i32_w]; rw [c6b0]) | skip)
      have H' := Aside0.mk H
      clear H
      go_wp2
      go_meet
      case rel => exact ⟨_, (decide ((a3.size : Int) > 300)), (by first | rfl | (simp; done) | (simp [*]; done)), H', ⟨by first | omega | exact Nat.le_refl _⟩, ⟨by repeat (first | (with_reducible first | exact HB.out | apply below_alloc | apply pw_below_drewN | apply below_drew1) | exact HB.out)⟩⟩
  case rest =>
    clear HC5
    try clear c2
    try clear p2
    try clear c5
    try clear c6
    try clear c6b0
    try clear c6b1
    obtain ⟨kq, x28_4, rfl, HA, HJ4, HB⟩ := hcut
    cases kq with
    | zero => exact absurd HA.out (by simp [annuletlaw07_NumBack.j0])
    | succ kj4 =>
      have H := HA.out
      clear HA
      simp only [annuletlaw07_NumBack.j0] at H
      by_cases c7 : x28_4 = true
      · subst c7
        have H1 : ((annuletlaw07_awake.f kj4).bind fun t146 => (some t146)) = some r := by rw [if_pos rfl] at H; exact H
        clear H
        have H := H1
        clear H1
        replace H := Option.bind_eq_some_iff.mp H
        obtain ⟨t146, A80, H⟩ := H
        replace H : (some t146) = some r := H
        have A8 := Aside0.mk A80
        clear A80
        obtain rfl := Option.some.inj H
        go_wp2_with (first | ((with_reducible refine gate_callee (f := 6) rfl ?_); refine goesL_ (some 29) rfl rfl Try.func6 (by kernel_rfl) rfl #[] rfl (by (try simp only [List.map_toArray, List.map_cons, List.map_nil]); first | done | rfl | (simp only [List.length_drop, List.length_take]; rfl)) ?_; (with_reducible refine (annuletlaw07_awake.calls kj4  t146 _ A8.out).mono ?_); rintro e w9 ⟨rfl, hb⟩; refine ⟨_, rfl, ?_⟩; have n0_ := Aside0.mk (below_step (by repeat (first | (with_reducible first | exact HB.out | apply below_alloc | apply pw_below_drewN | apply below_drew1) | exact HB.out)) hb); clear HB; have HB := n0_; clear n0_; (try clear hb); (try clear hb2); (try clear hk); (try clear hi)))
        all_goals go_ret
        all_goals first | (exact ⟨by first | rfl | (simp [errW_none, errW_some] <;> rfl) | (simp [*, errW_none, errW_some] <;> rfl), by repeat (first | (with_reducible first | exact HB.out | apply below_alloc | apply pw_below_drewN | apply below_drew1) | exact HB.out)⟩) | (exfalso; simp_all; done)
      · replace c7 := Bool.eq_false_iff.mpr c7
        subst c7
        have H1 : ((num_Put.f a0).bind fun t147 => ((num_Get.f kj4 t147).bind fun bt148 => ((num_Hex.f kj4 a1).bind fun t150 => ((num_Unhex.f kj4 t150).bind fun bt151 => ((num_Bytes.f kj4 l2).bind fun t153 => ((num_Unbytes.f kj4 t153).bind fun bt154 => (if bt148.1 = a0 then (if bt148.2 = 0 then (if bt151.1 = a1 then (if bt151.2 = 0 then (if (strOfNums bt154.1).toList = (strOfNums l2).toList then (annuletlaw07_NumBack.j1 kj4 a3 (bt154.2 != 0)) else (annuletlaw07_NumBack.j1 kj4 a3 true)) else (annuletlaw07_NumBack.j1 kj4 a3 true)) else (annuletlaw07_NumBack.j1 kj4 a3 true)) else (annuletlaw07_NumBack.j1 kj4 a3 true)) else (annuletlaw07_NumBack.j1 kj4 a3 true)))))))) = some r := by rw [if_neg (show ¬ (false = true) by decide)] at H; exact H
        clear H
        have H := H1
        clear H1
        replace H := Option.bind_eq_some_iff.mp H
        obtain ⟨t147, A100, H⟩ := H
        replace H : ((num_Get.f kj4 t147).bind fun bt148 => ((num_Hex.f kj4 a1).bind fun t150 => ((num_Unhex.f kj4 t150).bind fun bt151 => ((num_Bytes.f kj4 l2).bind fun t153 => ((num_Unbytes.f kj4 t153).bind fun bt154 => (if bt148.1 = a0 then (if bt148.2 = 0 then (if bt151.1 = a1 then (if bt151.2 = 0 then (if (strOfNums bt154.1).toList = (strOfNums l2).toList then (annuletlaw07_NumBack.j1 kj4 a3 (bt154.2 != 0)) else (annuletlaw07_NumBack.j1 kj4 a3 true)) else (annuletlaw07_NumBack.j1 kj4 a3 true)) else (annuletlaw07_NumBack.j1 kj4 a3 true)) else (annuletlaw07_NumBack.j1 kj4 a3 true)) else (annuletlaw07_NumBack.j1 kj4 a3 true))))))) = some r := H
        have A10 := Aside0.mk A100
        clear A100
        replace H := Option.bind_eq_some_iff.mp H
        obtain ⟨⟨t148, t149⟩, A110, H⟩ := H
        replace H : ((num_Hex.f kj4 a1).bind fun t150 => ((num_Unhex.f kj4 t150).bind fun bt151 => ((num_Bytes.f kj4 l2).bind fun t153 => ((num_Unbytes.f kj4 t153).bind fun bt154 => (if t148 = a0 then (if t149 = 0 then (if bt151.1 = a1 then (if bt151.2 = 0 then (if (strOfNums bt154.1).toList = (strOfNums l2).toList then (annuletlaw07_NumBack.j1 kj4 a3 (bt154.2 != 0)) else (annuletlaw07_NumBack.j1 kj4 a3 true)) else (annuletlaw07_NumBack.j1 kj4 a3 true)) else (annuletlaw07_NumBack.j1 kj4 a3 true)) else (annuletlaw07_NumBack.j1 kj4 a3 true)) else (annuletlaw07_NumBack.j1 kj4 a3 true)))))) = some r := H
        have A11 := Aside0.mk A110
        clear A110
        replace H := Option.bind_eq_some_iff.mp H
        obtain ⟨t150, A120, H⟩ := H
        replace H : ((num_Unhex.f kj4 t150).bind fun bt151 => ((num_Bytes.f kj4 l2).bind fun t153 => ((num_Unbytes.f kj4 t153).bind fun bt154 => (if t148 = a0 then (if t149 = 0 then (if bt151.1 = a1 then (if bt151.2 = 0 then (if (strOfNums bt154.1).toList = (strOfNums l2).toList then (annuletlaw07_NumBack.j1 kj4 a3 (bt154.2 != 0)) else (annuletlaw07_NumBack.j1 kj4 a3 true)) else (annuletlaw07_NumBack.j1 kj4 a3 true)) else (annuletlaw07_NumBack.j1 kj4 a3 true)) else (annuletlaw07_NumBack.j1 kj4 a3 true)) else (annuletlaw07_NumBack.j1 kj4 a3 true))))) = some r := H
        have A12 := Aside0.mk A120
        clear A120
        replace H := Option.bind_eq_some_iff.mp H
        obtain ⟨⟨t151, t152⟩, A130, H⟩ := H
        replace H : ((num_Bytes.f kj4 l2).bind fun t153 => ((num_Unbytes.f kj4 t153).bind fun bt154 => (if t148 = a0 then (if t149 = 0 then (if t151 = a1 then (if t152 = 0 then (if (strOfNums bt154.1).toList = (strOfNums l2).toList then (annuletlaw07_NumBack.j1 kj4 a3 (bt154.2 != 0)) else (annuletlaw07_NumBack.j1 kj4 a3 true)) else (annuletlaw07_NumBack.j1 kj4 a3 true)) else (annuletlaw07_NumBack.j1 kj4 a3 true)) else (annuletlaw07_NumBack.j1 kj4 a3 true)) else (annuletlaw07_NumBack.j1 kj4 a3 true)))) = some r := H
        have A13 := Aside0.mk A130
        clear A130
        replace H := Option.bind_eq_some_iff.mp H
        obtain ⟨t153, A140, H⟩ := H
        replace H : ((num_Unbytes.f kj4 t153).bind fun bt154 => (if t148 = a0 then (if t149 = 0 then (if t151 = a1 then (if t152 = 0 then (if (strOfNums bt154.1).toList = (strOfNums l2).toList then (annuletlaw07_NumBack.j1 kj4 a3 (bt154.2 != 0)) else (annuletlaw07_NumBack.j1 kj4 a3 true)) else (annuletlaw07_NumBack.j1 kj4 a3 true)) else (annuletlaw07_NumBack.j1 kj4 a3 true)) else (annuletlaw07_NumBack.j1 kj4 a3 true)) else (annuletlaw07_NumBack.j1 kj4 a3 true))) = some r := H
        have A14 := Aside0.mk A140
        clear A140
        replace H := Option.bind_eq_some_iff.mp H
        obtain ⟨⟨t154, t155⟩, A150, H⟩ := H
        replace H : (if t148 = a0 then (if t149 = 0 then (if t151 = a1 then (if t152 = 0 then (if (strOfNums t154).toList = (strOfNums l2).toList then (annuletlaw07_NumBack.j1 kj4 a3 (t155 != 0)) else (annuletlaw07_NumBack.j1 kj4 a3 true)) else (annuletlaw07_NumBack.j1 kj4 a3 true)) else (annuletlaw07_NumBack.j1 kj4 a3 true)) else (annuletlaw07_NumBack.j1 kj4 a3 true)) else (annuletlaw07_NumBack.j1 kj4 a3 true)) = some r := H
        have A15 := Aside0.mk A150
        clear A150
        have HC16 := Aside0.mk H
        clear H
        go_upto_region 6 with (first | ((with_reducible refine gate_callee (f := 7) rfl ?_); refine goesL_ (some 32) rfl rfl Try.func7 (by kernel_rfl) rfl #[.int .i64 a0] rfl (by (try simp only [List.map_toArray, List.map_cons, List.map_nil]); first | done | rfl | (simp only [List.length_drop, List.length_take]; rfl)) ?_; (with_reducible refine (num_Put.calls a0 t147 _ A10.out).mono ?_); rintro e w17 ⟨rfl, hb⟩; refine ⟨_, rfl, ?_⟩; have n0_ := Aside0.mk (below_step (by repeat (first | (with_reducible first | exact HB.out | apply below_alloc | apply pw_below_drewN | apply below_drew1) | exact HB.out)) hb); clear HB; have HB := n0_; clear n0_; (try clear hb); (try clear hb2); (try clear hk); (try clear hi)) | ((with_reducible refine gate_callee (f := 13) rfl ?_); refine goesL_ (some 33) rfl rfl Try.func13 (by kernel_rfl) rfl #[.string t147] rfl (by (try simp only [List.map_toArray, List.map_cons, List.map_nil]); first | done | rfl | (simp only [List.length_drop, List.length_take]; rfl)) ?_; (with_reducible refine (num_Get.calls kj4 t147 t148 t149 _ A11.out).mono ?_); rintro e w' ⟨rfl, ⟨nd, rfl⟩⟩; refine ⟨_, rfl, ?_⟩) | ((with_reducible refine gate_callee (f := 9) rfl ?_); refine goesL_ (some 38) rfl rfl Try.func9 (by kernel_rfl) rfl #[.int .u64 a1] rfl (by (try simp only [List.map_toArray, List.map_cons, List.map_nil]); first | done | rfl | (simp only [List.length_drop, List.length_take]; rfl)) ?_; (with_reducible refine (num_Hex.calls kj4 a1 t150 _ A12.out).mono ?_); rintro e w18 ⟨rfl, hb⟩; refine ⟨_, rfl, ?_⟩; have n0_ := Aside0.mk (below_step (by repeat (first | (with_reducible first | exact HB.out | apply below_alloc | apply pw_below_drewN | apply below_drew1) | exact HB.out)) hb); clear HB; have HB := n0_; clear n0_; (try clear hb); (try clear hb2); (try clear hk); (try clear hi)) | ((with_reducible refine gate_callee (f := 15) rfl ?_); refine goesL_ (some 39) rfl rfl Try.func15 (by kernel_rfl) rfl #[.string t150] rfl (by (try simp only [List.map_toArray, List.map_cons, List.map_nil]); first | done | rfl | (simp only [List.length_drop, List.length_take]; rfl)) ?_; (with_reducible refine (num_Unhex.calls kj4 t150 t151 t152 _ A13.out).mono ?_); rintro e w19 ⟨rfl, hb⟩; refine ⟨_, rfl, ?_⟩; have n0_ := Aside0.mk (below_step (by repeat (first | (with_reducible first | exact HB.out | apply below_alloc | apply pw_below_drewN | apply below_drew1) | exact HB.out)) hb); clear HB; have HB := n0_; clear n0_; (try clear hb); (try clear hb2); (try clear hk); (try clear hi)) | ((with_reducible refine gate_callee (f := 11) rfl ?_); refine goesL_ (some 44) rfl rfl Try.func11 (by kernel_rfl) rfl #[.slice A2 l2.length c2] rfl (by (try simp only [List.map_toArray, List.map_cons, List.map_nil]); first | done | rfl | (simp only [List.length_drop, List.length_take]; rfl)) ?_; (with_reducible refine (num_Bytes.calls kj4 _ _ l2 t153 _ ?side1 ?side2 A14.out).mono ?_); (case side1 => repeat (first | exact (Kd.C_below HR2.out HB.out) | (with_reducible refine Kd.C_alloc ?_ _) | (with_reducible refine Kd.C_drewN ?_ _) | (with_reducible refine Kd.C_drew ?_))); (case side2 => exact HC2.out); rintro e w20 ⟨rfl, hb⟩; refine ⟨_, rfl, ?_⟩; have n0_ := Aside0.mk (below_step (by repeat (first | (with_reducible first | exact HB.out | apply below_alloc | apply pw_below_drewN | apply below_drew1) | exact HB.out)) hb); clear HB; have HB := n0_; clear n0_; (try clear hb); (try clear hb2); (try clear hk); (try clear hi)) | ((with_reducible refine gate_callee (f := 17) rfl ?_); refine goesL_ (some 45) rfl rfl Try.func17 (by kernel_rfl) rfl #[.string t153] rfl (by (try simp only [List.map_toArray, List.map_cons, List.map_nil]); first | done | rfl | (simp only [List.length_drop, List.length_take]; rfl)) ?_; (with_reducible refine (num_Unbytes.calls kj4 t153 t154 t155 _ A15.out).mono ?_); rintro e w21 ⟨v156, rfl, ho0, hb⟩; refine ⟨_, rfl, ?_⟩; have n0_ := Aside0.mk (Kd.R_lower ho0 (below_size (by repeat (first | (with_reducible first | exact HB.out | apply below_alloc | apply pw_below_drewN | apply below_drew1) | exact HB.out)))); have n1_ := Aside0.mk (below_step (by repeat (first | (with_reducible first | exact HB.out | apply below_alloc | apply pw_below_drewN | apply below_drew1) | exact HB.out)) hb); clear HB; have HO157 := n0_; have HB := n1_; clear n0_ n1_; (try clear hb); (try clear hb2); (try clear hk); (try clear hi); (try clear ho0)))
        (try simp only [Act.put, List.setIfInBounds_toArray, List.set_cons_zero, List.set_cons_succ])
        go_cut [74] (fun v74 wc => ∃ (kq : Nat) (x74_15 : Bool), v74 = .bool x74_15 ∧ Aside0 (annuletlaw07_NumBack.j1 kq a3 x74_15 = some r) ∧ Aside0 (kq ≤ kj4) ∧ Aside0 (Below w.heap.size w wc))
        case first =>
          have H := HC16.out
          clear HC16
          by_cases c22 : t148 = a0
          · rw [if_pos c22] at H
            have c22b0 : (t148 == a0) = true := beq_iff_eq.mpr c22
            have c22b1 : (t148 != a0) = false := bne_eq_false_iff_eq.mpr c22
            clear c22
            (first | rw [c22b0] | (simp only [i64_w, i32_w]; rw [c22b0]) | skip)
            by_cases c23 : t149 = 0
            · rw [if_pos c23] at H
              have c23b0 : (t149 == 0) = true := beq_iff_eq.mpr c23
              have c23b1 : (t149 != 0) = false := bne_eq_false_iff_eq.mpr c23
              clear c23
              by_cases c24 : t151 = a1
              · rw [if_pos c24] at H
                have c24b0 : (t151 == a1) = true := beq_iff_eq.mpr c24
                have c24b1 : (t151 != a1) = false := bne_eq_false_iff_eq.mpr c24
                clear c24
                by_cases c25 : t152 = 0
                · rw [if_pos c25] at H
                  have c25b0 : (t152 == 0) = true := beq_iff_eq.mpr c25
                  have c25b1 : (t152 != 0) = false := bne_eq_false_iff_eq.mpr c25
                  clear c25
                  by_cases c26 : (strOfNums t154).toList = (strOfNums l2).toList
                  · rw [if_pos c26] at H
                    have c26b0 : ((strOfNums t154).toList == (strOfNums l2).toList) = true := beq_iff_eq.mpr c26
                    have c26b1 : ((strOfNums t154).toList != (strOfNums l2).toList) = false := bne_eq_false_iff_eq.mpr c26
                    clear c26
                    have H' := Aside0.mk H
                    clear H
                    have hcv27 := own_string (P := Try.prog) Try.underlying23 Try.underlying5 Try.underlying9 (Kd.own_of_R HO157.out)
                    have hcv28 := Kd.C_string (P := Try.prog) (A := A2) (c := c2) Try.underlying23 Try.underlying5 Try.underlying9 (Kd.C_below HR2.out HB.out)
                    have hcn28 := fun n_ => Kd.C_string (P := Try.prog) (A := A2) (c := c2) Try.underlying23 Try.underlying5 Try.underlying9 (Kd.C_drewN (Kd.C_below HR2.out HB.out) n_)
                    go_wp2
                    go_meet
                    case rel => exact ⟨_, ((t155 != 0)), (by first | rfl | (simp; done) | (simp [*]; done)), H', ⟨by have := HJ4.out; first | omega | exact Nat.le_refl _⟩, ⟨by repeat (first | (with_reducible first | exact HB.out | apply below_alloc | apply pw_below_drewN | apply below_drew1) | exact HB.out)⟩⟩
                  · rw [if_neg c26] at H
                    have c26b0 : ((strOfNums t154).toList == (strOfNums l2).toList) = false := beq_eq_false_iff_ne.mpr c26
                    have c26b1 : ((strOfNums t154).toList != (strOfNums l2).toList) = true := bne_iff_ne.mpr c26
                    have H' := Aside0.mk H
                    clear H
                    have hcv29 := own_string (P := Try.prog) Try.underlying23 Try.underlying5 Try.underlying9 (Kd.own_of_R HO157.out)
                    have hcv30 := Kd.C_string (P := Try.prog) (A := A2) (c := c2) Try.underlying23 Try.underlying5 Try.underlying9 (Kd.C_below HR2.out HB.out)
                    have hcn30 := fun n_ => Kd.C_string (P := Try.prog) (A := A2) (c := c2) Try.underlying23 Try.underlying5 Try.underlying9 (Kd.C_drewN (Kd.C_below HR2.out HB.out) n_)
                    go_wp2
                    go_meet
                    case rel => exact ⟨_, (true), (by first | rfl | (simp; done) | (simp [*]; done)), H', ⟨by have := HJ4.out; first | omega | exact Nat.le_refl _⟩, ⟨by repeat (first | (with_reducible first | exact HB.out | apply below_alloc | apply pw_below_drewN | apply below_drew1) | exact HB.out)⟩⟩
                · rw [if_neg c25] at H
                  have c25b0 : (t152 == 0) = false := beq_eq_false_iff_ne.mpr c25
                  have c25b1 : (t152 != 0) = true := bne_iff_ne.mpr c25
                  have H' := Aside0.mk H
                  clear H
                  go_wp2
                  go_meet
                  case rel => exact ⟨_, (true), (by first | rfl | (simp; done) | (simp [*]; done)), H', ⟨by have := HJ4.out; first | omega | exact Nat.le_refl _⟩, ⟨by repeat (first | (with_reducible first | exact HB.out | apply below_alloc | apply pw_below_drewN | apply below_drew1) | exact HB.out)⟩⟩
              · rw [if_neg c24] at H
                have c24b0 : (t151 == a1) = false := beq_eq_false_iff_ne.mpr c24
                have c24b1 : (t151 != a1) = true := bne_iff_ne.mpr c24
                have H' := Aside0.mk H
                clear H
                go_wp2
                go_meet
                case rel => exact ⟨_, (true), (by first | rfl | (simp; done) | (simp [*]; done)), H', ⟨by have := HJ4.out; first | omega | exact Nat.le_refl _⟩, ⟨by repeat (first | (with_reducible first | exact HB.out | apply below_alloc | apply pw_below_drewN | apply below_drew1) | exact HB.out)⟩⟩
            · rw [if_neg c23] at H
              have c23b0 : (t149 == 0) = false := beq_eq_false_iff_ne.mpr c23
              have c23b1 : (t149 != 0) = true := bne_iff_ne.mpr c23
              have H' := Aside0.mk H
              clear H
              go_wp2
              go_meet
              case rel => exact ⟨_, (true), (by first | rfl | (simp; done) | (simp [*]; done)), H', ⟨by have := HJ4.out; first | omega | exact Nat.le_refl _⟩, ⟨by repeat (first | (with_reducible first | exact HB.out | apply below_alloc | apply pw_below_drewN | apply below_drew1) | exact HB.out)⟩⟩
          · rw [if_neg c22] at H
            have c22b0 : (t148 == a0) = false := beq_eq_false_iff_ne.mpr c22
            have c22b1 : (t148 != a0) = true := bne_iff_ne.mpr c22
            (first | rw [c22b0] | (simp only [i64_w, i32_w]; rw [c22b0]) | skip)
            have H' := Aside0.mk H
            clear H
            go_wp2
            go_meet
            case rel => exact ⟨_, (true), (by first | rfl | (simp; done) | (simp [*]; done)), H', ⟨by have := HJ4.out; first | omega | exact Nat.le_refl _⟩, ⟨by repeat (first | (with_reducible first | exact HB.out | apply below_alloc | apply pw_below_drewN | apply below_drew1) | exact HB.out)⟩⟩
        case rest =>
          clear HC16
          try clear c1
          try clear c2
          try clear p2
          try clear hcv2
          try clear hcv3
          try clear c5
          try clear c6
          try clear c6b0
          try clear c6b1
          try clear c7
          try clear c9
          try clear c11
          try clear c13
          try clear c15
          try clear c17
          try clear c22
          try clear c22b0
          try clear c22b1
          try clear c23
          try clear c23b0
          try clear c23b1
          try clear c24
          try clear c24b0
          try clear c24b1
          try clear c25
          try clear c25b0
          try clear c25b1
          try clear c26
          try clear c26b0
          try clear c26b1
          try clear hcv27
          try clear hcv28
          try clear hcv29
          try clear hcv30
          try clear p2
          obtain ⟨kq, x74_15, rfl, HA, HJ15, HB⟩ := hcut
          cases kq with
          | zero => exact absurd HA.out (by simp [annuletlaw07_NumBack.j1])
          | succ kj15 =>
            have H := HA.out
            clear HA
            simp only [annuletlaw07_NumBack.j1] at H
            by_cases c31 : x74_15 = true
            · subst c31
              have H1 : (none) = some r := by rw [if_pos rfl] at H; exact H
              clear H
              have H := H1
              clear H1
              exact absurd H (by simp)
            · replace c31 := Bool.eq_false_iff.mpr c31
              subst c31
              have H1 : ((num_Get.f kj15 a3).bind fun bt158 => ((num_Unhex.f kj15 a3).bind fun bt160 => ((num_Unbytes.f kj15 a3).bind fun bt162 => (if bt158.2 = 0 then ((num_Put.f bt158.1).bind fun t166 => (if t166.toList = a3.toList then (if bt160.2 = 0 then ((num_Hex.f kj15 bt160.1).bind fun t167 => (if t167.toList = a3.toList then (if bt162.2 = 0 then ((num_Bytes.f kj15 bt162.1).bind fun t168 => (if t168.toList = a3.toList then ((annuletlaw07_awake.f kj15).bind fun t169 => (some t169)) else (none))) else ((annuletlaw07_awake.f kj15).bind fun t170 => (some t170))) else (none))) else (if bt162.2 = 0 then ((num_Bytes.f kj15 bt162.1).bind fun t171 => (if t171.toList = a3.toList then ((annuletlaw07_awake.f kj15).bind fun t172 => (some t172)) else (none))) else ((annuletlaw07_awake.f kj15).bind fun t173 => (some t173)))) else (none))) else (if bt160.2 = 0 then ((num_Hex.f kj15 bt160.1).bind fun t174 => (if t174.toList = a3.toList then (if bt162.2 = 0 then ((num_Bytes.f kj15 bt162.1).bind fun t175 => (if t175.toList = a3.toList then ((annuletlaw07_awake.f kj15).bind fun t176 => (some t176)) else (none))) else ((annuletlaw07_awake.f kj15).bind fun t177 => (some t177))) else (none))) else (if bt162.2 = 0 then ((num_Bytes.f kj15 bt162.1).bind fun t178 => (if t178.toList = a3.toList then ((annuletlaw07_awake.f kj15).bind fun t179 => (some t179)) else (none))) else ((annuletlaw07_awake.f kj15).bind fun t180 => (some t180)))))))) = some r := by rw [if_neg (show ¬ (false = true) by decide)] at H; exact H
              clear H
              have H := H1
              clear H1
              replace H := Option.bind_eq_some_iff.mp H
              obtain ⟨⟨t158, t159⟩, A320, H⟩ := H
              replace H : ((num_Unhex.f kj15 a3).bind fun bt160 => ((num_Unbytes.f kj15 a3).bind fun bt162 => (if t159 = 0 then ((num_Put.f t158).bind fun t166 => (if t166.toList = a3.toList then (if bt160.2 = 0 then ((num_Hex.f kj15 bt160.1).bind fun t167 => (if t167.toList = a3.toList then (if bt162.2 = 0 then ((num_Bytes.f kj15 bt162.1).bind fun t168 => (if t168.toList = a3.toList then ((annuletlaw07_awake.f kj15).bind fun t169 => (some t169)) else (none))) else ((annuletlaw07_awake.f kj15).bind fun t170 => (some t170))) else (none))) else (if bt162.2 = 0 then ((num_Bytes.f kj15 bt162.1).bind fun t171 => (if t171.toList = a3.toList then ((annuletlaw07_awake.f kj15).bind fun t172 => (some t172)) else (none))) else ((annuletlaw07_awake.f kj15).bind fun t173 => (some t173)))) else (none))) else (if bt160.2 = 0 then ((num_Hex.f kj15 bt160.1).bind fun t174 => (if t174.toList = a3.toList then (if bt162.2 = 0 then ((num_Bytes.f kj15 bt162.1).bind fun t175 => (if t175.toList = a3.toList then ((annuletlaw07_awake.f kj15).bind fun t176 => (some t176)) else (none))) else ((annuletlaw07_awake.f kj15).bind fun t177 => (some t177))) else (none))) else (if bt162.2 = 0 then ((num_Bytes.f kj15 bt162.1).bind fun t178 => (if t178.toList = a3.toList then ((annuletlaw07_awake.f kj15).bind fun t179 => (some t179)) else (none))) else ((annuletlaw07_awake.f kj15).bind fun t180 => (some t180))))))) = some r := H
              have A32 := Aside0.mk A320
              clear A320
              replace H := Option.bind_eq_some_iff.mp H
              obtain ⟨⟨t160, t161⟩, A330, H⟩ := H
              replace H : ((num_Unbytes.f kj15 a3).bind fun bt162 => (if t159 = 0 then ((num_Put.f t158).bind fun t166 => (if t166.toList = a3.toList then (if t161 = 0 then ((num_Hex.f kj15 t160).bind fun t167 => (if t167.toList = a3.toList then (if bt162.2 = 0 then ((num_Bytes.f kj15 bt162.1).bind fun t168 => (if t168.toList = a3.toList then ((annuletlaw07_awake.f kj15).bind fun t169 => (some t169)) else (none))) else ((annuletlaw07_awake.f kj15).bind fun t170 => (some t170))) else (none))) else (if bt162.2 = 0 then ((num_Bytes.f kj15 bt162.1).bind fun t171 => (if t171.toList = a3.toList then ((annuletlaw07_awake.f kj15).bind fun t172 => (some t172)) else (none))) else ((annuletlaw07_awake.f kj15).bind fun t173 => (some t173)))) else (none))) else (if t161 = 0 then ((num_Hex.f kj15 t160).bind fun t174 => (if t174.toList = a3.toList then (if bt162.2 = 0 then ((num_Bytes.f kj15 bt162.1).bind fun t175 => (if t175.toList = a3.toList then ((annuletlaw07_awake.f kj15).bind fun t176 => (some t176)) else (none))) else ((annuletlaw07_awake.f kj15).bind fun t177 => (some t177))) else (none))) else (if bt162.2 = 0 then ((num_Bytes.f kj15 bt162.1).bind fun t178 => (if t178.toList = a3.toList then ((annuletlaw07_awake.f kj15).bind fun t179 => (some t179)) else (none))) else ((annuletlaw07_awake.f kj15).bind fun t180 => (some t180)))))) = some r := H
              have A33 := Aside0.mk A330
              clear A330
              replace H := Option.bind_eq_some_iff.mp H
              obtain ⟨⟨t162, t163⟩, A340, H⟩ := H
              replace H : (if t159 = 0 then ((num_Put.f t158).bind fun t166 => (if t166.toList = a3.toList then (if t161 = 0 then ((num_Hex.f kj15 t160).bind fun t167 => (if t167.toList = a3.toList then (if t163 = 0 then ((num_Bytes.f kj15 t162).bind fun t168 => (if t168.toList = a3.toList then ((annuletlaw07_awake.f kj15).bind fun t169 => (some t169)) else (none))) else ((annuletlaw07_awake.f kj15).bind fun t170 => (some t170))) else (none))) else (if t163 = 0 then ((num_Bytes.f kj15 t162).bind fun t171 => (if t171.toList = a3.toList then ((annuletlaw07_awake.f kj15).bind fun t172 => (some t172)) else (none))) else ((annuletlaw07_awake.f kj15).bind fun t173 => (some t173)))) else (none))) else (if t161 = 0 then ((num_Hex.f kj15 t160).bind fun t174 => (if t174.toList = a3.toList then (if t163 = 0 then ((num_Bytes.f kj15 t162).bind fun t175 => (if t175.toList = a3.toList then ((annuletlaw07_awake.f kj15).bind fun t176 => (some t176)) else (none))) else ((annuletlaw07_awake.f kj15).bind fun t177 => (some t177))) else (none))) else (if t163 = 0 then ((num_Bytes.f kj15 t162).bind fun t178 => (if t178.toList = a3.toList then ((annuletlaw07_awake.f kj15).bind fun t179 => (some t179)) else (none))) else ((annuletlaw07_awake.f kj15).bind fun t180 => (some t180))))) = some r := H
              have A34 := Aside0.mk A340
              clear A340
              by_cases c35 : t159 = 0
              · rw [if_pos c35] at H
                have c35b0 : (t159 == 0) = true := beq_iff_eq.mpr c35
                have c35b1 : (t159 != 0) = false := bne_eq_false_iff_eq.mpr c35
                clear c35
                replace H := Option.bind_eq_some_iff.mp H
                obtain ⟨t166, A360, H⟩ := H
                replace H : (if t166.toList = a3.toList then (if t161 = 0 then ((num_Hex.f kj15 t160).bind fun t167 => (if t167.toList = a3.toList then (if t163 = 0 then ((num_Bytes.f kj15 t162).bind fun t168 => (if t168.toList = a3.toList then ((annuletlaw07_awake.f kj15).bind fun t169 => (some t169)) else (none))) else ((annuletlaw07_awake.f kj15).bind fun t170 => (some t170))) else (none))) else (if t163 = 0 then ((num_Bytes.f kj15 t162).bind fun t171 => (if t171.toList = a3.toList then ((annuletlaw07_awake.f kj15).bind fun t172 => (some t172)) else (none))) else ((annuletlaw07_awake.f kj15).bind fun t173 => (some t173)))) else (none)) = some r := H
                have A36 := Aside0.mk A360
                clear A360
                by_cases c37 : t166.toList = a3.toList
                · rw [if_pos c37] at H
                  have c37b0 : (t166.toList == a3.toList) = true := beq_iff_eq.mpr c37
                  have c37b1 : (t166.toList != a3.toList) = false := bne_eq_false_iff_eq.mpr c37
                  clear c37
                  by_cases c38 : t161 = 0
                  · rw [if_pos c38] at H
                    have c38b0 : (t161 == 0) = true := beq_iff_eq.mpr c38
                    have c38b1 : (t161 != 0) = false := bne_eq_false_iff_eq.mpr c38
                    clear c38
                    replace H := Option.bind_eq_some_iff.mp H
                    obtain ⟨t167, A390, H⟩ := H
                    replace H : (if t167.toList = a3.toList then (if t163 = 0 then ((num_Bytes.f kj15 t162).bind fun t168 => (if t168.toList = a3.toList then ((annuletlaw07_awake.f kj15).bind fun t169 => (some t169)) else (none))) else ((annuletlaw07_awake.f kj15).bind fun t170 => (some t170))) else (none)) = some r := H
                    have A39 := Aside0.mk A390
                    clear A390
                    by_cases c40 : t167.toList = a3.toList
                    · rw [if_pos c40] at H
                      have c40b0 : (t167.toList == a3.toList) = true := beq_iff_eq.mpr c40
                      have c40b1 : (t167.toList != a3.toList) = false := bne_eq_false_iff_eq.mpr c40
                      clear c40
                      by_cases c41 : t163 = 0
                      · rw [if_pos c41] at H
                        have c41b0 : (t163 == 0) = true := beq_iff_eq.mpr c41
                        have c41b1 : (t163 != 0) = false := bne_eq_false_iff_eq.mpr c41
                        clear c41
                        replace H := Option.bind_eq_some_iff.mp H
                        obtain ⟨t168, A420, H⟩ := H
                        replace H : (if t168.toList = a3.toList then ((annuletlaw07_awake.f kj15).bind fun t169 => (some t169)) else (none)) = some r := H
                        have A42 := Aside0.mk A420
                        clear A420
                        by_cases c43 : t168.toList = a3.toList
                        · rw [if_pos c43] at H
                          have c43b0 : (t168.toList == a3.toList) = true := beq_iff_eq.mpr c43
                          have c43b1 : (t168.toList != a3.toList) = false := bne_eq_false_iff_eq.mpr c43
                          clear c43
                          replace H := Option.bind_eq_some_iff.mp H
                          obtain ⟨t169, A440, H⟩ := H
                          replace H : (some t169) = some r := H
                          have A44 := Aside0.mk A440
                          clear A440
                          obtain rfl := Option.some.inj H
                          go_wp2_with (first | ((with_reducible refine gate_callee (f := 13) rfl ?_); refine goesL_ (some 77) rfl rfl Try.func13 (by kernel_rfl) rfl #[.string a3] rfl (by (try simp only [List.map_toArray, List.map_cons, List.map_nil]); first | done | rfl | (simp only [List.length_drop, List.length_take]; rfl)) ?_; (with_reducible refine (num_Get.calls kj15 a3 t158 t159 _ A32.out).mono ?_); rintro e w' ⟨rfl, ⟨nd, rfl⟩⟩; refine ⟨_, rfl, ?_⟩) | ((with_reducible refine gate_callee (f := 15) rfl ?_); refine goesL_ (some 82) rfl rfl Try.func15 (by kernel_rfl) rfl #[.string a3] rfl (by (try simp only [List.map_toArray, List.map_cons, List.map_nil]); first | done | rfl | (simp only [List.length_drop, List.length_take]; rfl)) ?_; (with_reducible refine (num_Unhex.calls kj15 a3 t160 t161 _ A33.out).mono ?_); rintro e w45 ⟨rfl, hb⟩; refine ⟨_, rfl, ?_⟩; have n0_ := Aside0.mk (below_step (by repeat (first | (with_reducible first | exact HB.out | apply below_alloc | apply pw_below_drewN | apply below_drew1) | exact HB.out)) hb); clear HB; have HB := n0_; clear n0_; (try clear hb); (try clear hb2); (try clear hk); (try clear hi)) | ((with_reducible refine gate_callee (f := 17) rfl ?_); refine goesL_ (some 87) rfl rfl Try.func17 (by kernel_rfl) rfl #[.string a3] rfl (by (try simp only [List.map_toArray, List.map_cons, List.map_nil]); first | done | rfl | (simp only [List.length_drop, List.length_take]; rfl)) ?_; (with_reducible refine (num_Unbytes.calls kj15 a3 t162 t163 _ A34.out).mono ?_); rintro e w46 ⟨v164, rfl, ho0, hb⟩; refine ⟨_, rfl, ?_⟩; have n0_ := Aside0.mk (Kd.R_lower ho0 (below_size (by repeat (first | (with_reducible first | exact HB.out | apply below_alloc | apply pw_below_drewN | apply below_drew1) | exact HB.out)))); have n1_ := Aside0.mk (below_step (by repeat (first | (with_reducible first | exact HB.out | apply below_alloc | apply pw_below_drewN | apply below_drew1) | exact HB.out)) hb); clear HB; have HO165 := n0_; have HB := n1_; clear n0_ n1_; (try clear hb); (try clear hb2); (try clear hk); (try clear hi); (try clear ho0)) | (go_at_call 7; (with_reducible refine (num_Put.calls t158 t166 _ A36.out).mono ?_); rintro e w47 ⟨rfl, hb⟩; have n0_ := Aside0.mk (Kd.R_below (by (with_reducible repeat (first | apply Kd.R_alloc | apply Kd.R_drewN | apply Kd.R_drew)); exact HO165.out) hb); have n1_ := Aside0.mk (below_step (by repeat (first | (with_reducible first | exact HB.out | apply below_alloc | apply pw_below_drewN | apply below_drew1) | exact HB.out)) hb); clear HO165; clear HB; have HO165 := n0_; have HB := n1_; clear n0_ n1_; (try clear hb); (try clear hb2); (try clear hk); (try clear hi)) | (go_at_call 9; (with_reducible refine (num_Hex.calls kj15 t160 t167 _ A39.out).mono ?_); rintro e w48 ⟨rfl, hb⟩; have n0_ := Aside0.mk (Kd.R_below (by (with_reducible repeat (first | apply Kd.R_alloc | apply Kd.R_drewN | apply Kd.R_drew)); exact HO165.out) hb); have n1_ := Aside0.mk (below_step (by repeat (first | (with_reducible first | exact HB.out | apply below_alloc | apply pw_below_drewN | apply below_drew1) | exact HB.out)) hb); clear HO165; clear HB; have HO165 := n0_; have HB := n1_; clear n0_ n1_; (try clear hb); (try clear hb2); (try clear hk); (try clear hi); obtain ⟨Ao49, co49, eo49⟩ := Kd.R_slice HO165.out; subst eo49) | (go_at_call 11; (with_reducible refine (num_Bytes.calls kj15 _ _ t162 t168 _ ?side1 ?side2 A42.out).mono ?_); (case side1 => repeat (first | exact (Kd.R_reads' HO165.out).2.2 | (with_reducible refine Kd.C_alloc ?_ _) | (with_reducible refine Kd.C_drewN ?_ _) | (with_reducible refine Kd.C_drew ?_))); (case side2 => exact (Kd.R_reads' HO165.out).2.1); rintro e w50 ⟨rfl, hb⟩; have n0_ := Aside0.mk (Kd.R_below (by (with_reducible repeat (first | apply Kd.R_alloc | apply Kd.R_drewN | apply Kd.R_drew)); exact HO165.out) hb); have n1_ := Aside0.mk (below_step (by repeat (first | (with_reducible first | exact HB.out | apply below_alloc | apply pw_below_drewN | apply below_drew1) | exact HB.out)) hb); clear HO165; clear HB; have HO165 := n0_; have HB := n1_; clear n0_ n1_; (try clear hb); (try clear hb2); (try clear hk); (try clear hi)) | (go_at_call 6; (with_reducible refine (annuletlaw07_awake.calls kj15  t169 _ A44.out).mono ?_); rintro e w51 ⟨rfl, hb⟩; have n0_ := Aside0.mk (Kd.R_below (by (with_reducible repeat (first | apply Kd.R_alloc | apply Kd.R_drewN | apply Kd.R_drew)); exact HO165.out) hb); have n1_ := Aside0.mk (below_step (by repeat (first | (with_reducible first | exact HB.out | apply below_alloc | apply pw_below_drewN | apply below_drew1) | exact HB.out)) hb); clear HO165; clear HB; have HO165 := n0_; have HB := n1_; clear n0_ n1_; (try clear hb); (try clear hb2); (try clear hk); (try clear hi)))
                          all_goals go_ret
                          all_goals first | (exact ⟨by first | rfl | (simp [errW_none, errW_some] <;> rfl) | (simp [*, errW_none, errW_some] <;> rfl), by repeat (first | (with_reducible first | exact HB.out | apply below_alloc | apply pw_below_drewN | apply below_drew1) | exact HB.out)⟩) | (exfalso; simp_all; done)
                        · rw [if_neg c43] at H
                          exact absurd H (by simp)
                      · rw [if_neg c41] at H
                        have c41b0 : (t163 == 0) = false := beq_eq_false_iff_ne.mpr c41
                        have c41b1 : (t163 != 0) = true := bne_iff_ne.mpr c41
                        replace H := Option.bind_eq_some_iff.mp H
                        obtain ⟨t170, A520, H⟩ := H
                        replace H : (some t170) = some r := H
                        have A52 := Aside0.mk A520
                        clear A520
                        obtain rfl := Option.some.inj H
                        go_wp2_with (first | ((with_reducible refine gate_callee (f := 13) rfl ?_); refine goesL_ (some 77) rfl rfl Try.func13 (by kernel_rfl) rfl #[.string a3] rfl (by (try simp only [List.map_toArray, List.map_cons, List.map_nil]); first | done | rfl | (simp only [List.length_drop, List.length_take]; rfl)) ?_; (with_reducible refine (num_Get.calls kj15 a3 t158 t159 _ A32.out).mono ?_); rintro e w' ⟨rfl, ⟨nd, rfl⟩⟩; refine ⟨_, rfl, ?_⟩) | ((with_reducible refine gate_callee (f := 15) rfl ?_); refine goesL_ (some 82) rfl rfl Try.func15 (by kernel_rfl) rfl #[.string a3] rfl (by (try simp only [List.map_toArray, List.map_cons, List.map_nil]); first | done | rfl | (simp only [List.length_drop, List.length_take]; rfl)) ?_; (with_reducible refine (num_Unhex.calls kj15 a3 t160 t161 _ A33.out).mono ?_); rintro e w53 ⟨rfl, hb⟩; refine ⟨_, rfl, ?_⟩; have n0_ := Aside0.mk (below_step (by repeat (first | (with_reducible first | exact HB.out | apply below_alloc | apply pw_below_drewN | apply below_drew1) | exact HB.out)) hb); clear HB; have HB := n0_; clear n0_; (try clear hb); (try clear hb2); (try clear hk); (try clear hi)) | ((with_reducible refine gate_callee (f := 17) rfl ?_); refine goesL_ (some 87) rfl rfl Try.func17 (by kernel_rfl) rfl #[.string a3] rfl (by (try simp only [List.map_toArray, List.map_cons, List.map_nil]); first | done | rfl | (simp only [List.length_drop, List.length_take]; rfl)) ?_; (with_reducible refine (num_Unbytes.calls kj15 a3 t162 t163 _ A34.out).mono ?_); rintro e w54 ⟨v164, rfl, ho0, hb⟩; refine ⟨_, rfl, ?_⟩; have n0_ := Aside0.mk (Kd.R_lower ho0 (below_size (by repeat (first | (with_reducible first | exact HB.out | apply below_alloc | apply pw_below_drewN | apply below_drew1) | exact HB.out)))); have n1_ := Aside0.mk (below_step (by repeat (first | (with_reducible first | exact HB.out | apply below_alloc | apply pw_below_drewN | apply below_drew1) | exact HB.out)) hb); clear HB; have HO165 := n0_; have HB := n1_; clear n0_ n1_; (try clear hb); (try clear hb2); (try clear hk); (try clear hi); (try clear ho0)) | (go_at_call 7; (with_reducible refine (num_Put.calls t158 t166 _ A36.out).mono ?_); rintro e w55 ⟨rfl, hb⟩; have n0_ := Aside0.mk (Kd.R_below (by (with_reducible repeat (first | apply Kd.R_alloc | apply Kd.R_drewN | apply Kd.R_drew)); exact HO165.out) hb); have n1_ := Aside0.mk (below_step (by repeat (first | (with_reducible first | exact HB.out | apply below_alloc | apply pw_below_drewN | apply below_drew1) | exact HB.out)) hb); clear HO165; clear HB; have HO165 := n0_; have HB := n1_; clear n0_ n1_; (try clear hb); (try clear hb2); (try clear hk); (try clear hi)) | (go_at_call 9; (with_reducible refine (num_Hex.calls kj15 t160 t167 _ A39.out).mono ?_); rintro e w56 ⟨rfl, hb⟩; have n0_ := Aside0.mk (Kd.R_below (by (with_reducible repeat (first | apply Kd.R_alloc | apply Kd.R_drewN | apply Kd.R_drew)); exact HO165.out) hb); have n1_ := Aside0.mk (below_step (by repeat (first | (with_reducible first | exact HB.out | apply below_alloc | apply pw_below_drewN | apply below_drew1) | exact HB.out)) hb); clear HO165; clear HB; have HO165 := n0_; have HB := n1_; clear n0_ n1_; (try clear hb); (try clear hb2); (try clear hk); (try clear hi)) | (go_at_call 6; (with_reducible refine (annuletlaw07_awake.calls kj15  t170 _ A52.out).mono ?_); rintro e w57 ⟨rfl, hb⟩; have n0_ := Aside0.mk (Kd.R_below (by (with_reducible repeat (first | apply Kd.R_alloc | apply Kd.R_drewN | apply Kd.R_drew)); exact HO165.out) hb); have n1_ := Aside0.mk (below_step (by repeat (first | (with_reducible first | exact HB.out | apply below_alloc | apply pw_below_drewN | apply below_drew1) | exact HB.out)) hb); clear HO165; clear HB; have HO165 := n0_; have HB := n1_; clear n0_ n1_; (try clear hb); (try clear hb2); (try clear hk); (try clear hi)))
                        all_goals go_ret
                        all_goals first | (exact ⟨by first | rfl | (simp [errW_none, errW_some] <;> rfl) | (simp [*, errW_none, errW_some] <;> rfl), by repeat (first | (with_reducible first | exact HB.out | apply below_alloc | apply pw_below_drewN | apply below_drew1) | exact HB.out)⟩) | (exfalso; simp_all; done)
                    · rw [if_neg c40] at H
                      exact absurd H (by simp)
                  · rw [if_neg c38] at H
                    have c38b0 : (t161 == 0) = false := beq_eq_false_iff_ne.mpr c38
                    have c38b1 : (t161 != 0) = true := bne_iff_ne.mpr c38
                    by_cases c58 : t163 = 0
                    · rw [if_pos c58] at H
                      have c58b0 : (t163 == 0) = true := beq_iff_eq.mpr c58
                      have c58b1 : (t163 != 0) = false := bne_eq_false_iff_eq.mpr c58
                      clear c58
                      replace H := Option.bind_eq_some_iff.mp H
                      obtain ⟨t171, A590, H⟩ := H
                      replace H : (if t171.toList = a3.toList then ((annuletlaw07_awake.f kj15).bind fun t172 => (some t172)) else (none)) = some r := H
                      have A59 := Aside0.mk A590
                      clear A590
                      by_cases c60 : t171.toList = a3.toList
                      · rw [if_pos c60] at H
                        have c60b0 : (t171.toList == a3.toList) = true := beq_iff_eq.mpr c60
                        have c60b1 : (t171.toList != a3.toList) = false := bne_eq_false_iff_eq.mpr c60
                        clear c60
                        replace H := Option.bind_eq_some_iff.mp H
                        obtain ⟨t172, A610, H⟩ := H
                        replace H : (some t172) = some r := H
                        have A61 := Aside0.mk A610
                        clear A610
                        obtain rfl := Option.some.inj H
                        go_wp2_with (first | ((with_reducible refine gate_callee (f := 13) rfl ?_); refine goesL_ (some 77) rfl rfl Try.func13 (by kernel_rfl) rfl #[.string a3] rfl (by (try simp only [List.map_toArray, List.map_cons, List.map_nil]); first | done | rfl | (simp only [List.length_drop, List.length_take]; rfl)) ?_; (with_reducible refine (num_Get.calls kj15 a3 t158 t159 _ A32.out).mono ?_); rintro e w' ⟨rfl, ⟨nd, rfl⟩⟩; refine ⟨_, rfl, ?_⟩) | ((with_reducible refine gate_callee (f := 15) rfl ?_); refine goesL_ (some 82) rfl rfl Try.func15 (by kernel_rfl) rfl #[.string a3] rfl (by (try simp only [List.map_toArray, List.map_cons, List.map_nil]); first | done | rfl | (simp only [List.length_drop, List.length_take]; rfl)) ?_; (with_reducible refine (num_Unhex.calls kj15 a3 t160 t161 _ A33.out).mono ?_); rintro e w62 ⟨rfl, hb⟩; refine ⟨_, rfl, ?_⟩; have n0_ := Aside0.mk (below_step (by repeat (first | (with_reducible first | exact HB.out | apply below_alloc | apply pw_below_drewN | apply below_drew1) | exact HB.out)) hb); clear HB; have HB := n0_; clear n0_; (try clear hb); (try clear hb2); (try clear hk); (try clear hi)) | ((with_reducible refine gate_callee (f := 17) rfl ?_); refine goesL_ (some 87) rfl rfl Try.func17 (by kernel_rfl) rfl #[.string a3] rfl (by (try simp only [List.map_toArray, List.map_cons, List.map_nil]); first | done | rfl | (simp only [List.length_drop, List.length_take]; rfl)) ?_; (with_reducible refine (num_Unbytes.calls kj15 a3 t162 t163 _ A34.out).mono ?_); rintro e w63 ⟨v164, rfl, ho0, hb⟩; refine ⟨_, rfl, ?_⟩; have n0_ := Aside0.mk (Kd.R_lower ho0 (below_size (by repeat (first | (with_reducible first | exact HB.out | apply below_alloc | apply pw_below_drewN | apply below_drew1) | exact HB.out)))); have n1_ := Aside0.mk (below_step (by repeat (first | (with_reducible first | exact HB.out | apply below_alloc | apply pw_below_drewN | apply below_drew1) | exact HB.out)) hb); clear HB; have HO165 := n0_; have HB := n1_; clear n0_ n1_; (try clear hb); (try clear hb2); (try clear hk); (try clear hi); (try clear ho0)) | (go_at_call 7; (with_reducible refine (num_Put.calls t158 t166 _ A36.out).mono ?_); rintro e w64 ⟨rfl, hb⟩; have n0_ := Aside0.mk (Kd.R_below (by (with_reducible repeat (first | apply Kd.R_alloc | apply Kd.R_drewN | apply Kd.R_drew)); exact HO165.out) hb); have n1_ := Aside0.mk (below_step (by repeat (first | (with_reducible first | exact HB.out | apply below_alloc | apply pw_below_drewN | apply below_drew1) | exact HB.out)) hb); clear HO165; clear HB; have HO165 := n0_; have HB := n1_; clear n0_ n1_; (try clear hb); (try clear hb2); (try clear hk); (try clear hi); obtain ⟨Ao65, co65, eo65⟩ := Kd.R_slice HO165.out; subst eo65) | (go_at_call 11; (with_reducible refine (num_Bytes.calls kj15 _ _ t162 t171 _ ?side1 ?side2 A59.out).mono ?_); (case side1 => repeat (first | exact (Kd.R_reads' HO165.out).2.2 | (with_reducible refine Kd.C_alloc ?_ _) | (with_reducible refine Kd.C_drewN ?_ _) | (with_reducible refine Kd.C_drew ?_))); (case side2 => exact (Kd.R_reads' HO165.out).2.1); rintro e w66 ⟨rfl, hb⟩; have n0_ := Aside0.mk (Kd.R_below (by (with_reducible repeat (first | apply Kd.R_alloc | apply Kd.R_drewN | apply Kd.R_drew)); exact HO165.out) hb); have n1_ := Aside0.mk (below_step (by repeat (first | (with_reducible first | exact HB.out | apply below_alloc | apply pw_below_drewN | apply below_drew1) | exact HB.out)) hb); clear HO165; clear HB; have HO165 := n0_; have HB := n1_; clear n0_ n1_; (try clear hb); (try clear hb2); (try clear hk); (try clear hi)) | (go_at_call 6; (with_reducible refine (annuletlaw07_awake.calls kj15  t172 _ A61.out).mono ?_); rintro e w67 ⟨rfl, hb⟩; have n0_ := Aside0.mk (Kd.R_below (by (with_reducible repeat (first | apply Kd.R_alloc | apply Kd.R_drewN | apply Kd.R_drew)); exact HO165.out) hb); have n1_ := Aside0.mk (below_step (by repeat (first | (with_reducible first | exact HB.out | apply below_alloc | apply pw_below_drewN | apply below_drew1) | exact HB.out)) hb); clear HO165; clear HB; have HO165 := n0_; have HB := n1_; clear n0_ n1_; (try clear hb); (try clear hb2); (try clear hk); (try clear hi)))
                        all_goals go_ret
                        all_goals first | (exact ⟨by first | rfl | (simp [errW_none, errW_some] <;> rfl) | (simp [*, errW_none, errW_some] <;> rfl), by repeat (first | (with_reducible first | exact HB.out | apply below_alloc | apply pw_below_drewN | apply below_drew1) | exact HB.out)⟩) | (exfalso; simp_all; done)
                      · rw [if_neg c60] at H
                        exact absurd H (by simp)
                    · rw [if_neg c58] at H
                      have c58b0 : (t163 == 0) = false := beq_eq_false_iff_ne.mpr c58
                      have c58b1 : (t163 != 0) = true := bne_iff_ne.mpr c58
                      replace H := Option.bind_eq_some_iff.mp H
                      obtain ⟨t173, A680, H⟩ := H
                      replace H : (some t173) = some r := H
                      have A68 := Aside0.mk A680
                      clear A680
                      obtain rfl := Option.some.inj H
                      go_wp2_with (first | ((with_reducible refine gate_callee (f := 13) rfl ?_); refine goesL_ (some 77) rfl rfl Try.func13 (by kernel_rfl) rfl #[.string a3] rfl (by (try simp only [List.map_toArray, List.map_cons, List.map_nil]); first | done | rfl | (simp only [List.length_drop, List.length_take]; rfl)) ?_; (with_reducible refine (num_Get.calls kj15 a3 t158 t159 _ A32.out).mono ?_); rintro e w' ⟨rfl, ⟨nd, rfl⟩⟩; refine ⟨_, rfl, ?_⟩) | ((with_reducible refine gate_callee (f := 15) rfl ?_); refine goesL_ (some 82) rfl rfl Try.func15 (by kernel_rfl) rfl #[.string a3] rfl (by (try simp only [List.map_toArray, List.map_cons, List.map_nil]); first | done | rfl | (simp only [List.length_drop, List.length_take]; rfl)) ?_; (with_reducible refine (num_Unhex.calls kj15 a3 t160 t161 _ A33.out).mono ?_); rintro e w69 ⟨rfl, hb⟩; refine ⟨_, rfl, ?_⟩; have n0_ := Aside0.mk (below_step (by repeat (first | (with_reducible first | exact HB.out | apply below_alloc | apply pw_below_drewN | apply below_drew1) | exact HB.out)) hb); clear HB; have HB := n0_; clear n0_; (try clear hb); (try clear hb2); (try clear hk); (try clear hi)) | ((with_reducible refine gate_callee (f := 17) rfl ?_); refine goesL_ (some 87) rfl rfl Try.func17 (by kernel_rfl) rfl #[.string a3] rfl (by (try simp only [List.map_toArray, List.map_cons, List.map_nil]); first | done | rfl | (simp only [List.length_drop, List.length_take]; rfl)) ?_; (with_reducible refine (num_Unbytes.calls kj15 a3 t162 t163 _ A34.out).mono ?_); rintro e w70 ⟨v164, rfl, ho0, hb⟩; refine ⟨_, rfl, ?_⟩; have n0_ := Aside0.mk (Kd.R_lower ho0 (below_size (by repeat (first | (with_reducible first | exact HB.out | apply below_alloc | apply pw_below_drewN | apply below_drew1) | exact HB.out)))); have n1_ := Aside0.mk (below_step (by repeat (first | (with_reducible first | exact HB.out | apply below_alloc | apply pw_below_drewN | apply below_drew1) | exact HB.out)) hb); clear HB; have HO165 := n0_; have HB := n1_; clear n0_ n1_; (try clear hb); (try clear hb2); (try clear hk); (try clear hi); (try clear ho0)) | (go_at_call 7; (with_reducible refine (num_Put.calls t158 t166 _ A36.out).mono ?_); rintro e w71 ⟨rfl, hb⟩; have n0_ := Aside0.mk (Kd.R_below (by (with_reducible repeat (first | apply Kd.R_alloc | apply Kd.R_drewN | apply Kd.R_drew)); exact HO165.out) hb); have n1_ := Aside0.mk (below_step (by repeat (first | (with_reducible first | exact HB.out | apply below_alloc | apply pw_below_drewN | apply below_drew1) | exact HB.out)) hb); clear HO165; clear HB; have HO165 := n0_; have HB := n1_; clear n0_ n1_; (try clear hb); (try clear hb2); (try clear hk); (try clear hi)) | (go_at_call 6; (with_reducible refine (annuletlaw07_awake.calls kj15  t173 _ A68.out).mono ?_); rintro e w72 ⟨rfl, hb⟩; have n0_ := Aside0.mk (Kd.R_below (by (with_reducible repeat (first | apply Kd.R_alloc | apply Kd.R_drewN | apply Kd.R_drew)); exact HO165.out) hb); have n1_ := Aside0.mk (below_step (by repeat (first | (with_reducible first | exact HB.out | apply below_alloc | apply pw_below_drewN | apply below_drew1) | exact HB.out)) hb); clear HO165; clear HB; have HO165 := n0_; have HB := n1_; clear n0_ n1_; (try clear hb); (try clear hb2); (try clear hk); (try clear hi)))
                      all_goals go_ret
                      all_goals first | (exact ⟨by first | rfl | (simp [errW_none, errW_some] <;> rfl) | (simp [*, errW_none, errW_some] <;> rfl), by repeat (first | (with_reducible first | exact HB.out | apply below_alloc | apply pw_below_drewN | apply below_drew1) | exact HB.out)⟩) | (exfalso; simp_all; done)
                · rw [if_neg c37] at H
                  exact absurd H (by simp)
              · rw [if_neg c35] at H
                have c35b0 : (t159 == 0) = false := beq_eq_false_iff_ne.mpr c35
                have c35b1 : (t159 != 0) = true := bne_iff_ne.mpr c35
                by_cases c73 : t161 = 0
                · rw [if_pos c73] at H
                  have c73b0 : (t161 == 0) = true := beq_iff_eq.mpr c73
                  have c73b1 : (t161 != 0) = false := bne_eq_false_iff_eq.mpr c73
                  clear c73
                  replace H := Option.bind_eq_some_iff.mp H
                  obtain ⟨t174, A740, H⟩ := H
                  replace H : (if t174.toList = a3.toList then (if t163 = 0 then ((num_Bytes.f kj15 t162).bind fun t175 => (if t175.toList = a3.toList then ((annuletlaw07_awake.f kj15).bind fun t176 => (some t176)) else (none))) else ((annuletlaw07_awake.f kj15).bind fun t177 => (some t177))) else (none)) = some r := H
                  have A74 := Aside0.mk A740
                  clear A740
                  by_cases c75 : t174.toList = a3.toList
                  · rw [if_pos c75] at H
                    have c75b0 : (t174.toList == a3.toList) = true := beq_iff_eq.mpr c75
                    have c75b1 : (t174.toList != a3.toList) = false := bne_eq_false_iff_eq.mpr c75
                    clear c75
                    by_cases c76 : t163 = 0
                    · rw [if_pos c76] at H
                      have c76b0 : (t163 == 0) = true := beq_iff_eq.mpr c76
                      have c76b1 : (t163 != 0) = false := bne_eq_false_iff_eq.mpr c76
                      clear c76
                      replace H := Option.bind_eq_some_iff.mp H
                      obtain ⟨t175, A770, H⟩ := H
                      replace H : (if t175.toList = a3.toList then ((annuletlaw07_awake.f kj15).bind fun t176 => (some t176)) else (none)) = some r := H
                      have A77 := Aside0.mk A770
                      clear A770
                      by_cases c78 : t175.toList = a3.toList
                      · rw [if_pos c78] at H
                        have c78b0 : (t175.toList == a3.toList) = true := beq_iff_eq.mpr c78
                        have c78b1 : (t175.toList != a3.toList) = false := bne_eq_false_iff_eq.mpr c78
                        clear c78
                        replace H := Option.bind_eq_some_iff.mp H
                        obtain ⟨t176, A790, H⟩ := H
                        replace H : (some t176) = some r := H
                        have A79 := Aside0.mk A790
                        clear A790
                        obtain rfl := Option.some.inj H
                        go_wp2_with (first | ((with_reducible refine gate_callee (f := 13) rfl ?_); refine goesL_ (some 77) rfl rfl Try.func13 (by kernel_rfl) rfl #[.string a3] rfl (by (try simp only [List.map_toArray, List.map_cons, List.map_nil]); first | done | rfl | (simp only [List.length_drop, List.length_take]; rfl)) ?_; (with_reducible refine (num_Get.calls kj15 a3 t158 t159 _ A32.out).mono ?_); rintro e w' ⟨rfl, ⟨nd, rfl⟩⟩; refine ⟨_, rfl, ?_⟩) | ((with_reducible refine gate_callee (f := 15) rfl ?_); refine goesL_ (some 82) rfl rfl Try.func15 (by kernel_rfl) rfl #[.string a3] rfl (by (try simp only [List.map_toArray, List.map_cons, List.map_nil]); first | done | rfl | (simp only [List.length_drop, List.length_take]; rfl)) ?_; (with_reducible refine (num_Unhex.calls kj15 a3 t160 t161 _ A33.out).mono ?_); rintro e w80 ⟨rfl, hb⟩; refine ⟨_, rfl, ?_⟩; have n0_ := Aside0.mk (below_step (by repeat (first | (with_reducible first | exact HB.out | apply below_alloc | apply pw_below_drewN | apply below_drew1) | exact HB.out)) hb); clear HB; have HB := n0_; clear n0_; (try clear hb); (try clear hb2); (try clear hk); (try clear hi)) | ((with_reducible refine gate_callee (f := 17) rfl ?_); refine goesL_ (some 87) rfl rfl Try.func17 (by kernel_rfl) rfl #[.string a3] rfl (by (try simp only [List.map_toArray, List.map_cons, List.map_nil]); first | done | rfl | (simp only [List.length_drop, List.length_take]; rfl)) ?_; (with_reducible refine (num_Unbytes.calls kj15 a3 t162 t163 _ A34.out).mono ?_); rintro e w81 ⟨v164, rfl, ho0, hb⟩; refine ⟨_, rfl, ?_⟩; have n0_ := Aside0.mk (Kd.R_lower ho0 (below_size (by repeat (first | (with_reducible first | exact HB.out | apply below_alloc | apply pw_below_drewN | apply below_drew1) | exact HB.out)))); have n1_ := Aside0.mk (below_step (by repeat (first | (with_reducible first | exact HB.out | apply below_alloc | apply pw_below_drewN | apply below_drew1) | exact HB.out)) hb); clear HB; have HO165 := n0_; have HB := n1_; clear n0_ n1_; (try clear hb); (try clear hb2); (try clear hk); (try clear hi); (try clear ho0)) | (go_at_call 9; (with_reducible refine (num_Hex.calls kj15 t160 t174 _ A74.out).mono ?_); rintro e w82 ⟨rfl, hb⟩; have n0_ := Aside0.mk (Kd.R_below (by (with_reducible repeat (first | apply Kd.R_alloc | apply Kd.R_drewN | apply Kd.R_drew)); exact HO165.out) hb); have n1_ := Aside0.mk (below_step (by repeat (first | (with_reducible first | exact HB.out | apply below_alloc | apply pw_below_drewN | apply below_drew1) | exact HB.out)) hb); clear HO165; clear HB; have HO165 := n0_; have HB := n1_; clear n0_ n1_; (try clear hb); (try clear hb2); (try clear hk); (try clear hi); obtain ⟨Ao83, co83, eo83⟩ := Kd.R_slice HO165.out; subst eo83) | (go_at_call 11; (with_reducible refine (num_Bytes.calls kj15 _ _ t162 t175 _ ?side1 ?side2 A77.out).mono ?_); (case side1 => repeat (first | exact (Kd.R_reads' HO165.out).2.2 | (with_reducible refine Kd.C_alloc ?_ _) | (with_reducible refine Kd.C_drewN ?_ _) | (with_reducible refine Kd.C_drew ?_))); (case side2 => exact (Kd.R_reads' HO165.out).2.1); rintro e w84 ⟨rfl, hb⟩; have n0_ := Aside0.mk (Kd.R_below (by (with_reducible repeat (first | apply Kd.R_alloc | apply Kd.R_drewN | apply Kd.R_drew)); exact HO165.out) hb); have n1_ := Aside0.mk (below_step (by repeat (first | (with_reducible first | exact HB.out | apply below_alloc | apply pw_below_drewN | apply below_drew1) | exact HB.out)) hb); clear HO165; clear HB; have HO165 := n0_; have HB := n1_; clear n0_ n1_; (try clear hb); (try clear hb2); (try clear hk); (try clear hi)) | (go_at_call 6; (with_reducible refine (annuletlaw07_awake.calls kj15  t176 _ A79.out).mono ?_); rintro e w85 ⟨rfl, hb⟩; have n0_ := Aside0.mk (Kd.R_below (by (with_reducible repeat (first | apply Kd.R_alloc | apply Kd.R_drewN | apply Kd.R_drew)); exact HO165.out) hb); have n1_ := Aside0.mk (below_step (by repeat (first | (with_reducible first | exact HB.out | apply below_alloc | apply pw_below_drewN | apply below_drew1) | exact HB.out)) hb); clear HO165; clear HB; have HO165 := n0_; have HB := n1_; clear n0_ n1_; (try clear hb); (try clear hb2); (try clear hk); (try clear hi)))
                        all_goals go_ret
                        all_goals first | (exact ⟨by first | rfl | (simp [errW_none, errW_some] <;> rfl) | (simp [*, errW_none, errW_some] <;> rfl), by repeat (first | (with_reducible first | exact HB.out | apply below_alloc | apply pw_below_drewN | apply below_drew1) | exact HB.out)⟩) | (exfalso; simp_all; done)
                      · rw [if_neg c78] at H
                        exact absurd H (by simp)
                    · rw [if_neg c76] at H
                      have c76b0 : (t163 == 0) = false := beq_eq_false_iff_ne.mpr c76
                      have c76b1 : (t163 != 0) = true := bne_iff_ne.mpr c76
                      replace H := Option.bind_eq_some_iff.mp H
                      obtain ⟨t177, A860, H⟩ := H
                      replace H : (some t177) = some r := H
                      have A86 := Aside0.mk A860
                      clear A860
                      obtain rfl := Option.some.inj H
                      go_wp2_with (first | ((with_reducible refine gate_callee (f := 13) rfl ?_); refine goesL_ (some 77) rfl rfl Try.func13 (by kernel_rfl) rfl #[.string a3] rfl (by (try simp only [List.map_toArray, List.map_cons, List.map_nil]); first | done | rfl | (simp only [List.length_drop, List.length_take]; rfl)) ?_; (with_reducible refine (num_Get.calls kj15 a3 t158 t159 _ A32.out).mono ?_); rintro e w' ⟨rfl, ⟨nd, rfl⟩⟩; refine ⟨_, rfl, ?_⟩) | ((with_reducible refine gate_callee (f := 15) rfl ?_); refine goesL_ (some 82) rfl rfl Try.func15 (by kernel_rfl) rfl #[.string a3] rfl (by (try simp only [List.map_toArray, List.map_cons, List.map_nil]); first | done | rfl | (simp only [List.length_drop, List.length_take]; rfl)) ?_; (with_reducible refine (num_Unhex.calls kj15 a3 t160 t161 _ A33.out).mono ?_); rintro e w87 ⟨rfl, hb⟩; refine ⟨_, rfl, ?_⟩; have n0_ := Aside0.mk (below_step (by repeat (first | (with_reducible first | exact HB.out | apply below_alloc | apply pw_below_drewN | apply below_drew1) | exact HB.out)) hb); clear HB; have HB := n0_; clear n0_; (try clear hb); (try clear hb2); (try clear hk); (try clear hi)) | ((with_reducible refine gate_callee (f := 17) rfl ?_); refine goesL_ (some 87) rfl rfl Try.func17 (by kernel_rfl) rfl #[.string a3] rfl (by (try simp only [List.map_toArray, List.map_cons, List.map_nil]); first | done | rfl | (simp only [List.length_drop, List.length_take]; rfl)) ?_; (with_reducible refine (num_Unbytes.calls kj15 a3 t162 t163 _ A34.out).mono ?_); rintro e w88 ⟨v164, rfl, ho0, hb⟩; refine ⟨_, rfl, ?_⟩; have n0_ := Aside0.mk (Kd.R_lower ho0 (below_size (by repeat (first | (with_reducible first | exact HB.out | apply below_alloc | apply pw_below_drewN | apply below_drew1) | exact HB.out)))); have n1_ := Aside0.mk (below_step (by repeat (first | (with_reducible first | exact HB.out | apply below_alloc | apply pw_below_drewN | apply below_drew1) | exact HB.out)) hb); clear HB; have HO165 := n0_; have HB := n1_; clear n0_ n1_; (try clear hb); (try clear hb2); (try clear hk); (try clear hi); (try clear ho0)) | (go_at_call 9; (with_reducible refine (num_Hex.calls kj15 t160 t174 _ A74.out).mono ?_); rintro e w89 ⟨rfl, hb⟩; have n0_ := Aside0.mk (Kd.R_below (by (with_reducible repeat (first | apply Kd.R_alloc | apply Kd.R_drewN | apply Kd.R_drew)); exact HO165.out) hb); have n1_ := Aside0.mk (below_step (by repeat (first | (with_reducible first | exact HB.out | apply below_alloc | apply pw_below_drewN | apply below_drew1) | exact HB.out)) hb); clear HO165; clear HB; have HO165 := n0_; have HB := n1_; clear n0_ n1_; (try clear hb); (try clear hb2); (try clear hk); (try clear hi)) | (go_at_call 6; (with_reducible refine (annuletlaw07_awake.calls kj15  t177 _ A86.out).mono ?_); rintro e w90 ⟨rfl, hb⟩; have n0_ := Aside0.mk (Kd.R_below (by (with_reducible repeat (first | apply Kd.R_alloc | apply Kd.R_drewN | apply Kd.R_drew)); exact HO165.out) hb); have n1_ := Aside0.mk (below_step (by repeat (first | (with_reducible first | exact HB.out | apply below_alloc | apply pw_below_drewN | apply below_drew1) | exact HB.out)) hb); clear HO165; clear HB; have HO165 := n0_; have HB := n1_; clear n0_ n1_; (try clear hb); (try clear hb2); (try clear hk); (try clear hi)))
                      all_goals go_ret
                      all_goals first | (exact ⟨by first | rfl | (simp [errW_none, errW_some] <;> rfl) | (simp [*, errW_none, errW_some] <;> rfl), by repeat (first | (with_reducible first | exact HB.out | apply below_alloc | apply pw_below_drewN | apply below_drew1) | exact HB.out)⟩) | (exfalso; simp_all; done)
                  · rw [if_neg c75] at H
                    exact absurd H (by simp)
                · rw [if_neg c73] at H
                  have c73b0 : (t161 == 0) = false := beq_eq_false_iff_ne.mpr c73
                  have c73b1 : (t161 != 0) = true := bne_iff_ne.mpr c73
                  by_cases c91 : t163 = 0
                  · rw [if_pos c91] at H
                    have c91b0 : (t163 == 0) = true := beq_iff_eq.mpr c91
                    have c91b1 : (t163 != 0) = false := bne_eq_false_iff_eq.mpr c91
                    clear c91
                    replace H := Option.bind_eq_some_iff.mp H
                    obtain ⟨t178, A920, H⟩ := H
                    replace H : (if t178.toList = a3.toList then ((annuletlaw07_awake.f kj15).bind fun t179 => (some t179)) else (none)) = some r := H
                    have A92 := Aside0.mk A920
                    clear A920
                    by_cases c93 : t178.toList = a3.toList
                    · rw [if_pos c93] at H
                      have c93b0 : (t178.toList == a3.toList) = true := beq_iff_eq.mpr c93
                      have c93b1 : (t178.toList != a3.toList) = false := bne_eq_false_iff_eq.mpr c93
                      clear c93
                      replace H := Option.bind_eq_some_iff.mp H
                      obtain ⟨t179, A940, H⟩ := H
                      replace H : (some t179) = some r := H
                      have A94 := Aside0.mk A940
                      clear A940
                      obtain rfl := Option.some.inj H
                      go_wp2_with (first | ((with_reducible refine gate_callee (f := 13) rfl ?_); refine goesL_ (some 77) rfl rfl Try.func13 (by kernel_rfl) rfl #[.string a3] rfl (by (try simp only [List.map_toArray, List.map_cons, List.map_nil]); first | done | rfl | (simp only [List.length_drop, List.length_take]; rfl)) ?_; (with_reducible refine (num_Get.calls kj15 a3 t158 t159 _ A32.out).mono ?_); rintro e w' ⟨rfl, ⟨nd, rfl⟩⟩; refine ⟨_, rfl, ?_⟩) | ((with_reducible refine gate_callee (f := 15) rfl ?_); refine goesL_ (some 82) rfl rfl Try.func15 (by kernel_rfl) rfl #[.string a3] rfl (by (try simp only [List.map_toArray, List.map_cons, List.map_nil]); first | done | rfl | (simp only [List.length_drop, List.length_take]; rfl)) ?_; (with_reducible refine (num_Unhex.calls kj15 a3 t160 t161 _ A33.out).mono ?_); rintro e w95 ⟨rfl, hb⟩; refine ⟨_, rfl, ?_⟩; have n0_ := Aside0.mk (below_step (by repeat (first | (with_reducible first | exact HB.out | apply below_alloc | apply pw_below_drewN | apply below_drew1) | exact HB.out)) hb); clear HB; have HB := n0_; clear n0_; (try clear hb); (try clear hb2); (try clear hk); (try clear hi)) | ((with_reducible refine gate_callee (f := 17) rfl ?_); refine goesL_ (some 87) rfl rfl Try.func17 (by kernel_rfl) rfl #[.string a3] rfl (by (try simp only [List.map_toArray, List.map_cons, List.map_nil]); first | done | rfl | (simp only [List.length_drop, List.length_take]; rfl)) ?_; (with_reducible refine (num_Unbytes.calls kj15 a3 t162 t163 _ A34.out).mono ?_); rintro e w96 ⟨v164, rfl, ho0, hb⟩; refine ⟨_, rfl, ?_⟩; have n0_ := Aside0.mk (Kd.R_lower ho0 (below_size (by repeat (first | (with_reducible first | exact HB.out | apply below_alloc | apply pw_below_drewN | apply below_drew1) | exact HB.out)))); have n1_ := Aside0.mk (below_step (by repeat (first | (with_reducible first | exact HB.out | apply below_alloc | apply pw_below_drewN | apply below_drew1) | exact HB.out)) hb); clear HB; have HO165 := n0_; have HB := n1_; clear n0_ n1_; (try clear hb); (try clear hb2); (try clear hk); (try clear hi); (try clear ho0); obtain ⟨Ao97, co97, eo97⟩ := Kd.R_slice HO165.out; subst eo97) | (go_at_call 11; (with_reducible refine (num_Bytes.calls kj15 _ _ t162 t178 _ ?side1 ?side2 A92.out).mono ?_); (case side1 => repeat (first | exact (Kd.R_reads' HO165.out).2.2 | (with_reducible refine Kd.C_alloc ?_ _) | (with_reducible refine Kd.C_drewN ?_ _) | (with_reducible refine Kd.C_drew ?_))); (case side2 => exact (Kd.R_reads' HO165.out).2.1); rintro e w98 ⟨rfl, hb⟩; have n0_ := Aside0.mk (Kd.R_below (by (with_reducible repeat (first | apply Kd.R_alloc | apply Kd.R_drewN | apply Kd.R_drew)); exact HO165.out) hb); have n1_ := Aside0.mk (below_step (by repeat (first | (with_reducible first | exact HB.out | apply below_alloc | apply pw_below_drewN | apply below_drew1) | exact HB.out)) hb); clear HO165; clear HB; have HO165 := n0_; have HB := n1_; clear n0_ n1_; (try clear hb); (try clear hb2); (try clear hk); (try clear hi)) | (go_at_call 6; (with_reducible refine (annuletlaw07_awake.calls kj15  t179 _ A94.out).mono ?_); rintro e w99 ⟨rfl, hb⟩; have n0_ := Aside0.mk (Kd.R_below (by (with_reducible repeat (first | apply Kd.R_alloc | apply Kd.R_drewN | apply Kd.R_drew)); exact HO165.out) hb); have n1_ := Aside0.mk (below_step (by repeat (first | (with_reducible first | exact HB.out | apply below_alloc | apply pw_below_drewN | apply below_drew1) | exact HB.out)) hb); clear HO165; clear HB; have HO165 := n0_; have HB := n1_; clear n0_ n1_; (try clear hb); (try clear hb2); (try clear hk); (try clear hi)))
                      all_goals go_ret
                      all_goals first | (exact ⟨by first | rfl | (simp [errW_none, errW_some] <;> rfl) | (simp [*, errW_none, errW_some] <;> rfl), by repeat (first | (with_reducible first | exact HB.out | apply below_alloc | apply pw_below_drewN | apply below_drew1) | exact HB.out)⟩) | (exfalso; simp_all; done)
                    · rw [if_neg c93] at H
                      exact absurd H (by simp)
                  · rw [if_neg c91] at H
                    have c91b0 : (t163 == 0) = false := beq_eq_false_iff_ne.mpr c91
                    have c91b1 : (t163 != 0) = true := bne_iff_ne.mpr c91
                    replace H := Option.bind_eq_some_iff.mp H
                    obtain ⟨t180, A1000, H⟩ := H
                    replace H : (some t180) = some r := H
                    have A100 := Aside0.mk A1000
                    clear A1000
                    obtain rfl := Option.some.inj H
                    go_wp2_with (first | ((with_reducible refine gate_callee (f := 13) rfl ?_); refine goesL_ (some 77) rfl rfl Try.func13 (by kernel_rfl) rfl #[.string a3] rfl (by (try simp only [List.map_toArray, List.map_cons, List.map_nil]); first | done | rfl | (simp only [List.length_drop, List.length_take]; rfl)) ?_; (with_reducible refine (num_Get.calls kj15 a3 t158 t159 _ A32.out).mono ?_); rintro e w' ⟨rfl, ⟨nd, rfl⟩⟩; refine ⟨_, rfl, ?_⟩) | ((with_reducible refine gate_callee (f := 15) rfl ?_); refine goesL_ (some 82) rfl rfl Try.func15 (by kernel_rfl) rfl #[.string a3] rfl (by (try simp only [List.map_toArray, List.map_cons, List.map_nil]); first | done | rfl | (simp only [List.length_drop, List.length_take]; rfl)) ?_; (with_reducible refine (num_Unhex.calls kj15 a3 t160 t161 _ A33.out).mono ?_); rintro e w101 ⟨rfl, hb⟩; refine ⟨_, rfl, ?_⟩; have n0_ := Aside0.mk (below_step (by repeat (first | (with_reducible first | exact HB.out | apply below_alloc | apply pw_below_drewN | apply below_drew1) | exact HB.out)) hb); clear HB; have HB := n0_; clear n0_; (try clear hb); (try clear hb2); (try clear hk); (try clear hi)) | ((with_reducible refine gate_callee (f := 17) rfl ?_); refine goesL_ (some 87) rfl rfl Try.func17 (by kernel_rfl) rfl #[.string a3] rfl (by (try simp only [List.map_toArray, List.map_cons, List.map_nil]); first | done | rfl | (simp only [List.length_drop, List.length_take]; rfl)) ?_; (with_reducible refine (num_Unbytes.calls kj15 a3 t162 t163 _ A34.out).mono ?_); rintro e w102 ⟨v164, rfl, ho0, hb⟩; refine ⟨_, rfl, ?_⟩; have n0_ := Aside0.mk (Kd.R_lower ho0 (below_size (by repeat (first | (with_reducible first | exact HB.out | apply below_alloc | apply pw_below_drewN | apply below_drew1) | exact HB.out)))); have n1_ := Aside0.mk (below_step (by repeat (first | (with_reducible first | exact HB.out | apply below_alloc | apply pw_below_drewN | apply below_drew1) | exact HB.out)) hb); clear HB; have HO165 := n0_; have HB := n1_; clear n0_ n1_; (try clear hb); (try clear hb2); (try clear hk); (try clear hi); (try clear ho0)) | (go_at_call 6; (with_reducible refine (annuletlaw07_awake.calls kj15  t180 _ A100.out).mono ?_); rintro e w103 ⟨rfl, hb⟩; have n0_ := Aside0.mk (Kd.R_below (by (with_reducible repeat (first | apply Kd.R_alloc | apply Kd.R_drewN | apply Kd.R_drew)); exact HO165.out) hb); have n1_ := Aside0.mk (below_step (by repeat (first | (with_reducible first | exact HB.out | apply below_alloc | apply pw_below_drewN | apply below_drew1) | exact HB.out)) hb); clear HO165; clear HB; have HO165 := n0_; have HB := n1_; clear n0_ n1_; (try clear hb); (try clear hb2); (try clear hk); (try clear hi)))
                    all_goals go_ret
                    all_goals first | (exact ⟨by first | rfl | (simp [errW_none, errW_some] <;> rfl) | (simp [*, errW_none, errW_some] <;> rfl), by repeat (first | (with_reducible first | exact HB.out | apply below_alloc | apply pw_below_drewN | apply below_drew1) | exact HB.out)⟩) | (exfalso; simp_all; done)

/-- THE ONE PURE STATEMENT of annuletlaw07_NumBack: yours. -/
def annuletlaw07_NumBack.Pure : Prop := ∀ (a0 : Int) (a1 : Int) (l2 : List Int) (a3 : ByteArray), (Lit.int .i64 a0).wf = true → (Lit.int .u64 a1).wf = true → l2.length ≤ maxLen → l2.length * 1 ≤ 140737488351232 → (∀ x ∈ l2, (Lit.int .u8 x).wf = true) → a3.size ≤ 140737488351232 → ∃ k, annuletlaw07_NumBack.f k a0 a1 l2 a3 = some true
theorem annuletlaw07_NumBack.walk (P : annuletlaw07_NumBack.Pure) (a0 : Int) (a1 : Int) (a2 : Option Addr) (len2 cap2 : Nat) (z2 : List Int) (a3 : ByteArray) (w : World) (w0 : (Lit.int .i64 a0).wf = true) (w1 : (Lit.int .u64 a1).wf = true) (w2 : (a2 = none ∧ len2 = 0 ∧ cap2 = 0 ∧ z2 = []) ∨ ∃ x, a2 = some x ∧ len2 ≤ cap2 ∧ cap2 ≤ maxLen ∧ z2.length = cap2 ∧ (∀ i, i < z2.length → w.cell? (x.add i) = some (.int .u8 (z2.getD i 0))) ∧ ∀ n ∈ z2, (Lit.int .u8 n).wf = true) (y2 : len2 * 1 ≤ 140737488351232) (w3 : a3.size ≤ 140737488351232) :
    Calls Try.prog 5 #[.int .i64 a0, .int .u64 a1, .slice a2 len2 cap2, .string a3] w fun e w' => e = .returned (.bool true) ∧ Below w.heap.size w w' := by
  obtain ⟨l2, rfl, hr2, hm2, hw2, hc2⟩ := ReadsInt.ofRowC w2
  obtain ⟨k, h⟩ := P a0 a1 l2 a3 w0 w1 hm2 y2 hw2 w3
  refine (annuletlaw07_NumBack.calls k a0 a1 _ _ l2 a3 true w (Kd.C_of_reads (d := (0 : Int)) (h1 := fun _ => rfl) hr2) hc2 h).mono ?_
  rintro e w' ⟨rfl, hd⟩
  exact ⟨rfl, hd⟩

end Go.Proofs.Ytlhmmegiklnppaa.PNumBack
