/- Written by a program of this session (a turned copy of the kit's print): functions of the program, each with the Lean function that it comes to, and the row of one law. No condition. -/
import Derived.Test.YtmohmmpcadlfkaaDoorPTaggedBackx0
import Derived.Test.YtmohmmpcadlfkaaDoorPTaggedBackx6
namespace Go.Proofs.YtmohmmpcadlfkaaDoor.PTaggedBack
open Go.RowKit Go.Proofs.YtmohmmpcadlfkaaDoorW.PrintWords Go.Proofs.YtmohmmpcadlfkaaDoorW.PrintLast Go.Proofs.YtmohmmpcadlfkaaDoorW.PrintMore
attribute [local go_sem] max2_int min2_int max_two min_two max_three min_three max_four min_four   -- for this text's walks alone
set_option linter.unusedVariables false
set_option linter.unusedSimpArgs false

/-! ### uvar_Get: function 49 -/
mutual
def uvar_Get.j2 : Nat → List Int → Int → Option (Int × Int × Int)
  | 0, _, _ => none
  | k + 1, x0, x5 => uvar_Get.l0 k x0 x5 0 x5
def uvar_Get.l0 : Nat → List Int → Int → Int → Int → Option (Int × Int × Int)
  | 0, _, _, _, _ => none
  | k + 1, x0, x5, x6, x7 => if x7 ≥ 0 then (if 0 ≤ x7 then (if x7 < (x0.length : Int) then (uvar_Get.l0 k x0 x5 (Go.bits .or .u64 (IntKind.u64.wrap (x6 * 128)) (IntKind.u64.wrap (Go.bits .and .u8 (rd x0 x7) 127))) (wrap64 (x7 - 1))) else (none)) else (none)) else (some (x6, wrap64 (x5 + 1), 0))
def uvar_Get.j0 : Nat → List Int → Int → Bool → Option (Int × Int × Int)
  | 0, _, _, _ => none
  | k + 1, x0, x5, x10 => if x10 = true then (some (0, 0, 3)) else (if x5 < 0 then (some (0, 0, 2)) else (if x5 > 0 then (if 0 ≤ x5 then (if x5 < (x0.length : Int) then (uvar_Get.j1 k x0 x5 ((rd x0 x5) == 0)) else (none)) else (none)) else (uvar_Get.j1 k x0 x5 false)))
def uvar_Get.j1 : Nat → List Int → Int → Bool → Option (Int × Int × Int)
  | 0, _, _, _ => none
  | k + 1, x0, x5, x21 => if x21 = true then (some (0, 0, 3)) else (if x5 = 9 then (if 0 ≤ x5 then (if x5 < (x0.length : Int) then (if (rd x0 x5) > 1 then (some (0, 0, 3)) else (uvar_Get.j2 k x0 x5)) else (none)) else (none)) else (uvar_Get.j2 k x0 x5))
end
def uvar_Get.f (k : Nat) (l0 : List Int) : Option (Int × Int × Int) := (uvar_last.f k l0).bind fun t175 => (if t175 < 0 then (uvar_Get.j0 k l0 t175 (decide ((l0.length : Int) ≥ 10))) else (uvar_Get.j0 k l0 t175 false))
theorem uvar_Get.mono_l : ∀ k, (∀ y0 y1, LeO (uvar_Get.j2 k y0 y1) (uvar_Get.j2 (k + 1) y0 y1)) ∧ (∀ y0 y1 y2 y3, LeO (uvar_Get.l0 k y0 y1 y2 y3) (uvar_Get.l0 (k + 1) y0 y1 y2 y3)) ∧ (∀ y0 y1 y2, LeO (uvar_Get.j0 k y0 y1 y2) (uvar_Get.j0 (k + 1) y0 y1 y2)) ∧ (∀ y0 y1 y2, LeO (uvar_Get.j1 k y0 y1 y2) (uvar_Get.j1 (k + 1) y0 y1 y2))
  | 0 => ⟨fun _ _ r h => by simp [uvar_Get.j2] at h, fun _ _ _ _ r h => by simp [uvar_Get.l0] at h, fun _ _ _ r h => by simp [uvar_Get.j0] at h, fun _ _ _ r h => by simp [uvar_Get.j1] at h⟩
  | k + 1 => by
    obtain ⟨ih0, ih1, ih2, ih3⟩ := uvar_Get.mono_l k
    refine ⟨?_, ?_, ?_, ?_⟩
    · intro y0 y1
      unfold uvar_Get.j2
      repeat' first
      | (with_reducible exact ih0 _ _)
      | (with_reducible exact ih1 _ _ _ _)
      | (with_reducible exact ih2 _ _ _)
      | (with_reducible exact ih3 _ _ _)
      | (with_reducible exact uvar_last.mono _ _)
      | (with_reducible exact LeO.refl _)
      | (with_reducible exact LeO.none _)
      | (with_reducible refine LeO.ite ?_ ?_)
      | (with_reducible refine LeO.bind ?_ (fun _ => ?_))
      | exact ih0 _ _
      | exact ih1 _ _ _ _
      | exact ih2 _ _ _
      | exact ih3 _ _ _
      | exact uvar_last.mono _ _
      | exact LeO.none _
      | refine LeO.ite ?_ ?_
      | refine LeO.bind ?_ (fun _ => ?_)
    · intro y0 y1 y2 y3
      unfold uvar_Get.l0
      repeat' first
      | (with_reducible exact ih0 _ _)
      | (with_reducible exact ih1 _ _ _ _)
      | (with_reducible exact ih2 _ _ _)
      | (with_reducible exact ih3 _ _ _)
      | (with_reducible exact uvar_last.mono _ _)
      | (with_reducible exact LeO.refl _)
      | (with_reducible exact LeO.none _)
      | (with_reducible refine LeO.ite ?_ ?_)
      | (with_reducible refine LeO.bind ?_ (fun _ => ?_))
      | exact ih0 _ _
      | exact ih1 _ _ _ _
      | exact ih2 _ _ _
      | exact ih3 _ _ _
      | exact uvar_last.mono _ _
      | exact LeO.none _
      | refine LeO.ite ?_ ?_
      | refine LeO.bind ?_ (fun _ => ?_)
    · intro y0 y1 y2
      unfold uvar_Get.j0
      repeat' first
      | (with_reducible exact ih0 _ _)
      | (with_reducible exact ih1 _ _ _ _)
      | (with_reducible exact ih2 _ _ _)
      | (with_reducible exact ih3 _ _ _)
      | (with_reducible exact uvar_last.mono _ _)
      | (with_reducible exact LeO.refl _)
      | (with_reducible exact LeO.none _)
      | (with_reducible refine LeO.ite ?_ ?_)
      | (with_reducible refine LeO.bind ?_ (fun _ => ?_))
      | exact ih0 _ _
      | exact ih1 _ _ _ _
      | exact ih2 _ _ _
      | exact ih3 _ _ _
      | exact uvar_last.mono _ _
      | exact LeO.none _
      | refine LeO.ite ?_ ?_
      | refine LeO.bind ?_ (fun _ => ?_)
    · intro y0 y1 y2
      unfold uvar_Get.j1
      repeat' first
      | (with_reducible exact ih0 _ _)
      | (with_reducible exact ih1 _ _ _ _)
      | (with_reducible exact ih2 _ _ _)
      | (with_reducible exact ih3 _ _ _)
      | (with_reducible exact uvar_last.mono _ _)
      | (with_reducible exact LeO.refl _)
      | (with_reducible exact LeO.none _)
      | (with_reducible refine LeO.ite ?_ ?_)
      | (with_reducible refine LeO.bind ?_ (fun _ => ?_))
      | exact ih0 _ _
      | exact ih1 _ _ _ _
      | exact ih2 _ _ _
      | exact ih3 _ _ _
      | exact uvar_last.mono _ _
      | exact LeO.none _
      | refine LeO.ite ?_ ?_
      | refine LeO.bind ?_ (fun _ => ?_)
theorem uvar_Get.mono : ∀ a0 k, LeO (uvar_Get.f k a0) (uvar_Get.f (k + 1) a0) := by
  intro a0 k
  obtain ⟨ih0, ih1, ih2, ih3⟩ := uvar_Get.mono_l k
  unfold uvar_Get.f
  repeat' first
      | (with_reducible exact ih0 _ _)
      | (with_reducible exact ih1 _ _ _ _)
      | (with_reducible exact ih2 _ _ _)
      | (with_reducible exact ih3 _ _ _)
      | (with_reducible exact uvar_last.mono _ _)
      | (with_reducible exact LeO.refl _)
      | (with_reducible exact LeO.none _)
      | (with_reducible refine LeO.ite ?_ ?_)
      | (with_reducible refine LeO.bind ?_ (fun _ => ?_))
      | exact ih0 _ _
      | exact ih1 _ _ _ _
      | exact ih2 _ _ _
      | exact ih3 _ _ _
      | exact uvar_last.mono _ _
      | exact LeO.none _
      | refine LeO.ite ?_ ?_
      | refine LeO.bind ?_ (fun _ => ?_)
set_option maxHeartbeats 3000000 in
set_option maxRecDepth 100000 in
theorem uvar_Get.calls (k : Nat) (A0 : Option Addr) (c0 : Nat) (l0 : List Int) (r1 : Int) (r2 : Int) (r3 : Int) (w : World) (hr0 : Kd.C (Kd.int .u8) w A0 l0.length l0) (hc0 : l0.length ≤ c0) (h : uvar_Get.f k l0 = some (r1, r2, r3)) :
    Calls Tryd.prog 49 #[.slice A0 l0.length c0] w fun e w' => e = .returned (.tuple #[.int .u64 r1, .int .i64 r2, .int .i64 r3]) ∧ Below w.heap.size w w' := by
  have HR0 := Aside0.mk hr0
  have HC0 := Aside0.mk hc0
  clear hr0 hc0
  have HB := Aside0.mk (Below.refl w.heap.size w)
  have H : ((uvar_last.f k l0).bind fun t175 => (if t175 < 0 then (uvar_Get.j0 k l0 t175 (decide ((l0.length : Int) ≥ 10))) else (uvar_Get.j0 k l0 t175 false))) = some (r1, r2, r3) := h
  clear h
  replace H := Option.bind_eq_some_iff.mp H
  obtain ⟨t175, A20, H⟩ := H
  replace H : (if t175 < 0 then (uvar_Get.j0 k l0 t175 (decide ((l0.length : Int) ≥ 10))) else (uvar_Get.j0 k l0 t175 false)) = some (r1, r2, r3) := H
  have A2 := Aside0.mk A20
  clear A20
  have HC3 := Aside0.mk H
  clear H
  go_enter Tryd.func49, Tryd.ntmps49
  go_upto_block 0 with (first | ((with_reducible refine gate_callee (f := 73) rfl ?_); refine goesL_ (some 9) rfl rfl Tryd.func73 (by kernel_rfl) rfl #[.slice A0 l0.length c0] rfl (by (try simp only [List.map_toArray, List.map_cons, List.map_nil]); first | done | rfl | (simp only [List.length_drop, List.length_take]; rfl)) ?_; (with_reducible refine (uvar_last.calls k _ _ l0 t175 _ ?side1 ?side2 A2.out).mono ?_); (case side1 => repeat (first | exact HR0.out | (with_reducible refine Kd.C_alloc ?_ _) | (with_reducible refine Kd.C_drewN ?_ _) | (with_reducible refine Kd.C_drew ?_))); (case side2 => exact HC0.out); rintro e w4 ⟨rfl, hb⟩; refine ⟨_, rfl, ?_⟩; have n0_ := Aside0.mk (below_step (by repeat (first | (with_reducible first | exact HB.out | apply below_alloc | apply pw_below_drewN | apply below_drew1) | exact HB.out)) hb); clear HB; have HB := n0_; clear n0_; (try clear hb); (try clear hb2); (try clear hk); (try clear hi)))
  (try simp only [Act.put, List.setIfInBounds_toArray, List.set_cons_zero, List.set_cons_succ])
  go_cut [] (fun wc => ∃ (kq : Nat), Aside0 (uvar_Get.j2 kq l0 t175 = some (r1, r2, r3)) ∧ Aside0 (kq ≤ k) ∧ Aside0 (Below w.heap.size w wc))
  case first =>
    have H := HC3.out
    clear HC3
    have HC5 := Aside0.mk H
    clear H
    go_upto_region 2 with (fail)
    go_cut [10] (fun v10 wc => ∃ (kq : Nat) (x10_4 : Bool), v10 = .bool x10_4 ∧ Aside0 (uvar_Get.j0 kq l0 t175 x10_4 = some (r1, r2, r3)) ∧ Aside0 (kq ≤ k) ∧ Aside0 (Below w.heap.size w wc))
    case first =>
      have H := HC5.out
      clear HC5
      by_cases c6 : t175 < 0
      · rw [if_pos c6] at H
        have c6b0 : decide (t175 < 0) = true := decide_eq_true c6
        clear c6
        (first | rw [c6b0] | (simp only [i64_w, i32_w]; rw [c6b0]) | skip)
        have H' := Aside0.mk H
        clear H
        go_wp2
        go_meet
        case rel => exact ⟨_, (decide ((l0.length : Int) ≥ 10)), (by first | rfl | (simp; done) | (simp [*]; done)), H', ⟨by first | omega | exact Nat.le_refl _⟩, ⟨by repeat (first | (with_reducible first | exact HB.out | apply below_alloc | apply pw_below_drewN | apply below_drew1) | exact HB.out)⟩⟩
      · rw [if_neg c6] at H
        have c6b0 : decide (t175 < 0) = false := decide_eq_false c6
        clear c6
        (first | rw [c6b0] | (simp only [i64_w, i32_w]; rw [c6b0]) | skip)
        have H' := Aside0.mk H
        clear H
        go_wp2
        go_meet
        case rel => exact ⟨_, (false), (by first | rfl | (simp; done) | (simp [*]; done)), H', ⟨by first | omega | exact Nat.le_refl _⟩, ⟨by repeat (first | (with_reducible first | exact HB.out | apply below_alloc | apply pw_below_drewN | apply below_drew1) | exact HB.out)⟩⟩
    case rest =>
      clear HC5
      try clear p2
      try clear c4
      try clear c6
      try clear c6b0
      obtain ⟨kq, x10_4, rfl, HA, HJ4, HB⟩ := hcut
      cases kq with
      | zero => exact absurd HA.out (by simp [uvar_Get.j0])
      | succ kj4 =>
        have H := HA.out
        clear HA
        simp only [uvar_Get.j0] at H
        by_cases c7 : x10_4 = true
        · subst c7
          have H1 : (some (0, 0, 3)) = some (r1, r2, r3) := by rw [if_pos rfl] at H; exact H
          clear H
          have H := H1
          clear H1
          simp only [Option.some.injEq, Prod.mk.injEq] at H
          obtain ⟨rfl, rfl, rfl⟩ := H
          go_wp2
          all_goals go_ret3
          all_goals first | (exact ⟨by first | rfl | (simp [errW_none, errW_some] <;> rfl) | (simp [*, errW_none, errW_some] <;> rfl), by repeat (first | (with_reducible first | exact HB.out | apply below_alloc | apply pw_below_drewN | apply below_drew1) | exact HB.out)⟩) | (exfalso; simp_all; done)
        · replace c7 := Bool.eq_false_iff.mpr c7
          subst c7
          have H1 : (if t175 < 0 then (some (0, 0, 2)) else (if t175 > 0 then (if 0 ≤ t175 then (if t175 < (l0.length : Int) then (uvar_Get.j1 kj4 l0 t175 ((rd l0 t175) == 0)) else (none)) else (none)) else (uvar_Get.j1 kj4 l0 t175 false))) = some (r1, r2, r3) := by rw [if_neg (show ¬ (false = true) by decide)] at H; exact H
          clear H
          have H := H1
          clear H1
          by_cases c8 : t175 < 0
          · rw [if_pos c8] at H
            have c8b0 : decide (t175 < 0) = true := decide_eq_true c8
            clear c8
            simp only [Option.some.injEq, Prod.mk.injEq] at H
            obtain ⟨rfl, rfl, rfl⟩ := H
            go_wp2
            all_goals go_ret3
            all_goals first | (exact ⟨by first | rfl | (simp [errW_none, errW_some] <;> rfl) | (simp [*, errW_none, errW_some] <;> rfl), by repeat (first | (with_reducible first | exact HB.out | apply below_alloc | apply pw_below_drewN | apply below_drew1) | exact HB.out)⟩) | (exfalso; simp_all; done)
          · rw [if_neg c8] at H
            have c8b0 : decide (t175 < 0) = false := decide_eq_false c8
            clear c8
            have HC9 := Aside0.mk H
            clear H
            go_upto_region 6 with (fail)
            go_cut [21] (fun v21 wc => ∃ (kq : Nat) (x21_8 : Bool), v21 = .bool x21_8 ∧ Aside0 (uvar_Get.j1 kq l0 t175 x21_8 = some (r1, r2, r3)) ∧ Aside0 (kq ≤ kj4) ∧ Aside0 (Below w.heap.size w wc))
            case first =>
              have H := HC9.out
              clear HC9
              by_cases c10 : t175 > 0
              · rw [if_pos c10] at H
                have c10b0 : decide (0 < t175) = true := decide_eq_true c10
                clear c10
                (first | rw [c10b0] | (simp only [i64_w, i32_w]; rw [c10b0]) | skip)
                by_cases c11 : 0 ≤ t175
                · rw [if_pos c11] at H
                  have c11b0 : decide (0 ≤ t175) = true := decide_eq_true c11
                  clear c11
                  by_cases c12 : t175 < (l0.length : Int)
                  · rw [if_pos c12] at H
                    have c12b0 : decide (t175 < (l0.length : Int)) = true := decide_eq_true c12
                    clear c12
                    have H' := Aside0.mk H
                    clear H
                    have p176 : 0 ≤ (t175 : Int) := of_decide_eq_true (by first | (with_reducible assumption) | assumption)
                    have q176 : t175 < (l0.length : Int) := of_decide_eq_true (by first | (with_reducible assumption) | assumption)
                    obtain ⟨ad176, e176, hx176_0⟩ := Kd.at_int HR0.out t175 p176 q176
                    cases e176
                    replace hx176_0 := (HB.out.cell (World.block_lt_of_cell? w _ hx176_0)).trans hx176_0
                    replace p176 := eq_true p176
                    replace q176 := eq_true q176
                    go_wp2
                    go_meet
                    case rel => exact ⟨_, (((rd l0 t175) == 0)), (by first | rfl | (simp; done) | (simp [*]; done)), H', ⟨by have := HJ4.out; first | omega | exact Nat.le_refl _⟩, ⟨by repeat (first | (with_reducible first | exact HB.out | apply below_alloc | apply pw_below_drewN | apply below_drew1) | exact HB.out)⟩⟩
                  · rw [if_neg c12] at H
                    exact absurd H (by simp)
                · rw [if_neg c11] at H
                  exact absurd H (by simp)
              · rw [if_neg c10] at H
                have c10b0 : decide (0 < t175) = false := decide_eq_false c10
                clear c10
                (first | rw [c10b0] | (simp only [i64_w, i32_w]; rw [c10b0]) | skip)
                have H' := Aside0.mk H
                clear H
                go_wp2
                go_meet
                case rel => exact ⟨_, (false), (by first | rfl | (simp; done) | (simp [*]; done)), H', ⟨by have := HJ4.out; first | omega | exact Nat.le_refl _⟩, ⟨by repeat (first | (with_reducible first | exact HB.out | apply below_alloc | apply pw_below_drewN | apply below_drew1) | exact HB.out)⟩⟩
            case rest =>
              clear HC9
              try clear c1
              try clear p1
              try clear q1
              try clear hx1
              try clear p2
              try clear c4
              try clear c6
              try clear c6b0
              try clear c7
              try clear c8
              try clear c8b0
              try clear c10
              try clear c10b0
              try clear c11
              try clear c11b0
              try clear c12
              try clear c12b0
              try clear hx176_0
              try clear p176
              try clear p2
              try clear q176
              obtain ⟨kq, x21_8, rfl, HA, HJ8, HB⟩ := hcut
              cases kq with
              | zero => exact absurd HA.out (by simp [uvar_Get.j1])
              | succ kj8 =>
                have H := HA.out
                clear HA
                simp only [uvar_Get.j1] at H
                by_cases c13 : x21_8 = true
                · subst c13
                  have H1 : (some (0, 0, 3)) = some (r1, r2, r3) := by rw [if_pos rfl] at H; exact H
                  clear H
                  have H := H1
                  clear H1
                  simp only [Option.some.injEq, Prod.mk.injEq] at H
                  obtain ⟨rfl, rfl, rfl⟩ := H
                  go_wp2
                  all_goals go_ret3
                  all_goals first | (exact ⟨by first | rfl | (simp [errW_none, errW_some] <;> rfl) | (simp [*, errW_none, errW_some] <;> rfl), by repeat (first | (with_reducible first | exact HB.out | apply below_alloc | apply pw_below_drewN | apply below_drew1) | exact HB.out)⟩) | (exfalso; simp_all; done)
                · replace c13 := Bool.eq_false_iff.mpr c13
                  subst c13
                  have H1 : (if t175 = 9 then (if 0 ≤ t175 then (if t175 < (l0.length : Int) then (if (rd l0 t175) > 1 then (some (0, 0, 3)) else (uvar_Get.j2 kj8 l0 t175)) else (none)) else (none)) else (uvar_Get.j2 kj8 l0 t175)) = some (r1, r2, r3) := by rw [if_neg (show ¬ (false = true) by decide)] at H; exact H
                  clear H
                  have H := H1
                  clear H1
                  by_cases c14 : t175 = 9
                  · rw [if_pos c14] at H
                    have c14b0 : (t175 == 9) = true := beq_iff_eq.mpr c14
                    have c14b1 : (t175 != 9) = false := bne_eq_false_iff_eq.mpr c14
                    clear c14
                    by_cases c15 : 0 ≤ t175
                    · rw [if_pos c15] at H
                      have c15b0 : decide (0 ≤ t175) = true := decide_eq_true c15
                      clear c15
                      by_cases c16 : t175 < (l0.length : Int)
                      · rw [if_pos c16] at H
                        have c16b0 : decide (t175 < (l0.length : Int)) = true := decide_eq_true c16
                        clear c16
                        by_cases c17 : (rd l0 t175) > 1
                        · rw [if_pos c17] at H
                          have c17b0 : decide (1 < (rd l0 t175)) = true := decide_eq_true c17
                          clear c17
                          simp only [Option.some.injEq, Prod.mk.injEq] at H
                          obtain ⟨rfl, rfl, rfl⟩ := H
                          have p177 : 0 ≤ (t175 : Int) := of_decide_eq_true (by first | (with_reducible assumption) | assumption)
                          have q177 : t175 < (l0.length : Int) := of_decide_eq_true (by first | (with_reducible assumption) | assumption)
                          obtain ⟨ad177, e177, hx177_0⟩ := Kd.at_int HR0.out t175 p177 q177
                          cases e177
                          replace hx177_0 := (HB.out.cell (World.block_lt_of_cell? w _ hx177_0)).trans hx177_0
                          replace p177 := eq_true p177
                          replace q177 := eq_true q177
                          go_wp2
                          all_goals go_ret3
                          all_goals first | (exact ⟨by first | rfl | (simp [errW_none, errW_some] <;> rfl) | (simp [*, errW_none, errW_some] <;> rfl), by repeat (first | (with_reducible first | exact HB.out | apply below_alloc | apply pw_below_drewN | apply below_drew1) | exact HB.out)⟩) | (exfalso; simp_all; done)
                        · rw [if_neg c17] at H
                          have c17b0 : decide (1 < (rd l0 t175)) = false := decide_eq_false c17
                          clear c17
                          have H' := Aside0.mk H
                          clear H
                          have p177 : 0 ≤ (t175 : Int) := of_decide_eq_true (by first | (with_reducible assumption) | assumption)
                          have q177 : t175 < (l0.length : Int) := of_decide_eq_true (by first | (with_reducible assumption) | assumption)
                          obtain ⟨ad177, e177, hx177_0⟩ := Kd.at_int HR0.out t175 p177 q177
                          cases e177
                          replace hx177_0 := (HB.out.cell (World.block_lt_of_cell? w _ hx177_0)).trans hx177_0
                          replace p177 := eq_true p177
                          replace q177 := eq_true q177
                          go_wp2
                          go_meet
                          case rel => exact ⟨_, H', ⟨by have := HJ4.out; have := HJ8.out; first | omega | exact Nat.le_refl _⟩, ⟨by repeat (first | (with_reducible first | exact HB.out | apply below_alloc | apply pw_below_drewN | apply below_drew1) | exact HB.out)⟩⟩
                      · rw [if_neg c16] at H
                        exact absurd H (by simp)
                    · rw [if_neg c15] at H
                      exact absurd H (by simp)
                  · rw [if_neg c14] at H
                    have c14b0 : (t175 == 9) = false := beq_eq_false_iff_ne.mpr c14
                    have c14b1 : (t175 != 9) = true := bne_iff_ne.mpr c14
                    have H' := Aside0.mk H
                    clear H
                    go_wp2
                    go_meet
                    case rel => exact ⟨_, H', ⟨by have := HJ4.out; have := HJ8.out; first | omega | exact Nat.le_refl _⟩, ⟨by repeat (first | (with_reducible first | exact HB.out | apply below_alloc | apply pw_below_drewN | apply below_drew1) | exact HB.out)⟩⟩
  case rest =>
    clear HC3
    try clear c1
    try clear p1
    try clear q1
    try clear hx1
    try clear p2
    try clear c4
    try clear c6
    try clear c6b0
    try clear c7
    try clear c8
    try clear c8b0
    try clear c10
    try clear c10b0
    try clear c11
    try clear c11b0
    try clear c12
    try clear c12b0
    try clear c13
    try clear c14
    try clear c14b0
    try clear c14b1
    try clear c15
    try clear c15b0
    try clear c16
    try clear c16b0
    try clear c17
    try clear c17b0
    try clear p17
    try clear q17
    try clear hx17
    try clear hx176_0
    try clear hx177_0
    try clear p1
    try clear p176
    try clear p177
    try clear p2
    try clear q1
    try clear q176
    try clear q177
    obtain ⟨kq, HA, HJ2, HB⟩ := hcut
    cases kq with
    | zero => exact absurd HA.out (by simp [uvar_Get.j2])
    | succ kj2 =>
      have H := HA.out
      clear HA
      simp only [uvar_Get.j2] at H
      have H' := Aside0.mk H
      clear H
      go_wp2
      go_loopg [6, 7] kj2 (fun kq v6 v7 w' => ∃ (x6_2 : Int) (x7_2 : Int), v6 = .int .u64 x6_2 ∧ v7 = .int .i64 x7_2 ∧ Aside0 (uvar_Get.l0 kq l0 t175 x6_2 x7_2 = some (r1, r2, r3)) ∧ Aside0 (kq ≤ kj2) ∧ Aside0 (Below w.heap.size w w'))
      case atStart => exact ⟨(0), (t175), (by first | rfl | (simp; done) | (simp [*]; done)), (by first | rfl | (simp; done) | (simp [*]; done)), H', ⟨Nat.le_refl _⟩, ⟨by repeat (first | (with_reducible first | exact HB.out | apply below_alloc | apply pw_below_drewN | apply below_drew1) | exact HB.out)⟩⟩
      case round =>
        clear H'
        try clear c1
        try clear p1
        try clear q1
        try clear hx1
        try clear p2
        try clear c4
        try clear c6
        try clear c6b0
        try clear c7
        try clear c8
        try clear c8b0
        try clear c10
        try clear c10b0
        try clear c11
        try clear c11b0
        try clear c12
        try clear c12b0
        try clear c13
        try clear c14
        try clear c14b0
        try clear c14b1
        try clear c15
        try clear c15b0
        try clear c16
        try clear c16b0
        try clear c17
        try clear c17b0
        try clear p17
        try clear q17
        try clear hx17
        try clear hx176_0
        try clear hx177_0
        try clear p1
        try clear p17
        try clear p176
        try clear p177
        try clear p2
        try clear q1
        try clear q17
        try clear q176
        try clear q177
        obtain ⟨x6_2, x7_2, rfl, rfl, HA, HK2, HB⟩ := hrel
        cases gk with
        | zero => exact absurd HA.out (by simp [uvar_Get.l0])
        | succ k2 =>
          have H := HA.out
          clear HA
          simp only [uvar_Get.l0] at H
          by_cases c18 : x7_2 ≥ 0
          · rw [if_pos c18] at H
            have c18b0 : decide (0 ≤ x7_2) = true := decide_eq_true c18
            clear c18
            by_cases c19 : 0 ≤ x7_2
            · rw [if_pos c19] at H
              have c19b0 : decide (0 ≤ x7_2) = true := decide_eq_true c19
              clear c19
              by_cases c20 : x7_2 < (l0.length : Int)
              · rw [if_pos c20] at H
                have c20b0 : decide (x7_2 < (l0.length : Int)) = true := decide_eq_true c20
                clear c20
                have H' := Aside0.mk H
                clear H
                have p178 : 0 ≤ (x7_2 : Int) := of_decide_eq_true (by first | (with_reducible assumption) | assumption)
                have q178 : x7_2 < (l0.length : Int) := of_decide_eq_true (by first | (with_reducible assumption) | assumption)
                obtain ⟨ad178, e178, hx178_0⟩ := Kd.at_int HR0.out x7_2 p178 q178
                cases e178
                replace hx178_0 := (HB.out.cell (World.block_lt_of_cell? w _ hx178_0)).trans hx178_0
                replace p178 := eq_true p178
                replace q178 := eq_true q178
                go_wp2
                go_roundg k2
                case measure => have := HJ2.out; have := HK2.out; omega
                case rel => exact ⟨(Go.bits .or .u64 (IntKind.u64.wrap (x6_2 * 128)) (IntKind.u64.wrap (Go.bits .and .u8 (rd l0 x7_2) 127))), (wrap64 (x7_2 - 1)), (by first | rfl | (simp; done) | (simp [*]; done)), (by first | rfl | (simp; done) | (simp [*]; done)), H', ⟨by have := HJ2.out; have := HK2.out; omega⟩, ⟨by repeat (first | (with_reducible first | exact HB.out | apply below_alloc | apply pw_below_drewN | apply below_drew1) | exact HB.out)⟩⟩
              · rw [if_neg c20] at H
                exact absurd H (by simp)
            · rw [if_neg c19] at H
              exact absurd H (by simp)
          · rw [if_neg c18] at H
            have c18b0 : decide (0 ≤ x7_2) = false := decide_eq_false c18
            clear c18
            simp only [Option.some.injEq, Prod.mk.injEq] at H
            obtain ⟨rfl, rfl, rfl⟩ := H
            go_wp2
            all_goals go_ret3
            all_goals first | (exact ⟨by first | rfl | (simp [errW_none, errW_some] <;> rfl) | (simp [*, errW_none, errW_some] <;> rfl), by repeat (first | (with_reducible first | exact HB.out | apply below_alloc | apply pw_below_drewN | apply below_drew1) | exact HB.out)⟩) | (exfalso; simp_all; done)


/-! ### buf_Reader_take: function 50 -/
set_option maxHeartbeats 800000 in
set_option maxRecDepth 100000 in
theorem rd_take (g : Nat) (rest : List Int) (met n : Int) (w0 w : World) (hI : RdS 80 w0 w g rest met) (h0 : 0 ≤ n) (hn : n ≤ rest.length) :
    Calls Tryd.prog 50 #[.pointer (some ⟨g, 0, none⟩), .int .i64 n] w fun e w' => ∃ v : Value, e = .returned v ∧ Kd.R (Kd.int .u8) 5 w' w.heap.size (fun _ => True) v (rest.take n.toNat) ∧ RdS 80 w0 w' g (rest.drop n.toNat) met ∧ KeepBut w w' g none := by
  have HI := Aside0.mk hI
  obtain ⟨A, c, HG, hc, HS⟩ := hI.ex
  have h1 : w.cell? ⟨g, 1, none⟩ = some (.slice A rest.length c) := (blk_cell HG 1).trans rfl
  obtain ⟨i5, hi5, he5⟩ := Option.map_eq_some_iff.1 info5
  have hz5 : i5.size = 1 := congrArg (fun p => p.2.1) he5
  have hs1 := cut_to (P := Tryd.prog) 33 5 .i64 Tryd.underlying33 hi5 A rest.length c n h0 hn hc
  have hs2 := cut_from (P := Tryd.prog) 33 5 .i64 Tryd.underlying33 hi5 1 hz5 A rest.length c n h0 hn
  have HD0 := Kd.C_drop HS (show n.toNat ≤ rest.length by omega) hc
  obtain ⟨A2, hA2⟩ : ∃ A2, A2 = (if c = n.toNat then A else A.map (·.add (n.toNat * 1))) := ⟨_, rfl⟩
  rw [← hA2] at hs2
  have HD := Aside0.mk (show (Kd.int .u8).C w0 A2 (rest.drop n.toNat).length (rest.drop n.toNat) by rw [hA2]; exact HD0)
  have HC := Aside0.mk (Kd.C_take HS (show n.toNat ≤ rest.length by omega))
  have HL := Aside0.mk hc
  have HN := Aside0.mk hn
  have H0 := Aside0.mk h0
  have HB := Aside0.mk hI.bel
  have HGG := Aside0.mk HG
  have HS2 := Aside0.mk hI.small
  have HE := Aside0.mk (show (rest.take n.toNat).length = n.toNat by rw [List.length_take]; omega)
  clear hc HS hI HG h0 hn hi5 he5 hz5 HD0 hA2
  go_enter Tryd.func50, Tryd.ntmps50
  go_wp2_with (go_at_call 47; refine (clone_n A c n.toNat (rest.take n.toNat) w HE.out (by have := Kd.C_below HC.out HB.out; rwa [HE.out] at this) (by have := HL.out; have := HN.out; omega) (by have := HS2.out; have := HN.out; omega)).mono ?_; rintro e w1 ⟨v, rfl, hR, hb⟩; have HR := Aside0.mk hR; have HG1 := Aside0.mk (blk_below HGG.out hb); have HBB := Aside0.mk hb; have h1 : w1.cell? ⟨g, 1, none⟩ = some (.slice A rest.length c) := (blk_cell HG1.out 1).trans rfl; have f1 := blk_frozen HG1.out 1; clear hR hb)
  go_ret
  have hbs := blk_set HG1.out 1 (.slice A2 (rest.length - n.toNat) (c - n.toNat))
  refine ⟨_, rfl, Kd.R_mono (Kd.R_far (p := ⟨g, 1, none⟩) (Kd.R_types HR.out HG1.out (by decide)) (fun _ hk => hk.2) _) (fun _ hk => hk.1), ⟨⟨A2, c - n.toNat, ?_, ?_, HD.out⟩, HI.out.ge, ?_, (below_step HB.out HBB.out).setCell HI.out.ge _⟩, (below_self HBB.out g).set_ _ _⟩
  · rw [List.length_drop]
    exact hbs
  · rw [List.length_drop]
    have := HL.out
    omega
  · rw [List.length_drop]
    have := HS2.out
    omega


/-! ### buf_Reader_Uvar: function 22 -/
def uvarR (most : Int) (rest : List Int) (met n s e : Int) : Int × List Int × Int :=
  if met ≠ 0 then (0, rest, met) else if e ≠ 0 then (0, rest, e) else if n > most then (0, rest, 5) else (n, rest.drop s.toNat, 0)
set_option maxHeartbeats 800000 in
set_option maxRecDepth 100000 in
theorem rd_Uvar (k : Nat) (g : Nat) (rest : List Int) (met most n s e0 : Int) (w0 w : World) (hI : RdS 80 w0 w g rest met) (hg : uvar_Get.f k rest = some (n, s, e0)) (h0 : 0 ≤ s) (h1 : s ≤ rest.length) :
    Calls Tryd.prog 22 #[.pointer (some ⟨g, 0, none⟩), .int .u64 most] w fun e w' => e = .returned (.int .u64 (uvarR most rest met n s e0).1) ∧ RdS 80 w0 w' g (uvarR most rest met n s e0).2.1 (uvarR most rest met n s e0).2.2 ∧ KeepBut w w' g none := by
  have HI := Aside0.mk hI
  obtain ⟨A, c, HG, hc, HS⟩ := hI.ex
  have h1' : w.cell? ⟨g, 1, none⟩ = some (.slice A rest.length c) := (blk_cell HG 1).trans rfl
  have HSS := Aside0.mk (Kd.C_below HS hI.bel)
  have HH := Aside0.mk hc
  have HG0 := Aside0.mk hg
  have S0 := Aside0.mk h0
  have S1 := Aside0.mk h1
  clear HG hc HS hI hg h0 h1
  unfold uvarR
  by_cases c1 : met = 0
  · have c1b : (met != 0) = false := by rw [bne_eq_false_iff_eq]; exact c1
    rw [if_neg (by simpa using c1)]
    clear c1
    by_cases c2 : e0 = 0
    · have c2b : (e0 != 0) = false := by rw [bne_eq_false_iff_eq]; exact c2
      have c2c : (e0 == 0) = true := by rw [beq_iff_eq]; exact c2
      rw [if_neg (by simpa using c2)]
      have C2 := Aside0.mk c2
      clear c2
      by_cases c3 : n > most
      · have c3b : decide (most < n) = true := decide_eq_true c3
        rw [if_pos c3]
        clear c3
        go_enter Tryd.func22, Tryd.ntmps22
        go_wp2_with (first | (go_at_call 48; (with_reducible refine (rd_dead g rest met w0 w HI.out).mono ?_); rintro e w1 ⟨rfl, rfl⟩) | (go_at_call 49; (with_reducible refine (uvar_Get.calls k A c rest n s e0 w HSS.out HH.out HG0.out).mono ?_); rintro e w1 ⟨rfl, hb⟩; have HK := Aside0.mk (below_self hb g); have HI1 := Aside0.mk (RdS.later HI.out hb); obtain ⟨A2, cc2, HG2, hc2, HS2⟩ := HI1.out.ex; have gf2 := blk_frozen HG2 2; have g2 : w1.cell? ⟨g, 2, none⟩ = some (.int .i64 met) := (blk_cell HG2 2).trans rfl; clear HG2 hc2 HS2 hb))
        go_ret
        exact ⟨rfl, RdS.put_met HI1.out 5, KeepBut.set_ HK.out _ _⟩
      · have c3b : decide (most < n) = false := decide_eq_false c3
        rw [if_neg c3]
        clear c3
        go_enter Tryd.func22, Tryd.ntmps22
        go_wp2_with (first | (go_at_call 48; (with_reducible refine (rd_dead g rest met w0 w HI.out).mono ?_); rintro e w1 ⟨rfl, rfl⟩) | (go_at_call 49; (with_reducible refine (uvar_Get.calls k A c rest n s e0 w HSS.out HH.out HG0.out).mono ?_); rintro e w1 ⟨rfl, hb⟩; have HK := Aside0.mk (below_self hb g); have HI1 := Aside0.mk (RdS.later HI.out hb); obtain ⟨A2, cc2, HG2, hc2, HS2⟩ := HI1.out.ex; have gf2 := blk_frozen HG2 2; have g2 : w1.cell? ⟨g, 2, none⟩ = some (.int .i64 met) := (blk_cell HG2 2).trans rfl; clear HG2 hc2 HS2 hb) | (go_at_call 50; (with_reducible refine (rd_take g rest e0 s w0 _ (RdS.put_met HI1.out e0) S0.out S1.out).mono ?_); rintro e w2 ⟨v, rfl, hR, hi, hk⟩; have HI3 := Aside0.mk hi; have HK2 := Aside0.mk ((KeepBut.set_ HK.out 2 (.int .i64 e0)).trans hk (.inl rfl)); clear hR hi hk))
        go_ret
        have h3 := HI3.out
        rw [C2.out] at h3
        exact ⟨rfl, h3, HK2.out⟩
    · have c2b : (e0 != 0) = true := by simpa using c2
      have c2c : (e0 == 0) = false := by simpa using c2
      rw [if_pos (by simpa using c2)]
      clear c2
      go_enter Tryd.func22, Tryd.ntmps22
      go_wp2_with (first | (go_at_call 48; (with_reducible refine (rd_dead g rest met w0 w HI.out).mono ?_); rintro e w1 ⟨rfl, rfl⟩) | (go_at_call 49; (with_reducible refine (uvar_Get.calls k A c rest n s e0 w HSS.out HH.out HG0.out).mono ?_); rintro e w1 ⟨rfl, hb⟩; have HK := Aside0.mk (below_self hb g); have HI1 := Aside0.mk (RdS.later HI.out hb); obtain ⟨A2, cc2, HG2, hc2, HS2⟩ := HI1.out.ex; have gf2 := blk_frozen HG2 2; have g2 : w1.cell? ⟨g, 2, none⟩ = some (.int .i64 met) := (blk_cell HG2 2).trans rfl; clear HG2 hc2 HS2 hb))
      go_ret
      exact ⟨rfl, RdS.put_met HI1.out e0, KeepBut.set_ HK.out _ _⟩
  · have c1b : (met != 0) = true := by simpa using c1
    rw [if_pos c1]
    clear c1
    go_enter Tryd.func22, Tryd.ntmps22
    go_wp2_with (go_at_call 48; (with_reducible refine (rd_dead g rest met w0 w HI.out).mono ?_); rintro e w1 ⟨rfl, rfl⟩)
    go_ret
    exact ⟨rfl, HI.out, KeepBut.refl _ _ _⟩
def buf_Reader_Uvar.f (k : Nat) (s0_0 : Bool) (s0_1 : List Int) (s0_2 : Int) (a1 : Int) : Option (Int × Bool × List Int × Int) := (uvar_Get.f k s0_1).bind fun t => (if 0 ≤ t.2.1 then (if t.2.1 ≤ (s0_1.length : Int) then (some ((uvarR a1 s0_1 s0_2 t.1 t.2.1 t.2.2).1, s0_0, (uvarR a1 s0_1 s0_2 t.1 t.2.1 t.2.2).2.1, (uvarR a1 s0_1 s0_2 t.1 t.2.1 t.2.2).2.2)) else (none)) else (none))
theorem buf_Reader_Uvar.mono : ∀ a0 a1 a2 a3 k, LeO (buf_Reader_Uvar.f k a0 a1 a2 a3) (buf_Reader_Uvar.f (k + 1) a0 a1 a2 a3) := fun a0 a1 a2 a3 k => LeO.bind (uvar_Get.mono _ k) (fun _ => LeO.refl _)
theorem buf_Reader_Uvar.calls (k : Nat) (g : Nat) (s0_0 : Bool) (s0_1 : List Int) (s0_2 : Int) (a1 : Int) (r1 : Int) (r2 : Bool) (r3 : List Int) (r4 : Int) (w0 w : World) (hI : IsS80 w0 w g s0_0 s0_1 s0_2) (hB : Below w0.heap.size w0 w) (h : buf_Reader_Uvar.f k s0_0 s0_1 s0_2 a1 = some (r1, r2, r3, r4)) :
    Calls Tryd.prog 22 #[.pointer (some ⟨g, 0, none⟩), .int .u64 a1] w fun e w' => e = .returned (.int .u64 r1) ∧ IsS80 w0 w' g r2 r3 r4 ∧ Below w0.heap.size w0 w' ∧ KeepBut w w' g none := by
  unfold buf_Reader_Uvar.f at h
  obtain ⟨⟨n, s, e0⟩, hg, h⟩ := Option.bind_eq_some_iff.mp h
  by_cases h0 : 0 ≤ s
  · rw [if_pos h0] at h
    by_cases h1 : s ≤ (s0_1.length : Int)
    · rw [if_pos h1] at h
      have h := Option.some.inj h
      injection h with e1 h
      injection h with e2 h
      injection h with e3 e4
      subst e1 e2 e3 e4
      obtain ⟨h0_, wb, hb, hr⟩ := hI
      refine (rd_Uvar k g s0_1 s0_2 a1 n s e0 wb w hr hg h0 h1).mono ?_
      rintro e w' ⟨he, hi, hk⟩
      exact ⟨he, ⟨h0_, wb, hb, hi⟩, IsS80.keep hB hb hr.bel hi.bel hr.ge hk, hk⟩
    · rw [if_neg h1] at h
      exact absurd h (by simp)
  · rw [if_neg h0] at h
    exact absurd h (by simp)


/-! ### buf_Reader_Fail: function 24 -/
set_option maxHeartbeats 400000 in
set_option maxRecDepth 100000 in
theorem rd_Fail (g : Nat) (rest : List Int) (met n : Int) (w0 w : World) (hI : RdS 80 w0 w g rest met) :
    Calls Tryd.prog 24 #[.pointer (some ⟨g, 0, none⟩), .int .i64 n] w fun e w' => e = .returned (.tuple #[]) ∧ RdS 80 w0 w' g rest (if met = 0 then n else met) ∧ KeepBut w w' g none := by
  have HI := Aside0.mk hI
  obtain ⟨A, c, HG, hg, HS⟩ := hI.ex
  have h2 : w.cell? ⟨g, 2, none⟩ = some (.int .i64 met) := (blk_cell HG 2).trans rfl
  have f2 := blk_frozen HG 2
  clear HG hg HS hI
  by_cases c1 : met = 0
  · have c1b : (met != 0) = false := by rw [bne_eq_false_iff_eq]; exact c1
    rw [if_pos c1]
    clear c1
    go_enter Tryd.func24, Tryd.ntmps24
    go_wp2_with (go_at_call 48; (with_reducible refine (rd_dead g rest met w0 w HI.out).mono ?_); rintro e w1 ⟨rfl, rfl⟩)
    go_end0
    exact ⟨rfl, RdS.put_met HI.out n, KeepBut.set_ (KeepBut.refl _ _ _) _ _⟩
  · have c1b : (met != 0) = true := by simpa using c1
    rw [if_neg c1]
    clear c1
    go_enter Tryd.func24, Tryd.ntmps24
    go_wp2_with (go_at_call 48; (with_reducible refine (rd_dead g rest met w0 w HI.out).mono ?_); rintro e w1 ⟨rfl, rfl⟩)
    go_end0
    exact ⟨rfl, HI.out, KeepBut.refl _ _ _⟩
def buf_Reader_Fail.f (s0_0 : Bool) (s0_1 : List Int) (s0_2 : Int) (a1 : Int) : Option (Bool × Int) := some (s0_0, if s0_2 = 0 then a1 else s0_2)
theorem buf_Reader_Fail.calls (g : Nat) (s0_0 : Bool) (s0_1 : List Int) (s0_2 : Int) (a1 : Int) (r1 : Bool) (r2 : Int) (w0 w : World) (hI : IsS80 w0 w g s0_0 s0_1 s0_2) (hB : Below w0.heap.size w0 w) (h : buf_Reader_Fail.f s0_0 s0_1 s0_2 a1 = some (r1, r2)) :
    Calls Tryd.prog 24 #[.pointer (some ⟨g, 0, none⟩), .int .i64 a1] w fun e w' => e = .returned (.tuple #[]) ∧ IsS80 w0 w' g r1 s0_1 r2 ∧ Below w0.heap.size w0 w' ∧ KeepBut w w' g none := by
  have h := Option.some.inj h
  injection h with e1 e2
  subst e1 e2
  obtain ⟨h0, wb, hb, hr⟩ := hI
  refine (rd_Fail g s0_1 s0_2 a1 wb w hr).mono ?_
  rintro e w' ⟨he, hi, hk⟩
  exact ⟨he, ⟨h0, wb, hb, hi⟩, IsS80.keep hB hb hr.bel hi.bel hr.ge hk, hk⟩


/-! ### buf_Reader_Left: function 25 -/
set_option maxHeartbeats 400000 in
set_option maxRecDepth 100000 in
theorem rd_Left (g : Nat) (rest : List Int) (met : Int) (w0 w : World) (hI : RdS 80 w0 w g rest met) :
    Calls Tryd.prog 25 #[.pointer (some ⟨g, 0, none⟩)] w fun e w' => e = .returned (.int .i64 (if met = 0 then (rest.length : Int) else 0)) ∧ w = w' := by
  have HI := Aside0.mk hI
  obtain ⟨A, c, HG, hg, HS⟩ := hI.ex
  have h1 : w.cell? ⟨g, 1, none⟩ = some (.slice A rest.length c) := (blk_cell HG 1).trans rfl
  clear HG hg HS hI
  by_cases c1 : met = 0
  · have c1b : (met != 0) = false := by rw [bne_eq_false_iff_eq]; exact c1
    rw [if_pos c1]
    go_enter Tryd.func25, Tryd.ntmps25
    go_wp2_with (go_at_call 48; (with_reducible refine (rd_dead g rest met w0 w HI.out).mono ?_); rintro e w1 ⟨rfl, rfl⟩)
    go_ret
    exact ⟨rfl, rfl⟩
  · have c1b : (met != 0) = true := by simpa using c1
    rw [if_neg c1]
    go_enter Tryd.func25, Tryd.ntmps25
    go_wp2_with (go_at_call 48; (with_reducible refine (rd_dead g rest met w0 w HI.out).mono ?_); rintro e w1 ⟨rfl, rfl⟩)
    go_ret
    exact ⟨rfl, rfl⟩
set_option maxHeartbeats 400000 in
set_option maxRecDepth 100000 in
theorem rd_Left0 (w : World) : Calls Tryd.prog 25 #[.pointer none] w fun e w' => e = .returned (.int .i64 0) ∧ w = w' := by
  go_enter Tryd.func25, Tryd.ntmps25
  go_wp2_with (go_at_call 48; (with_reducible refine (rd_dead0 w).mono ?_); rintro e w1 ⟨rfl, rfl⟩)
  go_ret
  exact ⟨rfl, rfl⟩
def buf_Reader_Left.f (s0_0 : Bool) (s0_1 : List Int) (s0_2 : Int) : Option (Int × Bool × Int) := some (if s0_2 = 0 then (s0_1.length : Int) else 0, s0_0, s0_2)
theorem buf_Reader_Left.calls (g : Nat) (s0_0 : Bool) (s0_1 : List Int) (s0_2 : Int) (r1 : Int) (r2 : Bool) (r3 : Int) (w0 w : World) (hI : IsS80 w0 w g s0_0 s0_1 s0_2) (hB : Below w0.heap.size w0 w) (h : buf_Reader_Left.f s0_0 s0_1 s0_2 = some (r1, r2, r3)) :
    Calls Tryd.prog 25 #[.pointer (some ⟨g, 0, none⟩)] w fun e w' => e = .returned (.int .i64 r1) ∧ IsS80 w0 w' g r2 s0_1 r3 ∧ Below w0.heap.size w0 w' ∧ KeepBut w w' g none := by
  have h := Option.some.inj h
  injection h with e1 h
  injection h with e2 e3
  subst e1 e2 e3
  obtain ⟨h0, wb, hb, hr⟩ := hI
  refine (rd_Left g s0_1 s0_2 wb w hr).mono ?_
  rintro e w' ⟨he, rfl⟩
  exact ⟨he, ⟨h0, wb, hb, hr⟩, hB, KeepBut.refl _ _ _⟩


/-! ### buf_Reader_Text: function 52 -/
def textR (most : Int) (rest : List Int) (met n s e : Int) : ByteArray × List Int × Int :=
  if met ≠ 0 then (⟨#[]⟩, rest, met) else if e ≠ 0 then (⟨#[]⟩, rest, e) else if most < 0 ∨ n > most then (⟨#[]⟩, rest, 5) else if n > rest.length - s then (⟨#[]⟩, rest, 2) else (strOfNums ((rest.drop s.toNat).take n.toNat), (rest.drop s.toNat).drop n.toNat, 0)
set_option maxHeartbeats 1000000 in
set_option maxRecDepth 100000 in
theorem rd_Text (k : Nat) (g : Nat) (rest : List Int) (met most n s e0 : Int) (w0 w : World) (hI : RdS 80 w0 w g rest met) (hg : uvar_Get.f k rest = some (n, s, e0)) (h0 : 0 ≤ s) (h1 : s ≤ rest.length) (hn0 : 0 ≤ n) (hm1 : -9223372036854775808 ≤ most) (hm2 : most ≤ 9223372036854775807) :
    Calls Tryd.prog 52 #[.pointer (some ⟨g, 0, none⟩), .int .i64 most] w fun e w' => e = .returned (.string (textR most rest met n s e0).1) ∧ RdS 80 w0 w' g (textR most rest met n s e0).2.1 (textR most rest met n s e0).2.2 ∧ KeepBut w w' g none := by
  have HI := Aside0.mk hI
  obtain ⟨A, c, HG, hc, HS⟩ := hI.ex
  have h1' : w.cell? ⟨g, 1, none⟩ = some (.slice A rest.length c) := (blk_cell HG 1).trans rfl
  have HSS := Aside0.mk (Kd.C_below HS hI.bel)
  have HH := Aside0.mk hc
  have HG0 := Aside0.mk hg
  have S0 := Aside0.mk h0
  have S1 := Aside0.mk h1
  have N0 := Aside0.mk hn0
  have SM := Aside0.mk hI.small
  clear HG hc HS hI hg
  unfold textR
  by_cases c1 : met = 0
  · have c1b : (met != 0) = false := by rw [bne_eq_false_iff_eq]; exact c1
    rw [if_neg (by simpa using c1)]
    clear c1
    by_cases c2 : e0 = 0
    · have c2b : (e0 != 0) = false := by rw [bne_eq_false_iff_eq]; exact c2
      have c2c : (e0 == 0) = true := by rw [beq_iff_eq]; exact c2
      rw [if_neg (by simpa using c2)]
      have C2 := Aside0.mk c2
      clear c2
      by_cases c3 : most < 0
      · have c3b : decide (most < 0) = true := decide_eq_true c3
        rw [if_pos (Or.inl c3)]
        clear c3 h0 h1 hn0 hm1 hm2
        go_enter Tryd.func52, Tryd.ntmps52
        go_wp2_with (first | (go_at_call 48; (with_reducible refine (rd_dead g rest met w0 w HI.out).mono ?_); rintro e w1 ⟨rfl, rfl⟩) | (go_at_call 49; (with_reducible refine (uvar_Get.calls k A c rest n s e0 w HSS.out HH.out HG0.out).mono ?_); rintro e w1 ⟨rfl, hb⟩; have HK := Aside0.mk (below_self hb g); have HI1 := Aside0.mk (RdS.later HI.out hb); obtain ⟨A2, cc2, HG2, hc2, HS2⟩ := HI1.out.ex; have gf2 := blk_frozen HG2 2; have g1 : w1.cell? ⟨g, 1, none⟩ = some (.slice A2 rest.length cc2) := (blk_cell HG2 1).trans rfl; have g2 : w1.cell? ⟨g, 2, none⟩ = some (.int .i64 met) := (blk_cell HG2 2).trans rfl; clear HG2 hc2 HS2 hb))
        go_ret
        exact ⟨rfl, RdS.put_met HI1.out 5, KeepBut.set_ HK.out _ _⟩
      · have c3b : decide (most < 0) = false := decide_eq_false c3
        have c3c : 0 ≤ most := by omega
        have hwm : IntKind.u64.wrap most = most := by simp only [IntKind.wrap, IntKind.bits, IntKind.signed]; simp; omega
        by_cases c4 : n > most
        · have c4b : decide (most < n) = true := decide_eq_true c4
          rw [if_pos (Or.inr c4)]
          clear c4 c3 h0 h1 hn0
          go_enter Tryd.func52, Tryd.ntmps52
          go_wp2_with (first | (go_at_call 48; (with_reducible refine (rd_dead g rest met w0 w HI.out).mono ?_); rintro e w1 ⟨rfl, rfl⟩) | (go_at_call 49; (with_reducible refine (uvar_Get.calls k A c rest n s e0 w HSS.out HH.out HG0.out).mono ?_); rintro e w1 ⟨rfl, hb⟩; have HK := Aside0.mk (below_self hb g); have HI1 := Aside0.mk (RdS.later HI.out hb); obtain ⟨A2, cc2, HG2, hc2, HS2⟩ := HI1.out.ex; have gf2 := blk_frozen HG2 2; have g1 : w1.cell? ⟨g, 1, none⟩ = some (.slice A2 rest.length cc2) := (blk_cell HG2 1).trans rfl; have g2 : w1.cell? ⟨g, 2, none⟩ = some (.int .i64 met) := (blk_cell HG2 2).trans rfl; clear HG2 hc2 HS2 hb))
          go_ret
          exact ⟨rfl, RdS.put_met HI1.out 5, KeepBut.set_ HK.out _ _⟩
        · have c4b : decide (most < n) = false := decide_eq_false c4
          rw [if_neg (fun h => h.elim c3 c4)]
          clear c3
          have d0 : 0 ≤ (rest.length : Int) - s := by omega
          have d1 : (rest.length : Int) - s ≤ 9223372036854775807 := by have := SM.out; omega
          have hws : IntKind.i64.wrap ((rest.length : Int) - s) = (rest.length : Int) - s := by simp only [IntKind.wrap, IntKind.bits, IntKind.signed]; simp; have := SM.out; omega
          have hwu : IntKind.u64.wrap ((rest.length : Int) - s) = (rest.length : Int) - s := by simp only [IntKind.wrap, IntKind.bits, IntKind.signed]; simp; omega
          by_cases c5 : n > (rest.length : Int) - s
          · have c5b : decide ((rest.length : Int) - s < n) = true := decide_eq_true c5
            rw [if_pos c5]
            clear c4 c5
            go_enter Tryd.func52, Tryd.ntmps52
            go_wp2_with (first | (go_at_call 48; (with_reducible refine (rd_dead g rest met w0 w HI.out).mono ?_); rintro e w1 ⟨rfl, rfl⟩) | (go_at_call 49; (with_reducible refine (uvar_Get.calls k A c rest n s e0 w HSS.out HH.out HG0.out).mono ?_); rintro e w1 ⟨rfl, hb⟩; have HK := Aside0.mk (below_self hb g); have HI1 := Aside0.mk (RdS.later HI.out hb); obtain ⟨A2, cc2, HG2, hc2, HS2⟩ := HI1.out.ex; have gf2 := blk_frozen HG2 2; have g1 : w1.cell? ⟨g, 1, none⟩ = some (.slice A2 rest.length cc2) := (blk_cell HG2 1).trans rfl; have g2 : w1.cell? ⟨g, 2, none⟩ = some (.int .i64 met) := (blk_cell HG2 2).trans rfl; clear HG2 hc2 HS2 hb))
            go_ret
            exact ⟨rfl, RdS.put_met HI1.out 2, KeepBut.set_ HK.out _ _⟩
          · have c5b : decide ((rest.length : Int) - s < n) = false := decide_eq_false c5
            rw [if_neg c5]
            have N1 := Aside0.mk (show n ≤ ((rest.drop s.toNat).length : Int) by rw [List.length_drop]; omega)
            have hn1 : n ≤ 9223372036854775807 := by omega
            have hwn : IntKind.i64.wrap n = n := by simp only [IntKind.wrap, IntKind.bits, IntKind.signed]; simp; omega
            clear c4 c5
            go_enter Tryd.func52, Tryd.ntmps52
            go_wp2_with (first | (go_at_call 48; (with_reducible refine (rd_dead g rest met w0 w HI.out).mono ?_); rintro e w1 ⟨rfl, rfl⟩) | (go_at_call 49; (with_reducible refine (uvar_Get.calls k A c rest n s e0 w HSS.out HH.out HG0.out).mono ?_); rintro e w1 ⟨rfl, hb⟩; have HK := Aside0.mk (below_self hb g); have HI1 := Aside0.mk (RdS.later HI.out hb); obtain ⟨A2, cc2, HG2, hc2, HS2⟩ := HI1.out.ex; have gf2 := blk_frozen HG2 2; have g1 : w1.cell? ⟨g, 1, none⟩ = some (.slice A2 rest.length cc2) := (blk_cell HG2 1).trans rfl; have g2 : w1.cell? ⟨g, 2, none⟩ = some (.int .i64 met) := (blk_cell HG2 2).trans rfl; clear HG2 hc2 HS2 hb) | (go_at_call 50; (with_reducible refine (rd_take g rest e0 s w0 _ (RdS.put_met HI1.out e0) S0.out S1.out).mono ?_); rintro e w2 ⟨v, rfl, hR, hi, hk⟩; have HI3 := Aside0.mk hi; have HK2 := Aside0.mk ((KeepBut.set_ HK.out 2 (.int .i64 e0)).trans hk (.inl rfl)); clear hR hi hk) | (go_at_call 50; (with_reducible refine (rd_take g (rest.drop s.toNat) e0 n w0 _ HI3.out N0.out N1.out).mono ?_); rintro e w3 ⟨v2, rfl, hR, hi, hk⟩; obtain ⟨A4, c4, rfl⟩ := Kd.R_slice hR; have hcv := fun n_ => Kd.C_string (P := Tryd.prog) (A := A4) (n := n_) (c := c4) Tryd.underlying33 Tryd.underlying5 Tryd.underlying9 (w := w3) (xs := (rest.drop s.toNat).take n.toNat); have hcv := hcv _ (Kd.R_reads' hR).2.2; simp only [List.length_take, List.length_drop] at hcv; have HI4 := Aside0.mk hi; have HK3 := Aside0.mk (HK2.out.trans hk (.inl rfl)); clear hR hi hk))
            go_ret
            have h4 := HI4.out
            rw [C2.out] at h4
            exact ⟨rfl, h4, HK3.out⟩
    · have c2b : (e0 != 0) = true := by simpa using c2
      have c2c : (e0 == 0) = false := by simpa using c2
      rw [if_pos (by simpa using c2)]
      clear c2
      go_enter Tryd.func52, Tryd.ntmps52
      go_wp2_with (first | (go_at_call 48; (with_reducible refine (rd_dead g rest met w0 w HI.out).mono ?_); rintro e w1 ⟨rfl, rfl⟩) | (go_at_call 49; (with_reducible refine (uvar_Get.calls k A c rest n s e0 w HSS.out HH.out HG0.out).mono ?_); rintro e w1 ⟨rfl, hb⟩; have HK := Aside0.mk (below_self hb g); have HI1 := Aside0.mk (RdS.later HI.out hb); obtain ⟨A2, cc2, HG2, hc2, HS2⟩ := HI1.out.ex; have gf2 := blk_frozen HG2 2; have g1 : w1.cell? ⟨g, 1, none⟩ = some (.slice A2 rest.length cc2) := (blk_cell HG2 1).trans rfl; have g2 : w1.cell? ⟨g, 2, none⟩ = some (.int .i64 met) := (blk_cell HG2 2).trans rfl; clear HG2 hc2 HS2 hb))
      go_ret
      exact ⟨rfl, RdS.put_met HI1.out e0, KeepBut.set_ HK.out _ _⟩
  · have c1b : (met != 0) = true := by simpa using c1
    rw [if_pos c1]
    clear c1
    go_enter Tryd.func52, Tryd.ntmps52
    go_wp2_with (first | (go_at_call 48; (with_reducible refine (rd_dead g rest met w0 w HI.out).mono ?_); rintro e w1 ⟨rfl, rfl⟩))
    go_ret
    exact ⟨rfl, HI.out, KeepBut.refl _ _ _⟩
def buf_Reader_Text.f (k : Nat) (s0_0 : Bool) (s0_1 : List Int) (s0_2 : Int) (a1 : Int) : Option (ByteArray × Bool × List Int × Int) := (uvar_Get.f k s0_1).bind fun t => (if 0 ≤ t.2.1 ∧ t.2.1 ≤ (s0_1.length : Int) ∧ 0 ≤ t.1 ∧ -9223372036854775808 ≤ a1 ∧ a1 ≤ 9223372036854775807 then (some ((textR a1 s0_1 s0_2 t.1 t.2.1 t.2.2).1, s0_0, (textR a1 s0_1 s0_2 t.1 t.2.1 t.2.2).2.1, (textR a1 s0_1 s0_2 t.1 t.2.1 t.2.2).2.2)) else (none))
theorem buf_Reader_Text.mono : ∀ a0 a1 a2 a3 k, LeO (buf_Reader_Text.f k a0 a1 a2 a3) (buf_Reader_Text.f (k + 1) a0 a1 a2 a3) := fun a0 a1 a2 a3 k => LeO.bind (uvar_Get.mono _ k) (fun _ => LeO.refl _)
theorem buf_Reader_Text.calls (k : Nat) (g : Nat) (s0_0 : Bool) (s0_1 : List Int) (s0_2 : Int) (a1 : Int) (r1 : ByteArray) (r2 : Bool) (r3 : List Int) (r4 : Int) (w0 w : World) (hI : IsS80 w0 w g s0_0 s0_1 s0_2) (hB : Below w0.heap.size w0 w) (h : buf_Reader_Text.f k s0_0 s0_1 s0_2 a1 = some (r1, r2, r3, r4)) :
    Calls Tryd.prog 52 #[.pointer (some ⟨g, 0, none⟩), .int .i64 a1] w fun e w' => e = .returned (.string r1) ∧ IsS80 w0 w' g r2 r3 r4 ∧ Below w0.heap.size w0 w' ∧ KeepBut w w' g none := by
  unfold buf_Reader_Text.f at h
  obtain ⟨⟨n, s, e0⟩, hg, h⟩ := Option.bind_eq_some_iff.mp h
  by_cases hc : 0 ≤ s ∧ s ≤ (s0_1.length : Int) ∧ 0 ≤ n ∧ -9223372036854775808 ≤ a1 ∧ a1 ≤ 9223372036854775807
  · rw [if_pos hc] at h
    have h := Option.some.inj h
    injection h with e1 h
    injection h with e2 h
    injection h with e3 e4
    subst e1 e2 e3 e4
    obtain ⟨h0_, wb, hb, hr⟩ := hI
    refine (rd_Text k g s0_1 s0_2 a1 n s e0 wb w hr hg hc.1 hc.2.1 hc.2.2.1 hc.2.2.2.1 hc.2.2.2.2).mono ?_
    rintro e w' ⟨he, hi, hk⟩
    exact ⟨he, ⟨h0_, wb, hb, hi⟩, IsS80.keep hB hb hr.bel hi.bel hr.ge hk, hk⟩
  · rw [if_neg hc] at h
    exact absurd h (by simp)


/-! ### tagged_peer: function 53 -/
/-! ### a reader that is handed in: its state told anew -/
structure RS (w0 W : World) (g : Nat) (rest : List Int) (met : Int) : Prop where
  st : IsS80 w0 W g true rest met
  bel : Below w0.heap.size w0 W
theorem RS.later {w0 W W1 : World} {g : Nat} {rest : List Int} {met : Int} (h : RS w0 W g rest met) (hb : Below W.heap.size W W1) : RS w0 W1 g rest met := ⟨h.st.below hb, below_then h.bel h.bel.size hb⟩
theorem RS.keepR {α : Type} {d : Kd α} {e base : Nat} {ok : Nat → Prop} {v : Value} {xs : List α} {w0 W W1 : World} {g : Nat} {rest : List Int} {met : Int} (h : RS w0 W g rest met) (ho : d.R e W base ok v xs) (ht : ∀ q, q ∈ e :: d.E → q ≠ 80) (hk : KeepBut W W1 g none) : d.R e W1 base ok v xs :=
  Kd.R_mono (Kd.R_keep (h.st.apart ho ht) hk (fun _ h => h.2)) (fun _ h => h.1)
theorem RS.far {w0 W : World} {g : Nat} {rest : List Int} {met : Int} (h : RS w0 W g rest met) {p : Addr} (hp : g < p.block) (u : Value) : RS w0 (W.setCell p u) g rest met := ⟨h.st.far2 hp u, h.bel.setCell (Nat.le_trans h.st.ge (Nat.le_of_lt hp)) u⟩
def rU (k : Nat) (rest : List Int) (met most : Int) : Option (Int × List Int × Int) := (buf_Reader_Uvar.f k true rest met most).bind fun t => if t.2.1 = true then some (t.1, t.2.2.1, t.2.2.2) else none
theorem rU.calls (k g : Nat) (rest : List Int) (met most n : Int) (r1 : List Int) (m1 : Int) (w0 w : World) (hS : RS w0 w g rest met) (h : rU k rest met most = some (n, r1, m1)) :
    Calls Tryd.prog 22 #[.pointer (some ⟨g, 0, none⟩), .int .u64 most] w fun e w' => e = .returned (.int .u64 n) ∧ RS w0 w' g r1 m1 ∧ KeepBut w w' g none := by
  obtain ⟨⟨a, b, c, d⟩, hu, h⟩ := Option.bind_eq_some_iff.mp h
  cases b with
  | false => simp at h
  | true =>
    simp only [if_true] at h
    obtain ⟨rfl, rfl, rfl⟩ : _ = _ ∧ _ = _ ∧ _ = _ := by simpa using h
    exact (buf_Reader_Uvar.calls k g true rest met most _ true _ _ w0 w hS.st hS.bel hu).mono fun e w' ⟨he, hi, hb, hk⟩ => ⟨he, ⟨hi, hb⟩, hk⟩
def tpeer (k : Nat) (rest : List Int) (met : Int) : Option (Int × Int × List Int × Int) := (rU k rest met 18446744073709551615).bind fun a => (rU k a.2.1 a.2.2 65535).bind fun b => some (a.1, IntKind.u16.wrap b.1, b.2.1, b.2.2)
set_option maxHeartbeats 2000000 in
set_option maxRecDepth 100000 in
theorem tpeer.calls (k g : Nat) (rest : List Int) (met p0 p1 : Int) (r1 : List Int) (m1 : Int) (w0 w : World) (hS : RS w0 w g rest met) (h : tpeer k rest met = some (p0, p1, r1, m1)) :
    Calls Tryd.prog 53 #[.pointer (some ⟨g, 0, none⟩)] w fun e w' => e = .returned (.agg #[.int .u64 p0, .int .u16 p1]) ∧ RS w0 w' g r1 m1 ∧ KeepBut w w' g none := by
  have hu26 := Tryd.underlying26
  unfold tpeer at h
  obtain ⟨⟨n1, q1, e1⟩, h1, h⟩ := Option.bind_eq_some_iff.mp h
  obtain ⟨⟨n2, q2, e2⟩, h2, h⟩ := Option.bind_eq_some_iff.mp h
  cases h
  have hlt := hS.st.lt
  have HL := Aside0.mk hlt
  have H1 := Aside0.mk h1
  have H2 := Aside0.mk h2
  have HN0 := Aside0.mk (blk_new w (.cells #[.int .u64 0, .int .u16 0] 26))
  have HS0 := Aside0.mk (hS.later (below_alloc (Below.refl _ _) (.cells #[.int .u64 0, .int .u16 0] 26)))
  have HK0 := Aside0.mk (KeepBut.of_below (below_alloc (Below.refl w.heap.size w) (.cells #[.int .u64 0, .int .u16 0] 26)) g none)
  have hne : w.heap.size ≠ g := by omega
  clear hS hlt h1 h2
  go_enter Tryd.func53, Tryd.ntmps53
  go_upto_region 1 with (fail)
  generalize w.alloc (.cells #[.int .u64 0, .int .u16 0] 26) = wa at HN0 HS0 HK0 ⊢
  go_wp2_with (first | (go_at_call 22; (with_reducible refine (rU.calls k g rest met _ n1 q1 e1 w0 wa HS0.out H1.out).mono ?_); rintro e w1 ⟨rfl, hs, hk⟩; have HS1 := Aside0.mk hs; have HN1 := Aside0.mk (hk.blk HN0.out hne (by simp)); have HK1 := Aside0.mk (KeepBut.trans HK0.out hk (.inl rfl)); clear hs hk) | (go_at_call 22; (with_reducible refine (rU.calls k g q1 e1 _ n2 q2 e2 w0 w1 HS1.out H2.out).mono ?_); rintro e w2 ⟨rfl, hs, hk⟩; have HS2 := Aside0.mk hs; have HN2 := Aside0.mk (hk.blk HN1.out hne (by simp)); have HK2 := Aside0.mk (KeepBut.trans HK1.out hk (.inl rfl)); have hc0 : w2.cell? ⟨w.heap.size, 0, none⟩ = some _ := (blk_cell HN2.out 0).trans rfl; have hc1 : w2.cell? ⟨w.heap.size, 1, none⟩ = some _ := (blk_cell HN2.out 1).trans rfl; have hf0 := blk_frozen HN2.out 0; have hf1 := blk_frozen HN2.out 1; clear hs hk))
  refine bodyPost_ret (results_cell_row rfl _ _ w.heap.size 26 #[.int .u64 n1, .int .u16 (IntKind.u16.wrap n2)] (0, 0) _ rfl (blk_put (blk_put HN2.out 0 _ rfl) 1 _ rfl) Tryd.underlying26 rfl (by kernel_rfl)) rfl ?_
  exact ⟨rfl, (HS2.out.far HL.out _).far HL.out _, keep_far (keep_far HK2.out (Nat.le_refl _) _) (Nat.le_refl _) _⟩

end Go.Proofs.YtmohmmpcadlfkaaDoor.PTaggedBack
