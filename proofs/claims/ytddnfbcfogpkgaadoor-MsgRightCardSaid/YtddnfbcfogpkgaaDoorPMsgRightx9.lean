/- Written by a program of this session (a turned copy of the kit's print): functions of the program, each with the Lean function that it comes to, and the row of one law. No condition. -/
import Derived.Test.YtddnfbcfogpkgaaDoorPMsgRightx0
import Derived.Test.YtddnfbcfogpkgaaDoorPMsgRightx8
namespace Go.Proofs.YtddnfbcfogpkgaaDoor.PMsgRight
open Go.RowKit Go.Proofs.YtddnfbcfogpkgaaDoorW.PrintWords Go.Proofs.YtddnfbcfogpkgaaDoorW.PrintLast Go.Proofs.YtddnfbcfogpkgaaDoorW.PrintMore
attribute [local go_sem] max2_int min2_int max_two min_two max_three min_three max_four min_four   -- for this text's walks alone
set_option linter.unusedVariables false
set_option linter.unusedSimpArgs false

/-! ### annuletref04_Width: function 50 -/
mutual
def annuletref04_Width.j0 : Nat → ByteArray → Int → Int → Int → Bool → Option (Int)
 | 0, _, _, _, _, _ => none
 | k + 1, x0, x1, x5, x6, x32 => if x32 = true then (some 2) else (if x5 ≥ 224 then (if x5 ≤ 239 then (if x6 > 2 then (if 0 ≤ (wrap64 (x1 + 1)) then (if (wrap64 (x1 + 1)) < (x0.size : Int) then ((annuletref04_tail.f (bt x0 (wrap64 (x1 + 1)))).bind fun t224 => (if t224 = true then (if 0 ≤ (wrap64 (x1 + 2)) then (if (wrap64 (x1 + 2)) < (x0.size : Int) then ((annuletref04_tail.f (bt x0 (wrap64 (x1 + 2)))).bind fun t225 => (annuletref04_Width.j1 k x0 x1 x5 x6 t225)) else (none)) else (none)) else (annuletref04_Width.j1 k x0 x1 x5 x6 false))) else (none)) else (none)) else (annuletref04_Width.j1 k x0 x1 x5 x6 false)) else (annuletref04_Width.j1 k x0 x1 x5 x6 false)) else (annuletref04_Width.j1 k x0 x1 x5 x6 false))
def annuletref04_Width.j1 : Nat → ByteArray → Int → Int → Int → Bool → Option (Int)
 | 0, _, _, _, _, _ => none
 | k + 1, x0, x1, x5, x6, x56 => if x56 = true then (if x5 = 224 then (if 0 ≤ (wrap64 (x1 + 1)) then (if (wrap64 (x1 + 1)) < (x0.size : Int) then (if (bt x0 (wrap64 (x1 + 1))) < 160 then (some 0) else (if x5 = 237 then (if (bt x0 (wrap64 (x1 + 1))) > 159 then (some 0) else (some 3)) else (some 3))) else (none)) else (none)) else (if x5 = 237 then (if 0 ≤ (wrap64 (x1 + 1)) then (if (wrap64 (x1 + 1)) < (x0.size : Int) then (if (bt x0 (wrap64 (x1 + 1))) > 159 then (some 0) else (some 3)) else (none)) else (none)) else (some 3))) else (if x5 ≥ 240 then (if x5 ≤ 244 then (if x6 > 3 then (if 0 ≤ (wrap64 (x1 + 1)) then (if (wrap64 (x1 + 1)) < (x0.size : Int) then ((annuletref04_tail.f (bt x0 (wrap64 (x1 + 1)))).bind fun t226 => (if t226 = true then (if 0 ≤ (wrap64 (x1 + 2)) then (if (wrap64 (x1 + 2)) < (x0.size : Int) then ((annuletref04_tail.f (bt x0 (wrap64 (x1 + 2)))).bind fun t227 => (if t227 = true then (if 0 ≤ (wrap64 (x1 + 3)) then (if (wrap64 (x1 + 3)) < (x0.size : Int) then ((annuletref04_tail.f (bt x0 (wrap64 (x1 + 3)))).bind fun t228 => (annuletref04_Width.j2 k x0 x1 x5 t228)) else (none)) else (none)) else (annuletref04_Width.j2 k x0 x1 x5 false))) else (none)) else (none)) else (annuletref04_Width.j2 k x0 x1 x5 false))) else (none)) else (none)) else (annuletref04_Width.j2 k x0 x1 x5 false)) else (annuletref04_Width.j2 k x0 x1 x5 false)) else (annuletref04_Width.j2 k x0 x1 x5 false))
def annuletref04_Width.j2 : Nat → ByteArray → Int → Int → Bool → Option (Int)
 | 0, _, _, _, _ => none
 | k + 1, x0, x1, x5, x107 => if x107 = true then (if x5 = 240 then (if 0 ≤ (wrap64 (x1 + 1)) then (if (wrap64 (x1 + 1)) < (x0.size : Int) then (if (bt x0 (wrap64 (x1 + 1))) < 144 then (some 0) else (if x5 = 244 then (if (bt x0 (wrap64 (x1 + 1))) > 143 then (some 0) else (some 4)) else (some 4))) else (none)) else (none)) else (if x5 = 244 then (if 0 ≤ (wrap64 (x1 + 1)) then (if (wrap64 (x1 + 1)) < (x0.size : Int) then (if (bt x0 (wrap64 (x1 + 1))) > 143 then (some 0) else (some 4)) else (none)) else (none)) else (some 4))) else (some 0)
end
def annuletref04_Width.f (k : Nat) (a0 : ByteArray) (a1 : Int) : Option (Int) := if 0 ≤ a1 then (if a1 < (a0.size : Int) then (if (bt a0 a1) < 128 then (some 1) else (if (bt a0 a1) ≥ 194 then (if (bt a0 a1) ≤ 223 then (if (wrap64 ((a0.size : Int) - a1)) > 1 then (if 0 ≤ (wrap64 (a1 + 1)) then (if (wrap64 (a1 + 1)) < (a0.size : Int) then ((annuletref04_tail.f (bt a0 (wrap64 (a1 + 1)))).bind fun t223 => (annuletref04_Width.j0 k a0 a1 (bt a0 a1) (wrap64 ((a0.size : Int) - a1)) t223)) else (none)) else (none)) else (annuletref04_Width.j0 k a0 a1 (bt a0 a1) (wrap64 ((a0.size : Int) - a1)) false)) else (annuletref04_Width.j0 k a0 a1 (bt a0 a1) (wrap64 ((a0.size : Int) - a1)) false)) else (annuletref04_Width.j0 k a0 a1 (bt a0 a1) (wrap64 ((a0.size : Int) - a1)) false))) else (none)) else (none)
theorem annuletref04_Width.mono_l : ∀ k, (∀ y0 y1 y2 y3 y4, LeO (annuletref04_Width.j0 k y0 y1 y2 y3 y4) (annuletref04_Width.j0 (k + 1) y0 y1 y2 y3 y4)) ∧ (∀ y0 y1 y2 y3 y4, LeO (annuletref04_Width.j1 k y0 y1 y2 y3 y4) (annuletref04_Width.j1 (k + 1) y0 y1 y2 y3 y4)) ∧ (∀ y0 y1 y2 y3, LeO (annuletref04_Width.j2 k y0 y1 y2 y3) (annuletref04_Width.j2 (k + 1) y0 y1 y2 y3))
 | 0 => ⟨fun _ _ _ _ _ r h => by simp [annuletref04_Width.j0] at h, fun _ _ _ _ _ r h => by simp [annuletref04_Width.j1] at h, fun _ _ _ _ r h => by simp [annuletref04_Width.j2] at h⟩
 | k + 1 => by
  obtain ⟨ih0, ih1, ih2⟩ := annuletref04_Width.mono_l k
  refine ⟨?_, ?_, ?_⟩
  ·intro y0 y1 y2 y3 y4
   unfold annuletref04_Width.j0
   repeat' first
   | (with_reducible exact ih0 _ _ _ _ _)
   | (with_reducible exact ih1 _ _ _ _ _)
   | (with_reducible exact ih2 _ _ _ _)
   | (with_reducible exact LeO.refl _)
   | (with_reducible exact LeO.none _)
   | (with_reducible refine LeO.ite ?_ ?_)
   | (with_reducible refine LeO.bind ?_ (fun _ => ?_))
   | exact ih0 _ _ _ _ _
   | exact ih1 _ _ _ _ _
   | exact ih2 _ _ _ _
   | exact LeO.none _
   | refine LeO.ite ?_ ?_
   | refine LeO.bind ?_ (fun _ => ?_)
  ·intro y0 y1 y2 y3 y4
   unfold annuletref04_Width.j1
   repeat' first
   | (with_reducible exact ih0 _ _ _ _ _)
   | (with_reducible exact ih1 _ _ _ _ _)
   | (with_reducible exact ih2 _ _ _ _)
   | (with_reducible exact LeO.refl _)
   | (with_reducible exact LeO.none _)
   | (with_reducible refine LeO.ite ?_ ?_)
   | (with_reducible refine LeO.bind ?_ (fun _ => ?_))
   | exact ih0 _ _ _ _ _
   | exact ih1 _ _ _ _ _
   | exact ih2 _ _ _ _
   | exact LeO.none _
   | refine LeO.ite ?_ ?_
   | refine LeO.bind ?_ (fun _ => ?_)
  ·intro y0 y1 y2 y3
   unfold annuletref04_Width.j2
   repeat' first
   | (with_reducible exact ih0 _ _ _ _ _)
   | (with_reducible exact ih1 _ _ _ _ _)
   | (with_reducible exact ih2 _ _ _ _)
   | (with_reducible exact LeO.refl _)
   | (with_reducible exact LeO.none _)
   | (with_reducible refine LeO.ite ?_ ?_)
   | (with_reducible refine LeO.bind ?_ (fun _ => ?_))
   | exact ih0 _ _ _ _ _
   | exact ih1 _ _ _ _ _
   | exact ih2 _ _ _ _
   | exact LeO.none _
   | refine LeO.ite ?_ ?_
   | refine LeO.bind ?_ (fun _ => ?_)
theorem annuletref04_Width.mono : ∀ a0 a1 k, LeO (annuletref04_Width.f k a0 a1) (annuletref04_Width.f (k + 1) a0 a1) := by
 intro a0 a1 k
 obtain ⟨ih0, ih1, ih2⟩ := annuletref04_Width.mono_l k
 unfold annuletref04_Width.f
 repeat' first
   | (with_reducible exact ih0 _ _ _ _ _)
   | (with_reducible exact ih1 _ _ _ _ _)
   | (with_reducible exact ih2 _ _ _ _)
   | (with_reducible exact LeO.refl _)
   | (with_reducible exact LeO.none _)
   | (with_reducible refine LeO.ite ?_ ?_)
   | (with_reducible refine LeO.bind ?_ (fun _ => ?_))
   | exact ih0 _ _ _ _ _
   | exact ih1 _ _ _ _ _
   | exact ih2 _ _ _ _
   | exact LeO.none _
   | refine LeO.ite ?_ ?_
   | refine LeO.bind ?_ (fun _ => ?_)
set_option maxHeartbeats 3000000 in
set_option maxRecDepth 100000 in
theorem annuletref04_Width.calls (k : Nat) (a0 : ByteArray) (a1 : Int) (r : Int) (w : World) (h : annuletref04_Width.f k a0 a1 = some r) :
  Calls Tryd.prog 50 #[.string a0, .int .i64 a1] w fun e w' => e = .returned (.int .i64 r) ∧ Drawn0 w w' := by
 have H : (if 0 ≤ a1 then (if a1 < (a0.size : Int) then (if (bt a0 a1) < 128 then (some 1) else (if (bt a0 a1) ≥ 194 then (if (bt a0 a1) ≤ 223 then (if (wrap64 ((a0.size : Int) - a1)) > 1 then (if 0 ≤ (wrap64 (a1 + 1)) then (if (wrap64 (a1 + 1)) < (a0.size : Int) then ((annuletref04_tail.f (bt a0 (wrap64 (a1 + 1)))).bind fun t223 => (annuletref04_Width.j0 k a0 a1 (bt a0 a1) (wrap64 ((a0.size : Int) - a1)) t223)) else (none)) else (none)) else (annuletref04_Width.j0 k a0 a1 (bt a0 a1) (wrap64 ((a0.size : Int) - a1)) false)) else (annuletref04_Width.j0 k a0 a1 (bt a0 a1) (wrap64 ((a0.size : Int) - a1)) false)) else (annuletref04_Width.j0 k a0 a1 (bt a0 a1) (wrap64 ((a0.size : Int) - a1)) false))) else (none)) else (none)) = some r := h
 clear h
 by_cases c3 : 0 ≤ a1
 ·rw [if_pos c3] at H
  have c3b0 : decide (0 ≤ a1) = true := decide_eq_true c3
  clear c3
  by_cases c4 : a1 < (a0.size : Int)
  ·rw [if_pos c4] at H
   have c4b0 : decide (a1 < (a0.size : Int)) = true := decide_eq_true c4
   clear c4
   by_cases c6 : (bt a0 a1) < 128
   ·rw [if_pos c6] at H
    have c6b0 : decide ((bt a0 a1) < 128) = true := decide_eq_true c6
    clear c6
    obtain rfl := Option.some.inj H
    have p5 : 0 ≤ (a1 : Int) := of_decide_eq_true (by first | (with_reducible assumption) | assumption)
    have q5 : a1 < (a0.size : Int) := of_decide_eq_true (by first | (with_reducible assumption) | assumption)
    have hx5 := bt_at a0 a1
    replace p5 := eq_true p5
    replace q5 := eq_true q5
    go_enter Tryd.func50, Tryd.ntmps50
    go_wp2
    all_goals go_ret
    all_goals first | (exact ⟨by first | rfl | (simp; done) | (simp [*]; done) | (refine congrArg Ending.returned ?_; show Value.string _ = Value.string _; (first | (congr 2 <;> omega) | (congr 3 <;> omega) | (congr 4 <;> omega))), by repeat (first | exact Drawn0.refl _ | apply Drawn0.step)⟩) | (exfalso; simp_all; done)
   ·rw [if_neg c6] at H
    have c6b0 : decide ((bt a0 a1) < 128) = false := decide_eq_false c6
    clear c6
    have HC7 := Aside0.mk H
    clear H
    have p5 : 0 ≤ (a1 : Int) := of_decide_eq_true (by first | (with_reducible assumption) | assumption)
    have q5 : a1 < (a0.size : Int) := of_decide_eq_true (by first | (with_reducible assumption) | assumption)
    have hx5 := bt_at a0 a1
    replace p5 := eq_true p5
    replace q5 := eq_true q5
    go_enter Tryd.func50, Tryd.ntmps50
    go_upto_region 5 with (fail)
    go_cut [32] (fun v32 wc => ∃ (kq : Nat) (x32_6 : Bool), v32 = .bool x32_6 ∧ Aside0 (annuletref04_Width.j0 kq a0 a1 (bt a0 a1) (wrap64 ((a0.size : Int) - a1)) x32_6 = some r) ∧ Aside0 (kq ≤ k) ∧ Drawn0 w wc)
    case first =>
     have H := HC7.out
     clear HC7
     by_cases c8 : (bt a0 a1) ≥ 194
     ·rw [if_pos c8] at H
      have c8b0 : decide (194 ≤ (bt a0 a1)) = true := decide_eq_true c8
      clear c8
      (first | rw [c8b0] | (simp only [i64_w, i32_w]; rw [c8b0]) | skip)
      by_cases c9 : (bt a0 a1) ≤ 223
      ·rw [if_pos c9] at H
       have c9b0 : decide ((bt a0 a1) ≤ 223) = true := decide_eq_true c9
       clear c9
       by_cases c10 : (wrap64 ((a0.size : Int) - a1)) > 1
       ·rw [if_pos c10] at H
        have c10b0 : decide (1 < (wrap64 ((a0.size : Int) - a1))) = true := decide_eq_true c10
        clear c10
        obtain ⟨ji11, hji11⟩ : ∃ j_ : Int, (wrap64 (a1 + 1)) = j_ := ⟨_, rfl⟩
        replace H : (if 0 ≤ (ji11) then (if (ji11) < (a0.size : Int) then ((annuletref04_tail.f (bt a0 (ji11))).bind fun t223 => (annuletref04_Width.j0 k a0 a1 (bt a0 a1) (wrap64 ((a0.size : Int) - a1)) t223)) else (none)) else (none)) = some r := by first | (rw [hji11] at H; exact H) | (simp only [hji11] at H ⊢; exact H)
        have hji11w : (IntKind.i64.wrap (a1 + 1)) = ji11 := (i64_w _).trans hji11
        by_cases c12 : 0 ≤ (ji11)
        ·rw [if_pos c12] at H
         have c12b0 : decide (0 ≤ (ji11)) = true := decide_eq_true c12
         clear c12
         by_cases c13 : (ji11) < (a0.size : Int)
         ·rw [if_pos c13] at H
          have c13b0 : decide ((ji11) < (a0.size : Int)) = true := decide_eq_true c13
          clear c13
          replace H := Option.bind_eq_some_iff.mp H
          obtain ⟨t223, A150, H⟩ := H
          replace H : (annuletref04_Width.j0 k a0 a1 (bt a0 a1) (wrap64 ((a0.size : Int) - a1)) t223) = some r := H
          have A15 := Aside0.mk A150
          clear A150
          have H' := Aside0.mk H
          clear H
          have p14 : 0 ≤ ((ji11) : Int) := of_decide_eq_true (by first | (with_reducible assumption) | assumption)
          have q14 : (ji11) < (a0.size : Int) := of_decide_eq_true (by first | (with_reducible assumption) | assumption)
          have hx14 := bt_at a0 (ji11)
          replace p14 := eq_true p14
          replace q14 := eq_true q14
          go_wp2_with (first | (go_at_call 54; (with_reducible refine (annuletref04_tail.calls (bt a0 (ji11)) t223 _ A15.out).mono ?_); rintro e w' ⟨rfl, ⟨nd, rfl⟩⟩))
          go_meet
          case rel => exact ⟨_, (t223), (by first | rfl | (simp; done) | (simp [*]; done)), H', ⟨by first | omega | exact Nat.le_refl _⟩, by repeat (first | exact Drawn0.refl _ | apply Drawn0.step)⟩
         ·rw [if_neg c13] at H
          exact absurd H (by simp)
        ·rw [if_neg c12] at H
         exact absurd H (by simp)
       ·rw [if_neg c10] at H
        have c10b0 : decide (1 < (wrap64 ((a0.size : Int) - a1))) = false := decide_eq_false c10
        clear c10
        have H' := Aside0.mk H
        clear H
        go_wp2
        go_meet
        case rel => exact ⟨_, (false), (by first | rfl | (simp; done) | (simp [*]; done)), H', ⟨by first | omega | exact Nat.le_refl _⟩, by repeat (first | exact Drawn0.refl _ | apply Drawn0.step)⟩
      ·rw [if_neg c9] at H
       have c9b0 : decide ((bt a0 a1) ≤ 223) = false := decide_eq_false c9
       clear c9
       have H' := Aside0.mk H
       clear H
       go_wp2
       go_meet
       case rel => exact ⟨_, (false), (by first | rfl | (simp; done) | (simp [*]; done)), H', ⟨by first | omega | exact Nat.le_refl _⟩, by repeat (first | exact Drawn0.refl _ | apply Drawn0.step)⟩
     ·rw [if_neg c8] at H
      have c8b0 : decide (194 ≤ (bt a0 a1)) = false := decide_eq_false c8
      clear c8
      (first | rw [c8b0] | (simp only [i64_w, i32_w]; rw [c8b0]) | skip)
      have H' := Aside0.mk H
      clear H
      go_wp2
      go_meet
      case rel => exact ⟨_, (false), (by first | rfl | (simp; done) | (simp [*]; done)), H', ⟨by first | omega | exact Nat.le_refl _⟩, by repeat (first | exact Drawn0.refl _ | apply Drawn0.step)⟩
    case rest =>
     clear HC7
     try clear c1
     try clear p1
     try clear q1
     try clear hx1
     try clear p2
     try clear c3
     try clear c3b0
     try clear c4
     try clear c4b0
     try clear c5
     try clear p5
     try clear q5
     try clear hx5
     try clear c6
     try clear c6b0
     try clear p6
     try clear c8
     try clear c8b0
     try clear c9
     try clear c9b0
     try clear c10
     try clear c10b0
     try clear c12
     try clear c12b0
     try clear c13
     try clear c13b0
     try clear p14
     try clear q14
     try clear hx14
     try clear p14
     try clear p5
     try clear q14
     try clear q5
     obtain ⟨kq, x32_6, rfl, HA, HJ6, ⟨mc6, rfl⟩⟩ := hcut
     cases kq with
     | zero => exact absurd HA.out (by simp [annuletref04_Width.j0])
     | succ kj6 =>
      have H := HA.out
      clear HA
      simp only [annuletref04_Width.j0] at H
      by_cases c16 : x32_6 = true
      ·subst c16
       have H1 : (some 2) = some r := by rw [if_pos rfl] at H; exact H
       clear H
       have H := H1
       clear H1
       obtain rfl := Option.some.inj H
       go_wp2
       all_goals go_ret
       all_goals first | (exact ⟨by first | rfl | (simp; done) | (simp [*]; done) | (refine congrArg Ending.returned ?_; show Value.string _ = Value.string _; (first | (congr 2 <;> omega) | (congr 3 <;> omega) | (congr 4 <;> omega))), by repeat (first | exact Drawn0.refl _ | apply Drawn0.step)⟩) | (exfalso; simp_all; done)
      ·replace c16 := Bool.eq_false_iff.mpr c16
       subst c16
       have H1 : (if (bt a0 a1) ≥ 224 then (if (bt a0 a1) ≤ 239 then (if (wrap64 ((a0.size : Int) - a1)) > 2 then (if 0 ≤ (wrap64 (a1 + 1)) then (if (wrap64 (a1 + 1)) < (a0.size : Int) then ((annuletref04_tail.f (bt a0 (wrap64 (a1 + 1)))).bind fun t224 => (if t224 = true then (if 0 ≤ (wrap64 (a1 + 2)) then (if (wrap64 (a1 + 2)) < (a0.size : Int) then ((annuletref04_tail.f (bt a0 (wrap64 (a1 + 2)))).bind fun t225 => (annuletref04_Width.j1 kj6 a0 a1 (bt a0 a1) (wrap64 ((a0.size : Int) - a1)) t225)) else (none)) else (none)) else (annuletref04_Width.j1 kj6 a0 a1 (bt a0 a1) (wrap64 ((a0.size : Int) - a1)) false))) else (none)) else (none)) else (annuletref04_Width.j1 kj6 a0 a1 (bt a0 a1) (wrap64 ((a0.size : Int) - a1)) false)) else (annuletref04_Width.j1 kj6 a0 a1 (bt a0 a1) (wrap64 ((a0.size : Int) - a1)) false)) else (annuletref04_Width.j1 kj6 a0 a1 (bt a0 a1) (wrap64 ((a0.size : Int) - a1)) false)) = some r := by rw [if_neg (show ¬ (false = true) by decide)] at H; exact H
       clear H
       have H := H1
       clear H1
       have HC17 := Aside0.mk H
       clear H
       go_upto_region 7 with (fail)
       go_cut [56] (fun v56 wc => ∃ (kq : Nat) (x56_16 : Bool), v56 = .bool x56_16 ∧ Aside0 (annuletref04_Width.j1 kq a0 a1 (bt a0 a1) (wrap64 ((a0.size : Int) - a1)) x56_16 = some r) ∧ Aside0 (kq ≤ kj6) ∧ Drawn0 w wc)
       case first =>
        have H := HC17.out
        clear HC17
        by_cases c18 : (bt a0 a1) ≥ 224
        ·rw [if_pos c18] at H
         have c18b0 : decide (224 ≤ (bt a0 a1)) = true := decide_eq_true c18
         clear c18
         (first | rw [c18b0] | (simp only [i64_w, i32_w]; rw [c18b0]) | skip)
         by_cases c19 : (bt a0 a1) ≤ 239
         ·rw [if_pos c19] at H
          have c19b0 : decide ((bt a0 a1) ≤ 239) = true := decide_eq_true c19
          clear c19
          by_cases c20 : (wrap64 ((a0.size : Int) - a1)) > 2
          ·rw [if_pos c20] at H
           have c20b0 : decide (2 < (wrap64 ((a0.size : Int) - a1))) = true := decide_eq_true c20
           clear c20
           obtain ⟨ji21, hji21⟩ : ∃ j_ : Int, (wrap64 (a1 + 1)) = j_ := ⟨_, rfl⟩
           replace H : (if 0 ≤ (ji21) then (if (ji21) < (a0.size : Int) then ((annuletref04_tail.f (bt a0 (ji21))).bind fun t224 => (if t224 = true then (if 0 ≤ (wrap64 (a1 + 2)) then (if (wrap64 (a1 + 2)) < (a0.size : Int) then ((annuletref04_tail.f (bt a0 (wrap64 (a1 + 2)))).bind fun t225 => (annuletref04_Width.j1 kj6 a0 a1 (bt a0 a1) (wrap64 ((a0.size : Int) - a1)) t225)) else (none)) else (none)) else (annuletref04_Width.j1 kj6 a0 a1 (bt a0 a1) (wrap64 ((a0.size : Int) - a1)) false))) else (none)) else (none)) = some r := by first | (rw [hji21] at H; exact H) | (simp only [hji21] at H ⊢; exact H)
           have hji21w : (IntKind.i64.wrap (a1 + 1)) = ji21 := (i64_w _).trans hji21
           by_cases c22 : 0 ≤ (ji21)
           ·rw [if_pos c22] at H
            have c22b0 : decide (0 ≤ (ji21)) = true := decide_eq_true c22
            clear c22
            by_cases c23 : (ji21) < (a0.size : Int)
            ·rw [if_pos c23] at H
             have c23b0 : decide ((ji21) < (a0.size : Int)) = true := decide_eq_true c23
             clear c23
             replace H := Option.bind_eq_some_iff.mp H
             obtain ⟨t224, A250, H⟩ := H
             replace H : (if t224 = true then (if 0 ≤ (wrap64 (a1 + 2)) then (if (wrap64 (a1 + 2)) < (a0.size : Int) then ((annuletref04_tail.f (bt a0 (wrap64 (a1 + 2)))).bind fun t225 => (annuletref04_Width.j1 kj6 a0 a1 (bt a0 a1) (wrap64 ((a0.size : Int) - a1)) t225)) else (none)) else (none)) else (annuletref04_Width.j1 kj6 a0 a1 (bt a0 a1) (wrap64 ((a0.size : Int) - a1)) false)) = some r := H
             have A25 := Aside0.mk A250
             clear A250
             by_cases c26 : t224 = true
             ·subst c26
              have H1 : (if 0 ≤ (wrap64 (a1 + 2)) then (if (wrap64 (a1 + 2)) < (a0.size : Int) then ((annuletref04_tail.f (bt a0 (wrap64 (a1 + 2)))).bind fun t225 => (annuletref04_Width.j1 kj6 a0 a1 (bt a0 a1) (wrap64 ((a0.size : Int) - a1)) t225)) else (none)) else (none)) = some r := by rw [if_pos rfl] at H; exact H
              clear H
              have H := H1
              clear H1
              obtain ⟨ji27, hji27⟩ : ∃ j_ : Int, (wrap64 (a1 + 2)) = j_ := ⟨_, rfl⟩
              replace H : (if 0 ≤ (ji27) then (if (ji27) < (a0.size : Int) then ((annuletref04_tail.f (bt a0 (ji27))).bind fun t225 => (annuletref04_Width.j1 kj6 a0 a1 (bt a0 a1) (wrap64 ((a0.size : Int) - a1)) t225)) else (none)) else (none)) = some r := by first | (rw [hji27] at H; exact H) | (simp only [hji27] at H ⊢; exact H)
              (try rw [hji27] at A25)
              have hji27w : (IntKind.i64.wrap (a1 + 2)) = ji27 := (i64_w _).trans hji27
              by_cases c28 : 0 ≤ (ji27)
              ·rw [if_pos c28] at H
               have c28b0 : decide (0 ≤ (ji27)) = true := decide_eq_true c28
               clear c28
               by_cases c29 : (ji27) < (a0.size : Int)
               ·rw [if_pos c29] at H
                have c29b0 : decide ((ji27) < (a0.size : Int)) = true := decide_eq_true c29
                clear c29
                replace H := Option.bind_eq_some_iff.mp H
                obtain ⟨t225, A310, H⟩ := H
                replace H : (annuletref04_Width.j1 kj6 a0 a1 (bt a0 a1) (wrap64 ((a0.size : Int) - a1)) t225) = some r := H
                have A31 := Aside0.mk A310
                clear A310
                have H' := Aside0.mk H
                clear H
                have p24 : 0 ≤ ((ji21) : Int) := of_decide_eq_true (by first | (with_reducible assumption) | assumption)
                have q24 : (ji21) < (a0.size : Int) := of_decide_eq_true (by first | (with_reducible assumption) | assumption)
                have hx24 := bt_at a0 (ji21)
                replace p24 := eq_true p24
                replace q24 := eq_true q24
                go_wp2_with (first | (go_at_call 54; (with_reducible refine (annuletref04_tail.calls (bt a0 (ji21)) true _ A25.out).mono ?_); rintro e w' ⟨rfl, ⟨nd, rfl⟩⟩; have p30 : 0 ≤ ((ji27) : Int) := of_decide_eq_true (by first | (with_reducible assumption) | assumption); have q30 : (ji27) < (a0.size : Int) := of_decide_eq_true (by first | (with_reducible assumption) | assumption); have hx30 := bt_at a0 (ji27); replace p30 := eq_true p30; replace q30 := eq_true q30) | (go_at_call 54; (with_reducible refine (annuletref04_tail.calls (bt a0 (ji27)) t225 _ A31.out).mono ?_); rintro e w' ⟨rfl, ⟨nd, rfl⟩⟩))
                go_meet
                case rel => exact ⟨_, (t225), (by first | rfl | (simp; done) | (simp [*]; done)), H', ⟨by have := HJ6.out; first | omega | exact Nat.le_refl _⟩, by repeat (first | exact Drawn0.refl _ | apply Drawn0.step)⟩
               ·rw [if_neg c29] at H
                exact absurd H (by simp)
              ·rw [if_neg c28] at H
               exact absurd H (by simp)
             ·replace c26 := Bool.eq_false_iff.mpr c26
              subst c26
              have H1 : (annuletref04_Width.j1 kj6 a0 a1 (bt a0 a1) (wrap64 ((a0.size : Int) - a1)) false) = some r := by rw [if_neg (show ¬ (false = true) by decide)] at H; exact H
              clear H
              have H := H1
              clear H1
              have H' := Aside0.mk H
              clear H
              have p24 : 0 ≤ ((ji21) : Int) := of_decide_eq_true (by first | (with_reducible assumption) | assumption)
              have q24 : (ji21) < (a0.size : Int) := of_decide_eq_true (by first | (with_reducible assumption) | assumption)
              have hx24 := bt_at a0 (ji21)
              replace p24 := eq_true p24
              replace q24 := eq_true q24
              go_wp2_with (first | (go_at_call 54; (with_reducible refine (annuletref04_tail.calls (bt a0 (ji21)) false _ A25.out).mono ?_); rintro e w' ⟨rfl, ⟨nd, rfl⟩⟩))
              go_meet
              case rel => exact ⟨_, (false), (by first | rfl | (simp; done) | (simp [*]; done)), H', ⟨by have := HJ6.out; first | omega | exact Nat.le_refl _⟩, by repeat (first | exact Drawn0.refl _ | apply Drawn0.step)⟩
            ·rw [if_neg c23] at H
             exact absurd H (by simp)
           ·rw [if_neg c22] at H
            exact absurd H (by simp)
          ·rw [if_neg c20] at H
           have c20b0 : decide (2 < (wrap64 ((a0.size : Int) - a1))) = false := decide_eq_false c20
           clear c20
           have H' := Aside0.mk H
           clear H
           go_wp2
           go_meet
           case rel => exact ⟨_, (false), (by first | rfl | (simp; done) | (simp [*]; done)), H', ⟨by have := HJ6.out; first | omega | exact Nat.le_refl _⟩, by repeat (first | exact Drawn0.refl _ | apply Drawn0.step)⟩
         ·rw [if_neg c19] at H
          have c19b0 : decide ((bt a0 a1) ≤ 239) = false := decide_eq_false c19
          clear c19
          have H' := Aside0.mk H
          clear H
          go_wp2
          go_meet
          case rel => exact ⟨_, (false), (by first | rfl | (simp; done) | (simp [*]; done)), H', ⟨by have := HJ6.out; first | omega | exact Nat.le_refl _⟩, by repeat (first | exact Drawn0.refl _ | apply Drawn0.step)⟩
        ·rw [if_neg c18] at H
         have c18b0 : decide (224 ≤ (bt a0 a1)) = false := decide_eq_false c18
         clear c18
         (first | rw [c18b0] | (simp only [i64_w, i32_w]; rw [c18b0]) | skip)
         have H' := Aside0.mk H
         clear H
         go_wp2
         go_meet
         case rel => exact ⟨_, (false), (by first | rfl | (simp; done) | (simp [*]; done)), H', ⟨by have := HJ6.out; first | omega | exact Nat.le_refl _⟩, by repeat (first | exact Drawn0.refl _ | apply Drawn0.step)⟩
       case rest =>
        clear HC17
        try clear c1
        try clear p1
        try clear q1
        try clear hx1
        try clear c2
        try clear p2
        try clear q2
        try clear hx2
        try clear c3
        try clear c3b0
        try clear p3
        try clear q3
        try clear hx3
        try clear c4
        try clear c4b0
        try clear c5
        try clear p5
        try clear q5
        try clear hx5
        try clear c6
        try clear c6b0
        try clear p6
        try clear c8
        try clear c8b0
        try clear c9
        try clear c9b0
        try clear c10
        try clear c10b0
        try clear c12
        try clear c12b0
        try clear c13
        try clear c13b0
        try clear p14
        try clear q14
        try clear hx14
        try clear c16
        try clear c18
        try clear c18b0
        try clear c19
        try clear c19b0
        try clear c20
        try clear c20b0
        try clear c22
        try clear c22b0
        try clear c23
        try clear c23b0
        try clear p24
        try clear q24
        try clear hx24
        try clear c26
        try clear c28
        try clear c28b0
        try clear c29
        try clear c29b0
        try clear p30
        try clear q30
        try clear hx30
        try clear p1
        try clear p14
        try clear p2
        try clear p24
        try clear p30
        try clear p5
        try clear p6
        try clear q1
        try clear q14
        try clear q24
        try clear q30
        try clear q5
        obtain ⟨kq, x56_16, rfl, HA, HJ16, ⟨mc16, rfl⟩⟩ := hcut
        cases kq with
        | zero => exact absurd HA.out (by simp [annuletref04_Width.j1])
        | succ kj16 =>
         have H := HA.out
         clear HA
         simp only [annuletref04_Width.j1] at H
         by_cases c32 : x56_16 = true
         ·subst c32
          have H1 : (if (bt a0 a1) = 224 then (if 0 ≤ (wrap64 (a1 + 1)) then (if (wrap64 (a1 + 1)) < (a0.size : Int) then (if (bt a0 (wrap64 (a1 + 1))) < 160 then (some 0) else (if (bt a0 a1) = 237 then (if (bt a0 (wrap64 (a1 + 1))) > 159 then (some 0) else (some 3)) else (some 3))) else (none)) else (none)) else (if (bt a0 a1) = 237 then (if 0 ≤ (wrap64 (a1 + 1)) then (if (wrap64 (a1 + 1)) < (a0.size : Int) then (if (bt a0 (wrap64 (a1 + 1))) > 159 then (some 0) else (some 3)) else (none)) else (none)) else (some 3))) = some r := by rw [if_pos rfl] at H; exact H
          clear H
          have H := H1
          clear H1
          by_cases c33 : (bt a0 a1) = 224
          ·rw [if_pos c33] at H
           have c33b0 : ((bt a0 a1) == 224) = true := beq_iff_eq.mpr c33
           have c33b1 : ((bt a0 a1) != 224) = false := bne_eq_false_iff_eq.mpr c33
           clear c33
           obtain ⟨ji34, hji34⟩ : ∃ j_ : Int, (wrap64 (a1 + 1)) = j_ := ⟨_, rfl⟩
           replace H : (if 0 ≤ (ji34) then (if (ji34) < (a0.size : Int) then (if (bt a0 (ji34)) < 160 then (some 0) else (if (bt a0 a1) = 237 then (if (bt a0 (ji34)) > 159 then (some 0) else (some 3)) else (some 3))) else (none)) else (none)) = some r := by first | (rw [hji34] at H; exact H) | (simp only [hji34] at H ⊢; exact H)
           have hji34w : (IntKind.i64.wrap (a1 + 1)) = ji34 := (i64_w _).trans hji34
           by_cases c35 : 0 ≤ (ji34)
           ·rw [if_pos c35] at H
            have c35b0 : decide (0 ≤ (ji34)) = true := decide_eq_true c35
            clear c35
            by_cases c36 : (ji34) < (a0.size : Int)
            ·rw [if_pos c36] at H
             have c36b0 : decide ((ji34) < (a0.size : Int)) = true := decide_eq_true c36
             clear c36
             by_cases c38 : (bt a0 (ji34)) < 160
             ·rw [if_pos c38] at H
              have c38b0 : decide ((bt a0 (ji34)) < 160) = true := decide_eq_true c38
              clear c38
              obtain rfl := Option.some.inj H
              have p37 : 0 ≤ ((ji34) : Int) := of_decide_eq_true (by first | (with_reducible assumption) | assumption)
              have q37 : (ji34) < (a0.size : Int) := of_decide_eq_true (by first | (with_reducible assumption) | assumption)
              have hx37 := bt_at a0 (ji34)
              replace p37 := eq_true p37
              replace q37 := eq_true q37
              go_wp2
              all_goals go_ret
              all_goals first | (exact ⟨by first | rfl | (simp; done) | (simp only [← hji34] <;> (first | rfl | (simp; done))) | (simp [*]; done) | (refine congrArg Ending.returned ?_; show Value.string _ = Value.string _; (first | (congr 2 <;> omega) | (congr 3 <;> omega) | (congr 4 <;> omega))), by repeat (first | exact Drawn0.refl _ | apply Drawn0.step)⟩) | (exfalso; simp_all; done)
             ·rw [if_neg c38] at H
              have c38b0 : decide ((bt a0 (ji34)) < 160) = false := decide_eq_false c38
              clear c38
              by_cases c39 : (bt a0 a1) = 237
              ·rw [if_pos c39] at H
               have c39b0 : ((bt a0 a1) == 237) = true := beq_iff_eq.mpr c39
               have c39b1 : ((bt a0 a1) != 237) = false := bne_eq_false_iff_eq.mpr c39
               clear c39
               by_cases c41 : (bt a0 (ji34)) > 159
               ·rw [if_pos c41] at H
                have c41b0 : decide (159 < (bt a0 (ji34))) = true := decide_eq_true c41
                clear c41
                obtain rfl := Option.some.inj H
                have p37 : 0 ≤ ((ji34) : Int) := of_decide_eq_true (by first | (with_reducible assumption) | assumption)
                have q37 : (ji34) < (a0.size : Int) := of_decide_eq_true (by first | (with_reducible assumption) | assumption)
                have hx37 := bt_at a0 (ji34)
                replace p37 := eq_true p37
                replace q37 := eq_true q37
                have p40 : 0 ≤ ((ji34) : Int) := of_decide_eq_true (by first | (with_reducible assumption) | assumption)
                have q40 : (ji34) < (a0.size : Int) := of_decide_eq_true (by first | (with_reducible assumption) | assumption)
                have hx40 := bt_at a0 (ji34)
                replace p40 := eq_true p40
                replace q40 := eq_true q40
                go_wp2
                all_goals go_ret
                all_goals first | (exact ⟨by first | rfl | (simp; done) | (simp only [← hji34] <;> (first | rfl | (simp; done))) | (simp [*]; done) | (refine congrArg Ending.returned ?_; show Value.string _ = Value.string _; (first | (congr 2 <;> omega) | (congr 3 <;> omega) | (congr 4 <;> omega))), by repeat (first | exact Drawn0.refl _ | apply Drawn0.step)⟩) | (exfalso; simp_all; done)
               ·rw [if_neg c41] at H
                have c41b0 : decide (159 < (bt a0 (ji34))) = false := decide_eq_false c41
                clear c41
                obtain rfl := Option.some.inj H
                have p37 : 0 ≤ ((ji34) : Int) := of_decide_eq_true (by first | (with_reducible assumption) | assumption)
                have q37 : (ji34) < (a0.size : Int) := of_decide_eq_true (by first | (with_reducible assumption) | assumption)
                have hx37 := bt_at a0 (ji34)
                replace p37 := eq_true p37
                replace q37 := eq_true q37
                have p40 : 0 ≤ ((ji34) : Int) := of_decide_eq_true (by first | (with_reducible assumption) | assumption)
                have q40 : (ji34) < (a0.size : Int) := of_decide_eq_true (by first | (with_reducible assumption) | assumption)
                have hx40 := bt_at a0 (ji34)
                replace p40 := eq_true p40
                replace q40 := eq_true q40
                go_wp2
                all_goals go_ret
                all_goals first | (exact ⟨by first | rfl | (simp; done) | (simp only [← hji34] <;> (first | rfl | (simp; done))) | (simp [*]; done) | (refine congrArg Ending.returned ?_; show Value.string _ = Value.string _; (first | (congr 2 <;> omega) | (congr 3 <;> omega) | (congr 4 <;> omega))), by repeat (first | exact Drawn0.refl _ | apply Drawn0.step)⟩) | (exfalso; simp_all; done)
              ·rw [if_neg c39] at H
               have c39b0 : ((bt a0 a1) == 237) = false := beq_eq_false_iff_ne.mpr c39
               have c39b1 : ((bt a0 a1) != 237) = true := bne_iff_ne.mpr c39
               obtain rfl := Option.some.inj H
               have p37 : 0 ≤ ((ji34) : Int) := of_decide_eq_true (by first | (with_reducible assumption) | assumption)
               have q37 : (ji34) < (a0.size : Int) := of_decide_eq_true (by first | (with_reducible assumption) | assumption)
               have hx37 := bt_at a0 (ji34)
               replace p37 := eq_true p37
               replace q37 := eq_true q37
               go_wp2
               all_goals go_ret
               all_goals first | (exact ⟨by first | rfl | (simp; done) | (simp only [← hji34] <;> (first | rfl | (simp; done))) | (simp [*]; done) | (refine congrArg Ending.returned ?_; show Value.string _ = Value.string _; (first | (congr 2 <;> omega) | (congr 3 <;> omega) | (congr 4 <;> omega))), by repeat (first | exact Drawn0.refl _ | apply Drawn0.step)⟩) | (exfalso; simp_all; done)
            ·rw [if_neg c36] at H
             exact absurd H (by simp)
           ·rw [if_neg c35] at H
            exact absurd H (by simp)
          ·rw [if_neg c33] at H
           have c33b0 : ((bt a0 a1) == 224) = false := beq_eq_false_iff_ne.mpr c33
           have c33b1 : ((bt a0 a1) != 224) = true := bne_iff_ne.mpr c33
           by_cases c42 : (bt a0 a1) = 237
           ·rw [if_pos c42] at H
            have c42b0 : ((bt a0 a1) == 237) = true := beq_iff_eq.mpr c42
            have c42b1 : ((bt a0 a1) != 237) = false := bne_eq_false_iff_eq.mpr c42
            clear c42
            obtain ⟨ji43, hji43⟩ : ∃ j_ : Int, (wrap64 (a1 + 1)) = j_ := ⟨_, rfl⟩
            replace H : (if 0 ≤ (ji43) then (if (ji43) < (a0.size : Int) then (if (bt a0 (ji43)) > 159 then (some 0) else (some 3)) else (none)) else (none)) = some r := by first | (rw [hji43] at H; exact H) | (simp only [hji43] at H ⊢; exact H)
            have hji43w : (IntKind.i64.wrap (a1 + 1)) = ji43 := (i64_w _).trans hji43
            by_cases c44 : 0 ≤ (ji43)
            ·rw [if_pos c44] at H
             have c44b0 : decide (0 ≤ (ji43)) = true := decide_eq_true c44
             clear c44
             by_cases c45 : (ji43) < (a0.size : Int)
             ·rw [if_pos c45] at H
              have c45b0 : decide ((ji43) < (a0.size : Int)) = true := decide_eq_true c45
              clear c45
              by_cases c47 : (bt a0 (ji43)) > 159
              ·rw [if_pos c47] at H
               have c47b0 : decide (159 < (bt a0 (ji43))) = true := decide_eq_true c47
               clear c47
               obtain rfl := Option.some.inj H
               have p46 : 0 ≤ ((ji43) : Int) := of_decide_eq_true (by first | (with_reducible assumption) | assumption)
               have q46 : (ji43) < (a0.size : Int) := of_decide_eq_true (by first | (with_reducible assumption) | assumption)
               have hx46 := bt_at a0 (ji43)
               replace p46 := eq_true p46
               replace q46 := eq_true q46
               go_wp2
               all_goals go_ret
               all_goals first | (exact ⟨by first | rfl | (simp; done) | (simp only [← hji43] <;> (first | rfl | (simp; done))) | (simp [*]; done) | (refine congrArg Ending.returned ?_; show Value.string _ = Value.string _; (first | (congr 2 <;> omega) | (congr 3 <;> omega) | (congr 4 <;> omega))), by repeat (first | exact Drawn0.refl _ | apply Drawn0.step)⟩) | (exfalso; simp_all; done)
              ·rw [if_neg c47] at H
               have c47b0 : decide (159 < (bt a0 (ji43))) = false := decide_eq_false c47
               clear c47
               obtain rfl := Option.some.inj H
               have p46 : 0 ≤ ((ji43) : Int) := of_decide_eq_true (by first | (with_reducible assumption) | assumption)
               have q46 : (ji43) < (a0.size : Int) := of_decide_eq_true (by first | (with_reducible assumption) | assumption)
               have hx46 := bt_at a0 (ji43)
               replace p46 := eq_true p46
               replace q46 := eq_true q46
               go_wp2
               all_goals go_ret
               all_goals first | (exact ⟨by first | rfl | (simp; done) | (simp only [← hji43] <;> (first | rfl | (simp; done))) | (simp [*]; done) | (refine congrArg Ending.returned ?_; show Value.string _ = Value.string _; (first | (congr 2 <;> omega) | (congr 3 <;> omega) | (congr 4 <;> omega))), by repeat (first | exact Drawn0.refl _ | apply Drawn0.step)⟩) | (exfalso; simp_all; done)
             ·rw [if_neg c45] at H
              exact absurd H (by simp)
            ·rw [if_neg c44] at H
             exact absurd H (by simp)
           ·rw [if_neg c42] at H
            have c42b0 : ((bt a0 a1) == 237) = false := beq_eq_false_iff_ne.mpr c42
            have c42b1 : ((bt a0 a1) != 237) = true := bne_iff_ne.mpr c42
            obtain rfl := Option.some.inj H
            go_wp2
            all_goals go_ret
            all_goals first | (exact ⟨by first | rfl | (simp; done) | (simp [*]; done) | (refine congrArg Ending.returned ?_; show Value.string _ = Value.string _; (first | (congr 2 <;> omega) | (congr 3 <;> omega) | (congr 4 <;> omega))), by repeat (first | exact Drawn0.refl _ | apply Drawn0.step)⟩) | (exfalso; simp_all; done)
         ·replace c32 := Bool.eq_false_iff.mpr c32
          subst c32
          have H1 : (if (bt a0 a1) ≥ 240 then (if (bt a0 a1) ≤ 244 then (if (wrap64 ((a0.size : Int) - a1)) > 3 then (if 0 ≤ (wrap64 (a1 + 1)) then (if (wrap64 (a1 + 1)) < (a0.size : Int) then ((annuletref04_tail.f (bt a0 (wrap64 (a1 + 1)))).bind fun t226 => (if t226 = true then (if 0 ≤ (wrap64 (a1 + 2)) then (if (wrap64 (a1 + 2)) < (a0.size : Int) then ((annuletref04_tail.f (bt a0 (wrap64 (a1 + 2)))).bind fun t227 => (if t227 = true then (if 0 ≤ (wrap64 (a1 + 3)) then (if (wrap64 (a1 + 3)) < (a0.size : Int) then ((annuletref04_tail.f (bt a0 (wrap64 (a1 + 3)))).bind fun t228 => (annuletref04_Width.j2 kj16 a0 a1 (bt a0 a1) t228)) else (none)) else (none)) else (annuletref04_Width.j2 kj16 a0 a1 (bt a0 a1) false))) else (none)) else (none)) else (annuletref04_Width.j2 kj16 a0 a1 (bt a0 a1) false))) else (none)) else (none)) else (annuletref04_Width.j2 kj16 a0 a1 (bt a0 a1) false)) else (annuletref04_Width.j2 kj16 a0 a1 (bt a0 a1) false)) else (annuletref04_Width.j2 kj16 a0 a1 (bt a0 a1) false)) = some r := by rw [if_neg (show ¬ (false = true) by decide)] at H; exact H
          clear H
          have H := H1
          clear H1
          have HC48 := Aside0.mk H
          clear H
          go_upto_region 11 with (fail)
          go_cut [107] (fun v107 wc => ∃ (kq : Nat) (x107_47 : Bool), v107 = .bool x107_47 ∧ Aside0 (annuletref04_Width.j2 kq a0 a1 (bt a0 a1) x107_47 = some r) ∧ Aside0 (kq ≤ kj16) ∧ Drawn0 w wc)
          case first =>
           have H := HC48.out
           clear HC48
           by_cases c49 : (bt a0 a1) ≥ 240
           ·rw [if_pos c49] at H
            have c49b0 : decide (240 ≤ (bt a0 a1)) = true := decide_eq_true c49
            clear c49
            (first | rw [c49b0] | (simp only [i64_w, i32_w]; rw [c49b0]) | skip)
            by_cases c50 : (bt a0 a1) ≤ 244
            ·rw [if_pos c50] at H
             have c50b0 : decide ((bt a0 a1) ≤ 244) = true := decide_eq_true c50
             clear c50
             by_cases c51 : (wrap64 ((a0.size : Int) - a1)) > 3
             ·rw [if_pos c51] at H
              have c51b0 : decide (3 < (wrap64 ((a0.size : Int) - a1))) = true := decide_eq_true c51
              clear c51
              obtain ⟨ji52, hji52⟩ : ∃ j_ : Int, (wrap64 (a1 + 1)) = j_ := ⟨_, rfl⟩
              replace H : (if 0 ≤ (ji52) then (if (ji52) < (a0.size : Int) then ((annuletref04_tail.f (bt a0 (ji52))).bind fun t226 => (if t226 = true then (if 0 ≤ (wrap64 (a1 + 2)) then (if (wrap64 (a1 + 2)) < (a0.size : Int) then ((annuletref04_tail.f (bt a0 (wrap64 (a1 + 2)))).bind fun t227 => (if t227 = true then (if 0 ≤ (wrap64 (a1 + 3)) then (if (wrap64 (a1 + 3)) < (a0.size : Int) then ((annuletref04_tail.f (bt a0 (wrap64 (a1 + 3)))).bind fun t228 => (annuletref04_Width.j2 kj16 a0 a1 (bt a0 a1) t228)) else (none)) else (none)) else (annuletref04_Width.j2 kj16 a0 a1 (bt a0 a1) false))) else (none)) else (none)) else (annuletref04_Width.j2 kj16 a0 a1 (bt a0 a1) false))) else (none)) else (none)) = some r := by first | (rw [hji52] at H; exact H) | (simp only [hji52] at H ⊢; exact H)
              have hji52w : (IntKind.i64.wrap (a1 + 1)) = ji52 := (i64_w _).trans hji52
              by_cases c53 : 0 ≤ (ji52)
              ·rw [if_pos c53] at H
               have c53b0 : decide (0 ≤ (ji52)) = true := decide_eq_true c53
               clear c53
               by_cases c54 : (ji52) < (a0.size : Int)
               ·rw [if_pos c54] at H
                have c54b0 : decide ((ji52) < (a0.size : Int)) = true := decide_eq_true c54
                clear c54
                replace H := Option.bind_eq_some_iff.mp H
                obtain ⟨t226, A560, H⟩ := H
                replace H : (if t226 = true then (if 0 ≤ (wrap64 (a1 + 2)) then (if (wrap64 (a1 + 2)) < (a0.size : Int) then ((annuletref04_tail.f (bt a0 (wrap64 (a1 + 2)))).bind fun t227 => (if t227 = true then (if 0 ≤ (wrap64 (a1 + 3)) then (if (wrap64 (a1 + 3)) < (a0.size : Int) then ((annuletref04_tail.f (bt a0 (wrap64 (a1 + 3)))).bind fun t228 => (annuletref04_Width.j2 kj16 a0 a1 (bt a0 a1) t228)) else (none)) else (none)) else (annuletref04_Width.j2 kj16 a0 a1 (bt a0 a1) false))) else (none)) else (none)) else (annuletref04_Width.j2 kj16 a0 a1 (bt a0 a1) false)) = some r := H
                have A56 := Aside0.mk A560
                clear A560
                by_cases c57 : t226 = true
                ·subst c57
                 have H1 : (if 0 ≤ (wrap64 (a1 + 2)) then (if (wrap64 (a1 + 2)) < (a0.size : Int) then ((annuletref04_tail.f (bt a0 (wrap64 (a1 + 2)))).bind fun t227 => (if t227 = true then (if 0 ≤ (wrap64 (a1 + 3)) then (if (wrap64 (a1 + 3)) < (a0.size : Int) then ((annuletref04_tail.f (bt a0 (wrap64 (a1 + 3)))).bind fun t228 => (annuletref04_Width.j2 kj16 a0 a1 (bt a0 a1) t228)) else (none)) else (none)) else (annuletref04_Width.j2 kj16 a0 a1 (bt a0 a1) false))) else (none)) else (none)) = some r := by rw [if_pos rfl] at H; exact H
                 clear H
                 have H := H1
                 clear H1
                 obtain ⟨ji58, hji58⟩ : ∃ j_ : Int, (wrap64 (a1 + 2)) = j_ := ⟨_, rfl⟩
                 replace H : (if 0 ≤ (ji58) then (if (ji58) < (a0.size : Int) then ((annuletref04_tail.f (bt a0 (ji58))).bind fun t227 => (if t227 = true then (if 0 ≤ (wrap64 (a1 + 3)) then (if (wrap64 (a1 + 3)) < (a0.size : Int) then ((annuletref04_tail.f (bt a0 (wrap64 (a1 + 3)))).bind fun t228 => (annuletref04_Width.j2 kj16 a0 a1 (bt a0 a1) t228)) else (none)) else (none)) else (annuletref04_Width.j2 kj16 a0 a1 (bt a0 a1) false))) else (none)) else (none)) = some r := by first | (rw [hji58] at H; exact H) | (simp only [hji58] at H ⊢; exact H)
                 (try rw [hji58] at A56)
                 have hji58w : (IntKind.i64.wrap (a1 + 2)) = ji58 := (i64_w _).trans hji58
                 by_cases c59 : 0 ≤ (ji58)
                 ·rw [if_pos c59] at H
                  have c59b0 : decide (0 ≤ (ji58)) = true := decide_eq_true c59
                  clear c59
                  by_cases c60 : (ji58) < (a0.size : Int)
                  ·rw [if_pos c60] at H
                   have c60b0 : decide ((ji58) < (a0.size : Int)) = true := decide_eq_true c60
                   clear c60
                   replace H := Option.bind_eq_some_iff.mp H
                   obtain ⟨t227, A620, H⟩ := H
                   replace H : (if t227 = true then (if 0 ≤ (wrap64 (a1 + 3)) then (if (wrap64 (a1 + 3)) < (a0.size : Int) then ((annuletref04_tail.f (bt a0 (wrap64 (a1 + 3)))).bind fun t228 => (annuletref04_Width.j2 kj16 a0 a1 (bt a0 a1) t228)) else (none)) else (none)) else (annuletref04_Width.j2 kj16 a0 a1 (bt a0 a1) false)) = some r := H
                   have A62 := Aside0.mk A620
                   clear A620
                   by_cases c63 : t227 = true
                   ·subst c63
                    have H1 : (if 0 ≤ (wrap64 (a1 + 3)) then (if (wrap64 (a1 + 3)) < (a0.size : Int) then ((annuletref04_tail.f (bt a0 (wrap64 (a1 + 3)))).bind fun t228 => (annuletref04_Width.j2 kj16 a0 a1 (bt a0 a1) t228)) else (none)) else (none)) = some r := by rw [if_pos rfl] at H; exact H
                    clear H
                    have H := H1
                    clear H1
                    obtain ⟨ji64, hji64⟩ : ∃ j_ : Int, (wrap64 (a1 + 3)) = j_ := ⟨_, rfl⟩
                    replace H : (if 0 ≤ (ji64) then (if (ji64) < (a0.size : Int) then ((annuletref04_tail.f (bt a0 (ji64))).bind fun t228 => (annuletref04_Width.j2 kj16 a0 a1 (bt a0 a1) t228)) else (none)) else (none)) = some r := by first | (rw [hji64] at H; exact H) | (simp only [hji64] at H ⊢; exact H)
                    (try rw [hji64] at A56)
                    (try rw [hji64] at A62)
                    have hji64w : (IntKind.i64.wrap (a1 + 3)) = ji64 := (i64_w _).trans hji64
                    by_cases c65 : 0 ≤ (ji64)
                    ·rw [if_pos c65] at H
                     have c65b0 : decide (0 ≤ (ji64)) = true := decide_eq_true c65
                     clear c65
                     by_cases c66 : (ji64) < (a0.size : Int)
                     ·rw [if_pos c66] at H
                      have c66b0 : decide ((ji64) < (a0.size : Int)) = true := decide_eq_true c66
                      clear c66
                      replace H := Option.bind_eq_some_iff.mp H
                      obtain ⟨t228, A680, H⟩ := H
                      replace H : (annuletref04_Width.j2 kj16 a0 a1 (bt a0 a1) t228) = some r := H
                      have A68 := Aside0.mk A680
                      clear A680
                      have H' := Aside0.mk H
                      clear H
                      have p55 : 0 ≤ ((ji52) : Int) := of_decide_eq_true (by first | (with_reducible assumption) | assumption)
                      have q55 : (ji52) < (a0.size : Int) := of_decide_eq_true (by first | (with_reducible assumption) | assumption)
                      have hx55 := bt_at a0 (ji52)
                      replace p55 := eq_true p55
                      replace q55 := eq_true q55
                      go_wp2_with (first | (go_at_call 54; (with_reducible refine (annuletref04_tail.calls (bt a0 (ji52)) true _ A56.out).mono ?_); rintro e w' ⟨rfl, ⟨nd, rfl⟩⟩; have p61 : 0 ≤ ((ji58) : Int) := of_decide_eq_true (by first | (with_reducible assumption) | assumption); have q61 : (ji58) < (a0.size : Int) := of_decide_eq_true (by first | (with_reducible assumption) | assumption); have hx61 := bt_at a0 (ji58); replace p61 := eq_true p61; replace q61 := eq_true q61) | (go_at_call 54; (with_reducible refine (annuletref04_tail.calls (bt a0 (ji58)) true _ A62.out).mono ?_); rintro e w' ⟨rfl, ⟨nd, rfl⟩⟩; have p67 : 0 ≤ ((ji64) : Int) := of_decide_eq_true (by first | (with_reducible assumption) | assumption); have q67 : (ji64) < (a0.size : Int) := of_decide_eq_true (by first | (with_reducible assumption) | assumption); have hx67 := bt_at a0 (ji64); replace p67 := eq_true p67; replace q67 := eq_true q67) | (go_at_call 54; (with_reducible refine (annuletref04_tail.calls (bt a0 (ji64)) t228 _ A68.out).mono ?_); rintro e w' ⟨rfl, ⟨nd, rfl⟩⟩))
                      go_meet
                      case rel => exact ⟨_, (t228), (by first | rfl | (simp; done) | (simp [*]; done)), H', ⟨by have := HJ6.out; have := HJ16.out; first | omega | exact Nat.le_refl _⟩, by repeat (first | exact Drawn0.refl _ | apply Drawn0.step)⟩
                     ·rw [if_neg c66] at H
                      exact absurd H (by simp)
                    ·rw [if_neg c65] at H
                     exact absurd H (by simp)
                   ·replace c63 := Bool.eq_false_iff.mpr c63
                    subst c63
                    have H1 : (annuletref04_Width.j2 kj16 a0 a1 (bt a0 a1) false) = some r := by rw [if_neg (show ¬ (false = true) by decide)] at H; exact H
                    clear H
                    have H := H1
                    clear H1
                    have H' := Aside0.mk H
                    clear H
                    have p55 : 0 ≤ ((ji52) : Int) := of_decide_eq_true (by first | (with_reducible assumption) | assumption)
                    have q55 : (ji52) < (a0.size : Int) := of_decide_eq_true (by first | (with_reducible assumption) | assumption)
                    have hx55 := bt_at a0 (ji52)
                    replace p55 := eq_true p55
                    replace q55 := eq_true q55
                    go_wp2_with (first | (go_at_call 54; (with_reducible refine (annuletref04_tail.calls (bt a0 (ji52)) true _ A56.out).mono ?_); rintro e w' ⟨rfl, ⟨nd, rfl⟩⟩; have p61 : 0 ≤ ((ji58) : Int) := of_decide_eq_true (by first | (with_reducible assumption) | assumption); have q61 : (ji58) < (a0.size : Int) := of_decide_eq_true (by first | (with_reducible assumption) | assumption); have hx61 := bt_at a0 (ji58); replace p61 := eq_true p61; replace q61 := eq_true q61) | (go_at_call 54; (with_reducible refine (annuletref04_tail.calls (bt a0 (ji58)) false _ A62.out).mono ?_); rintro e w' ⟨rfl, ⟨nd, rfl⟩⟩))
                    go_meet
                    case rel => exact ⟨_, (false), (by first | rfl | (simp; done) | (simp [*]; done)), H', ⟨by have := HJ6.out; have := HJ16.out; first | omega | exact Nat.le_refl _⟩, by repeat (first | exact Drawn0.refl _ | apply Drawn0.step)⟩
                  ·rw [if_neg c60] at H
                   exact absurd H (by simp)
                 ·rw [if_neg c59] at H
                  exact absurd H (by simp)
                ·replace c57 := Bool.eq_false_iff.mpr c57
                 subst c57
                 have H1 : (annuletref04_Width.j2 kj16 a0 a1 (bt a0 a1) false) = some r := by rw [if_neg (show ¬ (false = true) by decide)] at H; exact H
                 clear H
                 have H := H1
                 clear H1
                 have H' := Aside0.mk H
                 clear H
                 have p55 : 0 ≤ ((ji52) : Int) := of_decide_eq_true (by first | (with_reducible assumption) | assumption)
                 have q55 : (ji52) < (a0.size : Int) := of_decide_eq_true (by first | (with_reducible assumption) | assumption)
                 have hx55 := bt_at a0 (ji52)
                 replace p55 := eq_true p55
                 replace q55 := eq_true q55
                 go_wp2_with (first | (go_at_call 54; (with_reducible refine (annuletref04_tail.calls (bt a0 (ji52)) false _ A56.out).mono ?_); rintro e w' ⟨rfl, ⟨nd, rfl⟩⟩))
                 go_meet
                 case rel => exact ⟨_, (false), (by first | rfl | (simp; done) | (simp [*]; done)), H', ⟨by have := HJ6.out; have := HJ16.out; first | omega | exact Nat.le_refl _⟩, by repeat (first | exact Drawn0.refl _ | apply Drawn0.step)⟩
               ·rw [if_neg c54] at H
                exact absurd H (by simp)
              ·rw [if_neg c53] at H
               exact absurd H (by simp)
             ·rw [if_neg c51] at H
              have c51b0 : decide (3 < (wrap64 ((a0.size : Int) - a1))) = false := decide_eq_false c51
              clear c51
              have H' := Aside0.mk H
              clear H
              go_wp2
              go_meet
              case rel => exact ⟨_, (false), (by first | rfl | (simp; done) | (simp [*]; done)), H', ⟨by have := HJ6.out; have := HJ16.out; first | omega | exact Nat.le_refl _⟩, by repeat (first | exact Drawn0.refl _ | apply Drawn0.step)⟩
            ·rw [if_neg c50] at H
             have c50b0 : decide ((bt a0 a1) ≤ 244) = false := decide_eq_false c50
             clear c50
             have H' := Aside0.mk H
             clear H
             go_wp2
             go_meet
             case rel => exact ⟨_, (false), (by first | rfl | (simp; done) | (simp [*]; done)), H', ⟨by have := HJ6.out; have := HJ16.out; first | omega | exact Nat.le_refl _⟩, by repeat (first | exact Drawn0.refl _ | apply Drawn0.step)⟩
           ·rw [if_neg c49] at H
            have c49b0 : decide (240 ≤ (bt a0 a1)) = false := decide_eq_false c49
            clear c49
            (first | rw [c49b0] | (simp only [i64_w, i32_w]; rw [c49b0]) | skip)
            have H' := Aside0.mk H
            clear H
            go_wp2
            go_meet
            case rel => exact ⟨_, (false), (by first | rfl | (simp; done) | (simp [*]; done)), H', ⟨by have := HJ6.out; have := HJ16.out; first | omega | exact Nat.le_refl _⟩, by repeat (first | exact Drawn0.refl _ | apply Drawn0.step)⟩
          case rest =>
           clear HC48
           try clear c1
           try clear p1
           try clear q1
           try clear hx1
           try clear c2
           try clear p2
           try clear q2
           try clear hx2
           try clear c3
           try clear c3b0
           try clear p3
           try clear q3
           try clear hx3
           try clear c4
           try clear c4b0
           try clear p4
           try clear q4
           try clear hx4
           try clear c5
           try clear p5
           try clear q5
           try clear hx5
           try clear c6
           try clear c6b0
           try clear p6
           try clear q6
           try clear hx6
           try clear c8
           try clear c8b0
           try clear c9
           try clear c9b0
           try clear c10
           try clear c10b0
           try clear c12
           try clear c12b0
           try clear c13
           try clear c13b0
           try clear p14
           try clear q14
           try clear hx14
           try clear c16
           try clear c18
           try clear c18b0
           try clear c19
           try clear c19b0
           try clear c20
           try clear c20b0
           try clear c22
           try clear c22b0
           try clear c23
           try clear c23b0
           try clear p24
           try clear q24
           try clear hx24
           try clear c26
           try clear c28
           try clear c28b0
           try clear c29
           try clear c29b0
           try clear p30
           try clear q30
           try clear hx30
           try clear c32
           try clear c33
           try clear c33b0
           try clear c33b1
           try clear c35
           try clear c35b0
           try clear c36
           try clear c36b0
           try clear p37
           try clear q37
           try clear hx37
           try clear c38
           try clear c38b0
           try clear c39
           try clear c39b0
           try clear c39b1
           try clear p40
           try clear q40
           try clear hx40
           try clear c41
           try clear c41b0
           try clear c42
           try clear c42b0
           try clear c42b1
           try clear c44
           try clear c44b0
           try clear c45
           try clear c45b0
           try clear p46
           try clear q46
           try clear hx46
           try clear c47
           try clear c47b0
           try clear c49
           try clear c49b0
           try clear c50
           try clear c50b0
           try clear c51
           try clear c51b0
           try clear c53
           try clear c53b0
           try clear c54
           try clear c54b0
           try clear p55
           try clear q55
           try clear hx55
           try clear c57
           try clear c59
           try clear c59b0
           try clear c60
           try clear c60b0
           try clear p61
           try clear q61
           try clear hx61
           try clear c63
           try clear p64
           try clear c65
           try clear c65b0
           try clear c66
           try clear c66b0
           try clear p67
           try clear q67
           try clear hx67
           try clear p1
           try clear p14
           try clear p2
           try clear p24
           try clear p3
           try clear p30
           try clear p37
           try clear p40
           try clear p46
           try clear p5
           try clear p55
           try clear p6
           try clear p61
           try clear p67
           try clear q1
           try clear q14
           try clear q2
           try clear q24
           try clear q3
           try clear q30
           try clear q37
           try clear q40
           try clear q46
           try clear q5
           try clear q55
           try clear q61
           try clear q67
           obtain ⟨kq, x107_47, rfl, HA, HJ47, ⟨mc47, rfl⟩⟩ := hcut
           cases kq with
           | zero => exact absurd HA.out (by simp [annuletref04_Width.j2])
           | succ kj47 =>
            have H := HA.out
            clear HA
            simp only [annuletref04_Width.j2] at H
            by_cases c69 : x107_47 = true
            ·subst c69
             have H1 : (if (bt a0 a1) = 240 then (if 0 ≤ (wrap64 (a1 + 1)) then (if (wrap64 (a1 + 1)) < (a0.size : Int) then (if (bt a0 (wrap64 (a1 + 1))) < 144 then (some 0) else (if (bt a0 a1) = 244 then (if (bt a0 (wrap64 (a1 + 1))) > 143 then (some 0) else (some 4)) else (some 4))) else (none)) else (none)) else (if (bt a0 a1) = 244 then (if 0 ≤ (wrap64 (a1 + 1)) then (if (wrap64 (a1 + 1)) < (a0.size : Int) then (if (bt a0 (wrap64 (a1 + 1))) > 143 then (some 0) else (some 4)) else (none)) else (none)) else (some 4))) = some r := by rw [if_pos rfl] at H; exact H
             clear H
             have H := H1
             clear H1
             by_cases c70 : (bt a0 a1) = 240
             ·rw [if_pos c70] at H
              have c70b0 : ((bt a0 a1) == 240) = true := beq_iff_eq.mpr c70
              have c70b1 : ((bt a0 a1) != 240) = false := bne_eq_false_iff_eq.mpr c70
              clear c70
              obtain ⟨ji71, hji71⟩ : ∃ j_ : Int, (wrap64 (a1 + 1)) = j_ := ⟨_, rfl⟩
              replace H : (if 0 ≤ (ji71) then (if (ji71) < (a0.size : Int) then (if (bt a0 (ji71)) < 144 then (some 0) else (if (bt a0 a1) = 244 then (if (bt a0 (ji71)) > 143 then (some 0) else (some 4)) else (some 4))) else (none)) else (none)) = some r := by first | (rw [hji71] at H; exact H) | (simp only [hji71] at H ⊢; exact H)
              have hji71w : (IntKind.i64.wrap (a1 + 1)) = ji71 := (i64_w _).trans hji71
              by_cases c72 : 0 ≤ (ji71)
              ·rw [if_pos c72] at H
               have c72b0 : decide (0 ≤ (ji71)) = true := decide_eq_true c72
               clear c72
               by_cases c73 : (ji71) < (a0.size : Int)
               ·rw [if_pos c73] at H
                have c73b0 : decide ((ji71) < (a0.size : Int)) = true := decide_eq_true c73
                clear c73
                by_cases c75 : (bt a0 (ji71)) < 144
                ·rw [if_pos c75] at H
                 have c75b0 : decide ((bt a0 (ji71)) < 144) = true := decide_eq_true c75
                 clear c75
                 obtain rfl := Option.some.inj H
                 have p74 : 0 ≤ ((ji71) : Int) := of_decide_eq_true (by first | (with_reducible assumption) | assumption)
                 have q74 : (ji71) < (a0.size : Int) := of_decide_eq_true (by first | (with_reducible assumption) | assumption)
                 have hx74 := bt_at a0 (ji71)
                 replace p74 := eq_true p74
                 replace q74 := eq_true q74
                 go_wp2
                 all_goals go_ret
                 all_goals first | (exact ⟨by first | rfl | (simp; done) | (simp only [← hji71] <;> (first | rfl | (simp; done))) | (simp [*]; done) | (refine congrArg Ending.returned ?_; show Value.string _ = Value.string _; (first | (congr 2 <;> omega) | (congr 3 <;> omega) | (congr 4 <;> omega))), by repeat (first | exact Drawn0.refl _ | apply Drawn0.step)⟩) | (exfalso; simp_all; done)
                ·rw [if_neg c75] at H
                 have c75b0 : decide ((bt a0 (ji71)) < 144) = false := decide_eq_false c75
                 clear c75
                 by_cases c76 : (bt a0 a1) = 244
                 ·rw [if_pos c76] at H
                  have c76b0 : ((bt a0 a1) == 244) = true := beq_iff_eq.mpr c76
                  have c76b1 : ((bt a0 a1) != 244) = false := bne_eq_false_iff_eq.mpr c76
                  clear c76
                  by_cases c78 : (bt a0 (ji71)) > 143
                  ·rw [if_pos c78] at H
                   have c78b0 : decide (143 < (bt a0 (ji71))) = true := decide_eq_true c78
                   clear c78
                   obtain rfl := Option.some.inj H
                   have p74 : 0 ≤ ((ji71) : Int) := of_decide_eq_true (by first | (with_reducible assumption) | assumption)
                   have q74 : (ji71) < (a0.size : Int) := of_decide_eq_true (by first | (with_reducible assumption) | assumption)
                   have hx74 := bt_at a0 (ji71)
                   replace p74 := eq_true p74
                   replace q74 := eq_true q74
                   have p77 : 0 ≤ ((ji71) : Int) := of_decide_eq_true (by first | (with_reducible assumption) | assumption)
                   have q77 : (ji71) < (a0.size : Int) := of_decide_eq_true (by first | (with_reducible assumption) | assumption)
                   have hx77 := bt_at a0 (ji71)
                   replace p77 := eq_true p77
                   replace q77 := eq_true q77
                   go_wp2
                   all_goals go_ret
                   all_goals first | (exact ⟨by first | rfl | (simp; done) | (simp only [← hji71] <;> (first | rfl | (simp; done))) | (simp [*]; done) | (refine congrArg Ending.returned ?_; show Value.string _ = Value.string _; (first | (congr 2 <;> omega) | (congr 3 <;> omega) | (congr 4 <;> omega))), by repeat (first | exact Drawn0.refl _ | apply Drawn0.step)⟩) | (exfalso; simp_all; done)
                  ·rw [if_neg c78] at H
                   have c78b0 : decide (143 < (bt a0 (ji71))) = false := decide_eq_false c78
                   clear c78
                   obtain rfl := Option.some.inj H
                   have p74 : 0 ≤ ((ji71) : Int) := of_decide_eq_true (by first | (with_reducible assumption) | assumption)
                   have q74 : (ji71) < (a0.size : Int) := of_decide_eq_true (by first | (with_reducible assumption) | assumption)
                   have hx74 := bt_at a0 (ji71)
                   replace p74 := eq_true p74
                   replace q74 := eq_true q74
                   have p77 : 0 ≤ ((ji71) : Int) := of_decide_eq_true (by first | (with_reducible assumption) | assumption)
                   have q77 : (ji71) < (a0.size : Int) := of_decide_eq_true (by first | (with_reducible assumption) | assumption)
                   have hx77 := bt_at a0 (ji71)
                   replace p77 := eq_true p77
                   replace q77 := eq_true q77
                   go_wp2
                   all_goals go_ret
                   all_goals first | (exact ⟨by first | rfl | (simp; done) | (simp only [← hji71] <;> (first | rfl | (simp; done))) | (simp [*]; done) | (refine congrArg Ending.returned ?_; show Value.string _ = Value.string _; (first | (congr 2 <;> omega) | (congr 3 <;> omega) | (congr 4 <;> omega))), by repeat (first | exact Drawn0.refl _ | apply Drawn0.step)⟩) | (exfalso; simp_all; done)
                 ·rw [if_neg c76] at H
                  have c76b0 : ((bt a0 a1) == 244) = false := beq_eq_false_iff_ne.mpr c76
                  have c76b1 : ((bt a0 a1) != 244) = true := bne_iff_ne.mpr c76
                  obtain rfl := Option.some.inj H
                  have p74 : 0 ≤ ((ji71) : Int) := of_decide_eq_true (by first | (with_reducible assumption) | assumption)
                  have q74 : (ji71) < (a0.size : Int) := of_decide_eq_true (by first | (with_reducible assumption) | assumption)
                  have hx74 := bt_at a0 (ji71)
                  replace p74 := eq_true p74
                  replace q74 := eq_true q74
                  go_wp2
                  all_goals go_ret
                  all_goals first | (exact ⟨by first | rfl | (simp; done) | (simp only [← hji71] <;> (first | rfl | (simp; done))) | (simp [*]; done) | (refine congrArg Ending.returned ?_; show Value.string _ = Value.string _; (first | (congr 2 <;> omega) | (congr 3 <;> omega) | (congr 4 <;> omega))), by repeat (first | exact Drawn0.refl _ | apply Drawn0.step)⟩) | (exfalso; simp_all; done)
               ·rw [if_neg c73] at H
                exact absurd H (by simp)
              ·rw [if_neg c72] at H
               exact absurd H (by simp)
             ·rw [if_neg c70] at H
              have c70b0 : ((bt a0 a1) == 240) = false := beq_eq_false_iff_ne.mpr c70
              have c70b1 : ((bt a0 a1) != 240) = true := bne_iff_ne.mpr c70
              by_cases c79 : (bt a0 a1) = 244
              ·rw [if_pos c79] at H
               have c79b0 : ((bt a0 a1) == 244) = true := beq_iff_eq.mpr c79
               have c79b1 : ((bt a0 a1) != 244) = false := bne_eq_false_iff_eq.mpr c79
               clear c79
               obtain ⟨ji80, hji80⟩ : ∃ j_ : Int, (wrap64 (a1 + 1)) = j_ := ⟨_, rfl⟩
               replace H : (if 0 ≤ (ji80) then (if (ji80) < (a0.size : Int) then (if (bt a0 (ji80)) > 143 then (some 0) else (some 4)) else (none)) else (none)) = some r := by first | (rw [hji80] at H; exact H) | (simp only [hji80] at H ⊢; exact H)
               have hji80w : (IntKind.i64.wrap (a1 + 1)) = ji80 := (i64_w _).trans hji80
               by_cases c81 : 0 ≤ (ji80)
               ·rw [if_pos c81] at H
                have c81b0 : decide (0 ≤ (ji80)) = true := decide_eq_true c81
                clear c81
                by_cases c82 : (ji80) < (a0.size : Int)
                ·rw [if_pos c82] at H
                 have c82b0 : decide ((ji80) < (a0.size : Int)) = true := decide_eq_true c82
                 clear c82
                 by_cases c84 : (bt a0 (ji80)) > 143
                 ·rw [if_pos c84] at H
                  have c84b0 : decide (143 < (bt a0 (ji80))) = true := decide_eq_true c84
                  clear c84
                  obtain rfl := Option.some.inj H
                  have p83 : 0 ≤ ((ji80) : Int) := of_decide_eq_true (by first | (with_reducible assumption) | assumption)
                  have q83 : (ji80) < (a0.size : Int) := of_decide_eq_true (by first | (with_reducible assumption) | assumption)
                  have hx83 := bt_at a0 (ji80)
                  replace p83 := eq_true p83
                  replace q83 := eq_true q83
                  go_wp2
                  all_goals go_ret
                  all_goals first | (exact ⟨by first | rfl | (simp; done) | (simp only [← hji80] <;> (first | rfl | (simp; done))) | (simp [*]; done) | (refine congrArg Ending.returned ?_; show Value.string _ = Value.string _; (first | (congr 2 <;> omega) | (congr 3 <;> omega) | (congr 4 <;> omega))), by repeat (first | exact Drawn0.refl _ | apply Drawn0.step)⟩) | (exfalso; simp_all; done)
                 ·rw [if_neg c84] at H
                  have c84b0 : decide (143 < (bt a0 (ji80))) = false := decide_eq_false c84
                  clear c84
                  obtain rfl := Option.some.inj H
                  have p83 : 0 ≤ ((ji80) : Int) := of_decide_eq_true (by first | (with_reducible assumption) | assumption)
                  have q83 : (ji80) < (a0.size : Int) := of_decide_eq_true (by first | (with_reducible assumption) | assumption)
                  have hx83 := bt_at a0 (ji80)
                  replace p83 := eq_true p83
                  replace q83 := eq_true q83
                  go_wp2
                  all_goals go_ret
                  all_goals first | (exact ⟨by first | rfl | (simp; done) | (simp only [← hji80] <;> (first | rfl | (simp; done))) | (simp [*]; done) | (refine congrArg Ending.returned ?_; show Value.string _ = Value.string _; (first | (congr 2 <;> omega) | (congr 3 <;> omega) | (congr 4 <;> omega))), by repeat (first | exact Drawn0.refl _ | apply Drawn0.step)⟩) | (exfalso; simp_all; done)
                ·rw [if_neg c82] at H
                 exact absurd H (by simp)
               ·rw [if_neg c81] at H
                exact absurd H (by simp)
              ·rw [if_neg c79] at H
               have c79b0 : ((bt a0 a1) == 244) = false := beq_eq_false_iff_ne.mpr c79
               have c79b1 : ((bt a0 a1) != 244) = true := bne_iff_ne.mpr c79
               obtain rfl := Option.some.inj H
               go_wp2
               all_goals go_ret
               all_goals first | (exact ⟨by first | rfl | (simp; done) | (simp [*]; done) | (refine congrArg Ending.returned ?_; show Value.string _ = Value.string _; (first | (congr 2 <;> omega) | (congr 3 <;> omega) | (congr 4 <;> omega))), by repeat (first | exact Drawn0.refl _ | apply Drawn0.step)⟩) | (exfalso; simp_all; done)
            ·replace c69 := Bool.eq_false_iff.mpr c69
             subst c69
             have H1 : (some 0) = some r := by rw [if_neg (show ¬ (false = true) by decide)] at H; exact H
             clear H
             have H := H1
             clear H1
             obtain rfl := Option.some.inj H
             go_wp2
             all_goals go_ret
             all_goals first | (exact ⟨by first | rfl | (simp; done) | (simp [*]; done) | (refine congrArg Ending.returned ?_; show Value.string _ = Value.string _; (first | (congr 2 <;> omega) | (congr 3 <;> omega) | (congr 4 <;> omega))), by repeat (first | exact Drawn0.refl _ | apply Drawn0.step)⟩) | (exfalso; simp_all; done)
  ·rw [if_neg c4] at H
   exact absurd H (by simp)
 ·rw [if_neg c3] at H
  exact absurd H (by simp)

end Go.Proofs.YtddnfbcfogpkgaaDoor.PMsgRight
