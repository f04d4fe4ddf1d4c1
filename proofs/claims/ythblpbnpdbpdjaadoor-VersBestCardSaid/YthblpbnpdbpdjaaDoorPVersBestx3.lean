/- Written by a program of this session (a turned copy of the kit's print): functions of the program, each with the Lean function that it comes to, and the row of one law. No condition. -/
import Derived.Test.YthblpbnpdbpdjaaDoorPVersBestx0
import Derived.Test.YthblpbnpdbpdjaaDoorPVersBestx1
import Derived.Test.YthblpbnpdbpdjaaDoorPVersBestx2
namespace Go.Proofs.YthblpbnpdbpdjaaDoor.PVersBest
open Go.RowKit Go.Proofs.YthblpbnpdbpdjaaDoorW.PrintWords Go.Proofs.YthblpbnpdbpdjaaDoorW.PrintLast Go.Proofs.YthblpbnpdbpdjaaDoorW.PrintMore
attribute [local go_sem] max2_int min2_int max_two min_two max_three min_three max_four min_four   -- for this text's walks alone
set_option linter.unusedVariables false
set_option linter.unusedSimpArgs false

/-! ### annuletref24_Has: function 8 -/
def annuletref24_Has.l0 : Nat → Int → Int → Int → Option (Bool)
  | 0, _, _, _ => none
  | k + 1, x1, x5, x6 => if x6 < x1 then (if x6 < 17 then (annuletref24_Has.l0 k x1 (wrap64 (Int.tdiv x5 2)) (wrap64 (x6 + 1))) else (if x1 > 0 then (if x1 < 17 then (some ((Int.tmod x5 2) == 1)) else (some false)) else (some false))) else (if x1 > 0 then (if x1 < 17 then (some ((Int.tmod x5 2) == 1)) else (some false)) else (some false))
def annuletref24_Has.f (k : Nat) (a0 : Int) (a1 : Int) : Option (Bool) := annuletref24_Has.l0 k a1 (wrap64 (a0)) 1
theorem annuletref24_Has.mono_l : ∀ k, (∀ y0 y1 y2, LeO (annuletref24_Has.l0 k y0 y1 y2) (annuletref24_Has.l0 (k + 1) y0 y1 y2))
  | 0 => fun _ _ _ r h => by simp [annuletref24_Has.l0] at h
  | k + 1 => by
    have ih0 := annuletref24_Has.mono_l k
    · intro y0 y1 y2
      unfold annuletref24_Has.l0
      repeat' first
      | (with_reducible exact ih0 _ _ _)
      | (with_reducible exact LeO.refl _)
      | (with_reducible exact LeO.none _)
      | (with_reducible refine LeO.ite ?_ ?_)
      | (with_reducible refine LeO.bind ?_ (fun _ => ?_))
      | exact ih0 _ _ _
      | exact LeO.none _
      | refine LeO.ite ?_ ?_
      | refine LeO.bind ?_ (fun _ => ?_)
theorem annuletref24_Has.mono : ∀ a0 a1 k, LeO (annuletref24_Has.f k a0 a1) (annuletref24_Has.f (k + 1) a0 a1) := by
  intro a0 a1 k
  have ih0 := annuletref24_Has.mono_l k
  unfold annuletref24_Has.f
  repeat' first
      | (with_reducible exact ih0 _ _ _)
      | (with_reducible exact LeO.refl _)
      | (with_reducible exact LeO.none _)
      | (with_reducible refine LeO.ite ?_ ?_)
      | (with_reducible refine LeO.bind ?_ (fun _ => ?_))
      | exact ih0 _ _ _
      | exact LeO.none _
      | refine LeO.ite ?_ ?_
      | refine LeO.bind ?_ (fun _ => ?_)
set_option maxHeartbeats 3000000 in
set_option maxRecDepth 100000 in
theorem annuletref24_Has.calls (k : Nat) (a0 : Int) (a1 : Int) (r : Bool) (w : World) (h : annuletref24_Has.f k a0 a1 = some r) :
    Calls Tryd.prog 8 #[.int .u16 a0, .int .i64 a1] w fun e w' => e = .returned (.bool r) ∧ Drawn0 w w' := by
  have H : (annuletref24_Has.l0 k a1 (wrap64 (a0)) 1) = some r := h
  clear h
  have H' := Aside0.mk H
  clear H
  go_enter Tryd.func8, Tryd.ntmps8
  go_wp2
  go_loopg [5, 6] k (fun kq v5 v6 w' => ∃ (x5_1 : Int) (x6_1 : Int), v5 = .int .i64 x5_1 ∧ v6 = .int .i64 x6_1 ∧ Aside0 (annuletref24_Has.l0 kq a1 x5_1 x6_1 = some r) ∧ Aside0 (kq ≤ k) ∧ Drawn0 w w')
  case atStart => exact ⟨(wrap64 (a0)), (1), (by first | rfl | (simp; done) | (simp [*]; done)), (by first | rfl | (simp; done) | (simp [*]; done)), H', ⟨Nat.le_refl _⟩, by repeat (first | exact Drawn0.refl _ | apply Drawn0.step)⟩
  case round =>
    clear H'
    try clear p2
    obtain ⟨x5_1, x6_1, rfl, rfl, HA, HK1, ⟨m1, rfl⟩⟩ := hrel
    cases gk with
    | zero => exact absurd HA.out (by simp [annuletref24_Has.l0])
    | succ k1 =>
      have H := HA.out
      clear HA
      simp only [annuletref24_Has.l0] at H
      by_cases c3 : x6_1 < a1
      · rw [if_pos c3] at H
        have c3b0 : decide (x6_1 < a1) = true := decide_eq_true c3
        clear c3
        by_cases c4 : x6_1 < 17
        · rw [if_pos c4] at H
          have c4b0 : decide (x6_1 < 17) = true := decide_eq_true c4
          clear c4
          have H' := Aside0.mk H
          clear H
          go_wp2
          go_roundg k1
          case measure => have := HK1.out; omega
          case rel => exact ⟨(wrap64 (Int.tdiv x5_1 2)), (wrap64 (x6_1 + 1)), (by first | rfl | (simp; done) | (simp [*]; done)), (by first | rfl | (simp; done) | (simp [*]; done)), H', ⟨by have := HK1.out; omega⟩, by repeat (first | exact Drawn0.refl _ | apply Drawn0.step)⟩
        · rw [if_neg c4] at H
          have c4b0 : decide (x6_1 < 17) = false := decide_eq_false c4
          clear c4
          by_cases c5 : a1 > 0
          · rw [if_pos c5] at H
            have c5b0 : decide (0 < a1) = true := decide_eq_true c5
            clear c5
            by_cases c6 : a1 < 17
            · rw [if_pos c6] at H
              have c6b0 : decide (a1 < 17) = true := decide_eq_true c6
              clear c6
              obtain rfl := Option.some.inj H
              go_wp2
              all_goals go_ret
              all_goals first | (exact ⟨by first | rfl | (simp; done) | (simp [*]; done) | (refine congrArg Ending.returned ?_; show Value.string _ = Value.string _; (first | (congr 2 <;> omega) | (congr 3 <;> omega) | (congr 4 <;> omega))), by repeat (first | exact Drawn0.refl _ | apply Drawn0.step)⟩) | (exfalso; simp_all; done)
            · rw [if_neg c6] at H
              have c6b0 : decide (a1 < 17) = false := decide_eq_false c6
              clear c6
              obtain rfl := Option.some.inj H
              go_wp2
              all_goals go_ret
              all_goals first | (exact ⟨by first | rfl | (simp; done) | (simp [*]; done) | (refine congrArg Ending.returned ?_; show Value.string _ = Value.string _; (first | (congr 2 <;> omega) | (congr 3 <;> omega) | (congr 4 <;> omega))), by repeat (first | exact Drawn0.refl _ | apply Drawn0.step)⟩) | (exfalso; simp_all; done)
          · rw [if_neg c5] at H
            have c5b0 : decide (0 < a1) = false := decide_eq_false c5
            clear c5
            obtain rfl := Option.some.inj H
            go_wp2
            all_goals go_ret
            all_goals first | (exact ⟨by first | rfl | (simp; done) | (simp [*]; done) | (refine congrArg Ending.returned ?_; show Value.string _ = Value.string _; (first | (congr 2 <;> omega) | (congr 3 <;> omega) | (congr 4 <;> omega))), by repeat (first | exact Drawn0.refl _ | apply Drawn0.step)⟩) | (exfalso; simp_all; done)
      · rw [if_neg c3] at H
        have c3b0 : decide (x6_1 < a1) = false := decide_eq_false c3
        clear c3
        by_cases c7 : a1 > 0
        · rw [if_pos c7] at H
          have c7b0 : decide (0 < a1) = true := decide_eq_true c7
          clear c7
          by_cases c8 : a1 < 17
          · rw [if_pos c8] at H
            have c8b0 : decide (a1 < 17) = true := decide_eq_true c8
            clear c8
            obtain rfl := Option.some.inj H
            go_wp2
            all_goals go_ret
            all_goals first | (exact ⟨by first | rfl | (simp; done) | (simp [*]; done) | (refine congrArg Ending.returned ?_; show Value.string _ = Value.string _; (first | (congr 2 <;> omega) | (congr 3 <;> omega) | (congr 4 <;> omega))), by repeat (first | exact Drawn0.refl _ | apply Drawn0.step)⟩) | (exfalso; simp_all; done)
          · rw [if_neg c8] at H
            have c8b0 : decide (a1 < 17) = false := decide_eq_false c8
            clear c8
            obtain rfl := Option.some.inj H
            go_wp2
            all_goals go_ret
            all_goals first | (exact ⟨by first | rfl | (simp; done) | (simp [*]; done) | (refine congrArg Ending.returned ?_; show Value.string _ = Value.string _; (first | (congr 2 <;> omega) | (congr 3 <;> omega) | (congr 4 <;> omega))), by repeat (first | exact Drawn0.refl _ | apply Drawn0.step)⟩) | (exfalso; simp_all; done)
        · rw [if_neg c7] at H
          have c7b0 : decide (0 < a1) = false := decide_eq_false c7
          clear c7
          obtain rfl := Option.some.inj H
          go_wp2
          all_goals go_ret
          all_goals first | (exact ⟨by first | rfl | (simp; done) | (simp [*]; done) | (refine congrArg Ending.returned ?_; show Value.string _ = Value.string _; (first | (congr 2 <;> omega) | (congr 3 <;> omega) | (congr 4 <;> omega))), by repeat (first | exact Drawn0.refl _ | apply Drawn0.step)⟩) | (exfalso; simp_all; done)

/-! ### annuletref24_Best: function 13 -/
def annuletref24_Best.l0 : Nat → Int → Int → Int → Option (Int)
  | 0, _, _, _ => none
  | k + 1, x0, x1, x5 => if x5 > 0 then ((annuletref24_Has.f k x0 x5).bind fun t169 => (if t169 = true then ((annuletref24_Has.f k x1 x5).bind fun t170 => (if t170 = true then (some x5) else (annuletref24_Best.l0 k x0 x1 (wrap64 (x5 - 1))))) else (annuletref24_Best.l0 k x0 x1 (wrap64 (x5 - 1))))) else (some 0)
def annuletref24_Best.f (k : Nat) (a0 : Int) (a1 : Int) : Option (Int) := annuletref24_Best.l0 k a0 a1 16
theorem annuletref24_Best.mono_l : ∀ k, (∀ y0 y1 y2, LeO (annuletref24_Best.l0 k y0 y1 y2) (annuletref24_Best.l0 (k + 1) y0 y1 y2))
  | 0 => fun _ _ _ r h => by simp [annuletref24_Best.l0] at h
  | k + 1 => by
    have ih0 := annuletref24_Best.mono_l k
    · intro y0 y1 y2
      unfold annuletref24_Best.l0
      repeat' first
      | (with_reducible exact ih0 _ _ _)
      | (with_reducible exact annuletref24_Has.mono _ _ _)
      | (with_reducible exact LeO.refl _)
      | (with_reducible exact LeO.none _)
      | (with_reducible refine LeO.ite ?_ ?_)
      | (with_reducible refine LeO.bind ?_ (fun _ => ?_))
      | exact ih0 _ _ _
      | exact annuletref24_Has.mono _ _ _
      | exact LeO.none _
      | refine LeO.ite ?_ ?_
      | refine LeO.bind ?_ (fun _ => ?_)
theorem annuletref24_Best.mono : ∀ a0 a1 k, LeO (annuletref24_Best.f k a0 a1) (annuletref24_Best.f (k + 1) a0 a1) := by
  intro a0 a1 k
  have ih0 := annuletref24_Best.mono_l k
  unfold annuletref24_Best.f
  repeat' first
      | (with_reducible exact ih0 _ _ _)
      | (with_reducible exact annuletref24_Has.mono _ _ _)
      | (with_reducible exact LeO.refl _)
      | (with_reducible exact LeO.none _)
      | (with_reducible refine LeO.ite ?_ ?_)
      | (with_reducible refine LeO.bind ?_ (fun _ => ?_))
      | exact ih0 _ _ _
      | exact annuletref24_Has.mono _ _ _
      | exact LeO.none _
      | refine LeO.ite ?_ ?_
      | refine LeO.bind ?_ (fun _ => ?_)
set_option maxHeartbeats 3000000 in
set_option maxRecDepth 100000 in
theorem annuletref24_Best.calls (k : Nat) (a0 : Int) (a1 : Int) (r : Int) (w : World) (h : annuletref24_Best.f k a0 a1 = some r) :
    Calls Tryd.prog 13 #[.int .u16 a0, .int .u16 a1] w fun e w' => e = .returned (.int .i64 r) ∧ Drawn0 w w' := by
  have H : (annuletref24_Best.l0 k a0 a1 16) = some r := h
  clear h
  have H' := Aside0.mk H
  clear H
  go_enter Tryd.func13, Tryd.ntmps13
  go_wp2
  go_loopg [5] k (fun kq v5 w' => ∃ (x5_1 : Int), v5 = .int .i64 x5_1 ∧ Aside0 (annuletref24_Best.l0 kq a0 a1 x5_1 = some r) ∧ Aside0 (kq ≤ k) ∧ Drawn0 w w')
  case atStart => exact ⟨(16), (by first | rfl | (simp; done) | (simp [*]; done)), H', ⟨Nat.le_refl _⟩, by repeat (first | exact Drawn0.refl _ | apply Drawn0.step)⟩
  case round =>
    clear H'
    try clear c1
    try clear p2
    obtain ⟨x5_1, rfl, HA, HK1, ⟨m1, rfl⟩⟩ := hrel
    cases gk with
    | zero => exact absurd HA.out (by simp [annuletref24_Best.l0])
    | succ k1 =>
      have H := HA.out
      clear HA
      simp only [annuletref24_Best.l0] at H
      by_cases c3 : x5_1 > 0
      · rw [if_pos c3] at H
        have c3b0 : decide (0 < x5_1) = true := decide_eq_true c3
        clear c3
        replace H := Option.bind_eq_some_iff.mp H
        obtain ⟨t169, A40, H⟩ := H
        replace H : (if t169 = true then ((annuletref24_Has.f k1 a1 x5_1).bind fun t170 => (if t170 = true then (some x5_1) else (annuletref24_Best.l0 k1 a0 a1 (wrap64 (x5_1 - 1))))) else (annuletref24_Best.l0 k1 a0 a1 (wrap64 (x5_1 - 1)))) = some r := H
        have A4 := Aside0.mk A40
        clear A40
        by_cases c5 : t169 = true
        · subst c5
          have H1 : ((annuletref24_Has.f k1 a1 x5_1).bind fun t170 => (if t170 = true then (some x5_1) else (annuletref24_Best.l0 k1 a0 a1 (wrap64 (x5_1 - 1))))) = some r := by rw [if_pos rfl] at H; exact H
          clear H
          have H := H1
          clear H1
          replace H := Option.bind_eq_some_iff.mp H
          obtain ⟨t170, A60, H⟩ := H
          replace H : (if t170 = true then (some x5_1) else (annuletref24_Best.l0 k1 a0 a1 (wrap64 (x5_1 - 1)))) = some r := H
          have A6 := Aside0.mk A60
          clear A60
          by_cases c7 : t170 = true
          · subst c7
            have H1 : (some x5_1) = some r := by rw [if_pos rfl] at H; exact H
            clear H
            have H := H1
            clear H1
            obtain rfl := Option.some.inj H
            go_wp2_with (first | ((with_reducible refine gate_callee (f := 8) rfl ?_); refine goesL_ (some 12) rfl rfl Tryd.func8 (by kernel_rfl) rfl #[.int .u16 a0, .int .i64 x5_1] rfl (by (try simp only [List.map_toArray, List.map_cons, List.map_nil]); first | done | rfl | (simp only [List.length_drop, List.length_take]; rfl)) ?_; (with_reducible refine (annuletref24_Has.calls k1 a0 x5_1 true _ A4.out).mono ?_); rintro e w' ⟨rfl, ⟨nd, rfl⟩⟩; refine ⟨_, rfl, ?_⟩) | (go_at_call 8; (with_reducible refine (annuletref24_Has.calls k1 a1 x5_1 true _ A6.out).mono ?_); rintro e w' ⟨rfl, ⟨nd, rfl⟩⟩))
            all_goals go_ret
            all_goals first | (exact ⟨by first | rfl | (simp; done) | (simp [*]; done) | (refine congrArg Ending.returned ?_; show Value.string _ = Value.string _; (first | (congr 2 <;> omega) | (congr 3 <;> omega) | (congr 4 <;> omega))), by repeat (first | exact Drawn0.refl _ | apply Drawn0.step)⟩) | (exfalso; simp_all; done)
          · replace c7 := Bool.eq_false_iff.mpr c7
            subst c7
            have H1 : (annuletref24_Best.l0 k1 a0 a1 (wrap64 (x5_1 - 1))) = some r := by rw [if_neg (show ¬ (false = true) by decide)] at H; exact H
            clear H
            have H := H1
            clear H1
            have H' := Aside0.mk H
            clear H
            go_wp2_with (first | ((with_reducible refine gate_callee (f := 8) rfl ?_); refine goesL_ (some 12) rfl rfl Tryd.func8 (by kernel_rfl) rfl #[.int .u16 a0, .int .i64 x5_1] rfl (by (try simp only [List.map_toArray, List.map_cons, List.map_nil]); first | done | rfl | (simp only [List.length_drop, List.length_take]; rfl)) ?_; (with_reducible refine (annuletref24_Has.calls k1 a0 x5_1 true _ A4.out).mono ?_); rintro e w' ⟨rfl, ⟨nd, rfl⟩⟩; refine ⟨_, rfl, ?_⟩) | (go_at_call 8; (with_reducible refine (annuletref24_Has.calls k1 a1 x5_1 false _ A6.out).mono ?_); rintro e w' ⟨rfl, ⟨nd, rfl⟩⟩))
            go_roundg k1
            case measure => have := HK1.out; omega
            case rel => exact ⟨(wrap64 (x5_1 - 1)), (by first | rfl | (simp; done) | (simp [*]; done)), H', ⟨by have := HK1.out; omega⟩, by repeat (first | exact Drawn0.refl _ | apply Drawn0.step)⟩
        · replace c5 := Bool.eq_false_iff.mpr c5
          subst c5
          have H1 : (annuletref24_Best.l0 k1 a0 a1 (wrap64 (x5_1 - 1))) = some r := by rw [if_neg (show ¬ (false = true) by decide)] at H; exact H
          clear H
          have H := H1
          clear H1
          have H' := Aside0.mk H
          clear H
          go_wp2_with (first | ((with_reducible refine gate_callee (f := 8) rfl ?_); refine goesL_ (some 12) rfl rfl Tryd.func8 (by kernel_rfl) rfl #[.int .u16 a0, .int .i64 x5_1] rfl (by (try simp only [List.map_toArray, List.map_cons, List.map_nil]); first | done | rfl | (simp only [List.length_drop, List.length_take]; rfl)) ?_; (with_reducible refine (annuletref24_Has.calls k1 a0 x5_1 false _ A4.out).mono ?_); rintro e w' ⟨rfl, ⟨nd, rfl⟩⟩; refine ⟨_, rfl, ?_⟩))
          go_roundg k1
          case measure => have := HK1.out; omega
          case rel => exact ⟨(wrap64 (x5_1 - 1)), (by first | rfl | (simp; done) | (simp [*]; done)), H', ⟨by have := HK1.out; omega⟩, by repeat (first | exact Drawn0.refl _ | apply Drawn0.step)⟩
      · rw [if_neg c3] at H
        have c3b0 : decide (0 < x5_1) = false := decide_eq_false c3
        clear c3
        obtain rfl := Option.some.inj H
        go_wp2
        all_goals go_ret
        all_goals first | (exact ⟨by first | rfl | (simp; done) | (simp [*]; done) | (refine congrArg Ending.returned ?_; show Value.string _ = Value.string _; (first | (congr 2 <;> omega) | (congr 3 <;> omega) | (congr 4 <;> omega))), by repeat (first | exact Drawn0.refl _ | apply Drawn0.step)⟩) | (exfalso; simp_all; done)

/-! ### annuletref24_Mode: function 15 -/
mutual
def annuletref24_Mode.j0 : Nat → Int → Bool → Option (Int)
  | 0, _, _ => none
  | k + 1, x0, x8 => if x8 = true then (some 0) else (annuletref24_Mode.l0 k x0)
def annuletref24_Mode.l0 : Nat → Int → Option (Int)
  | 0, _ => none
  | k + 1, x0 => if x0 > 3 then (annuletref24_Mode.l0 k (wrap64 (x0 - 3))) else (some x0)
end
def annuletref24_Mode.f (k : Nat) (a0 : Int) : Option (Int) := if a0 < 1 then (annuletref24_Mode.j0 k a0 true) else (annuletref24_Mode.j0 k a0 (decide (a0 > 16)))
theorem annuletref24_Mode.mono_l : ∀ k, (∀ y0 y1, LeO (annuletref24_Mode.j0 k y0 y1) (annuletref24_Mode.j0 (k + 1) y0 y1)) ∧ (∀ y0, LeO (annuletref24_Mode.l0 k y0) (annuletref24_Mode.l0 (k + 1) y0))
  | 0 => ⟨fun _ _ r h => by simp [annuletref24_Mode.j0] at h, fun _ r h => by simp [annuletref24_Mode.l0] at h⟩
  | k + 1 => by
    obtain ⟨ih0, ih1⟩ := annuletref24_Mode.mono_l k
    refine ⟨?_, ?_⟩
    · intro y0 y1
      unfold annuletref24_Mode.j0
      repeat' first
      | (with_reducible exact ih0 _ _)
      | (with_reducible exact ih1 _)
      | (with_reducible exact LeO.refl _)
      | (with_reducible exact LeO.none _)
      | (with_reducible refine LeO.ite ?_ ?_)
      | (with_reducible refine LeO.bind ?_ (fun _ => ?_))
      | exact ih0 _ _
      | exact ih1 _
      | exact LeO.none _
      | refine LeO.ite ?_ ?_
      | refine LeO.bind ?_ (fun _ => ?_)
    · intro y0
      unfold annuletref24_Mode.l0
      repeat' first
      | (with_reducible exact ih0 _ _)
      | (with_reducible exact ih1 _)
      | (with_reducible exact LeO.refl _)
      | (with_reducible exact LeO.none _)
      | (with_reducible refine LeO.ite ?_ ?_)
      | (with_reducible refine LeO.bind ?_ (fun _ => ?_))
      | exact ih0 _ _
      | exact ih1 _
      | exact LeO.none _
      | refine LeO.ite ?_ ?_
      | refine LeO.bind ?_ (fun _ => ?_)
theorem annuletref24_Mode.mono : ∀ a0 k, LeO (annuletref24_Mode.f k a0) (annuletref24_Mode.f (k + 1) a0) := by
  intro a0 k
  obtain ⟨ih0, ih1⟩ := annuletref24_Mode.mono_l k
  unfold annuletref24_Mode.f
  repeat' first
      | (with_reducible exact ih0 _ _)
      | (with_reducible exact ih1 _)
      | (with_reducible exact LeO.refl _)
      | (with_reducible exact LeO.none _)
      | (with_reducible refine LeO.ite ?_ ?_)
      | (with_reducible refine LeO.bind ?_ (fun _ => ?_))
      | exact ih0 _ _
      | exact ih1 _
      | exact LeO.none _
      | refine LeO.ite ?_ ?_
      | refine LeO.bind ?_ (fun _ => ?_)
set_option maxHeartbeats 3000000 in
set_option maxRecDepth 100000 in
theorem annuletref24_Mode.calls (k : Nat) (a0 : Int) (r : Int) (w : World) (h : annuletref24_Mode.f k a0 = some r) :
    Calls Tryd.prog 15 #[.int .i64 a0] w fun e w' => e = .returned (.int .i64 r) ∧ Drawn0 w w' := by
  have H : (if a0 < 1 then (annuletref24_Mode.j0 k a0 true) else (annuletref24_Mode.j0 k a0 (decide (a0 > 16)))) = some r := h
  clear h
  have HC2 := Aside0.mk H
  clear H
  go_enter Tryd.func15, Tryd.ntmps15
  go_upto_region 1 with (fail)
  go_cut [8] (fun v8 wc => ∃ (kq : Nat) (x8_1 : Bool), v8 = .bool x8_1 ∧ Aside0 (annuletref24_Mode.j0 kq a0 x8_1 = some r) ∧ Aside0 (kq ≤ k) ∧ Drawn0 w wc)
  case first =>
    have H := HC2.out
    clear HC2
    by_cases c3 : a0 < 1
    · rw [if_pos c3] at H
      have c3b0 : decide (a0 < 1) = true := decide_eq_true c3
      clear c3
      (first | rw [c3b0] | (simp only [i64_w, i32_w]; rw [c3b0]) | skip)
      have H' := Aside0.mk H
      clear H
      go_wp2
      go_meet
      case rel => exact ⟨_, (true), (by first | rfl | (simp; done) | (simp [*]; done)), H', ⟨by first | omega | exact Nat.le_refl _⟩, by repeat (first | exact Drawn0.refl _ | apply Drawn0.step)⟩
    · rw [if_neg c3] at H
      have c3b0 : decide (a0 < 1) = false := decide_eq_false c3
      clear c3
      (first | rw [c3b0] | (simp only [i64_w, i32_w]; rw [c3b0]) | skip)
      have H' := Aside0.mk H
      clear H
      go_wp2
      go_meet
      case rel => exact ⟨_, (decide (a0 > 16)), (by first | rfl | (simp; done) | (simp [*]; done)), H', ⟨by first | omega | exact Nat.le_refl _⟩, by repeat (first | exact Drawn0.refl _ | apply Drawn0.step)⟩
  case rest =>
    clear HC2
    try clear c1
    try clear p2
    try clear c3
    try clear c3b0
    obtain ⟨kq, x8_1, rfl, HA, HJ1, ⟨mc1, rfl⟩⟩ := hcut
    cases kq with
    | zero => exact absurd HA.out (by simp [annuletref24_Mode.j0])
    | succ kj1 =>
      have H := HA.out
      clear HA
      simp only [annuletref24_Mode.j0] at H
      by_cases c4 : x8_1 = true
      · subst c4
        have H1 : (some 0) = some r := by rw [if_pos rfl] at H; exact H
        clear H
        have H := H1
        clear H1
        obtain rfl := Option.some.inj H
        go_wp2
        all_goals go_ret
        all_goals first | (exact ⟨by first | rfl | (simp; done) | (simp [*]; done) | (refine congrArg Ending.returned ?_; show Value.string _ = Value.string _; (first | (congr 2 <;> omega) | (congr 3 <;> omega) | (congr 4 <;> omega))), by repeat (first | exact Drawn0.refl _ | apply Drawn0.step)⟩) | (exfalso; simp_all; done)
      · replace c4 := Bool.eq_false_iff.mpr c4
        subst c4
        have H1 : (annuletref24_Mode.l0 kj1 a0) = some r := by rw [if_neg (show ¬ (false = true) by decide)] at H; exact H
        clear H
        have H := H1
        clear H1
        have H' := Aside0.mk H
        clear H
        go_wp2
        go_loopg [0] kj1 (fun kq v0 w' => ∃ (x0_2 : Int), v0 = .int .i64 x0_2 ∧ Aside0 (annuletref24_Mode.l0 kq x0_2 = some r) ∧ Aside0 (kq ≤ kj1) ∧ Drawn0 w w')
        case atStart => exact ⟨(a0), (by first | rfl | (simp; done) | (simp [*]; done)), H', ⟨Nat.le_refl _⟩, by repeat (first | exact Drawn0.refl _ | apply Drawn0.step)⟩
        case round =>
          clear H'
          try clear c1
          try clear p2
          try clear c3
          try clear c3b0
          try clear c4
          try clear p2
          obtain ⟨x0_2, rfl, HA, HK2, ⟨m2, rfl⟩⟩ := hrel
          cases gk with
          | zero => exact absurd HA.out (by simp [annuletref24_Mode.l0])
          | succ k2 =>
            have H := HA.out
            clear HA
            simp only [annuletref24_Mode.l0] at H
            by_cases c5 : x0_2 > 3
            · rw [if_pos c5] at H
              have c5b0 : decide (3 < x0_2) = true := decide_eq_true c5
              clear c5
              have H' := Aside0.mk H
              clear H
              go_wp2
              go_roundg k2
              case measure => have := HJ1.out; have := HK2.out; omega
              case rel => exact ⟨(wrap64 (x0_2 - 3)), (by first | rfl | (simp; done) | (simp [*]; done)), H', ⟨by have := HJ1.out; have := HK2.out; omega⟩, by repeat (first | exact Drawn0.refl _ | apply Drawn0.step)⟩
            · rw [if_neg c5] at H
              have c5b0 : decide (3 < x0_2) = false := decide_eq_false c5
              clear c5
              obtain rfl := Option.some.inj H
              go_wp2
              all_goals go_ret
              all_goals first | (exact ⟨by first | rfl | (simp; done) | (simp [*]; done) | (refine congrArg Ending.returned ?_; show Value.string _ = Value.string _; (first | (congr 2 <;> omega) | (congr 3 <;> omega) | (congr 4 <;> omega))), by repeat (first | exact Drawn0.refl _ | apply Drawn0.step)⟩) | (exfalso; simp_all; done)

/-! ### annuletlaw24_VersBest: function 4 -/
def annuletlaw24_VersBest.f (k : Nat) (a0 : Int) (a1 : Int) (a2 : Int) : Option (Bool) := (vers_Best.f a0 a1).bind fun t171 => ((annuletref24_Best.f k a0 a1).bind fun t172 => (if t171 = t172 then ((vers_Best.f a1 a0).bind fun t173 => (if t171 = t173 then (if t171 = 0 then ((vers_Mode.f a2).bind fun t174 => ((annuletref24_Mode.f k a2).bind fun t175 => (if t174 = t175 then ((annuletlaw24_awake.f k).bind fun t176 => (some t176)) else (none)))) else ((vers_Has.f a0 t171).bind fun t177 => (if t177 = true then ((vers_Has.f a1 t171).bind fun t178 => (if t178 = true then ((vers_Mode.f a2).bind fun t179 => ((annuletref24_Mode.f k a2).bind fun t180 => (if t179 = t180 then ((annuletlaw24_awake.f k).bind fun t181 => (some t181)) else (none)))) else (none))) else (none)))) else (none))) else (none)))
theorem annuletlaw24_VersBest.mono : ∀ a0 a1 a2 k, LeO (annuletlaw24_VersBest.f k a0 a1 a2) (annuletlaw24_VersBest.f (k + 1) a0 a1 a2) := by
  intro a0 a1 a2 k
  unfold annuletlaw24_VersBest.f
  repeat' first
      | (with_reducible exact annuletlaw24_awake.mono _)
      | (with_reducible exact annuletref24_Best.mono _ _ _)
      | (with_reducible exact annuletref24_Mode.mono _ _)
      | (with_reducible exact LeO.refl _)
      | (with_reducible exact LeO.none _)
      | (with_reducible refine LeO.ite ?_ ?_)
      | (with_reducible refine LeO.bind ?_ (fun _ => ?_))
      | exact annuletlaw24_awake.mono _
      | exact annuletref24_Best.mono _ _ _
      | exact annuletref24_Mode.mono _ _
      | exact LeO.none _
      | refine LeO.ite ?_ ?_
      | refine LeO.bind ?_ (fun _ => ?_)
set_option maxHeartbeats 3000000 in
set_option maxRecDepth 100000 in
theorem annuletlaw24_VersBest.calls (k : Nat) (a0 : Int) (a1 : Int) (a2 : Int) (r : Bool) (w : World) (ht : TabsM 1 2 0 w) (h : annuletlaw24_VersBest.f k a0 a1 a2 = some r) :
    Calls Tryd.prog 4 #[.int .u16 a0, .int .u16 a1, .int .i64 a2] w fun e w' => e = .returned (.bool r) ∧ Below w.heap.size w w' := by
  have HB := Aside0.mk (Below.refl w.heap.size w)
  have HTB := Aside0.mk ht
  clear ht
  have H : ((vers_Best.f a0 a1).bind fun t171 => ((annuletref24_Best.f k a0 a1).bind fun t172 => (if t171 = t172 then ((vers_Best.f a1 a0).bind fun t173 => (if t171 = t173 then (if t171 = 0 then ((vers_Mode.f a2).bind fun t174 => ((annuletref24_Mode.f k a2).bind fun t175 => (if t174 = t175 then ((annuletlaw24_awake.f k).bind fun t176 => (some t176)) else (none)))) else ((vers_Has.f a0 t171).bind fun t177 => (if t177 = true then ((vers_Has.f a1 t171).bind fun t178 => (if t178 = true then ((vers_Mode.f a2).bind fun t179 => ((annuletref24_Mode.f k a2).bind fun t180 => (if t179 = t180 then ((annuletlaw24_awake.f k).bind fun t181 => (some t181)) else (none)))) else (none))) else (none)))) else (none))) else (none)))) = some r := h
  clear h
  replace H := Option.bind_eq_some_iff.mp H
  obtain ⟨t171, A40, H⟩ := H
  replace H : ((annuletref24_Best.f k a0 a1).bind fun t172 => (if t171 = t172 then ((vers_Best.f a1 a0).bind fun t173 => (if t171 = t173 then (if t171 = 0 then ((vers_Mode.f a2).bind fun t174 => ((annuletref24_Mode.f k a2).bind fun t175 => (if t174 = t175 then ((annuletlaw24_awake.f k).bind fun t176 => (some t176)) else (none)))) else ((vers_Has.f a0 t171).bind fun t177 => (if t177 = true then ((vers_Has.f a1 t171).bind fun t178 => (if t178 = true then ((vers_Mode.f a2).bind fun t179 => ((annuletref24_Mode.f k a2).bind fun t180 => (if t179 = t180 then ((annuletlaw24_awake.f k).bind fun t181 => (some t181)) else (none)))) else (none))) else (none)))) else (none))) else (none))) = some r := H
  have A4 := Aside0.mk A40
  clear A40
  replace H := Option.bind_eq_some_iff.mp H
  obtain ⟨t172, A50, H⟩ := H
  replace H : (if t171 = t172 then ((vers_Best.f a1 a0).bind fun t173 => (if t171 = t173 then (if t171 = 0 then ((vers_Mode.f a2).bind fun t174 => ((annuletref24_Mode.f k a2).bind fun t175 => (if t174 = t175 then ((annuletlaw24_awake.f k).bind fun t176 => (some t176)) else (none)))) else ((vers_Has.f a0 t171).bind fun t177 => (if t177 = true then ((vers_Has.f a1 t171).bind fun t178 => (if t178 = true then ((vers_Mode.f a2).bind fun t179 => ((annuletref24_Mode.f k a2).bind fun t180 => (if t179 = t180 then ((annuletlaw24_awake.f k).bind fun t181 => (some t181)) else (none)))) else (none))) else (none)))) else (none))) else (none)) = some r := H
  have A5 := Aside0.mk A50
  clear A50
  by_cases c6 : t171 = t172
  · rw [if_pos c6] at H
    have c6b0 : (t171 == t172) = true := beq_iff_eq.mpr c6
    have c6b1 : (t171 != t172) = false := bne_eq_false_iff_eq.mpr c6
    clear c6
    replace H := Option.bind_eq_some_iff.mp H
    obtain ⟨t173, A70, H⟩ := H
    replace H : (if t171 = t173 then (if t171 = 0 then ((vers_Mode.f a2).bind fun t174 => ((annuletref24_Mode.f k a2).bind fun t175 => (if t174 = t175 then ((annuletlaw24_awake.f k).bind fun t176 => (some t176)) else (none)))) else ((vers_Has.f a0 t171).bind fun t177 => (if t177 = true then ((vers_Has.f a1 t171).bind fun t178 => (if t178 = true then ((vers_Mode.f a2).bind fun t179 => ((annuletref24_Mode.f k a2).bind fun t180 => (if t179 = t180 then ((annuletlaw24_awake.f k).bind fun t181 => (some t181)) else (none)))) else (none))) else (none)))) else (none)) = some r := H
    have A7 := Aside0.mk A70
    clear A70
    by_cases c8 : t171 = t173
    · rw [if_pos c8] at H
      have c8b0 : (t171 == t173) = true := beq_iff_eq.mpr c8
      have c8b1 : (t171 != t173) = false := bne_eq_false_iff_eq.mpr c8
      clear c8
      by_cases c9 : t171 = 0
      · rw [if_pos c9] at H
        have c9b0 : (t171 == 0) = true := beq_iff_eq.mpr c9
        have c9b1 : (t171 != 0) = false := bne_eq_false_iff_eq.mpr c9
        clear c9
        replace H := Option.bind_eq_some_iff.mp H
        obtain ⟨t174, A100, H⟩ := H
        replace H : ((annuletref24_Mode.f k a2).bind fun t175 => (if t174 = t175 then ((annuletlaw24_awake.f k).bind fun t176 => (some t176)) else (none))) = some r := H
        have A10 := Aside0.mk A100
        clear A100
        replace H := Option.bind_eq_some_iff.mp H
        obtain ⟨t175, A110, H⟩ := H
        replace H : (if t174 = t175 then ((annuletlaw24_awake.f k).bind fun t176 => (some t176)) else (none)) = some r := H
        have A11 := Aside0.mk A110
        clear A110
        by_cases c12 : t174 = t175
        · rw [if_pos c12] at H
          have c12b0 : (t174 == t175) = true := beq_iff_eq.mpr c12
          have c12b1 : (t174 != t175) = false := bne_eq_false_iff_eq.mpr c12
          clear c12
          replace H := Option.bind_eq_some_iff.mp H
          obtain ⟨t176, A130, H⟩ := H
          replace H : (some t176) = some r := H
          have A13 := Aside0.mk A130
          clear A130
          obtain rfl := Option.some.inj H
          go_enter Tryd.func4, Tryd.ntmps4
          go_wp2_with (first | ((with_reducible refine gate_callee (f := 12) rfl ?_); refine goesL_ (some 10) rfl rfl Tryd.func12 (by kernel_rfl) rfl #[.int .u16 a0, .int .u16 a1] rfl (by (try simp only [List.map_toArray, List.map_cons, List.map_nil]); first | done | rfl | (simp only [List.length_drop, List.length_take]; rfl)) ?_; (with_reducible refine (vers_Best.calls a0 a1 t171 _ A4.out).mono ?_); rintro e w' ⟨rfl, ⟨nd, rfl⟩⟩; refine ⟨_, rfl, ?_⟩) | ((with_reducible refine gate_callee (f := 13) rfl ?_); refine goesL_ (some 14) rfl rfl Tryd.func13 (by kernel_rfl) rfl #[.int .u16 a0, .int .u16 a1] rfl (by (try simp only [List.map_toArray, List.map_cons, List.map_nil]); first | done | rfl | (simp only [List.length_drop, List.length_take]; rfl)) ?_; (with_reducible refine (annuletref24_Best.calls k a0 a1 t172 _ A5.out).mono ?_); rintro e w' ⟨rfl, ⟨nd, rfl⟩⟩; refine ⟨_, rfl, ?_⟩) | (go_at_call 12; (with_reducible refine (vers_Best.calls a1 a0 t173 _ A7.out).mono ?_); rintro e w' ⟨rfl, ⟨nd, rfl⟩⟩) | (go_at_call 14; (with_reducible refine (vers_Mode.calls a2 t174 _ A10.out).mono ?_); rintro e w14 ⟨rfl, hb⟩; have n0_ := Aside0.mk (below_step (by repeat (first | (with_reducible first | exact HB.out | apply below_alloc | apply pw_below_drewN | apply below_drew1) | exact HB.out)) hb); clear HB; have HB := n0_; clear n0_; (try clear hb); (try clear hb2); (try clear hk); (try clear hi)) | (go_at_call 15; (with_reducible refine (annuletref24_Mode.calls k a2 t175 _ A11.out).mono ?_); rintro e w' ⟨rfl, ⟨nd, rfl⟩⟩) | (go_at_call 6; (with_reducible refine (annuletlaw24_awake.calls k  t176 _ ?side1 A13.out).mono ?_); (case side1 => refine tabsM_later HTB.out ?_; repeat (first | (with_reducible first | exact HB.out | apply below_alloc | apply pw_below_drewN | apply below_drew1) | exact HB.out)); rintro e w15 ⟨rfl, hb⟩; have n0_ := Aside0.mk (below_step (by repeat (first | (with_reducible first | exact HB.out | apply below_alloc | apply pw_below_drewN | apply below_drew1) | exact HB.out)) hb); clear HB; have HB := n0_; clear n0_; (try clear hb); (try clear hb2); (try clear hk); (try clear hi)))
          all_goals go_ret
          all_goals first | (exact ⟨by first | rfl | (simp [errW_none, errW_some] <;> rfl) | (simp [*, errW_none, errW_some] <;> rfl), by repeat (first | (with_reducible first | exact HB.out | apply below_alloc | apply pw_below_drewN | apply below_drew1) | exact HB.out)⟩) | (exfalso; simp_all; done)
        · rw [if_neg c12] at H
          exact absurd H (by simp)
      · rw [if_neg c9] at H
        have c9b0 : (t171 == 0) = false := beq_eq_false_iff_ne.mpr c9
        have c9b1 : (t171 != 0) = true := bne_iff_ne.mpr c9
        replace H := Option.bind_eq_some_iff.mp H
        obtain ⟨t177, A160, H⟩ := H
        replace H : (if t177 = true then ((vers_Has.f a1 t171).bind fun t178 => (if t178 = true then ((vers_Mode.f a2).bind fun t179 => ((annuletref24_Mode.f k a2).bind fun t180 => (if t179 = t180 then ((annuletlaw24_awake.f k).bind fun t181 => (some t181)) else (none)))) else (none))) else (none)) = some r := H
        have A16 := Aside0.mk A160
        clear A160
        by_cases c17 : t177 = true
        · subst c17
          have H1 : ((vers_Has.f a1 t171).bind fun t178 => (if t178 = true then ((vers_Mode.f a2).bind fun t179 => ((annuletref24_Mode.f k a2).bind fun t180 => (if t179 = t180 then ((annuletlaw24_awake.f k).bind fun t181 => (some t181)) else (none)))) else (none))) = some r := by rw [if_pos rfl] at H; exact H
          clear H
          have H := H1
          clear H1
          replace H := Option.bind_eq_some_iff.mp H
          obtain ⟨t178, A180, H⟩ := H
          replace H : (if t178 = true then ((vers_Mode.f a2).bind fun t179 => ((annuletref24_Mode.f k a2).bind fun t180 => (if t179 = t180 then ((annuletlaw24_awake.f k).bind fun t181 => (some t181)) else (none)))) else (none)) = some r := H
          have A18 := Aside0.mk A180
          clear A180
          by_cases c19 : t178 = true
          · subst c19
            have H1 : ((vers_Mode.f a2).bind fun t179 => ((annuletref24_Mode.f k a2).bind fun t180 => (if t179 = t180 then ((annuletlaw24_awake.f k).bind fun t181 => (some t181)) else (none)))) = some r := by rw [if_pos rfl] at H; exact H
            clear H
            have H := H1
            clear H1
            replace H := Option.bind_eq_some_iff.mp H
            obtain ⟨t179, A200, H⟩ := H
            replace H : ((annuletref24_Mode.f k a2).bind fun t180 => (if t179 = t180 then ((annuletlaw24_awake.f k).bind fun t181 => (some t181)) else (none))) = some r := H
            have A20 := Aside0.mk A200
            clear A200
            replace H := Option.bind_eq_some_iff.mp H
            obtain ⟨t180, A210, H⟩ := H
            replace H : (if t179 = t180 then ((annuletlaw24_awake.f k).bind fun t181 => (some t181)) else (none)) = some r := H
            have A21 := Aside0.mk A210
            clear A210
            by_cases c22 : t179 = t180
            · rw [if_pos c22] at H
              have c22b0 : (t179 == t180) = true := beq_iff_eq.mpr c22
              have c22b1 : (t179 != t180) = false := bne_eq_false_iff_eq.mpr c22
              clear c22
              replace H := Option.bind_eq_some_iff.mp H
              obtain ⟨t181, A230, H⟩ := H
              replace H : (some t181) = some r := H
              have A23 := Aside0.mk A230
              clear A230
              obtain rfl := Option.some.inj H
              go_enter Tryd.func4, Tryd.ntmps4
              go_wp2_with (first | ((with_reducible refine gate_callee (f := 12) rfl ?_); refine goesL_ (some 10) rfl rfl Tryd.func12 (by kernel_rfl) rfl #[.int .u16 a0, .int .u16 a1] rfl (by (try simp only [List.map_toArray, List.map_cons, List.map_nil]); first | done | rfl | (simp only [List.length_drop, List.length_take]; rfl)) ?_; (with_reducible refine (vers_Best.calls a0 a1 t171 _ A4.out).mono ?_); rintro e w' ⟨rfl, ⟨nd, rfl⟩⟩; refine ⟨_, rfl, ?_⟩) | ((with_reducible refine gate_callee (f := 13) rfl ?_); refine goesL_ (some 14) rfl rfl Tryd.func13 (by kernel_rfl) rfl #[.int .u16 a0, .int .u16 a1] rfl (by (try simp only [List.map_toArray, List.map_cons, List.map_nil]); first | done | rfl | (simp only [List.length_drop, List.length_take]; rfl)) ?_; (with_reducible refine (annuletref24_Best.calls k a0 a1 t172 _ A5.out).mono ?_); rintro e w' ⟨rfl, ⟨nd, rfl⟩⟩; refine ⟨_, rfl, ?_⟩) | (go_at_call 12; (with_reducible refine (vers_Best.calls a1 a0 t173 _ A7.out).mono ?_); rintro e w' ⟨rfl, ⟨nd, rfl⟩⟩) | (go_at_call 11; (with_reducible refine (vers_Has.calls a0 t171 true _ A16.out).mono ?_); rintro e w' ⟨rfl, ⟨nd, rfl⟩⟩) | (go_at_call 11; (with_reducible refine (vers_Has.calls a1 t171 true _ A18.out).mono ?_); rintro e w' ⟨rfl, ⟨nd, rfl⟩⟩) | (go_at_call 14; (with_reducible refine (vers_Mode.calls a2 t179 _ A20.out).mono ?_); rintro e w24 ⟨rfl, hb⟩; have n0_ := Aside0.mk (below_step (by repeat (first | (with_reducible first | exact HB.out | apply below_alloc | apply pw_below_drewN | apply below_drew1) | exact HB.out)) hb); clear HB; have HB := n0_; clear n0_; (try clear hb); (try clear hb2); (try clear hk); (try clear hi)) | (go_at_call 15; (with_reducible refine (annuletref24_Mode.calls k a2 t180 _ A21.out).mono ?_); rintro e w' ⟨rfl, ⟨nd, rfl⟩⟩) | (go_at_call 6; (with_reducible refine (annuletlaw24_awake.calls k  t181 _ ?side1 A23.out).mono ?_); (case side1 => refine tabsM_later HTB.out ?_; repeat (first | (with_reducible first | exact HB.out | apply below_alloc | apply pw_below_drewN | apply below_drew1) | exact HB.out)); rintro e w25 ⟨rfl, hb⟩; have n0_ := Aside0.mk (below_step (by repeat (first | (with_reducible first | exact HB.out | apply below_alloc | apply pw_below_drewN | apply below_drew1) | exact HB.out)) hb); clear HB; have HB := n0_; clear n0_; (try clear hb); (try clear hb2); (try clear hk); (try clear hi)))
              all_goals go_ret
              all_goals first | (exact ⟨by first | rfl | (simp [errW_none, errW_some] <;> rfl) | (simp [*, errW_none, errW_some] <;> rfl), by repeat (first | (with_reducible first | exact HB.out | apply below_alloc | apply pw_below_drewN | apply below_drew1) | exact HB.out)⟩) | (exfalso; simp_all; done)
            · rw [if_neg c22] at H
              exact absurd H (by simp)
          · replace c19 := Bool.eq_false_iff.mpr c19
            subst c19
            have H1 : (none) = some r := by rw [if_neg (show ¬ (false = true) by decide)] at H; exact H
            clear H
            have H := H1
            clear H1
            exact absurd H (by simp)
        · replace c17 := Bool.eq_false_iff.mpr c17
          subst c17
          have H1 : (none) = some r := by rw [if_neg (show ¬ (false = true) by decide)] at H; exact H
          clear H
          have H := H1
          clear H1
          exact absurd H (by simp)
    · rw [if_neg c8] at H
      exact absurd H (by simp)
  · rw [if_neg c6] at H
    exact absurd H (by simp)

def annuletlaw24_VersBest.Pure : Prop := ∀ (a0 : Int) (a1 : Int) (a2 : Int), (Lit.int .u16 a0).wf = true → (Lit.int .u16 a1).wf = true → (Lit.int .i64 a2).wf = true → ∃ k, annuletlaw24_VersBest.f k a0 a1 a2 = some true

end Go.Proofs.YthblpbnpdbpdjaaDoor.PVersBest
