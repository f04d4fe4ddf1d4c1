/- Written by a program of this session (a turned copy of the kit's print): functions of the program, each with the Lean function that it comes to, and the row of one law. No condition. -/
import Derived.Test.YtmohmmpcadlfkaaDoorPTaggedBackx0
import Derived.Test.YtmohmmpcadlfkaaDoorPTaggedBackx1
import Derived.Test.YtmohmmpcadlfkaaDoorPTaggedBackx2
import Derived.Test.YtmohmmpcadlfkaaDoorPTaggedBackx3
namespace Go.Proofs.YtmohmmpcadlfkaaDoor.PTaggedBack
open Go.RowKit Go.Proofs.YtmohmmpcadlfkaaDoorW.PrintWords Go.Proofs.YtmohmmpcadlfkaaDoorW.PrintLast Go.Proofs.YtmohmmpcadlfkaaDoorW.PrintMore
attribute [local go_sem] max2_int min2_int max_two min_two max_three min_three max_four min_four   -- for this text's walks alone
set_option linter.unusedVariables false
set_option linter.unusedSimpArgs false

attribute [local go_sem high] eqA26 eqA43
/-! ### api_Peer_62: function 62 -/
def api_Peer_62.l0 : Nat → List (S26) → List (S26) → Int → Int → Option (Bool)
  | 0, _, _, _, _ => none
  | k + 1, x0, x1, x12, x13 => if x13 < x12 then (if 0 ≤ x13 then (if x13 < (x0.length : Int) then (if x13 < (x1.length : Int) then (if (!(((rd_T26 x0 x13).f0) == ((rd_T26 x1 x13).f0)) || (!(((rd_T26 x0 x13).f1) == ((rd_T26 x1 x13).f1)))) = true then (some false) else (api_Peer_62.l0 k x0 x1 x12 (wrap64 (x13 + 1)))) else (none)) else (none)) else (none)) else (some true)
def api_Peer_62.f (k : Nat) (l0 : List (S26)) (l1 : List (S26)) : Option (Bool) := if (l0.length : Int) = (l1.length : Int) then (api_Peer_62.l0 k l0 l1 (l0.length : Int) 0) else (some false)
theorem api_Peer_62.mono_l : ∀ k, (∀ y0 y1 y2 y3, LeO (api_Peer_62.l0 k y0 y1 y2 y3) (api_Peer_62.l0 (k + 1) y0 y1 y2 y3))
  | 0 => fun _ _ _ _ r h => by simp [api_Peer_62.l0] at h
  | k + 1 => by
    have ih0 := api_Peer_62.mono_l k
    · intro y0 y1 y2 y3
      unfold api_Peer_62.l0
      repeat' first
      | (with_reducible exact ih0 _ _ _ _)
      | (with_reducible exact LeO.refl _)
      | (with_reducible exact LeO.none _)
      | (with_reducible refine LeO.ite ?_ ?_)
      | (with_reducible refine LeO.bind ?_ (fun _ => ?_))
      | exact ih0 _ _ _ _
      | exact LeO.none _
      | refine LeO.ite ?_ ?_
      | refine LeO.bind ?_ (fun _ => ?_)
theorem api_Peer_62.mono : ∀ a0 a1 k, LeO (api_Peer_62.f k a0 a1) (api_Peer_62.f (k + 1) a0 a1) := by
  intro a0 a1 k
  have ih0 := api_Peer_62.mono_l k
  unfold api_Peer_62.f
  repeat' first
      | (with_reducible exact ih0 _ _ _ _)
      | (with_reducible exact LeO.refl _)
      | (with_reducible exact LeO.none _)
      | (with_reducible refine LeO.ite ?_ ?_)
      | (with_reducible refine LeO.bind ?_ (fun _ => ?_))
      | exact ih0 _ _ _ _
      | exact LeO.none _
      | refine LeO.ite ?_ ?_
      | refine LeO.bind ?_ (fun _ => ?_)
set_option maxHeartbeats 3000000 in
set_option maxRecDepth 100000 in
theorem api_Peer_62.calls (k : Nat) (A0 : Option Addr) (c0 : Nat) (l0 : List (S26)) (A1 : Option Addr) (c1 : Nat) (l1 : List (S26)) (r : Bool) (w : World) (hr0 : Kd.C k26 w A0 l0.length l0) (hc0 : l0.length ≤ c0) (hr1 : Kd.C k26 w A1 l1.length l1) (hc1 : l1.length ≤ c1) (h : api_Peer_62.f k l0 l1 = some r) :
    Calls Tryd.prog 62 #[.slice A0 l0.length c0, .slice A1 l1.length c1] w fun e w' => e = .returned (.bool r) ∧ Drawn0 w w' := by
  have hu26 := Tryd.underlying26
  have HR0 := Aside0.mk hr0
  have HC0 := Aside0.mk hc0
  clear hr0 hc0
  have HR1 := Aside0.mk hr1
  have HC1 := Aside0.mk hc1
  clear hr1 hc1
  have H : (if (l0.length : Int) = (l1.length : Int) then (api_Peer_62.l0 k l0 l1 (l0.length : Int) 0) else (some false)) = some r := h
  clear h
  by_cases c3 : (l0.length : Int) = (l1.length : Int)
  · rw [if_pos c3] at H
    have c3b0 : ((l0.length : Int) == (l1.length : Int)) = true := beq_iff_eq.mpr c3
    have c3b1 : ((l0.length : Int) != (l1.length : Int)) = false := bne_eq_false_iff_eq.mpr c3
    have c3b2 : (l0.length == l1.length) = true := by first | simpa using c3 | (simp at c3 ⊢; omega)
    clear c3
    have H' := Aside0.mk H
    clear H
    go_enter Tryd.func62, Tryd.ntmps62
    go_wp2
    repeat (go_quiet (fail); try go_wp2)
    go_loopg [13] k (fun kq v13 w' => ∃ (x13_1 : Int), v13 = .int .i64 x13_1 ∧ Aside0 (api_Peer_62.l0 kq l0 l1 (l0.length : Int) x13_1 = some r) ∧ Aside0 (kq ≤ k) ∧ Drawn0 w w')
    case atStart => exact ⟨(0), (by first | rfl | (simp; done) | (simp [*]; done)), H', ⟨Nat.le_refl _⟩, by repeat (first | exact Drawn0.refl _ | apply Drawn0.step)⟩
    case round =>
      clear H'
      try clear c1
      try clear p2
      try clear c3
      try clear c3b0
      try clear c3b1
      try clear c3b2
      obtain ⟨x13_1, rfl, HA, HK1, ⟨m1, rfl⟩⟩ := hrel
      cases gk with
      | zero => exact absurd HA.out (by simp [api_Peer_62.l0])
      | succ k1 =>
        have H := HA.out
        clear HA
        simp only [api_Peer_62.l0] at H
        by_cases c4 : x13_1 < (l0.length : Int)
        · rw [if_pos c4] at H
          have c4b0 : decide (x13_1 < (l0.length : Int)) = true := decide_eq_true c4
          clear c4
          by_cases c5 : 0 ≤ x13_1
          · rw [if_pos c5] at H
            have c5b0 : decide (0 ≤ x13_1) = true := decide_eq_true c5
            clear c5
            by_cases c6 : x13_1 < (l0.length : Int)
            · rw [if_pos c6] at H
              have c6b0 : decide (x13_1 < (l0.length : Int)) = true := decide_eq_true c6
              clear c6
              by_cases c7 : x13_1 < (l1.length : Int)
              · rw [if_pos c7] at H
                have c7b0 : decide (x13_1 < (l1.length : Int)) = true := decide_eq_true c7
                clear c7
                by_cases c8 : (!(((rd_T26 l0 x13_1).f0) == ((rd_T26 l1 x13_1).f0)) || (!(((rd_T26 l0 x13_1).f1) == ((rd_T26 l1 x13_1).f1)))) = true
                · rw [if_pos c8] at H
                  have c8b0 : (!(((rd_T26 l0 x13_1).f0) == ((rd_T26 l1 x13_1).f0)) || (!(((rd_T26 l0 x13_1).f1) == ((rd_T26 l1 x13_1).f1)))) = true := c8
                  clear c8
                  obtain rfl := Option.some.inj H
                  have p146 : 0 ≤ (x13_1 : Int) := of_decide_eq_true (by first | (with_reducible assumption) | assumption)
                  have q146 : x13_1 < (l0.length : Int) := of_decide_eq_true (by first | (with_reducible assumption) | assumption)
                  obtain ⟨ad146, e146, hx146_0, hx146_1⟩ := at_T26 HR0.out x13_1 p146 q146
                  cases e146
                  replace p146 := eq_true p146
                  replace q146 := eq_true q146
                  have p147 : 0 ≤ (x13_1 : Int) := of_decide_eq_true (by first | (with_reducible assumption) | assumption)
                  have q147 : x13_1 < (l1.length : Int) := of_decide_eq_true (by first | (with_reducible assumption) | assumption)
                  obtain ⟨ad147, e147, hx147_0, hx147_1⟩ := at_T26 HR1.out x13_1 p147 q147
                  cases e147
                  replace p147 := eq_true p147
                  replace q147 := eq_true q147
                  go_wp2
                  repeat (go_quiet (fail); try go_wp2)
                  all_goals go_ret
                  all_goals first | (exact ⟨by first | rfl | (simp; done) | (simp [*]; done) | (refine congrArg Ending.returned ?_; show Value.string _ = Value.string _; (first | (congr 2 <;> omega) | (congr 3 <;> omega) | (congr 4 <;> omega))), by repeat (first | exact Drawn0.refl _ | apply Drawn0.step)⟩) | (exfalso; simp_all; done)
                · rw [if_neg c8] at H
                  have c8b0 : (!(((rd_T26 l0 x13_1).f0) == ((rd_T26 l1 x13_1).f0)) || (!(((rd_T26 l0 x13_1).f1) == ((rd_T26 l1 x13_1).f1)))) = false := by simpa using c8
                  clear c8
                  have H' := Aside0.mk H
                  clear H
                  have p146 : 0 ≤ (x13_1 : Int) := of_decide_eq_true (by first | (with_reducible assumption) | assumption)
                  have q146 : x13_1 < (l0.length : Int) := of_decide_eq_true (by first | (with_reducible assumption) | assumption)
                  obtain ⟨ad146, e146, hx146_0, hx146_1⟩ := at_T26 HR0.out x13_1 p146 q146
                  cases e146
                  replace p146 := eq_true p146
                  replace q146 := eq_true q146
                  have p147 : 0 ≤ (x13_1 : Int) := of_decide_eq_true (by first | (with_reducible assumption) | assumption)
                  have q147 : x13_1 < (l1.length : Int) := of_decide_eq_true (by first | (with_reducible assumption) | assumption)
                  obtain ⟨ad147, e147, hx147_0, hx147_1⟩ := at_T26 HR1.out x13_1 p147 q147
                  cases e147
                  replace p147 := eq_true p147
                  replace q147 := eq_true q147
                  go_wp2
                  repeat (go_quiet (fail); try go_wp2)
                  go_roundg k1
                  case measure => have := HK1.out; omega
                  case rel => exact ⟨(wrap64 (x13_1 + 1)), (by first | rfl | (simp; done) | (simp [*]; done)), H', ⟨by have := HK1.out; omega⟩, by repeat (first | exact Drawn0.refl _ | apply Drawn0.step)⟩
              · rw [if_neg c7] at H
                exact absurd H (by simp)
            · rw [if_neg c6] at H
              exact absurd H (by simp)
          · rw [if_neg c5] at H
            exact absurd H (by simp)
        · rw [if_neg c4] at H
          have c4b0 : decide (x13_1 < (l0.length : Int)) = false := decide_eq_false c4
          clear c4
          obtain rfl := Option.some.inj H
          go_wp2
          repeat (go_quiet (fail); try go_wp2)
          all_goals go_ret
          all_goals first | (exact ⟨by first | rfl | (simp; done) | (simp [*]; done) | (refine congrArg Ending.returned ?_; show Value.string _ = Value.string _; (first | (congr 2 <;> omega) | (congr 3 <;> omega) | (congr 4 <;> omega))), by repeat (first | exact Drawn0.refl _ | apply Drawn0.step)⟩) | (exfalso; simp_all; done)
  · rw [if_neg c3] at H
    have c3b0 : ((l0.length : Int) == (l1.length : Int)) = false := beq_eq_false_iff_ne.mpr c3
    have c3b1 : ((l0.length : Int) != (l1.length : Int)) = true := bne_iff_ne.mpr c3
    have c3b2 : (l0.length == l1.length) = false := by first | simpa using c3 | (simp at c3 ⊢; omega)
    obtain rfl := Option.some.inj H
    go_enter Tryd.func62, Tryd.ntmps62
    go_wp2
    repeat (go_quiet (fail); try go_wp2)
    all_goals go_ret
    all_goals first | (exact ⟨by first | rfl | (simp; done) | (simp [*]; done) | (refine congrArg Ending.returned ?_; show Value.string _ = Value.string _; (first | (congr 2 <;> omega) | (congr 3 <;> omega) | (congr 4 <;> omega))), by repeat (first | exact Drawn0.refl _ | apply Drawn0.step)⟩) | (exfalso; simp_all; done)

/-! ### api_Pair_63: function 63 -/
def api_Pair_63.l0 : Nat → List (S43) → List (S43) → Int → Int → Option (Bool)
  | 0, _, _, _, _ => none
  | k + 1, x0, x1, x12, x13 => if x13 < x12 then (if 0 ≤ x13 then (if x13 < (x0.length : Int) then (if x13 < (x1.length : Int) then (if (!((((rd_T43 x0 x13).f0).toList) == (((rd_T43 x1 x13).f0).toList)) || (!((((rd_T43 x0 x13).f1).toList) == (((rd_T43 x1 x13).f1).toList)))) = true then (some false) else (api_Pair_63.l0 k x0 x1 x12 (wrap64 (x13 + 1)))) else (none)) else (none)) else (none)) else (some true)
def api_Pair_63.f (k : Nat) (l0 : List (S43)) (l1 : List (S43)) : Option (Bool) := if (l0.length : Int) = (l1.length : Int) then (api_Pair_63.l0 k l0 l1 (l0.length : Int) 0) else (some false)
theorem api_Pair_63.mono_l : ∀ k, (∀ y0 y1 y2 y3, LeO (api_Pair_63.l0 k y0 y1 y2 y3) (api_Pair_63.l0 (k + 1) y0 y1 y2 y3))
  | 0 => fun _ _ _ _ r h => by simp [api_Pair_63.l0] at h
  | k + 1 => by
    have ih0 := api_Pair_63.mono_l k
    · intro y0 y1 y2 y3
      unfold api_Pair_63.l0
      repeat' first
      | (with_reducible exact ih0 _ _ _ _)
      | (with_reducible exact LeO.refl _)
      | (with_reducible exact LeO.none _)
      | (with_reducible refine LeO.ite ?_ ?_)
      | (with_reducible refine LeO.bind ?_ (fun _ => ?_))
      | exact ih0 _ _ _ _
      | exact LeO.none _
      | refine LeO.ite ?_ ?_
      | refine LeO.bind ?_ (fun _ => ?_)
theorem api_Pair_63.mono : ∀ a0 a1 k, LeO (api_Pair_63.f k a0 a1) (api_Pair_63.f (k + 1) a0 a1) := by
  intro a0 a1 k
  have ih0 := api_Pair_63.mono_l k
  unfold api_Pair_63.f
  repeat' first
      | (with_reducible exact ih0 _ _ _ _)
      | (with_reducible exact LeO.refl _)
      | (with_reducible exact LeO.none _)
      | (with_reducible refine LeO.ite ?_ ?_)
      | (with_reducible refine LeO.bind ?_ (fun _ => ?_))
      | exact ih0 _ _ _ _
      | exact LeO.none _
      | refine LeO.ite ?_ ?_
      | refine LeO.bind ?_ (fun _ => ?_)
set_option maxHeartbeats 3000000 in
set_option maxRecDepth 100000 in
theorem api_Pair_63.calls (k : Nat) (A0 : Option Addr) (c0 : Nat) (l0 : List (S43)) (A1 : Option Addr) (c1 : Nat) (l1 : List (S43)) (r : Bool) (w : World) (hr0 : Kd.C k43 w A0 l0.length l0) (hc0 : l0.length ≤ c0) (hr1 : Kd.C k43 w A1 l1.length l1) (hc1 : l1.length ≤ c1) (h : api_Pair_63.f k l0 l1 = some r) :
    Calls Tryd.prog 63 #[.slice A0 l0.length c0, .slice A1 l1.length c1] w fun e w' => e = .returned (.bool r) ∧ Drawn0 w w' := by
  have hu43 := Tryd.underlying43
  have HR0 := Aside0.mk hr0
  have HC0 := Aside0.mk hc0
  clear hr0 hc0
  have HR1 := Aside0.mk hr1
  have HC1 := Aside0.mk hc1
  clear hr1 hc1
  have H : (if (l0.length : Int) = (l1.length : Int) then (api_Pair_63.l0 k l0 l1 (l0.length : Int) 0) else (some false)) = some r := h
  clear h
  by_cases c3 : (l0.length : Int) = (l1.length : Int)
  · rw [if_pos c3] at H
    have c3b0 : ((l0.length : Int) == (l1.length : Int)) = true := beq_iff_eq.mpr c3
    have c3b1 : ((l0.length : Int) != (l1.length : Int)) = false := bne_eq_false_iff_eq.mpr c3
    have c3b2 : (l0.length == l1.length) = true := by first | simpa using c3 | (simp at c3 ⊢; omega)
    clear c3
    have H' := Aside0.mk H
    clear H
    go_enter Tryd.func63, Tryd.ntmps63
    go_wp2
    repeat (go_quiet (fail); try go_wp2)
    go_loopg [13] k (fun kq v13 w' => ∃ (x13_1 : Int), v13 = .int .i64 x13_1 ∧ Aside0 (api_Pair_63.l0 kq l0 l1 (l0.length : Int) x13_1 = some r) ∧ Aside0 (kq ≤ k) ∧ Drawn0 w w')
    case atStart => exact ⟨(0), (by first | rfl | (simp; done) | (simp [*]; done)), H', ⟨Nat.le_refl _⟩, by repeat (first | exact Drawn0.refl _ | apply Drawn0.step)⟩
    case round =>
      clear H'
      try clear c1
      try clear p2
      try clear c3
      try clear c3b0
      try clear c3b1
      try clear c3b2
      obtain ⟨x13_1, rfl, HA, HK1, ⟨m1, rfl⟩⟩ := hrel
      cases gk with
      | zero => exact absurd HA.out (by simp [api_Pair_63.l0])
      | succ k1 =>
        have H := HA.out
        clear HA
        simp only [api_Pair_63.l0] at H
        by_cases c4 : x13_1 < (l0.length : Int)
        · rw [if_pos c4] at H
          have c4b0 : decide (x13_1 < (l0.length : Int)) = true := decide_eq_true c4
          clear c4
          by_cases c5 : 0 ≤ x13_1
          · rw [if_pos c5] at H
            have c5b0 : decide (0 ≤ x13_1) = true := decide_eq_true c5
            clear c5
            by_cases c6 : x13_1 < (l0.length : Int)
            · rw [if_pos c6] at H
              have c6b0 : decide (x13_1 < (l0.length : Int)) = true := decide_eq_true c6
              clear c6
              by_cases c7 : x13_1 < (l1.length : Int)
              · rw [if_pos c7] at H
                have c7b0 : decide (x13_1 < (l1.length : Int)) = true := decide_eq_true c7
                clear c7
                by_cases c8 : (!((((rd_T43 l0 x13_1).f0).toList) == (((rd_T43 l1 x13_1).f0).toList)) || (!((((rd_T43 l0 x13_1).f1).toList) == (((rd_T43 l1 x13_1).f1).toList)))) = true
                · rw [if_pos c8] at H
                  have c8b0 : (!((((rd_T43 l0 x13_1).f0).toList) == (((rd_T43 l1 x13_1).f0).toList)) || (!((((rd_T43 l0 x13_1).f1).toList) == (((rd_T43 l1 x13_1).f1).toList)))) = true := c8
                  clear c8
                  obtain rfl := Option.some.inj H
                  have p148 : 0 ≤ (x13_1 : Int) := of_decide_eq_true (by first | (with_reducible assumption) | assumption)
                  have q148 : x13_1 < (l0.length : Int) := of_decide_eq_true (by first | (with_reducible assumption) | assumption)
                  obtain ⟨ad148, e148, hx148_0, hx148_1⟩ := at_T43 HR0.out x13_1 p148 q148
                  cases e148
                  replace p148 := eq_true p148
                  replace q148 := eq_true q148
                  have p149 : 0 ≤ (x13_1 : Int) := of_decide_eq_true (by first | (with_reducible assumption) | assumption)
                  have q149 : x13_1 < (l1.length : Int) := of_decide_eq_true (by first | (with_reducible assumption) | assumption)
                  obtain ⟨ad149, e149, hx149_0, hx149_1⟩ := at_T43 HR1.out x13_1 p149 q149
                  cases e149
                  replace p149 := eq_true p149
                  replace q149 := eq_true q149
                  go_wp2
                  repeat (go_quiet (fail); try go_wp2)
                  all_goals go_ret
                  all_goals first | (exact ⟨by first | rfl | (simp; done) | (simp [*]; done) | (refine congrArg Ending.returned ?_; show Value.string _ = Value.string _; (first | (congr 2 <;> omega) | (congr 3 <;> omega) | (congr 4 <;> omega))), by repeat (first | exact Drawn0.refl _ | apply Drawn0.step)⟩) | (exfalso; simp_all; done)
                · rw [if_neg c8] at H
                  have c8b0 : (!((((rd_T43 l0 x13_1).f0).toList) == (((rd_T43 l1 x13_1).f0).toList)) || (!((((rd_T43 l0 x13_1).f1).toList) == (((rd_T43 l1 x13_1).f1).toList)))) = false := by simpa using c8
                  clear c8
                  have H' := Aside0.mk H
                  clear H
                  have p148 : 0 ≤ (x13_1 : Int) := of_decide_eq_true (by first | (with_reducible assumption) | assumption)
                  have q148 : x13_1 < (l0.length : Int) := of_decide_eq_true (by first | (with_reducible assumption) | assumption)
                  obtain ⟨ad148, e148, hx148_0, hx148_1⟩ := at_T43 HR0.out x13_1 p148 q148
                  cases e148
                  replace p148 := eq_true p148
                  replace q148 := eq_true q148
                  have p149 : 0 ≤ (x13_1 : Int) := of_decide_eq_true (by first | (with_reducible assumption) | assumption)
                  have q149 : x13_1 < (l1.length : Int) := of_decide_eq_true (by first | (with_reducible assumption) | assumption)
                  obtain ⟨ad149, e149, hx149_0, hx149_1⟩ := at_T43 HR1.out x13_1 p149 q149
                  cases e149
                  replace p149 := eq_true p149
                  replace q149 := eq_true q149
                  go_wp2
                  repeat (go_quiet (fail); try go_wp2)
                  go_roundg k1
                  case measure => have := HK1.out; omega
                  case rel => exact ⟨(wrap64 (x13_1 + 1)), (by first | rfl | (simp; done) | (simp [*]; done)), H', ⟨by have := HK1.out; omega⟩, by repeat (first | exact Drawn0.refl _ | apply Drawn0.step)⟩
              · rw [if_neg c7] at H
                exact absurd H (by simp)
            · rw [if_neg c6] at H
              exact absurd H (by simp)
          · rw [if_neg c5] at H
            exact absurd H (by simp)
        · rw [if_neg c4] at H
          have c4b0 : decide (x13_1 < (l0.length : Int)) = false := decide_eq_false c4
          clear c4
          obtain rfl := Option.some.inj H
          go_wp2
          repeat (go_quiet (fail); try go_wp2)
          all_goals go_ret
          all_goals first | (exact ⟨by first | rfl | (simp; done) | (simp [*]; done) | (refine congrArg Ending.returned ?_; show Value.string _ = Value.string _; (first | (congr 2 <;> omega) | (congr 3 <;> omega) | (congr 4 <;> omega))), by repeat (first | exact Drawn0.refl _ | apply Drawn0.step)⟩) | (exfalso; simp_all; done)
  · rw [if_neg c3] at H
    have c3b0 : ((l0.length : Int) == (l1.length : Int)) = false := beq_eq_false_iff_ne.mpr c3
    have c3b1 : ((l0.length : Int) != (l1.length : Int)) = true := bne_iff_ne.mpr c3
    have c3b2 : (l0.length == l1.length) = false := by first | simpa using c3 | (simp at c3 ⊢; omega)
    obtain rfl := Option.some.inj H
    go_enter Tryd.func63, Tryd.ntmps63
    go_wp2
    repeat (go_quiet (fail); try go_wp2)
    all_goals go_ret
    all_goals first | (exact ⟨by first | rfl | (simp; done) | (simp [*]; done) | (refine congrArg Ending.returned ?_; show Value.string _ = Value.string _; (first | (congr 2 <;> omega) | (congr 3 <;> omega) | (congr 4 <;> omega))), by repeat (first | exact Drawn0.refl _ | apply Drawn0.step)⟩) | (exfalso; simp_all; done)


/-! ### msg_Same: function 36 -/
/-! ### rows of eleven cells, short -/
theorem bt8 (F : Int) {a b c d e f g h : Bool} (H : ((bits .and .i64 F 1 != 0), (bits .and .i64 F 2 != 0), (bits .and .i64 F 4 != 0), (bits .and .i64 F 8 != 0), (bits .and .i64 F 16 != 0), (bits .and .i64 F 32 != 0), (bits .and .i64 F 64 != 0), (bits .and .i64 F 128 != 0)) = (a, b, c, d, e, f, g, h)) :
    (bits .and .i64 F 1 != 0) = a ∧ (bits .and .i64 F 2 != 0) = b ∧ (bits .and .i64 F 4 != 0) = c ∧ (bits .and .i64 F 8 != 0) = d ∧ (bits .and .i64 F 16 != 0) = e ∧ (bits .and .i64 F 32 != 0) = f ∧ (bits .and .i64 F 64 != 0) = g ∧ (bits .and .i64 F 128 != 0) = h := by
  simpa only [Prod.mk.injEq] using H
def set11 (W : World) (b : Nat) (x0 x1 x2 x3 x4 x5 x6 x7 x8 x9 x10 : Value) : World :=
  ((((((((((W.setCell ⟨b, 0, none⟩ x0).setCell ⟨b, 1, none⟩ x1).setCell ⟨b, 2, none⟩ x2).setCell ⟨b, 3, none⟩ x3).setCell ⟨b, 4, none⟩ x4).setCell ⟨b, 5, none⟩ x5).setCell ⟨b, 6, none⟩ x6).setCell ⟨b, 7, none⟩ x7).setCell ⟨b, 8, none⟩ x8).setCell ⟨b, 9, none⟩ x9).setCell ⟨b, 10, none⟩ x10
theorem put11 {W : World} {b t : Nat} {a0 a1 a2 a3 a4 a5 a6 a7 a8 a9 a10 : Value} (h : W.heap[b]? = some (.cells #[a0, a1, a2, a3, a4, a5, a6, a7, a8, a9, a10] t (0, 0))) (x0 x1 x2 x3 x4 x5 x6 x7 x8 x9 x10 : Value) :
    (set11 W b x0 x1 x2 x3 x4 x5 x6 x7 x8 x9 x10).heap[b]? = some (.cells #[x0, x1, x2, x3, x4, x5, x6, x7, x8, x9, x10] t (0, 0)) := by
  unfold set11
  have q := blk_set (blk_set (blk_set (blk_set (blk_set (blk_set (blk_set (blk_set (blk_set (blk_set (blk_set h 0 x0) 1 x1) 2 x2) 3 x3) 4 x4) 5 x5) 6 x6) 7 x7) 8 x8) 9 x9) 10 x10
  simpa only [List.setIfInBounds_toArray, List.set_cons_zero, List.set_cons_succ] using q
theorem below11 {w0 W : World} {b B : Nat} (h : Below B w0 W) (hb : B ≤ b) (x0 x1 x2 x3 x4 x5 x6 x7 x8 x9 x10 : Value) : Below B w0 (set11 W b x0 x1 x2 x3 x4 x5 x6 x7 x8 x9 x10) := by
  unfold set11
  exact ((((((((((h.setCell hb _).setCell hb _).setCell hb _).setCell hb _).setCell hb _).setCell hb _).setCell hb _).setCell hb _).setCell hb _).setCell hb _).setCell hb _
theorem keep11 {w0 W : World} {b : Nat} (h : KeepBut w0 W b none) (x0 x1 x2 x3 x4 x5 x6 x7 x8 x9 x10 : Value) : KeepBut w0 (set11 W b x0 x1 x2 x3 x4 x5 x6 x7 x8 x9 x10) b none := by
  unfold set11
  exact KeepBut.set_ (KeepBut.set_ (KeepBut.set_ (KeepBut.set_ (KeepBut.set_ (KeepBut.set_ (KeepBut.set_ (KeepBut.set_ (KeepBut.set_ (KeepBut.set_ (KeepBut.set_ h _ _) _ _) _ _) _ _) _ _) _ _) _ _) _ _) _ _) _ _) _ _
theorem R_keepN {α : Type} {d : Kd α} {e base g : Nat} {ok : Nat → Prop} {w w1 : World} {v : Value} {xs : List α} (h : d.R e w base ok v xs) (hk : KeepBut w w1 g none) (hg : g < base) : d.R e w1 base ok v xs :=
  Kd.R_mono (Kd.R_keep (Kd.R_bound h) hk (fun k hk => by have := hk.2.1; omega)) (fun k hk => hk.1)
def msg_Same.f (k : Nat) (a0_0 : Int) (a0_1 : Int) (a0_2 : Int) (a0_3 : Bool) (a0_4 : Int) (a0_5 : ByteArray) (a0_6 : ByteArray) (a0_7 : Int) (a0_8 : Int) (l0_9 : List (S26)) (l0_10 : List (S43)) (a1_0 : Int) (a1_1 : Int) (a1_2 : Int) (a1_3 : Bool) (a1_4 : Int) (a1_5 : ByteArray) (a1_6 : ByteArray) (a1_7 : Int) (a1_8 : Int) (l1_9 : List (S26)) (l1_10 : List (S43)) : Option (Bool) := if a0_0 = a1_0 then (if a0_1 = a1_1 then (if a0_2 = a1_2 then (if (a0_3 == a1_3) = true then (if a0_4 = a1_4 then (if a0_5.toList = a1_5.toList then (if a0_6.toList = a1_6.toList then (if (a0_7 == a1_7 && (a0_8 == a1_8)) = true then ((api_Peer_62.f k l0_9 l1_9).bind fun t149 => (if t149 = true then ((api_Pair_63.f k l0_10 l1_10).bind fun t150 => (some t150)) else (some false))) else (some false)) else (some false)) else (some false)) else (some false)) else (some false)) else (some false)) else (some false)) else (some false)
set_option maxHeartbeats 4000000 in
set_option maxRecDepth 100000 in
theorem msg_Same.calls (k : Nat) (a0_0 : Int) (a0_1 : Int) (a0_2 : Int) (a0_3 : Bool) (a0_4 : Int) (a0_5 : ByteArray) (a0_6 : ByteArray) (a0_7 : Int) (a0_8 : Int) (A0_9 : Option Addr) (c0_9 : Nat) (l0_9 : List (S26)) (A0_10 : Option Addr) (c0_10 : Nat) (l0_10 : List (S43)) (a1_0 : Int) (a1_1 : Int) (a1_2 : Int) (a1_3 : Bool) (a1_4 : Int) (a1_5 : ByteArray) (a1_6 : ByteArray) (a1_7 : Int) (a1_8 : Int) (A1_9 : Option Addr) (c1_9 : Nat) (l1_9 : List (S26)) (A1_10 : Option Addr) (c1_10 : Nat) (l1_10 : List (S43)) (r : Bool) (w : World) (hr0_9 : Kd.C k26 w A0_9 l0_9.length l0_9) (hc0_9 : l0_9.length ≤ c0_9) (hr0_10 : Kd.C k43 w A0_10 l0_10.length l0_10) (hc0_10 : l0_10.length ≤ c0_10) (hr1_9 : Kd.C k26 w A1_9 l1_9.length l1_9) (hc1_9 : l1_9.length ≤ c1_9) (hr1_10 : Kd.C k43 w A1_10 l1_10.length l1_10) (hc1_10 : l1_10.length ≤ c1_10) (h : msg_Same.f k a0_0 a0_1 a0_2 a0_3 a0_4 a0_5 a0_6 a0_7 a0_8 l0_9 l0_10 a1_0 a1_1 a1_2 a1_3 a1_4 a1_5 a1_6 a1_7 a1_8 l1_9 l1_10 = some r) :
    Calls Tryd.prog 36 #[.agg #[.int .i64 a0_0, .int .u32 a0_1, .int .u8 a0_2, .bool a0_3, .int .u64 a0_4, .string a0_5, .string a0_6, .int .u64 a0_7, .int .u16 a0_8, .slice A0_9 l0_9.length c0_9, .slice A0_10 l0_10.length c0_10], .agg #[.int .i64 a1_0, .int .u32 a1_1, .int .u8 a1_2, .bool a1_3, .int .u64 a1_4, .string a1_5, .string a1_6, .int .u64 a1_7, .int .u16 a1_8, .slice A1_9 l1_9.length c1_9, .slice A1_10 l1_10.length c1_10]] w fun e w' => e = .returned (.bool r) ∧ Below w.heap.size w w' := by
  have hu30 := Tryd.underlying30
  have hu26 := Tryd.underlying26
  have HB := Aside0.mk (below_alloc (below_alloc (Below.refl w.heap.size w) (.cells #[.int .i64 a0_0, .int .u32 a0_1, .int .u8 a0_2, .bool a0_3, .int .u64 a0_4, .string a0_5, .string a0_6, .int .u64 a0_7, .int .u16 a0_8, .slice A0_9 l0_9.length c0_9, .slice A0_10 l0_10.length c0_10] 30)) (.cells #[.int .i64 a1_0, .int .u32 a1_1, .int .u8 a1_2, .bool a1_3, .int .u64 a1_4, .string a1_5, .string a1_6, .int .u64 a1_7, .int .u16 a1_8, .slice A1_9 l1_9.length c1_9, .slice A1_10 l1_10.length c1_10] 30))
  have C9 := Aside0.mk (show ∀ W, Below w.heap.size w W → Kd.C k26 W A0_9 l0_9.length l0_9 ∧ Kd.C k26 W A1_9 l1_9.length l1_9 from fun W hW => ⟨Kd.C_below hr0_9 hW, Kd.C_below hr1_9 hW⟩)
  have C10 := Aside0.mk (show ∀ W, Below w.heap.size w W → Kd.C k43 W A0_10 l0_10.length l0_10 ∧ Kd.C k43 W A1_10 l1_10.length l1_10 from fun W hW => ⟨Kd.C_below hr0_10 hW, Kd.C_below hr1_10 hW⟩)
  have HC := Aside0.mk (And.intro hc0_9 (And.intro hc1_9 (And.intro hc0_10 hc1_10)))
  clear hr0_9 hr0_10 hr1_9 hr1_10 hc0_9 hc0_10 hc1_9 hc1_10
  unfold msg_Same.f at h
  by_cases c : a0_0 = a1_0
  case neg =>
    rw [if_neg c] at h
    obtain rfl := Option.some.inj h
    have d0 : (a0_0 == a1_0) = false := beq_eq_false_iff_ne.mpr c
    clear c h
    go_enter Tryd.func36, Tryd.ntmps36
    go_wp2
    go_ret
    exact ⟨rfl, HB.out⟩
  rw [if_pos c] at h
  have d0 : (a0_0 == a1_0) = true := beq_iff_eq.mpr c
  clear c
  by_cases c : a0_1 = a1_1
  case neg =>
    rw [if_neg c] at h
    obtain rfl := Option.some.inj h
    have d1 : (a0_1 == a1_1) = false := beq_eq_false_iff_ne.mpr c
    clear c h
    go_enter Tryd.func36, Tryd.ntmps36
    go_wp2
    go_ret
    exact ⟨rfl, HB.out⟩
  rw [if_pos c] at h
  have d1 : (a0_1 == a1_1) = true := beq_iff_eq.mpr c
  clear c
  by_cases c : a0_2 = a1_2
  case neg =>
    rw [if_neg c] at h
    obtain rfl := Option.some.inj h
    have d2 : (a0_2 == a1_2) = false := beq_eq_false_iff_ne.mpr c
    clear c h
    go_enter Tryd.func36, Tryd.ntmps36
    go_wp2
    go_ret
    exact ⟨rfl, HB.out⟩
  rw [if_pos c] at h
  have d2 : (a0_2 == a1_2) = true := beq_iff_eq.mpr c
  clear c
  by_cases c : (a0_3 == a1_3) = true
  case neg =>
    rw [if_neg c] at h
    obtain rfl := Option.some.inj h
    have d3 : (a0_3 == a1_3) = false := by simpa using c
    clear c h
    go_enter Tryd.func36, Tryd.ntmps36
    go_wp2
    go_ret
    exact ⟨rfl, HB.out⟩
  rw [if_pos c] at h
  have d3 : (a0_3 == a1_3) = true := c
  clear c
  by_cases c : a0_4 = a1_4
  case neg =>
    rw [if_neg c] at h
    obtain rfl := Option.some.inj h
    have d4 : (a0_4 == a1_4) = false := beq_eq_false_iff_ne.mpr c
    clear c h
    go_enter Tryd.func36, Tryd.ntmps36
    go_wp2
    go_ret
    exact ⟨rfl, HB.out⟩
  rw [if_pos c] at h
  have d4 : (a0_4 == a1_4) = true := beq_iff_eq.mpr c
  clear c
  by_cases c : a0_5.toList = a1_5.toList
  case neg =>
    rw [if_neg c] at h
    obtain rfl := Option.some.inj h
    have d5 : (a0_5.toList == a1_5.toList) = false := beq_eq_false_iff_ne.mpr c
    clear c h
    go_enter Tryd.func36, Tryd.ntmps36
    go_wp2
    go_ret
    exact ⟨rfl, HB.out⟩
  rw [if_pos c] at h
  have d5 : (a0_5.toList == a1_5.toList) = true := beq_iff_eq.mpr c
  clear c
  by_cases c : a0_6.toList = a1_6.toList
  case neg =>
    rw [if_neg c] at h
    obtain rfl := Option.some.inj h
    have d6 : (a0_6.toList == a1_6.toList) = false := beq_eq_false_iff_ne.mpr c
    clear c h
    go_enter Tryd.func36, Tryd.ntmps36
    go_wp2
    go_ret
    exact ⟨rfl, HB.out⟩
  rw [if_pos c] at h
  have d6 : (a0_6.toList == a1_6.toList) = true := beq_iff_eq.mpr c
  clear c
  by_cases c : a0_7 = a1_7
  case neg =>
    rw [if_neg (by simp [c])] at h
    obtain rfl := Option.some.inj h
    have d7 : (a0_7 == a1_7) = false := beq_eq_false_iff_ne.mpr c
    clear c h
    go_enter Tryd.func36, Tryd.ntmps36
    go_wp2
    go_ret
    exact ⟨rfl, HB.out⟩
  subst c
  by_cases c : a0_8 = a1_8
  case neg =>
    rw [if_neg (by simp [c])] at h
    obtain rfl := Option.some.inj h
    have d8 : (a0_8 == a1_8) = false := beq_eq_false_iff_ne.mpr c
    clear c h
    go_enter Tryd.func36, Tryd.ntmps36
    go_wp2
    go_ret
    exact ⟨rfl, HB.out⟩
  subst c
  rw [if_pos (by simp)] at h
  obtain ⟨t, ht, h⟩ := Option.bind_eq_some_iff.mp h
  have HT := Aside0.mk ht
  cases t with
  | false =>
    rw [if_neg (by decide)] at h
    obtain rfl := Option.some.inj h
    clear h ht
    go_enter Tryd.func36, Tryd.ntmps36
    go_wp2_with (go_at_call 62; (with_reducible refine (api_Peer_62.calls k _ _ l0_9 _ _ l1_9 _ _ (C9.out _ HB.out).1 HC.out.1 (C9.out _ HB.out).2 HC.out.2.1 HT.out).mono ?_); rintro e w1 ⟨rfl, ⟨n1_, rfl⟩⟩; have HB1 := Aside0.mk (pw_below_drewN HB.out n1_))
    go_ret
    exact ⟨rfl, HB1.out⟩
  | true =>
    rw [if_pos rfl] at h
    obtain ⟨t2, ht2, h⟩ := Option.bind_eq_some_iff.mp h
    obtain rfl := Option.some.inj h
    have HT2 := Aside0.mk ht2
    clear h ht ht2
    go_enter Tryd.func36, Tryd.ntmps36
    go_wp2_with (first | (go_at_call 62; (with_reducible refine (api_Peer_62.calls k _ _ l0_9 _ _ l1_9 _ _ (C9.out _ HB.out).1 HC.out.1 (C9.out _ HB.out).2 HC.out.2.1 HT.out).mono ?_); rintro e w1 ⟨rfl, ⟨n1_, rfl⟩⟩; have HB1 := Aside0.mk (pw_below_drewN HB.out n1_)) | (go_at_call 63; (with_reducible refine (api_Pair_63.calls k _ _ l0_10 _ _ l1_10 _ _ (C10.out _ HB1.out).1 HC.out.2.2.1 (C10.out _ HB1.out).2 HC.out.2.2.2 HT2.out).mono ?_); rintro e w2 ⟨rfl, ⟨n2_, rfl⟩⟩; have HB2 := Aside0.mk (pw_below_drewN HB1.out n2_)))
    go_ret
    exact ⟨rfl, pw_below_drewN HB.out _⟩


/-! ### api_Peer_64: function 64 -/
def api_Peer_64.f (l0 : List (S26)) : Option (List (S26)) := if l0.length < 8796093022208 then (some l0) else (none)
set_option maxHeartbeats 3000000 in
set_option maxRecDepth 100000 in
theorem api_Peer_64.calls (A0 : Option Addr) (c0 : Nat) (l0 : List (S26)) (r : List (S26)) (w : World) (hr0 : Kd.C k26 w A0 l0.length l0) (hc0 : l0.length ≤ c0) (h : api_Peer_64.f l0 = some r) :
    Calls Tryd.prog 64 #[.slice A0 l0.length c0] w fun e w' => ∃ v0_ : Value, e = .returned (v0_) ∧ Kd.R k26 26 w' w.heap.size (fun _ => True) v0_ r ∧ Below w.heap.size w w' := by
  have HR0 := Aside0.mk hr0
  have HC0 := Aside0.mk hc0
  have HB := Aside0.mk (Below.refl w.heap.size w)
  unfold api_Peer_64.f at h
  by_cases c : l0.length < 8796093022208
  · rw [if_pos c] at h
    obtain rfl := Option.some.inj h
    have LMc := Aside0.mk c
    clear c h
    cases A0 with
    | none =>
      have hn : l0 = [] := by
        cases l0 with
        | nil => rfl
        | cons x l => obtain ⟨ad, he, _⟩ := (HR0.out).2.2 (by simp); cases he
      subst hn
      clear hr0 hc0 LMc
      have hq := fun (w : World) => Lib.run_eql_slice_nil (P := Tryd.prog) w 27 26 none 0 c0 0 0 Tryd.underlying27
      go_enter Tryd.func64, Tryd.ntmps64
      go_wp2
      go_ret
      exact ⟨_, rfl, by first | exact Kd.R_nil _ _ _ _ _, HB.out⟩
    | some ad =>
      clear hr0 hc0
      have hq := fun (w : World) => Lib.run_eql_slice_nil (P := Tryd.prog) w 27 26 (some ad) l0.length c0 0 0 Tryd.underlying27
      obtain ⟨y1, hy1⟩ : ∃ y_ : List (S26), y_ = [] := ⟨_, rfl⟩
      obtain ⟨y2, hy2⟩ : ∃ y_ : List (S26), y_ = y1 ++ l0 := ⟨_, rfl⟩
      have hy3 : y2 = l0 := by rw [hy2, hy1]; rfl
      have Ny1 := Aside0.mk hy1
      have Ny2 := Aside0.mk hy2
      have Ny3 := Aside0.mk hy3
      clear hy1 hy2 hy3
      go_enter Tryd.func64, Tryd.ntmps64
      go_wp2_with (first | ((with_reducible refine gate_dst (N := 5) rfl ?_); refine Kd.R_lit k26 _ 26 ?hg (N := 5) ?hd (xs := ([] : List (S26))) (inner := []) (ok := fun _ => True) (okp := fun _ => True) ?hr ?hp (fun _ hk => hk) trivial (Below.refl _ _) (Nat.le_refl _) (by simp) ?_; (case hd => rfl); (case hg => rfl); (case hr => first | (go_simp; done) | (go_simp; rfl)); (case hp => exact (Reps.none _ _)); intro v133 w13 ho14 hb hg_ hnew_; clear hg_ hnew_; (first | rw [← Ny1.out] at ho14 | (simp only [Int.reduceToNat] at ho14; rw [← Ny1.out] at ho14)); have n0_ := Aside0.mk (Kd.R_lower ho14 (below_size (by repeat (first | (with_reducible first | exact HB.out | apply below_alloc | apply pw_below_drewN | apply below_drew1) | exact HB.out)))); have n1_ := Aside0.mk (below_step (by repeat (first | (with_reducible first | exact HB.out | apply below_alloc | apply pw_below_drewN | apply below_drew1) | exact HB.out)) hb); clear HB; have HO134 := n0_; have HB := n1_; clear n0_ n1_; clear hb ho14) | ((with_reducible refine gate_builtin (b := .append) (xs := #[.tmp 5, .tmp 6]) rfl ?_); at_builtin; refine Kd.R_append_rows k26 (w0 := w) w.heap.size rfl (.tmp 5) (.tmp 6) 27 26 (.agg #[(.int .u64 0), (.int .u16 0)]) 16 rfl Tryd.underlying27 info26 rfl (by decide) (by omega) v133 y1 l0 _ _ _ (fun _ => True) (fun _ => False) rfl rfl ?aO ?aR (fun _ _ h => h) (fun _ h => h.elim) ?aF ?aB ?aS ?aL ?_; (case aR => repeat (first | exact (Kd.C_below HR0.out HB.out) | (with_reducible refine Kd.C_alloc ?_ _) | (with_reducible refine Kd.C_drewN ?_ _) | (with_reducible refine Kd.C_drew ?_))); (case aB => exact (by repeat (first | (with_reducible first | exact HB.out | apply below_alloc | apply pw_below_drewN | apply below_drew1) | exact HB.out))); (case aF => exact (fun _ _ => trivial)); (case aO => exact (by (with_reducible repeat (first | apply Kd.R_alloc | apply Kd.R_drewN | apply Kd.R_drew)); exact HO134.out)); (case aS => exact (below_size (by repeat (first | (with_reducible first | exact HB.out | apply below_alloc | apply pw_below_drewN | apply below_drew1) | exact HB.out)))); (case aL => have := LMc.out; have h1_ := congrArg List.length Ny1.out; simp only [List.length_nil] at h1_; omega); intro v137 w16 ho hb hg hat; rw [← Ny2.out] at ho; have n0_ := Aside0.mk (hb); have n1_ := Aside0.mk (ho); clear HB; clear HO134; have HB := n0_; have HO138 := n1_; clear n0_ n1_; clear ho hb hg hat))
      go_ret
      exact ⟨_, rfl, by rw [← Ny3.out]; exact HO138.out, (by repeat (first | (with_reducible first | exact HB.out | apply below_alloc | apply pw_below_drewN | apply below_drew1) | exact HB.out))⟩
  · rw [if_neg c] at h
    exact absurd h (by simp)


/-! ### api_Pair_65: function 65 -/
def api_Pair_65.f (l0 : List (S43)) : Option (List (S43)) := if l0.length < 4398046511104 then (some l0) else (none)
set_option maxHeartbeats 3000000 in
set_option maxRecDepth 100000 in
theorem api_Pair_65.calls (A0 : Option Addr) (c0 : Nat) (l0 : List (S43)) (r : List (S43)) (w : World) (hr0 : Kd.C k43 w A0 l0.length l0) (hc0 : l0.length ≤ c0) (h : api_Pair_65.f l0 = some r) :
    Calls Tryd.prog 65 #[.slice A0 l0.length c0] w fun e w' => ∃ v0_ : Value, e = .returned (v0_) ∧ Kd.R k43 43 w' w.heap.size (fun _ => True) v0_ r ∧ Below w.heap.size w w' := by
  have HR0 := Aside0.mk hr0
  have HC0 := Aside0.mk hc0
  have HB := Aside0.mk (Below.refl w.heap.size w)
  unfold api_Pair_65.f at h
  by_cases c : l0.length < 4398046511104
  · rw [if_pos c] at h
    obtain rfl := Option.some.inj h
    have LMc := Aside0.mk c
    clear c h
    cases A0 with
    | none =>
      have hn : l0 = [] := by
        cases l0 with
        | nil => rfl
        | cons x l => obtain ⟨ad, he, _⟩ := (HR0.out).2.2 (by simp); cases he
      subst hn
      clear hr0 hc0 LMc
      have hq := fun (w : World) => Lib.run_eql_slice_nil (P := Tryd.prog) w 28 43 none 0 c0 0 0 Tryd.underlying28
      go_enter Tryd.func65, Tryd.ntmps65
      go_wp2
      go_ret
      exact ⟨_, rfl, by first | exact Kd.R_nil _ _ _ _ _, HB.out⟩
    | some ad =>
      clear hr0 hc0
      have hq := fun (w : World) => Lib.run_eql_slice_nil (P := Tryd.prog) w 28 43 (some ad) l0.length c0 0 0 Tryd.underlying28
      obtain ⟨y1, hy1⟩ : ∃ y_ : List (S43), y_ = [] := ⟨_, rfl⟩
      obtain ⟨y2, hy2⟩ : ∃ y_ : List (S43), y_ = y1 ++ l0 := ⟨_, rfl⟩
      have hy3 : y2 = l0 := by rw [hy2, hy1]; rfl
      have Ny1 := Aside0.mk hy1
      have Ny2 := Aside0.mk hy2
      have Ny3 := Aside0.mk hy3
      clear hy1 hy2 hy3
      go_enter Tryd.func65, Tryd.ntmps65
      go_wp2_with (first | ((with_reducible refine gate_dst (N := 5) rfl ?_); refine Kd.R_lit k43 _ 43 ?hg (N := 5) ?hd (xs := ([] : List (S43))) (inner := []) (ok := fun _ => True) (okp := fun _ => True) ?hr ?hp (fun _ hk => hk) trivial (Below.refl _ _) (Nat.le_refl _) (by simp) ?_; (case hd => rfl); (case hg => rfl); (case hr => first | (go_simp; done) | (go_simp; rfl)); (case hp => exact (Reps.none _ _)); intro v133 w13 ho14 hb hg_ hnew_; clear hg_ hnew_; (first | rw [← Ny1.out] at ho14 | (simp only [Int.reduceToNat] at ho14; rw [← Ny1.out] at ho14)); have n0_ := Aside0.mk (Kd.R_lower ho14 (below_size (by repeat (first | (with_reducible first | exact HB.out | apply below_alloc | apply pw_below_drewN | apply below_drew1) | exact HB.out)))); have n1_ := Aside0.mk (below_step (by repeat (first | (with_reducible first | exact HB.out | apply below_alloc | apply pw_below_drewN | apply below_drew1) | exact HB.out)) hb); clear HB; have HO134 := n0_; have HB := n1_; clear n0_ n1_; clear hb ho14) | ((with_reducible refine gate_builtin (b := .append) (xs := #[.tmp 5, .tmp 6]) rfl ?_); at_builtin; refine Kd.R_append_rows k43 (w0 := w) w.heap.size rfl (.tmp 5) (.tmp 6) 28 43 (.agg #[(.string ⟨#[]⟩), (.string ⟨#[]⟩)]) 32 rfl Tryd.underlying28 info43 rfl (by decide) (by omega) v133 y1 l0 _ _ _ (fun _ => True) (fun _ => False) rfl rfl ?aO ?aR (fun _ _ h => h) (fun _ h => h.elim) ?aF ?aB ?aS ?aL ?_; (case aR => repeat (first | exact (Kd.C_below HR0.out HB.out) | (with_reducible refine Kd.C_alloc ?_ _) | (with_reducible refine Kd.C_drewN ?_ _) | (with_reducible refine Kd.C_drew ?_))); (case aB => exact (by repeat (first | (with_reducible first | exact HB.out | apply below_alloc | apply pw_below_drewN | apply below_drew1) | exact HB.out))); (case aF => exact (fun _ _ => trivial)); (case aO => exact (by (with_reducible repeat (first | apply Kd.R_alloc | apply Kd.R_drewN | apply Kd.R_drew)); exact HO134.out)); (case aS => exact (below_size (by repeat (first | (with_reducible first | exact HB.out | apply below_alloc | apply pw_below_drewN | apply below_drew1) | exact HB.out)))); (case aL => have := LMc.out; have h1_ := congrArg List.length Ny1.out; simp only [List.length_nil] at h1_; omega); intro v137 w16 ho hb hg hat; rw [← Ny2.out] at ho; have n0_ := Aside0.mk (hb); have n1_ := Aside0.mk (ho); clear HB; clear HO134; have HB := n0_; have HO138 := n1_; clear n0_ n1_; clear ho hb hg hat))
      go_ret
      exact ⟨_, rfl, by rw [← Ny3.out]; exact HO138.out, (by repeat (first | (with_reducible first | exact HB.out | apply below_alloc | apply pw_below_drewN | apply below_drew1) | exact HB.out))⟩
  · rw [if_neg c] at h
    exact absurd h (by simp)


/-! ### msg_Bare: function 37 -/
def bareB (F : Int) : Prop := F = 0 ∨ F = 1 ∨ F = 2 ∨ F = 4 ∨ F = 8 ∨ F = 18 ∨ F = 26 ∨ F = 32 ∨ F = 66 ∨ F = 96 ∨ F = 130
instance (F : Int) : Decidable (bareB F) := by unfold bareB; infer_instance
def msg_Bare.f (a0_0 : Int) (a0_1 : Int) (a0_2 : Int) (a0_3 : Bool) (a0_4 : Int) (a0_5 : ByteArray) (a0_6 : ByteArray) (a0_7 : Int) (a0_8 : Int) (l0_9 : List (S26)) (l0_10 : List (S43)) : Option (Int × Int × Int × Bool × Int × ByteArray × ByteArray × Int × Int × (List (S26)) × (List (S43))) := (msg_fields.f a0_0 a0_1 a0_2 a0_3 a0_4 a0_5 a0_6 a0_7 a0_8 l0_9 l0_10).bind fun F => if l0_9.length < 8796093022208 ∧ l0_10.length < 4398046511104 ∧ bareB F then some (a0_0, a0_1, (if Go.bits .and .i64 F 1 = 0 then 0 else a0_2), (if Go.bits .and .i64 F 2 = 0 then false else a0_3), (if Go.bits .and .i64 F 4 = 0 then 0 else a0_4), (if Go.bits .and .i64 F 32 = 0 then (⟨#[]⟩ : ByteArray) else a0_5), (if Go.bits .and .i64 F 64 = 0 then (⟨#[]⟩ : ByteArray) else a0_6), (if Go.bits .and .i64 F 8 = 0 then 0 else a0_7), (if Go.bits .and .i64 F 8 = 0 then 0 else a0_8), (if Go.bits .and .i64 F 16 = 0 then ([] : List S26) else l0_9), (if Go.bits .and .i64 F 128 = 0 then ([] : List S43) else l0_10)) else none
set_option maxHeartbeats 4000000 in
set_option maxRecDepth 100000 in
theorem msg_Bare.calls (a0_0 : Int) (a0_1 : Int) (a0_2 : Int) (a0_3 : Bool) (a0_4 : Int) (a0_5 : ByteArray) (a0_6 : ByteArray) (a0_7 : Int) (a0_8 : Int) (A0_9 : Option Addr) (c0_9 : Nat) (l0_9 : List (S26)) (A0_10 : Option Addr) (c0_10 : Nat) (l0_10 : List (S43)) (r1 : Int) (r2 : Int) (r3 : Int) (r4 : Bool) (r5 : Int) (r6 : ByteArray) (r7 : ByteArray) (r8 : Int) (r9 : Int) (r10 : List (S26)) (r11 : List (S43)) (w : World) (hr0_9 : Kd.C k26 w A0_9 l0_9.length l0_9) (hc0_9 : l0_9.length ≤ c0_9) (hr0_10 : Kd.C k43 w A0_10 l0_10.length l0_10) (hc0_10 : l0_10.length ≤ c0_10) (h : msg_Bare.f a0_0 a0_1 a0_2 a0_3 a0_4 a0_5 a0_6 a0_7 a0_8 l0_9 l0_10 = some (r1, r2, r3, r4, r5, r6, r7, r8, r9, r10, r11)) :
    Calls Tryd.prog 37 #[.agg #[.int .i64 a0_0, .int .u32 a0_1, .int .u8 a0_2, .bool a0_3, .int .u64 a0_4, .string a0_5, .string a0_6, .int .u64 a0_7, .int .u16 a0_8, .slice A0_9 l0_9.length c0_9, .slice A0_10 l0_10.length c0_10]] w fun e w' => ∃ v9_ v10_ : Value, e = .returned (.agg #[.int .i64 r1, .int .u32 r2, .int .u8 r3, .bool r4, .int .u64 r5, .string r6, .string r7, .int .u64 r8, .int .u16 r9, v9_, v10_]) ∧ Kd.R k26 26 w' w.heap.size (fun _ => True) v9_ r10 ∧ Kd.R k43 43 w' w.heap.size (fun _ => True) v10_ r11 ∧ Below w.heap.size w w' := by
  have hu30 := Tryd.underlying30
  have hu26 := Tryd.underlying26
  have HB0 := Aside0.mk (below_alloc (below_alloc (Below.refl w.heap.size w) (.cells #[.int .i64 a0_0, .int .u32 a0_1, .int .u8 a0_2, .bool a0_3, .int .u64 a0_4, .string a0_5, .string a0_6, .int .u64 a0_7, .int .u16 a0_8, .slice A0_9 l0_9.length c0_9, .slice A0_10 l0_10.length c0_10] 30)) (.cells #[.int .i64 0, .int .u32 0, .int .u8 0, .bool false, .int .u64 0, .string (⟨#[]⟩ : ByteArray), .string (⟨#[]⟩ : ByteArray), .int .u64 0, .int .u16 0, .slice none 0 0, .slice none 0 0] 30))
  have HN0 := Aside0.mk (blk_alloc (blk_new w (.cells #[.int .i64 a0_0, .int .u32 a0_1, .int .u8 a0_2, .bool a0_3, .int .u64 a0_4, .string a0_5, .string a0_6, .int .u64 a0_7, .int .u16 a0_8, .slice A0_9 l0_9.length c0_9, .slice A0_10 l0_10.length c0_10] 30)) (.cells #[.int .i64 0, .int .u32 0, .int .u8 0, .bool false, .int .u64 0, .string (⟨#[]⟩ : ByteArray), .string (⟨#[]⟩ : ByteArray), .int .u64 0, .int .u16 0, .slice none 0 0, .slice none 0 0] 30))
  have hz := blk_new (w.alloc (.cells #[.int .i64 a0_0, .int .u32 a0_1, .int .u8 a0_2, .bool a0_3, .int .u64 a0_4, .string a0_5, .string a0_6, .int .u64 a0_7, .int .u16 a0_8, .slice A0_9 l0_9.length c0_9, .slice A0_10 l0_10.length c0_10] 30)) (.cells #[.int .i64 0, .int .u32 0, .int .u8 0, .bool false, .int .u64 0, .string (⟨#[]⟩ : ByteArray), .string (⟨#[]⟩ : ByteArray), .int .u64 0, .int .u16 0, .slice none 0 0, .slice none 0 0] 30)
  rw [show (w.alloc (.cells #[.int .i64 a0_0, .int .u32 a0_1, .int .u8 a0_2, .bool a0_3, .int .u64 a0_4, .string a0_5, .string a0_6, .int .u64 a0_7, .int .u16 a0_8, .slice A0_9 l0_9.length c0_9, .slice A0_10 l0_10.length c0_10] 30)).heap.size = w.heap.size + 1 by simp] at hz
  have HZ0 := Aside0.mk hz
  have HR9 := Aside0.mk hr0_9
  have HR10 := Aside0.mk hr0_10
  have HC9 := Aside0.mk hc0_9
  have HC10 := Aside0.mk hc0_10
  unfold msg_Bare.f at h
  obtain ⟨F, hF, h⟩ := Option.bind_eq_some_iff.mp h
  have HF := Aside0.mk hF
  by_cases hc : l0_9.length < 8796093022208 ∧ l0_10.length < 4398046511104 ∧ bareB F
  case neg => rw [if_neg hc] at h; cases h
  rw [if_pos hc] at h
  have H9 := Aside0.mk (show api_Peer_64.f l0_9 = some l0_9 by unfold api_Peer_64.f; rw [if_pos hc.1])
  have H10 := Aside0.mk (show api_Pair_65.f l0_10 = some l0_10 by unfold api_Pair_65.f; rw [if_pos hc.2.1])
  simp only [Option.some.injEq, Prod.mk.injEq] at h
  obtain ⟨rfl, rfl, rfl, rfl, rfl, rfl, rfl, rfl, rfl, rfl, rfl⟩ := h
  have HBB := Aside0.mk hc.2.2
  clear hr0_9 hr0_10 hc0_9 hc0_10 hF hc hz
  go_enter Tryd.func37, Tryd.ntmps37
  go_upto_region 3 with (go_at_call 35; (with_reducible refine (msg_fields.calls a0_0 a0_1 a0_2 a0_3 a0_4 a0_5 a0_6 a0_7 a0_8 A0_9 c0_9 l0_9 A0_10 c0_10 l0_10 F _ (Kd.C_below HR9.out HB0.out) HC9.out (Kd.C_below HR10.out HB0.out) HC10.out HF.out).mono ?_); rintro e w1 ⟨rfl, hb⟩; have HB1 := Aside0.mk (below_step HB0.out hb); have HN1 := Aside0.mk (blk_below HN0.out hb); have HZ1 := Aside0.mk (blk_below HZ0.out hb); obtain ⟨hm0, hm1, hm2, hm3, hm4, hm5, hm6, hm7, hm8, hm9, hm10, fm0, fm1, fm2, fm3, fm4, fm5, fm6, fm7, fm8, fm9, fm10⟩ := cells11 HN1.out; clear hb)
  have HS2 := Aside0.mk (blk_lt HZ1.out)
  have HO2 := Aside0.mk (blk_new w1 (.cells #[.int .i64 a0_0, .int .u32 a0_1, .int .u8 0, .bool false, .int .u64 0, .string (⟨#[]⟩ : ByteArray), .string (⟨#[]⟩ : ByteArray), .int .u64 0, .int .u16 0, .slice none 0 0, .slice none 0 0] 30))
  have HN2 := Aside0.mk (blk_alloc HN1.out (.cells #[.int .i64 a0_0, .int .u32 a0_1, .int .u8 0, .bool false, .int .u64 0, .string (⟨#[]⟩ : ByteArray), .string (⟨#[]⟩ : ByteArray), .int .u64 0, .int .u16 0, .slice none 0 0, .slice none 0 0] 30))
  have HZ2 := Aside0.mk (blk_alloc HZ1.out (.cells #[.int .i64 a0_0, .int .u32 a0_1, .int .u8 0, .bool false, .int .u64 0, .string (⟨#[]⟩ : ByteArray), .string (⟨#[]⟩ : ByteArray), .int .u64 0, .int .u16 0, .slice none 0 0, .slice none 0 0] 30))
  have HB2 := Aside0.mk (below_alloc HB1.out (.cells #[.int .i64 a0_0, .int .u32 a0_1, .int .u8 0, .bool false, .int .u64 0, .string (⟨#[]⟩ : ByteArray), .string (⟨#[]⟩ : ByteArray), .int .u64 0, .int .u16 0, .slice none 0 0, .slice none 0 0] 30))
  generalize w1.alloc (.cells #[.int .i64 a0_0, .int .u32 a0_1, .int .u8 0, .bool false, .int .u64 0, .string (⟨#[]⟩ : ByteArray), .string (⟨#[]⟩ : ByteArray), .int .u64 0, .int .u16 0, .slice none 0 0, .slice none 0 0] 30) = w2 at HO2 HN2 HZ2 HB2 ⊢
  clear hm0 hm1 hm2 hm3 hm4 hm5 hm6 hm7 hm8 hm9 hm10 fm0 fm1 fm2 fm3 fm4 fm5 fm6 fm7 fm8 fm9 fm10
  obtain ⟨hm0, hm1, hm2, hm3, hm4, hm5, hm6, hm7, hm8, hm9, hm10, fm0, fm1, fm2, fm3, fm4, fm5, fm6, fm7, fm8, fm9, fm10⟩ := cells11 HN2.out
  obtain ⟨ho0, ho1, ho2, ho3, ho4, ho5, ho6, ho7, ho8, ho9, ho10, fo0, fo1, fo2, fo3, fo4, fo5, fo6, fo7, fo8, fo9, fo10⟩ := cells11 HO2.out
  obtain ⟨hz0, hz1, hz2, hz3, hz4, hz5, hz6, hz7, hz8, hz9, hz10, fz0, fz1, fz2, fz3, fz4, fz5, fz6, fz7, fz8, fz9, fz10⟩ := cells11 HZ2.out
  have n1 : ¬ w1.heap.size = w.heap.size + 1 := by have := HS2.out; omega
  have n2 : ¬ w.heap.size + 1 = w1.heap.size := by have := HS2.out; omega
  have n3 : ¬ w1.heap.size = w.heap.size := by have := HS2.out; omega
  have n4 : ¬ w.heap.size = w1.heap.size := by have := HS2.out; omega
  rcases (show F = 0 ∨ F = 1 ∨ F = 2 ∨ F = 4 ∨ F = 8 ∨ F = 18 ∨ F = 26 ∨ F = 32 ∨ F = 66 ∨ F = 96 ∨ F = 130 from HBB.out) with rfl | rfl | rfl | rfl | rfl | rfl | rfl | rfl | rfl | rfl | rfl
  ·
    obtain ⟨q0, q1, q2, q3, q4, q5, q6, q7⟩ := bt8 0 (a := false) (b := false) (c := false) (d := false) (e := false) (f := false) (g := false) (h := false) (by kernel_rfl)
    go_wp2
    refine bodyPost_ret (results_cell_row rfl _ _ (w.heap.size + 1) 30 #[.int .i64 a0_0, .int .u32 a0_1, .int .u8 0, .bool false, .int .u64 0, .string (⟨#[]⟩ : ByteArray), .string (⟨#[]⟩ : ByteArray), .int .u64 0, .int .u16 0, .slice none 0 0, .slice none 0 0] (0, 0) _ rfl (put11 HZ2.out _ _ _ _ _ _ _ _ _ _ _) Tryd.underlying30 rfl (by kernel_rfl)) rfl ?_
    exact ⟨_, _, rfl, Kd.R_nil _ _ _ _ _, Kd.R_nil _ _ _ _ _, below11 HB2.out (by omega) _ _ _ _ _ _ _ _ _ _ _⟩
  ·
    obtain ⟨q0, q1, q2, q3, q4, q5, q6, q7⟩ := bt8 1 (a := true) (b := false) (c := false) (d := false) (e := false) (f := false) (g := false) (h := false) (by kernel_rfl)
    go_wp2
    refine bodyPost_ret (results_cell_row rfl _ _ (w.heap.size + 1) 30 #[.int .i64 a0_0, .int .u32 a0_1, .int .u8 a0_2, .bool false, .int .u64 0, .string (⟨#[]⟩ : ByteArray), .string (⟨#[]⟩ : ByteArray), .int .u64 0, .int .u16 0, .slice none 0 0, .slice none 0 0] (0, 0) _ rfl (put11 (blk_far HZ2.out (p := ⟨w1.heap.size, 2, none⟩) (show w.heap.size + 1 ≠ w1.heap.size by have := HS2.out; omega) _) _ _ _ _ _ _ _ _ _ _ _) Tryd.underlying30 rfl (by kernel_rfl)) rfl ?_
    exact ⟨_, _, rfl, Kd.R_nil _ _ _ _ _, Kd.R_nil _ _ _ _ _, below11 (HB2.out.setCell (show w.heap.size ≤ w1.heap.size by have := HS2.out; omega) _) (by omega) _ _ _ _ _ _ _ _ _ _ _⟩
  ·
    obtain ⟨q0, q1, q2, q3, q4, q5, q6, q7⟩ := bt8 2 (a := false) (b := true) (c := false) (d := false) (e := false) (f := false) (g := false) (h := false) (by kernel_rfl)
    go_wp2
    refine bodyPost_ret (results_cell_row rfl _ _ (w.heap.size + 1) 30 #[.int .i64 a0_0, .int .u32 a0_1, .int .u8 0, .bool a0_3, .int .u64 0, .string (⟨#[]⟩ : ByteArray), .string (⟨#[]⟩ : ByteArray), .int .u64 0, .int .u16 0, .slice none 0 0, .slice none 0 0] (0, 0) _ rfl (put11 (blk_far HZ2.out (p := ⟨w1.heap.size, 3, none⟩) (show w.heap.size + 1 ≠ w1.heap.size by have := HS2.out; omega) _) _ _ _ _ _ _ _ _ _ _ _) Tryd.underlying30 rfl (by kernel_rfl)) rfl ?_
    exact ⟨_, _, rfl, Kd.R_nil _ _ _ _ _, Kd.R_nil _ _ _ _ _, below11 (HB2.out.setCell (show w.heap.size ≤ w1.heap.size by have := HS2.out; omega) _) (by omega) _ _ _ _ _ _ _ _ _ _ _⟩
  ·
    obtain ⟨q0, q1, q2, q3, q4, q5, q6, q7⟩ := bt8 4 (a := false) (b := false) (c := true) (d := false) (e := false) (f := false) (g := false) (h := false) (by kernel_rfl)
    go_wp2
    refine bodyPost_ret (results_cell_row rfl _ _ (w.heap.size + 1) 30 #[.int .i64 a0_0, .int .u32 a0_1, .int .u8 0, .bool false, .int .u64 a0_4, .string (⟨#[]⟩ : ByteArray), .string (⟨#[]⟩ : ByteArray), .int .u64 0, .int .u16 0, .slice none 0 0, .slice none 0 0] (0, 0) _ rfl (put11 (blk_far HZ2.out (p := ⟨w1.heap.size, 4, none⟩) (show w.heap.size + 1 ≠ w1.heap.size by have := HS2.out; omega) _) _ _ _ _ _ _ _ _ _ _ _) Tryd.underlying30 rfl (by kernel_rfl)) rfl ?_
    exact ⟨_, _, rfl, Kd.R_nil _ _ _ _ _, Kd.R_nil _ _ _ _ _, below11 (HB2.out.setCell (show w.heap.size ≤ w1.heap.size by have := HS2.out; omega) _) (by omega) _ _ _ _ _ _ _ _ _ _ _⟩
  ·
    obtain ⟨q0, q1, q2, q3, q4, q5, q6, q7⟩ := bt8 8 (a := false) (b := false) (c := false) (d := true) (e := false) (f := false) (g := false) (h := false) (by kernel_rfl)
    go_wp2
    refine bodyPost_ret (results_cell_row rfl _ _ (w.heap.size + 1) 30 #[.int .i64 a0_0, .int .u32 a0_1, .int .u8 0, .bool false, .int .u64 0, .string (⟨#[]⟩ : ByteArray), .string (⟨#[]⟩ : ByteArray), .int .u64 a0_7, .int .u16 a0_8, .slice none 0 0, .slice none 0 0] (0, 0) _ rfl (put11 (blk_far (blk_far HZ2.out (p := ⟨w1.heap.size, 7, none⟩) (show w.heap.size + 1 ≠ w1.heap.size by have := HS2.out; omega) _) (p := ⟨w1.heap.size, 8, none⟩) (show w.heap.size + 1 ≠ w1.heap.size by have := HS2.out; omega) _) _ _ _ _ _ _ _ _ _ _ _) Tryd.underlying30 rfl (by kernel_rfl)) rfl ?_
    exact ⟨_, _, rfl, Kd.R_nil _ _ _ _ _, Kd.R_nil _ _ _ _ _, below11 ((HB2.out.setCell (show w.heap.size ≤ w1.heap.size by have := HS2.out; omega) _).setCell (show w.heap.size ≤ w1.heap.size by have := HS2.out; omega) _) (by omega) _ _ _ _ _ _ _ _ _ _ _⟩
  ·
    obtain ⟨q0, q1, q2, q3, q4, q5, q6, q7⟩ := bt8 18 (a := false) (b := true) (c := false) (d := false) (e := true) (f := false) (g := false) (h := false) (by kernel_rfl)
    go_wp2_with (go_at_call 64; (with_reducible refine (api_Peer_64.calls A0_9 c0_9 l0_9 l0_9 _ (Kd.C_below HR9.out (HB2.out.setCell (show w.heap.size ≤ w1.heap.size by have := HS2.out; omega) _)) HC9.out H9.out).mono ?_); rintro e w3 ⟨v, rfl, hR, hb⟩; obtain ⟨B, d, rfl⟩ := Kd.R_slice hR; have HO3 := Aside0.mk (show w3.heap[w1.heap.size]? = some (.cells #[.int .i64 a0_0, .int .u32 a0_1, .int .u8 0, .bool a0_3, .int .u64 0, .string (⟨#[]⟩ : ByteArray), .string (⟨#[]⟩ : ByteArray), .int .u64 0, .int .u16 0, .slice none 0 0, .slice none 0 0] 30 (0, 0)) from blk_below (blk_put HO2.out 3 _ rfl) hb); have HZ3 := Aside0.mk (blk_below (blk_far HZ2.out (p := ⟨w1.heap.size, 3, none⟩) (show w.heap.size + 1 ≠ w1.heap.size by have := HS2.out; omega) _) hb); have HX := Aside0.mk hR; have HB3 := Aside0.mk (below_step (HB2.out.setCell (show w.heap.size ≤ w1.heap.size by have := HS2.out; omega) _) hb); obtain ⟨hp0, hp1, hp2, hp3, hp4, hp5, hp6, hp7, hp8, hp9, hp10, fp0, fp1, fp2, fp3, fp4, fp5, fp6, fp7, fp8, fp9, fp10⟩ := cells11 HO3.out; obtain ⟨hy0, hy1, hy2, hy3, hy4, hy5, hy6, hy7, hy8, hy9, hy10, fy0, fy1, fy2, fy3, fy4, fy5, fy6, fy7, fy8, fy9, fy10⟩ := cells11 HZ3.out; clear hb hR)
    have HS3 := Aside0.mk (blk_lt HO2.out)
    refine bodyPost_ret (results_cell_row rfl _ _ (w.heap.size + 1) 30 #[.int .i64 a0_0, .int .u32 a0_1, .int .u8 0, .bool a0_3, .int .u64 0, .string (⟨#[]⟩ : ByteArray), .string (⟨#[]⟩ : ByteArray), .int .u64 0, .int .u16 0, .slice B l0_9.length d, .slice none 0 0] (0, 0) _ rfl (put11 (blk_far HZ3.out (p := ⟨w1.heap.size, 9, none⟩) (show w.heap.size + 1 ≠ w1.heap.size by have := HS2.out; omega) _) _ _ _ _ _ _ _ _ _ _ _) Tryd.underlying30 rfl (by kernel_rfl)) rfl ?_
    have HRX := R_keepN (R_keepN (Kd.R_mono HX.out (fun _ _ => trivial)) (KeepBut.set_ (KeepBut.refl w3 w1.heap.size none) 9 (.slice B l0_9.length d)) (by simp; have := HS3.out; omega)) (keep11 (KeepBut.refl _ (w.heap.size + 1) none) (.int .i64 a0_0) (.int .u32 a0_1) (.int .u8 0) (.bool a0_3) (.int .u64 0) (.string (⟨#[]⟩ : ByteArray)) (.string (⟨#[]⟩ : ByteArray)) (.int .u64 0) (.int .u16 0) (.slice B l0_9.length d) (.slice none 0 0)) (by simp; have := HS3.out; have := HS2.out; omega)
    exact ⟨_, _, rfl, Kd.R_lower HRX (by simp; have := HS3.out; have := HS2.out; omega), Kd.R_nil _ _ _ _ _, below11 (HB3.out.setCell (show w.heap.size ≤ w1.heap.size by have := HS2.out; omega) _) (by omega) _ _ _ _ _ _ _ _ _ _ _⟩
  ·
    obtain ⟨q0, q1, q2, q3, q4, q5, q6, q7⟩ := bt8 26 (a := false) (b := true) (c := false) (d := true) (e := true) (f := false) (g := false) (h := false) (by kernel_rfl)
    go_wp2_with (go_at_call 64; (with_reducible refine (api_Peer_64.calls A0_9 c0_9 l0_9 l0_9 _ (Kd.C_below HR9.out (((HB2.out.setCell (show w.heap.size ≤ w1.heap.size by have := HS2.out; omega) _).setCell (show w.heap.size ≤ w1.heap.size by have := HS2.out; omega) _).setCell (show w.heap.size ≤ w1.heap.size by have := HS2.out; omega) _)) HC9.out H9.out).mono ?_); rintro e w3 ⟨v, rfl, hR, hb⟩; obtain ⟨B, d, rfl⟩ := Kd.R_slice hR; have HO3 := Aside0.mk (show w3.heap[w1.heap.size]? = some (.cells #[.int .i64 a0_0, .int .u32 a0_1, .int .u8 0, .bool a0_3, .int .u64 0, .string (⟨#[]⟩ : ByteArray), .string (⟨#[]⟩ : ByteArray), .int .u64 a0_7, .int .u16 a0_8, .slice none 0 0, .slice none 0 0] 30 (0, 0)) from blk_below (blk_put (blk_put (blk_put HO2.out 3 _ rfl) 7 _ rfl) 8 _ rfl) hb); have HZ3 := Aside0.mk (blk_below (blk_far (blk_far (blk_far HZ2.out (p := ⟨w1.heap.size, 3, none⟩) (show w.heap.size + 1 ≠ w1.heap.size by have := HS2.out; omega) _) (p := ⟨w1.heap.size, 7, none⟩) (show w.heap.size + 1 ≠ w1.heap.size by have := HS2.out; omega) _) (p := ⟨w1.heap.size, 8, none⟩) (show w.heap.size + 1 ≠ w1.heap.size by have := HS2.out; omega) _) hb); have HX := Aside0.mk hR; have HB3 := Aside0.mk (below_step (((HB2.out.setCell (show w.heap.size ≤ w1.heap.size by have := HS2.out; omega) _).setCell (show w.heap.size ≤ w1.heap.size by have := HS2.out; omega) _).setCell (show w.heap.size ≤ w1.heap.size by have := HS2.out; omega) _) hb); obtain ⟨hp0, hp1, hp2, hp3, hp4, hp5, hp6, hp7, hp8, hp9, hp10, fp0, fp1, fp2, fp3, fp4, fp5, fp6, fp7, fp8, fp9, fp10⟩ := cells11 HO3.out; obtain ⟨hy0, hy1, hy2, hy3, hy4, hy5, hy6, hy7, hy8, hy9, hy10, fy0, fy1, fy2, fy3, fy4, fy5, fy6, fy7, fy8, fy9, fy10⟩ := cells11 HZ3.out; clear hb hR)
    have HS3 := Aside0.mk (blk_lt HO2.out)
    refine bodyPost_ret (results_cell_row rfl _ _ (w.heap.size + 1) 30 #[.int .i64 a0_0, .int .u32 a0_1, .int .u8 0, .bool a0_3, .int .u64 0, .string (⟨#[]⟩ : ByteArray), .string (⟨#[]⟩ : ByteArray), .int .u64 a0_7, .int .u16 a0_8, .slice B l0_9.length d, .slice none 0 0] (0, 0) _ rfl (put11 (blk_far HZ3.out (p := ⟨w1.heap.size, 9, none⟩) (show w.heap.size + 1 ≠ w1.heap.size by have := HS2.out; omega) _) _ _ _ _ _ _ _ _ _ _ _) Tryd.underlying30 rfl (by kernel_rfl)) rfl ?_
    have HRX := R_keepN (R_keepN (Kd.R_mono HX.out (fun _ _ => trivial)) (KeepBut.set_ (KeepBut.refl w3 w1.heap.size none) 9 (.slice B l0_9.length d)) (by simp; have := HS3.out; omega)) (keep11 (KeepBut.refl _ (w.heap.size + 1) none) (.int .i64 a0_0) (.int .u32 a0_1) (.int .u8 0) (.bool a0_3) (.int .u64 0) (.string (⟨#[]⟩ : ByteArray)) (.string (⟨#[]⟩ : ByteArray)) (.int .u64 a0_7) (.int .u16 a0_8) (.slice B l0_9.length d) (.slice none 0 0)) (by simp; have := HS3.out; have := HS2.out; omega)
    exact ⟨_, _, rfl, Kd.R_lower HRX (by simp; have := HS3.out; have := HS2.out; omega), Kd.R_nil _ _ _ _ _, below11 (HB3.out.setCell (show w.heap.size ≤ w1.heap.size by have := HS2.out; omega) _) (by omega) _ _ _ _ _ _ _ _ _ _ _⟩
  ·
    obtain ⟨q0, q1, q2, q3, q4, q5, q6, q7⟩ := bt8 32 (a := false) (b := false) (c := false) (d := false) (e := false) (f := true) (g := false) (h := false) (by kernel_rfl)
    go_wp2
    refine bodyPost_ret (results_cell_row rfl _ _ (w.heap.size + 1) 30 #[.int .i64 a0_0, .int .u32 a0_1, .int .u8 0, .bool false, .int .u64 0, .string a0_5, .string (⟨#[]⟩ : ByteArray), .int .u64 0, .int .u16 0, .slice none 0 0, .slice none 0 0] (0, 0) _ rfl (put11 (blk_far HZ2.out (p := ⟨w1.heap.size, 5, none⟩) (show w.heap.size + 1 ≠ w1.heap.size by have := HS2.out; omega) _) _ _ _ _ _ _ _ _ _ _ _) Tryd.underlying30 rfl (by kernel_rfl)) rfl ?_
    exact ⟨_, _, rfl, Kd.R_nil _ _ _ _ _, Kd.R_nil _ _ _ _ _, below11 (HB2.out.setCell (show w.heap.size ≤ w1.heap.size by have := HS2.out; omega) _) (by omega) _ _ _ _ _ _ _ _ _ _ _⟩
  ·
    obtain ⟨q0, q1, q2, q3, q4, q5, q6, q7⟩ := bt8 66 (a := false) (b := true) (c := false) (d := false) (e := false) (f := false) (g := true) (h := false) (by kernel_rfl)
    go_wp2
    refine bodyPost_ret (results_cell_row rfl _ _ (w.heap.size + 1) 30 #[.int .i64 a0_0, .int .u32 a0_1, .int .u8 0, .bool a0_3, .int .u64 0, .string (⟨#[]⟩ : ByteArray), .string a0_6, .int .u64 0, .int .u16 0, .slice none 0 0, .slice none 0 0] (0, 0) _ rfl (put11 (blk_far (blk_far HZ2.out (p := ⟨w1.heap.size, 3, none⟩) (show w.heap.size + 1 ≠ w1.heap.size by have := HS2.out; omega) _) (p := ⟨w1.heap.size, 6, none⟩) (show w.heap.size + 1 ≠ w1.heap.size by have := HS2.out; omega) _) _ _ _ _ _ _ _ _ _ _ _) Tryd.underlying30 rfl (by kernel_rfl)) rfl ?_
    exact ⟨_, _, rfl, Kd.R_nil _ _ _ _ _, Kd.R_nil _ _ _ _ _, below11 ((HB2.out.setCell (show w.heap.size ≤ w1.heap.size by have := HS2.out; omega) _).setCell (show w.heap.size ≤ w1.heap.size by have := HS2.out; omega) _) (by omega) _ _ _ _ _ _ _ _ _ _ _⟩
  ·
    obtain ⟨q0, q1, q2, q3, q4, q5, q6, q7⟩ := bt8 96 (a := false) (b := false) (c := false) (d := false) (e := false) (f := true) (g := true) (h := false) (by kernel_rfl)
    go_wp2
    refine bodyPost_ret (results_cell_row rfl _ _ (w.heap.size + 1) 30 #[.int .i64 a0_0, .int .u32 a0_1, .int .u8 0, .bool false, .int .u64 0, .string a0_5, .string a0_6, .int .u64 0, .int .u16 0, .slice none 0 0, .slice none 0 0] (0, 0) _ rfl (put11 (blk_far (blk_far HZ2.out (p := ⟨w1.heap.size, 5, none⟩) (show w.heap.size + 1 ≠ w1.heap.size by have := HS2.out; omega) _) (p := ⟨w1.heap.size, 6, none⟩) (show w.heap.size + 1 ≠ w1.heap.size by have := HS2.out; omega) _) _ _ _ _ _ _ _ _ _ _ _) Tryd.underlying30 rfl (by kernel_rfl)) rfl ?_
    exact ⟨_, _, rfl, Kd.R_nil _ _ _ _ _, Kd.R_nil _ _ _ _ _, below11 ((HB2.out.setCell (show w.heap.size ≤ w1.heap.size by have := HS2.out; omega) _).setCell (show w.heap.size ≤ w1.heap.size by have := HS2.out; omega) _) (by omega) _ _ _ _ _ _ _ _ _ _ _⟩
  ·
    obtain ⟨q0, q1, q2, q3, q4, q5, q6, q7⟩ := bt8 130 (a := false) (b := true) (c := false) (d := false) (e := false) (f := false) (g := false) (h := true) (by kernel_rfl)
    go_wp2_with (go_at_call 65; (with_reducible refine (api_Pair_65.calls A0_10 c0_10 l0_10 l0_10 _ (Kd.C_below HR10.out (HB2.out.setCell (show w.heap.size ≤ w1.heap.size by have := HS2.out; omega) _)) HC10.out H10.out).mono ?_); rintro e w3 ⟨v, rfl, hR, hb⟩; obtain ⟨B, d, rfl⟩ := Kd.R_slice hR; have HO3 := Aside0.mk (show w3.heap[w1.heap.size]? = some (.cells #[.int .i64 a0_0, .int .u32 a0_1, .int .u8 0, .bool a0_3, .int .u64 0, .string (⟨#[]⟩ : ByteArray), .string (⟨#[]⟩ : ByteArray), .int .u64 0, .int .u16 0, .slice none 0 0, .slice none 0 0] 30 (0, 0)) from blk_below (blk_put HO2.out 3 _ rfl) hb); have HZ3 := Aside0.mk (blk_below (blk_far HZ2.out (p := ⟨w1.heap.size, 3, none⟩) (show w.heap.size + 1 ≠ w1.heap.size by have := HS2.out; omega) _) hb); have HX := Aside0.mk hR; have HB3 := Aside0.mk (below_step (HB2.out.setCell (show w.heap.size ≤ w1.heap.size by have := HS2.out; omega) _) hb); obtain ⟨hp0, hp1, hp2, hp3, hp4, hp5, hp6, hp7, hp8, hp9, hp10, fp0, fp1, fp2, fp3, fp4, fp5, fp6, fp7, fp8, fp9, fp10⟩ := cells11 HO3.out; obtain ⟨hy0, hy1, hy2, hy3, hy4, hy5, hy6, hy7, hy8, hy9, hy10, fy0, fy1, fy2, fy3, fy4, fy5, fy6, fy7, fy8, fy9, fy10⟩ := cells11 HZ3.out; clear hb hR)
    have HS3 := Aside0.mk (blk_lt HO2.out)
    refine bodyPost_ret (results_cell_row rfl _ _ (w.heap.size + 1) 30 #[.int .i64 a0_0, .int .u32 a0_1, .int .u8 0, .bool a0_3, .int .u64 0, .string (⟨#[]⟩ : ByteArray), .string (⟨#[]⟩ : ByteArray), .int .u64 0, .int .u16 0, .slice none 0 0, .slice B l0_10.length d] (0, 0) _ rfl (put11 (blk_far HZ3.out (p := ⟨w1.heap.size, 10, none⟩) (show w.heap.size + 1 ≠ w1.heap.size by have := HS2.out; omega) _) _ _ _ _ _ _ _ _ _ _ _) Tryd.underlying30 rfl (by kernel_rfl)) rfl ?_
    have HRX := R_keepN (R_keepN (Kd.R_mono HX.out (fun _ _ => trivial)) (KeepBut.set_ (KeepBut.refl w3 w1.heap.size none) 10 (.slice B l0_10.length d)) (by simp; have := HS3.out; omega)) (keep11 (KeepBut.refl _ (w.heap.size + 1) none) (.int .i64 a0_0) (.int .u32 a0_1) (.int .u8 0) (.bool a0_3) (.int .u64 0) (.string (⟨#[]⟩ : ByteArray)) (.string (⟨#[]⟩ : ByteArray)) (.int .u64 0) (.int .u16 0) (.slice none 0 0) (.slice B l0_10.length d)) (by simp; have := HS3.out; have := HS2.out; omega)
    exact ⟨_, _, rfl, Kd.R_nil _ _ _ _ _, Kd.R_lower HRX (by simp; have := HS3.out; have := HS2.out; omega), below11 (HB3.out.setCell (show w.heap.size ≤ w1.heap.size by have := HS2.out; omega) _) (by omega) _ _ _ _ _ _ _ _ _ _ _⟩


/-! ### utf_stray: function 80 -/
set_option maxHeartbeats 400000 in
set_option maxRecDepth 100000 in
theorem utf_stray_walk (s : ByteArray) (pos : Nat) (w : World) (h : pos < s.size) (hs : s.size ≤ 140737488355328) (ht : Lib.Utf8Tabs 0 1 w) :
    Calls Tryd.prog 80 #[.string s, .int .i64 (pos : Int), .int .i32 ((Utf8.decode s pos).1 : Int)] w fun e w' => e = .returned (.bool (strayB s pos)) ∧ Below w.heap.size w w' := by
  have hd := decode_cut s pos h
  unfold strayB
  obtain ⟨R, hR⟩ : ∃ R, (Utf8.decode s pos).1 = R := ⟨_, rfl⟩
  obtain ⟨K, hK⟩ : ∃ K, (Utf8.decode s pos).2 = K := ⟨_, rfl⟩
  have hdd : Lib.decodeGo (s.extract pos s.size) = (R, K) := by rw [hd, ← hR, ← hK]
  rw [hR, hK]
  have HT := Aside0.mk ht
  have HD := Aside0.mk hdd
  clear hd hR hK hdd ht
  by_cases c : R = 65533
  · subst c
    have hle : (pos : Int) ≤ (s.size : Int) := by omega
    go_enter Tryd.func80, Tryd.ntmps80
    go_wp2_with (go_at_call 82; (with_reducible refine (Tryd.utf8_DecodeRuneInString (s.extract pos s.size) _ HT.out).mono ?_); rw [HD.out]; rintro e w1 ⟨rfl, hb⟩)
    go_ret
    exact ⟨by simp; rw [Bool.eq_iff_iff]; simp; omega, hb⟩
  · have c1 : ((R : Int) != 65533) = true := by simp; omega
    have c2 : ((R : Int) == 65533) = false := by simp; omega
    have c3 : (R == 65533) = false := by simp [c]
    go_enter Tryd.func80, Tryd.ntmps80
    go_wp2
    go_ret
    exact ⟨by simp [c3], Below.refl _ _⟩


/-! ### utf_Valid: function 76 -/
set_option maxHeartbeats 1000000 in
set_option maxRecDepth 100000 in
theorem utf_Valid_walk (s : ByteArray) (w : World) (hs : s.size ≤ 140737488355328) (ht : Lib.Utf8Tabs 0 1 w) :
    Calls Tryd.prog 76 #[.string s] w fun e w' => e = .returned (.bool (validFrom s s.size 0)) ∧ Below w.heap.size w w' := by
  have HT := Aside0.mk ht
  clear ht
  go_enter Tryd.func76, Tryd.ntmps76
  go_wp2
  go_loopw [] (fun wr => ∃ (pos fuel : Nat), wr.heap[w.heap.size]? = some (.stringIter s pos) ∧ Below w.heap.size w wr ∧ Aside0 (validFrom s fuel pos = validFrom s s.size 0) ∧ s.size ≤ pos + fuel) (fun wr => s.size - wr.iterPos w.heap.size)
  case atStart => exact ⟨0, s.size, World.iter_heap w s 0, (Below.refl _ _).alloc (Nat.le_refl _) _, ⟨rfl⟩, by omega⟩
  case round =>
    obtain ⟨pos, fuel, hit, hbw, hv, hf⟩ := hrel
    have hpos0 := iterPos_of hit
    have hsz : w.heap.size < wr.heap.size := (Array.getElem?_eq_some_iff.1 hit).1
    by_cases hp : pos < s.size
    · have hnx : ∀ ty, (Instr.next (.pointer (some ⟨w.heap.size, 0, none⟩)) true ty).run Tryd.prog wr = _ := fun ty => Lib.run_next_any_at wr w.heap.size s pos ty hit hp
      have hwd := width_pos s pos hp
      obtain ⟨f, rfl⟩ : ∃ f, fuel = f + 1 := ⟨fuel - 1, by omega⟩
      have hit2 := Lib.iterAt_heap wr w.heap.size s pos (pos + (Utf8.decode s pos).2) hit
      have hbw2 := Lib.below_iterAt hbw (k := w.heap.size) (Nat.le_refl _) s (pos + (Utf8.decode s pos).2)
      have hsz2 : w.heap.size < (wr.iterAt w.heap.size s (pos + (Utf8.decode s pos).2)).heap.size := by rw [Lib.iterAt_size]; omega
      have HT2 := Aside0.mk (tabs_later HT.out hbw2)
      cases hst : strayB s pos with
      | true =>
        have HS := Aside0.mk hst
        clear hst
        go_wp2_with (go_at_call 80; (with_reducible refine (utf_stray_walk s pos _ hp hs HT2.out).mono ?_); rw [HS.out]; rintro e W1 ⟨rfl, b1⟩)
        go_ret
        refine ⟨?_, hbw2.trans (b1.mono (Nat.le_of_lt hsz2))⟩
        rw [← hv.out]
        simp [validFrom, hp, HS.out]
      | false =>
        have HS := Aside0.mk hst
        clear hst
        go_wp2_with (go_at_call 80; (with_reducible refine (utf_stray_walk s pos _ hp hs HT2.out).mono ?_); rw [HS.out]; rintro e W1 ⟨rfl, b1⟩)
        have hit3 : W1.heap[w.heap.size]? = some (.stringIter s (pos + (Utf8.decode s pos).2)) := (b1.block w.heap.size hsz2).trans hit2
        go_roundw
        case rel => exact ⟨pos + (Utf8.decode s pos).2, f, hit3, hbw2.trans (b1.mono (Nat.le_of_lt hsz2)), ⟨by rw [← hv.out]; simp [validFrom, hp, HS.out]⟩, by omega⟩
        case measure => rw [iterPos_of hit3, hpos0]; omega
    · have hnx : ∀ ty, (Instr.next (.pointer (some ⟨w.heap.size, 0, none⟩)) true ty).run Tryd.prog wr = _ := fun ty => Lib.run_next_end_at wr w.heap.size s pos ty hit hp
      go_wp2
      go_ret
      refine ⟨?_, hbw⟩
      rw [← hv.out]
      cases fuel with
      | zero => rfl
      | succ f => simp [validFrom, hp]
def utf_Valid.f (a0 : ByteArray) : Option (Bool) := if a0.size ≤ 140737488355328 then (some (validFrom a0 a0.size 0)) else (none)
theorem utf_Valid.calls (a0 : ByteArray) (r : Bool) (w : World) (ht : Lib.Utf8Tabs 0 1 w) (h : utf_Valid.f a0 = some r) :
    Calls Tryd.prog 76 #[.string a0] w fun e w' => e = .returned (.bool r) ∧ Below w.heap.size w w' := by
  unfold utf_Valid.f at h
  by_cases c : a0.size ≤ 140737488355328
  · rw [if_pos c] at h
    obtain rfl := Option.some.inj h
    exact utf_Valid_walk a0 w c ht
  · rw [if_neg c] at h
    exact absurd h (by simp)


/-! ### utf_Count: function 77 -/
set_option maxHeartbeats 1000000 in
set_option maxRecDepth 100000 in
theorem utf_Count_walk (s : ByteArray) (w : World) (hs : s.size ≤ 140737488355328) :
    Calls Tryd.prog 77 #[.string s] w fun e w' => e = .returned (.int .i64 (countFrom s s.size 0 : Nat)) ∧ Below w.heap.size w w' := by
  have hle := countFrom_le s s.size 0
  obtain ⟨N, hN⟩ : ∃ N, countFrom s s.size 0 = N := ⟨_, rfl⟩
  rw [hN] at hle ⊢
  have HN := Aside0.mk hN
  clear hN
  go_enter Tryd.func77, Tryd.ntmps77
  go_wp2
  go_loopw [3] (fun v3 wr => ∃ (pos fuel n : Nat), v3 = .int .i64 (n : Int) ∧ wr.heap[w.heap.size]? = some (.stringIter s pos) ∧ Below w.heap.size w wr ∧ Aside0 (countFrom s fuel pos + n = N) ∧ s.size ≤ pos + fuel ∧ n ≤ pos ∧ pos ≤ s.size + 4) (fun _ wr => s.size - wr.iterPos w.heap.size)
  case atStart => exact ⟨0, s.size, 0, rfl, World.iter_heap w s 0, (Below.refl _ _).alloc (Nat.le_refl _) _, ⟨HN.out⟩, by omega, by omega, by omega⟩
  case round =>
    obtain ⟨pos, fuel, n, rfl, hit, hbw, hv, hf, hn, hp4⟩ := hrel
    have hpos0 := iterPos_of hit
    have hsz : w.heap.size < wr.heap.size := (Array.getElem?_eq_some_iff.1 hit).1
    by_cases hp : pos < s.size
    · have hnx : ∀ ty, (Instr.next (.pointer (some ⟨w.heap.size, 0, none⟩)) true ty).run Tryd.prog wr = _ := fun ty => Lib.run_next_any_at wr w.heap.size s pos ty hit hp
      have hwd := width_pos s pos hp
      have hw4 := width_le s pos
      obtain ⟨f, rfl⟩ : ∃ f, fuel = f + 1 := ⟨fuel - 1, by omega⟩
      have hit2 := Lib.iterAt_heap wr w.heap.size s pos (pos + (Utf8.decode s pos).2) hit
      have hbw2 := Lib.below_iterAt hbw (k := w.heap.size) (Nat.le_refl _) s (pos + (Utf8.decode s pos).2)
      go_wp2
      go_roundw
      case rel => exact ⟨pos + (Utf8.decode s pos).2, f, n + 1, by congr 1, hit2, hbw2, ⟨by rw [← hv.out]; simp [countFrom, hp]; omega⟩, by omega, by omega, by omega⟩
      case measure => rw [iterPos_of hit2, hpos0]; omega
    · have hnx : ∀ ty, (Instr.next (.pointer (some ⟨w.heap.size, 0, none⟩)) true ty).run Tryd.prog wr = _ := fun ty => Lib.run_next_end_at wr w.heap.size s pos ty hit hp
      go_wp2
      go_ret
      refine ⟨?_, hbw⟩
      have h0 : countFrom s fuel pos = 0 := by
        cases fuel with
        | zero => rfl
        | succ f => simp [countFrom, hp]
      have := hv.out
      obtain rfl : n = N := by omega
      rfl
def utf_Count.f (a0 : ByteArray) : Option (Int) := if a0.size ≤ 140737488355328 then (some ((countFrom a0 a0.size 0 : Nat) : Int)) else (none)
theorem utf_Count.calls (a0 : ByteArray) (r : Int) (w : World) (h : utf_Count.f a0 = some r) :
    Calls Tryd.prog 77 #[.string a0] w fun e w' => e = .returned (.int .i64 r) ∧ Below w.heap.size w w' := by
  unfold utf_Count.f at h
  by_cases c : a0.size ≤ 140737488355328
  · rw [if_pos c] at h
    obtain rfl := Option.some.inj h
    exact utf_Count_walk a0 w c
  · rw [if_neg c] at h
    exact absurd h (by simp)

/-! ### msg_Key: function 66 -/
def msg_Key.f (a0 : ByteArray) : Option (Bool) := if a0.toList = ([] : List UInt8) then (some false) else (if (a0.size : Int) ≤ 96 then ((utf_Valid.f a0).bind fun t150 => (if t150 = true then ((utf_Count.f a0).bind fun t151 => (some (decide (t151 ≤ 32)))) else (some false))) else (some false))
set_option maxHeartbeats 3000000 in
set_option maxRecDepth 100000 in
theorem msg_Key.calls (a0 : ByteArray) (r : Bool) (w : World) (ht : Lib.Utf8Tabs 0 1 w) (h : msg_Key.f a0 = some r) :
    Calls Tryd.prog 66 #[.string a0] w fun e w' => e = .returned (.bool r) ∧ Below w.heap.size w w' := by
  have HB := Aside0.mk (Below.refl w.heap.size w)
  have HTB := Aside0.mk ht
  clear ht
  have H : (if a0.toList = ([] : List UInt8) then (some false) else (if (a0.size : Int) ≤ 96 then ((utf_Valid.f a0).bind fun t150 => (if t150 = true then ((utf_Count.f a0).bind fun t151 => (some (decide (t151 ≤ 32)))) else (some false))) else (some false))) = some r := h
  clear h
  by_cases c2 : a0.toList = ([] : List UInt8)
  · rw [if_pos c2] at H
    have c2b0 : (a0.toList == ([] : List UInt8)) = true := beq_iff_eq.mpr c2
    have c2b1 : (a0.toList != ([] : List UInt8)) = false := bne_eq_false_iff_eq.mpr c2
    clear c2
    obtain rfl := Option.some.inj H
    go_enter Tryd.func66, Tryd.ntmps66
    go_wp2
    all_goals go_ret
    all_goals first | (exact ⟨by first | rfl | (simp [errW_none, errW_some] <;> rfl) | (simp [*, errW_none, errW_some] <;> rfl), by repeat (first | (with_reducible first | exact HB.out | apply below_alloc | apply pw_below_drewN | apply below_drew1) | exact HB.out)⟩) | (exfalso; simp_all; done)
  · rw [if_neg c2] at H
    have c2b0 : (a0.toList == ([] : List UInt8)) = false := beq_eq_false_iff_ne.mpr c2
    have c2b1 : (a0.toList != ([] : List UInt8)) = true := bne_iff_ne.mpr c2
    by_cases c3 : (a0.size : Int) ≤ 96
    · rw [if_pos c3] at H
      have c3b0 : decide ((a0.size : Int) ≤ 96) = true := decide_eq_true c3
      have c3b1 : decide (a0.size ≤ 96) = true := decide_eq_true (by omega)
      clear c3
      replace H := Option.bind_eq_some_iff.mp H
      obtain ⟨t150, A40, H⟩ := H
      replace H : (if t150 = true then ((utf_Count.f a0).bind fun t151 => (some (decide (t151 ≤ 32)))) else (some false)) = some r := H
      have A4 := Aside0.mk A40
      clear A40
      by_cases c5 : t150 = true
      · subst c5
        have H1 : ((utf_Count.f a0).bind fun t151 => (some (decide (t151 ≤ 32)))) = some r := by rw [if_pos rfl] at H; exact H
        clear H
        have H := H1
        clear H1
        replace H := Option.bind_eq_some_iff.mp H
        obtain ⟨t151, A60, H⟩ := H
        replace H : (some (decide (t151 ≤ 32))) = some r := H
        have A6 := Aside0.mk A60
        clear A60
        obtain rfl := Option.some.inj H
        go_enter Tryd.func66, Tryd.ntmps66
        go_wp2_with (first | (go_at_call 76; (with_reducible refine (utf_Valid.calls a0 true _ ?side1 A4.out).mono ?_); (case side1 => refine tabs_later HTB.out ?_; repeat (first | (with_reducible first | exact HB.out | apply below_alloc | apply pw_below_drewN | apply below_drew1) | exact HB.out)); rintro e w7 ⟨rfl, hb⟩; have n0_ := Aside0.mk (below_step (by repeat (first | (with_reducible first | exact HB.out | apply below_alloc | apply pw_below_drewN | apply below_drew1) | exact HB.out)) hb); clear HB; have HB := n0_; clear n0_; (try clear hb); (try clear hb2); (try clear hk); (try clear hi)) | (go_at_call 77; (with_reducible refine (utf_Count.calls a0 t151 _ A6.out).mono ?_); rintro e w8 ⟨rfl, hb⟩; have n0_ := Aside0.mk (below_step (by repeat (first | (with_reducible first | exact HB.out | apply below_alloc | apply pw_below_drewN | apply below_drew1) | exact HB.out)) hb); clear HB; have HB := n0_; clear n0_; (try clear hb); (try clear hb2); (try clear hk); (try clear hi)))
        all_goals go_ret
        all_goals first | (exact ⟨by first | rfl | (simp [errW_none, errW_some] <;> rfl) | (simp [*, errW_none, errW_some] <;> rfl), by repeat (first | (with_reducible first | exact HB.out | apply below_alloc | apply pw_below_drewN | apply below_drew1) | exact HB.out)⟩) | (exfalso; simp_all; done)
      · replace c5 := Bool.eq_false_iff.mpr c5
        subst c5
        have H1 : (some false) = some r := by rw [if_neg (show ¬ (false = true) by decide)] at H; exact H
        clear H
        have H := H1
        clear H1
        obtain rfl := Option.some.inj H
        go_enter Tryd.func66, Tryd.ntmps66
        go_wp2_with (first | (go_at_call 76; (with_reducible refine (utf_Valid.calls a0 false _ ?side1 A4.out).mono ?_); (case side1 => refine tabs_later HTB.out ?_; repeat (first | (with_reducible first | exact HB.out | apply below_alloc | apply pw_below_drewN | apply below_drew1) | exact HB.out)); rintro e w9 ⟨rfl, hb⟩; have n0_ := Aside0.mk (below_step (by repeat (first | (with_reducible first | exact HB.out | apply below_alloc | apply pw_below_drewN | apply below_drew1) | exact HB.out)) hb); clear HB; have HB := n0_; clear n0_; (try clear hb); (try clear hb2); (try clear hk); (try clear hi)))
        all_goals go_ret
        all_goals first | (exact ⟨by first | rfl | (simp [errW_none, errW_some] <;> rfl) | (simp [*, errW_none, errW_some] <;> rfl), by repeat (first | (with_reducible first | exact HB.out | apply below_alloc | apply pw_below_drewN | apply below_drew1) | exact HB.out)⟩) | (exfalso; simp_all; done)
    · rw [if_neg c3] at H
      have c3b0 : decide ((a0.size : Int) ≤ 96) = false := decide_eq_false c3
      have c3b1 : decide (a0.size ≤ 96) = false := decide_eq_false (by omega)
      clear c3
      obtain rfl := Option.some.inj H
      go_enter Tryd.func66, Tryd.ntmps66
      go_wp2
      all_goals go_ret
      all_goals first | (exact ⟨by first | rfl | (simp [errW_none, errW_some] <;> rfl) | (simp [*, errW_none, errW_some] <;> rfl), by repeat (first | (with_reducible first | exact HB.out | apply below_alloc | apply pw_below_drewN | apply below_drew1) | exact HB.out)⟩) | (exfalso; simp_all; done)

end Go.Proofs.YtmohmmpcadlfkaaDoor.PTaggedBack
