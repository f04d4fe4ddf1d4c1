/- Written by a program of this session (a turned copy of the kit's print): functions of the program, each with the Lean function that it comes to, and the row of one law. No condition. -/
import Derived.Test.YtmohmmpcadlfkaaDoorPTaggedBackx0
import Derived.Test.YtmohmmpcadlfkaaDoorPTaggedBackx2
import Derived.Test.YtmohmmpcadlfkaaDoorPTaggedBackx8
namespace Go.Proofs.YtmohmmpcadlfkaaDoor.PTaggedBack
open Go.RowKit Go.Proofs.YtmohmmpcadlfkaaDoorW.PrintWords Go.Proofs.YtmohmmpcadlfkaaDoorW.PrintLast Go.Proofs.YtmohmmpcadlfkaaDoorW.PrintMore
attribute [local go_sem] max2_int min2_int max_two min_two max_three min_three max_four min_four   -- for this text's walks alone
set_option linter.unusedVariables false
set_option linter.unusedSimpArgs false

attribute [local go_sem high] eqA43
/-! ### annuletref08_Pairs: function 34 -/
def annuletref08_Pairs.l0 : Nat → List (S43) → List (S43) → Int → Option (Bool)
  | 0, _, _, _ => none
  | k + 1, x0, x1, x5 => if x5 < (x0.length : Int) then (if 0 ≤ x5 then (if x5 < (x1.length : Int) then (if (!((((rd_T43 x0 x5).f0).toList) == (((rd_T43 x1 x5).f0).toList)) || (!((((rd_T43 x0 x5).f1).toList) == (((rd_T43 x1 x5).f1).toList)))) = true then (some false) else (annuletref08_Pairs.l0 k x0 x1 (wrap64 (x5 + 1)))) else (none)) else (none)) else (some true)
def annuletref08_Pairs.f (k : Nat) (l0 : List (S43)) (l1 : List (S43)) : Option (Bool) := if (l0.length : Int) = (l1.length : Int) then (annuletref08_Pairs.l0 k l0 l1 0) else (some false)
theorem annuletref08_Pairs.mono_l : ∀ k, (∀ y0 y1 y2, LeO (annuletref08_Pairs.l0 k y0 y1 y2) (annuletref08_Pairs.l0 (k + 1) y0 y1 y2))
  | 0 => fun _ _ _ r h => by simp [annuletref08_Pairs.l0] at h
  | k + 1 => by
    have ih0 := annuletref08_Pairs.mono_l k
    · intro y0 y1 y2
      unfold annuletref08_Pairs.l0
      repeat' first
      | (with_reducible exact ih0 _ _ _)
      | (with_reducible exact LeO.refl _)
      | (with_reducible exact LeO.none _)
      | (with_reducible refine LeO.ite ?_ ?_)
      | (with_reducible refine LeO.bind ?_ (fun _ => ?_))
      | exact ih0 _ _ _
      | exact LeO.none _
      | refine LeO.ite ?_ ?_
      | refine LeO.bind ?_ (fun _ => ?_)
theorem annuletref08_Pairs.mono : ∀ a0 a1 k, LeO (annuletref08_Pairs.f k a0 a1) (annuletref08_Pairs.f (k + 1) a0 a1) := by
  intro a0 a1 k
  have ih0 := annuletref08_Pairs.mono_l k
  unfold annuletref08_Pairs.f
  repeat' first
      | (with_reducible exact ih0 _ _ _)
      | (with_reducible exact LeO.refl _)
      | (with_reducible exact LeO.none _)
      | (with_reducible refine LeO.ite ?_ ?_)
      | (with_reducible refine LeO.bind ?_ (fun _ => ?_))
      | exact ih0 _ _ _
      | exact LeO.none _
      | refine LeO.ite ?_ ?_
      | refine LeO.bind ?_ (fun _ => ?_)
set_option maxHeartbeats 3000000 in
set_option maxRecDepth 100000 in
theorem annuletref08_Pairs.calls (k : Nat) (A0 : Option Addr) (c0 : Nat) (l0 : List (S43)) (A1 : Option Addr) (c1 : Nat) (l1 : List (S43)) (r : Bool) (w : World) (hr0 : Kd.C k43 w A0 l0.length l0) (hc0 : l0.length ≤ c0) (hr1 : Kd.C k43 w A1 l1.length l1) (hc1 : l1.length ≤ c1) (h : annuletref08_Pairs.f k l0 l1 = some r) :
    Calls Tryd.prog 34 #[.slice A0 l0.length c0, .slice A1 l1.length c1] w fun e w' => e = .returned (.bool r) ∧ Drawn0 w w' := by
  have hu43 := Tryd.underlying43
  have HR0 := Aside0.mk hr0
  have HC0 := Aside0.mk hc0
  clear hr0 hc0
  have HR1 := Aside0.mk hr1
  have HC1 := Aside0.mk hc1
  clear hr1 hc1
  have H : (if (l0.length : Int) = (l1.length : Int) then (annuletref08_Pairs.l0 k l0 l1 0) else (some false)) = some r := h
  clear h
  by_cases c3 : (l0.length : Int) = (l1.length : Int)
  · rw [if_pos c3] at H
    have c3b0 : ((l0.length : Int) == (l1.length : Int)) = true := beq_iff_eq.mpr c3
    have c3b1 : ((l0.length : Int) != (l1.length : Int)) = false := bne_eq_false_iff_eq.mpr c3
    have c3b2 : (l0.length == l1.length) = true := by first | simpa using c3 | (simp at c3 ⊢; omega)
    clear c3
    have H' := Aside0.mk H
    clear H
    go_enter Tryd.func34, Tryd.ntmps34
    go_wp2
    repeat (go_quiet (fail); try go_wp2)
    go_loopg [5] k (fun kq v5 w' => ∃ (x5_1 : Int), v5 = .int .i64 x5_1 ∧ Aside0 (annuletref08_Pairs.l0 kq l0 l1 x5_1 = some r) ∧ Aside0 (kq ≤ k) ∧ Drawn0 w w')
    case atStart => exact ⟨(0), (by first | rfl | (simp; done) | (simp [*]; done)), H', ⟨Nat.le_refl _⟩, by repeat (first | exact Drawn0.refl _ | apply Drawn0.step)⟩
    case round =>
      clear H'
      try clear c1
      try clear p2
      try clear c3
      try clear c3b0
      try clear c3b1
      try clear c3b2
      obtain ⟨x5_1, rfl, HA, HK1, ⟨m1, rfl⟩⟩ := hrel
      cases gk with
      | zero => exact absurd HA.out (by simp [annuletref08_Pairs.l0])
      | succ k1 =>
        have H := HA.out
        clear HA
        simp only [annuletref08_Pairs.l0] at H
        by_cases c4 : x5_1 < (l0.length : Int)
        · rw [if_pos c4] at H
          have c4b0 : decide (x5_1 < (l0.length : Int)) = true := decide_eq_true c4
          clear c4
          by_cases c5 : 0 ≤ x5_1
          · rw [if_pos c5] at H
            have c5b0 : decide (0 ≤ x5_1) = true := decide_eq_true c5
            clear c5
            by_cases c6 : x5_1 < (l1.length : Int)
            · rw [if_pos c6] at H
              have c6b0 : decide (x5_1 < (l1.length : Int)) = true := decide_eq_true c6
              clear c6
              by_cases c7 : (!((((rd_T43 l0 x5_1).f0).toList) == (((rd_T43 l1 x5_1).f0).toList)) || (!((((rd_T43 l0 x5_1).f1).toList) == (((rd_T43 l1 x5_1).f1).toList)))) = true
              · rw [if_pos c7] at H
                have c7b0 : (!((((rd_T43 l0 x5_1).f0).toList) == (((rd_T43 l1 x5_1).f0).toList)) || (!((((rd_T43 l0 x5_1).f1).toList) == (((rd_T43 l1 x5_1).f1).toList)))) = true := c7
                clear c7
                obtain rfl := Option.some.inj H
                have p226 : 0 ≤ (x5_1 : Int) := of_decide_eq_true (by first | (with_reducible assumption) | assumption)
                have q226 : x5_1 < (l0.length : Int) := of_decide_eq_true (by first | (with_reducible assumption) | assumption)
                obtain ⟨ad226, e226, hx226_0, hx226_1⟩ := at_T43 HR0.out x5_1 p226 q226
                cases e226
                replace p226 := eq_true p226
                replace q226 := eq_true q226
                have p227 : 0 ≤ (x5_1 : Int) := of_decide_eq_true (by first | (with_reducible assumption) | assumption)
                have q227 : x5_1 < (l1.length : Int) := of_decide_eq_true (by first | (with_reducible assumption) | assumption)
                obtain ⟨ad227, e227, hx227_0, hx227_1⟩ := at_T43 HR1.out x5_1 p227 q227
                cases e227
                replace p227 := eq_true p227
                replace q227 := eq_true q227
                go_wp2
                repeat (go_quiet (fail); try go_wp2)
                all_goals go_ret
                all_goals first | (exact ⟨by first | rfl | (simp; done) | (simp [*]; done) | (refine congrArg Ending.returned ?_; show Value.string _ = Value.string _; (first | (congr 2 <;> omega) | (congr 3 <;> omega) | (congr 4 <;> omega))), by repeat (first | exact Drawn0.refl _ | apply Drawn0.step)⟩) | (exfalso; simp_all; done)
              · rw [if_neg c7] at H
                have c7b0 : (!((((rd_T43 l0 x5_1).f0).toList) == (((rd_T43 l1 x5_1).f0).toList)) || (!((((rd_T43 l0 x5_1).f1).toList) == (((rd_T43 l1 x5_1).f1).toList)))) = false := by simpa using c7
                clear c7
                have H' := Aside0.mk H
                clear H
                have p226 : 0 ≤ (x5_1 : Int) := of_decide_eq_true (by first | (with_reducible assumption) | assumption)
                have q226 : x5_1 < (l0.length : Int) := of_decide_eq_true (by first | (with_reducible assumption) | assumption)
                obtain ⟨ad226, e226, hx226_0, hx226_1⟩ := at_T43 HR0.out x5_1 p226 q226
                cases e226
                replace p226 := eq_true p226
                replace q226 := eq_true q226
                have p227 : 0 ≤ (x5_1 : Int) := of_decide_eq_true (by first | (with_reducible assumption) | assumption)
                have q227 : x5_1 < (l1.length : Int) := of_decide_eq_true (by first | (with_reducible assumption) | assumption)
                obtain ⟨ad227, e227, hx227_0, hx227_1⟩ := at_T43 HR1.out x5_1 p227 q227
                cases e227
                replace p227 := eq_true p227
                replace q227 := eq_true q227
                go_wp2
                repeat (go_quiet (fail); try go_wp2)
                go_roundg k1
                case measure => have := HK1.out; omega
                case rel => exact ⟨(wrap64 (x5_1 + 1)), (by first | rfl | (simp; done) | (simp [*]; done)), H', ⟨by have := HK1.out; omega⟩, by repeat (first | exact Drawn0.refl _ | apply Drawn0.step)⟩
            · rw [if_neg c6] at H
              exact absurd H (by simp)
          · rw [if_neg c5] at H
            exact absurd H (by simp)
        · rw [if_neg c4] at H
          have c4b0 : decide (x5_1 < (l0.length : Int)) = false := decide_eq_false c4
          clear c4
          obtain rfl := Option.some.inj H
          go_wp2
          repeat (go_quiet (fail); try go_wp2)
          all_goals go_ret
          all_goals first | (exact ⟨by first | rfl | (simp; done) | (simp [*]; done) | (refine congrArg Ending.returned ?_; show Value.string _ = Value.string _; (first | (congr 2 <;> omega) | (congr 3 <;> omega) | (congr 4 <;> omega))), by repeat (first | exact Drawn0.refl _ | apply Drawn0.step)⟩) | (exfalso; simp_all; done)
  · rw [if_neg c3] at H
    have c3b0 : ((l0.length : Int) == (l1.length : Int)) = false := beq_eq_false_iff_ne.mpr c3
    have c3b1 : ((l0.length : Int) != (l1.length : Int)) = true := bne_iff_ne.mpr c3
    have c3b2 : (l0.length == l1.length) = false := by first | simpa using c3 | (simp at c3 ⊢; omega)
    obtain rfl := Option.some.inj H
    go_enter Tryd.func34, Tryd.ntmps34
    go_wp2
    repeat (go_quiet (fail); try go_wp2)
    all_goals go_ret
    all_goals first | (exact ⟨by first | rfl | (simp; done) | (simp [*]; done) | (refine congrArg Ending.returned ?_; show Value.string _ = Value.string _; (first | (congr 2 <;> omega) | (congr 3 <;> omega) | (congr 4 <;> omega))), by repeat (first | exact Drawn0.refl _ | apply Drawn0.step)⟩) | (exfalso; simp_all; done)


/-! ### annuletref08_Same: function 12 -/
def annuletref08_Same.f (k : Nat) (a0_0 : Int) (a0_1 : Int) (a0_2 : Int) (a0_3 : Bool) (a0_4 : Int) (a0_5 : ByteArray) (a0_6 : ByteArray) (a0_7 : Int) (a0_8 : Int) (l0_9 : List (S26)) (l0_10 : List (S43)) (a1_0 : Int) (a1_1 : Int) (a1_2 : Int) (a1_3 : Bool) (a1_4 : Int) (a1_5 : ByteArray) (a1_6 : ByteArray) (a1_7 : Int) (a1_8 : Int) (l1_9 : List (S26)) (l1_10 : List (S43)) : Option (Bool) := if a0_0 = a1_0 then (if a0_1 = a1_1 then (if a0_2 = a1_2 then (if (a0_3 == a1_3) = true then (if a0_4 = a1_4 then (if a0_5.toList = a1_5.toList then (if a0_6.toList = a1_6.toList then (if (a0_7 == a1_7 && (a0_8 == a1_8)) = true then ((annuletref08_Peers.f k l0_9 l1_9).bind fun t149 => (if t149 = true then ((annuletref08_Pairs.f k l0_10 l1_10).bind fun t150 => (some t150)) else (some false))) else (some false)) else (some false)) else (some false)) else (some false)) else (some false)) else (some false)) else (some false)) else (some false)
set_option maxHeartbeats 4000000 in
set_option maxRecDepth 100000 in
theorem annuletref08_Same.calls (k : Nat) (a0_0 : Int) (a0_1 : Int) (a0_2 : Int) (a0_3 : Bool) (a0_4 : Int) (a0_5 : ByteArray) (a0_6 : ByteArray) (a0_7 : Int) (a0_8 : Int) (A0_9 : Option Addr) (c0_9 : Nat) (l0_9 : List (S26)) (A0_10 : Option Addr) (c0_10 : Nat) (l0_10 : List (S43)) (a1_0 : Int) (a1_1 : Int) (a1_2 : Int) (a1_3 : Bool) (a1_4 : Int) (a1_5 : ByteArray) (a1_6 : ByteArray) (a1_7 : Int) (a1_8 : Int) (A1_9 : Option Addr) (c1_9 : Nat) (l1_9 : List (S26)) (A1_10 : Option Addr) (c1_10 : Nat) (l1_10 : List (S43)) (r : Bool) (w : World) (hr0_9 : Kd.C k26 w A0_9 l0_9.length l0_9) (hc0_9 : l0_9.length ≤ c0_9) (hr0_10 : Kd.C k43 w A0_10 l0_10.length l0_10) (hc0_10 : l0_10.length ≤ c0_10) (hr1_9 : Kd.C k26 w A1_9 l1_9.length l1_9) (hc1_9 : l1_9.length ≤ c1_9) (hr1_10 : Kd.C k43 w A1_10 l1_10.length l1_10) (hc1_10 : l1_10.length ≤ c1_10) (h : annuletref08_Same.f k a0_0 a0_1 a0_2 a0_3 a0_4 a0_5 a0_6 a0_7 a0_8 l0_9 l0_10 a1_0 a1_1 a1_2 a1_3 a1_4 a1_5 a1_6 a1_7 a1_8 l1_9 l1_10 = some r) :
    Calls Tryd.prog 12 #[.agg #[.int .i64 a0_0, .int .u32 a0_1, .int .u8 a0_2, .bool a0_3, .int .u64 a0_4, .string a0_5, .string a0_6, .int .u64 a0_7, .int .u16 a0_8, .slice A0_9 l0_9.length c0_9, .slice A0_10 l0_10.length c0_10], .agg #[.int .i64 a1_0, .int .u32 a1_1, .int .u8 a1_2, .bool a1_3, .int .u64 a1_4, .string a1_5, .string a1_6, .int .u64 a1_7, .int .u16 a1_8, .slice A1_9 l1_9.length c1_9, .slice A1_10 l1_10.length c1_10]] w fun e w' => e = .returned (.bool r) ∧ Below w.heap.size w w' := by
  have hu30 := Tryd.underlying30
  have hu26 := Tryd.underlying26
  have HB := Aside0.mk (below_alloc (below_alloc (Below.refl w.heap.size w) (.cells #[.int .i64 a0_0, .int .u32 a0_1, .int .u8 a0_2, .bool a0_3, .int .u64 a0_4, .string a0_5, .string a0_6, .int .u64 a0_7, .int .u16 a0_8, .slice A0_9 l0_9.length c0_9, .slice A0_10 l0_10.length c0_10] 30)) (.cells #[.int .i64 a1_0, .int .u32 a1_1, .int .u8 a1_2, .bool a1_3, .int .u64 a1_4, .string a1_5, .string a1_6, .int .u64 a1_7, .int .u16 a1_8, .slice A1_9 l1_9.length c1_9, .slice A1_10 l1_10.length c1_10] 30))
  have C9 := Aside0.mk (show ∀ W, Below w.heap.size w W → Kd.C k26 W A0_9 l0_9.length l0_9 ∧ Kd.C k26 W A1_9 l1_9.length l1_9 from fun W hW => ⟨Kd.C_below hr0_9 hW, Kd.C_below hr1_9 hW⟩)
  have C10 := Aside0.mk (show ∀ W, Below w.heap.size w W → Kd.C k43 W A0_10 l0_10.length l0_10 ∧ Kd.C k43 W A1_10 l1_10.length l1_10 from fun W hW => ⟨Kd.C_below hr0_10 hW, Kd.C_below hr1_10 hW⟩)
  have HC := Aside0.mk (And.intro hc0_9 (And.intro hc1_9 (And.intro hc0_10 hc1_10)))
  clear hr0_9 hr0_10 hr1_9 hr1_10 hc0_9 hc0_10 hc1_9 hc1_10
  unfold annuletref08_Same.f at h
  by_cases c : a0_0 = a1_0
  case neg =>
    rw [if_neg c] at h
    obtain rfl := Option.some.inj h
    have d0 : (a0_0 == a1_0) = false := beq_eq_false_iff_ne.mpr c
    have g0 : (a0_0 != a1_0) = true := bne_iff_ne.mpr c
    clear c h
    go_enter Tryd.func12, Tryd.ntmps12
    go_wp2
    go_ret
    exact ⟨rfl, HB.out⟩
  rw [if_pos c] at h
  have d0 : (a0_0 == a1_0) = true := beq_iff_eq.mpr c
  have g0 : (a0_0 != a1_0) = false := bne_eq_false_iff_eq.mpr c
  clear c
  by_cases c : a0_1 = a1_1
  case neg =>
    rw [if_neg c] at h
    obtain rfl := Option.some.inj h
    have d1 : (a0_1 == a1_1) = false := beq_eq_false_iff_ne.mpr c
    have g1 : (a0_1 != a1_1) = true := bne_iff_ne.mpr c
    clear c h
    go_enter Tryd.func12, Tryd.ntmps12
    go_wp2
    go_ret
    exact ⟨rfl, HB.out⟩
  rw [if_pos c] at h
  have d1 : (a0_1 == a1_1) = true := beq_iff_eq.mpr c
  have g1 : (a0_1 != a1_1) = false := bne_eq_false_iff_eq.mpr c
  clear c
  by_cases c : a0_2 = a1_2
  case neg =>
    rw [if_neg c] at h
    obtain rfl := Option.some.inj h
    have d2 : (a0_2 == a1_2) = false := beq_eq_false_iff_ne.mpr c
    have g2 : (a0_2 != a1_2) = true := bne_iff_ne.mpr c
    clear c h
    go_enter Tryd.func12, Tryd.ntmps12
    go_wp2
    go_ret
    exact ⟨rfl, HB.out⟩
  rw [if_pos c] at h
  have d2 : (a0_2 == a1_2) = true := beq_iff_eq.mpr c
  have g2 : (a0_2 != a1_2) = false := bne_eq_false_iff_eq.mpr c
  clear c
  by_cases c : (a0_3 == a1_3) = true
  case neg =>
    rw [if_neg c] at h
    obtain rfl := Option.some.inj h
    have d3 : (a0_3 == a1_3) = false := by simpa using c
    have g3 : (a0_3 != a1_3) = true := by simpa using c
    clear c h
    go_enter Tryd.func12, Tryd.ntmps12
    go_wp2
    go_ret
    exact ⟨rfl, HB.out⟩
  rw [if_pos c] at h
  have d3 : (a0_3 == a1_3) = true := c
  have g3 : (a0_3 != a1_3) = false := by simpa using c
  clear c
  by_cases c : a0_4 = a1_4
  case neg =>
    rw [if_neg c] at h
    obtain rfl := Option.some.inj h
    have d4 : (a0_4 == a1_4) = false := beq_eq_false_iff_ne.mpr c
    have g4 : (a0_4 != a1_4) = true := bne_iff_ne.mpr c
    clear c h
    go_enter Tryd.func12, Tryd.ntmps12
    go_wp2
    go_ret
    exact ⟨rfl, HB.out⟩
  rw [if_pos c] at h
  have d4 : (a0_4 == a1_4) = true := beq_iff_eq.mpr c
  have g4 : (a0_4 != a1_4) = false := bne_eq_false_iff_eq.mpr c
  clear c
  by_cases c : a0_5.toList = a1_5.toList
  case neg =>
    rw [if_neg c] at h
    obtain rfl := Option.some.inj h
    have d5 : (a0_5.toList == a1_5.toList) = false := beq_eq_false_iff_ne.mpr c
    have g5 : (a0_5.toList != a1_5.toList) = true := bne_iff_ne.mpr c
    clear c h
    go_enter Tryd.func12, Tryd.ntmps12
    go_wp2
    go_ret
    exact ⟨rfl, HB.out⟩
  rw [if_pos c] at h
  have d5 : (a0_5.toList == a1_5.toList) = true := beq_iff_eq.mpr c
  have g5 : (a0_5.toList != a1_5.toList) = false := bne_eq_false_iff_eq.mpr c
  clear c
  by_cases c : a0_6.toList = a1_6.toList
  case neg =>
    rw [if_neg c] at h
    obtain rfl := Option.some.inj h
    have d6 : (a0_6.toList == a1_6.toList) = false := beq_eq_false_iff_ne.mpr c
    have g6 : (a0_6.toList != a1_6.toList) = true := bne_iff_ne.mpr c
    clear c h
    go_enter Tryd.func12, Tryd.ntmps12
    go_wp2
    go_ret
    exact ⟨rfl, HB.out⟩
  rw [if_pos c] at h
  have d6 : (a0_6.toList == a1_6.toList) = true := beq_iff_eq.mpr c
  have g6 : (a0_6.toList != a1_6.toList) = false := bne_eq_false_iff_eq.mpr c
  clear c
  by_cases c : a0_7 = a1_7
  case neg =>
    rw [if_neg (by simp [c])] at h
    obtain rfl := Option.some.inj h
    have d7 : (a0_7 == a1_7) = false := beq_eq_false_iff_ne.mpr c
    have g7 : (a0_7 != a1_7) = true := bne_iff_ne.mpr c
    clear c h
    go_enter Tryd.func12, Tryd.ntmps12
    go_wp2
    go_ret
    exact ⟨rfl, HB.out⟩
  subst c
  by_cases c : a0_8 = a1_8
  case neg =>
    rw [if_neg (by simp [c])] at h
    obtain rfl := Option.some.inj h
    have d8 : (a0_8 == a1_8) = false := beq_eq_false_iff_ne.mpr c
    have g8 : (a0_8 != a1_8) = true := bne_iff_ne.mpr c
    clear c h
    go_enter Tryd.func12, Tryd.ntmps12
    go_wp2
    go_ret
    exact ⟨rfl, HB.out⟩
  subst c
  rw [if_pos (by simp)] at h
  obtain ⟨t, ht, h⟩ := Option.bind_eq_some_iff.mp h
  have HT := Aside0.mk ht
  cases t with
  | false =>
    rw [if_neg (by decide)] at h
    obtain rfl := Option.some.inj h
    clear h ht
    go_enter Tryd.func12, Tryd.ntmps12
    go_wp2_with (go_at_call 33; (with_reducible refine (annuletref08_Peers.calls k _ _ l0_9 _ _ l1_9 _ _ (C9.out _ HB.out).1 HC.out.1 (C9.out _ HB.out).2 HC.out.2.1 HT.out).mono ?_); rintro e w1 ⟨rfl, ⟨n1_, rfl⟩⟩; have HB1 := Aside0.mk (pw_below_drewN HB.out n1_))
    go_ret
    exact ⟨rfl, HB1.out⟩
  | true =>
    rw [if_pos rfl] at h
    obtain ⟨t2, ht2, h⟩ := Option.bind_eq_some_iff.mp h
    obtain rfl := Option.some.inj h
    have HT2 := Aside0.mk ht2
    clear h ht ht2
    go_enter Tryd.func12, Tryd.ntmps12
    go_wp2_with (first | (go_at_call 33; (with_reducible refine (annuletref08_Peers.calls k _ _ l0_9 _ _ l1_9 _ _ (C9.out _ HB.out).1 HC.out.1 (C9.out _ HB.out).2 HC.out.2.1 HT.out).mono ?_); rintro e w1 ⟨rfl, ⟨n1_, rfl⟩⟩; have HB1 := Aside0.mk (pw_below_drewN HB.out n1_)) | (go_at_call 34; (with_reducible refine (annuletref08_Pairs.calls k _ _ l0_10 _ _ l1_10 _ _ (C10.out _ HB1.out).1 HC.out.2.2.1 (C10.out _ HB1.out).2 HC.out.2.2.2 HT2.out).mono ?_); rintro e w2 ⟨rfl, ⟨n2_, rfl⟩⟩; have HB2 := Aside0.mk (pw_below_drewN HB1.out n2_)))
    go_ret
    exact ⟨rfl, pw_below_drewN HB.out _⟩
theorem annuletref08_Same.mono : ∀ a0 a1 a2 a3 a4 a5 a6 a7 a8 a9 a10 a11 a12 a13 a14 a15 a16 a17 a18 a19 a20 a21 k, LeO (annuletref08_Same.f k a0 a1 a2 a3 a4 a5 a6 a7 a8 a9 a10 a11 a12 a13 a14 a15 a16 a17 a18 a19 a20 a21) (annuletref08_Same.f (k + 1) a0 a1 a2 a3 a4 a5 a6 a7 a8 a9 a10 a11 a12 a13 a14 a15 a16 a17 a18 a19 a20 a21) := by
  intro a0 a1 a2 a3 a4 a5 a6 a7 a8 a9 a10 a11 a12 a13 a14 a15 a16 a17 a18 a19 a20 a21 k
  unfold annuletref08_Same.f
  repeat' first
  | (with_reducible exact annuletref08_Peers.mono _ _ _)
  | (with_reducible exact annuletref08_Pairs.mono _ _ _)
  | (with_reducible exact LeO.refl _)
  | (with_reducible exact LeO.none _)
  | (with_reducible refine LeO.ite ?_ ?_)
  | (with_reducible refine LeO.bind ?_ (fun _ => ?_))

end Go.Proofs.YtmohmmpcadlfkaaDoor.PTaggedBack
