/- Written by a program of this session (a turned copy of the kit's print): functions of the program, each with the Lean function that it comes to, and the row of one law. No condition. -/
import Derived.Test.YtplloiinedbnlaaPSplitBackx0
namespace Go.Proofs.Ytplloiinedbnlaa.PSplitBack
open Go.RowKit Go.Proofs.YtplloiinedbnlaaW.PrintWords Go.Proofs.YtplloiinedbnlaaW.PrintLast Go.Proofs.YtplloiinedbnlaaW.PrintMore
attribute [local go_sem] max2_int min2_int max_two min_two max_three min_three max_four min_four   -- for this text's walks alone
set_option linter.unusedVariables false
set_option linter.unusedSimpArgs false

/-! ### annuletref18_Right: function 21 -/
mutual
def annuletref18_Right.j0 : Nat → Bool → Int → Int → Int → Int → Int → Int → List Int → Option (Int)
  | 0, _, _, _, _, _, _, _, _ => none
  | k + 1, x10, x215000, x215001, x215002, x215003, x215004, x215005, x215006 => if x10 = true then (some 9) else (if x215005 = 0 then (annuletref18_Right.j1 k true x215000 x215001 x215002 x215003 x215004 x215005 x215006) else (annuletref18_Right.j1 k (decide (x215004 ≥ x215005)) x215000 x215001 x215002 x215003 x215004 x215005 x215006))
def annuletref18_Right.j1 : Nat → Bool → Int → Int → Int → Int → Int → Int → List Int → Option (Int)
  | 0, _, _, _, _, _, _, _, _ => none
  | k + 1, x20, x215000, x215001, x215002, x215003, x215004, x215005, x215006 => if x20 = true then (some 1) else (if (x215006.length : Int) > 65487 then (some 5) else (some 0))
end
def annuletref18_Right.f (k : Nat) (a0_0 : Int) (a0_1 : Int) (a0_2 : Int) (a0_3 : Int) (a0_4 : Int) (a0_5 : Int) (l0_6 : List Int) : Option (Int) := if a0_0 < 1 then (annuletref18_Right.j0 k true a0_0 a0_1 a0_2 a0_3 a0_4 a0_5 l0_6) else (annuletref18_Right.j0 k (decide (a0_0 > 2)) a0_0 a0_1 a0_2 a0_3 a0_4 a0_5 l0_6)
theorem annuletref18_Right.mono_l : ∀ k, (∀ y0 y1 y2 y3 y4 y5 y6 y7, LeO (annuletref18_Right.j0 k y0 y1 y2 y3 y4 y5 y6 y7) (annuletref18_Right.j0 (k + 1) y0 y1 y2 y3 y4 y5 y6 y7)) ∧ (∀ y0 y1 y2 y3 y4 y5 y6 y7, LeO (annuletref18_Right.j1 k y0 y1 y2 y3 y4 y5 y6 y7) (annuletref18_Right.j1 (k + 1) y0 y1 y2 y3 y4 y5 y6 y7))
  | 0 => ⟨fun _ _ _ _ _ _ _ _ r h => by simp [annuletref18_Right.j0] at h, fun _ _ _ _ _ _ _ _ r h => by simp [annuletref18_Right.j1] at h⟩
  | k + 1 => by
    obtain ⟨ih0, ih1⟩ := annuletref18_Right.mono_l k
    refine ⟨?_, ?_⟩
    · intro y0 y1 y2 y3 y4 y5 y6 y7
      unfold annuletref18_Right.j0
      repeat' first
      | (with_reducible exact ih0 _ _ _ _ _ _ _ _)
      | (with_reducible exact ih1 _ _ _ _ _ _ _ _)
      | (with_reducible exact LeO.refl _)
      | (with_reducible exact LeO.none _)
      | (with_reducible refine LeO.ite ?_ ?_)
      | (with_reducible refine LeO.bind ?_ (fun _ => ?_))
      | exact ih0 _ _ _ _ _ _ _ _
      | exact ih1 _ _ _ _ _ _ _ _
      | exact LeO.none _
      | refine LeO.ite ?_ ?_
      | refine LeO.bind ?_ (fun _ => ?_)
    · intro y0 y1 y2 y3 y4 y5 y6 y7
      unfold annuletref18_Right.j1
      repeat' first
      | (with_reducible exact ih0 _ _ _ _ _ _ _ _)
      | (with_reducible exact ih1 _ _ _ _ _ _ _ _)
      | (with_reducible exact LeO.refl _)
      | (with_reducible exact LeO.none _)
      | (with_reducible refine LeO.ite ?_ ?_)
      | (with_reducible refine LeO.bind ?_ (fun _ => ?_))
      | exact ih0 _ _ _ _ _ _ _ _
      | exact ih1 _ _ _ _ _ _ _ _
      | exact LeO.none _
      | refine LeO.ite ?_ ?_
      | refine LeO.bind ?_ (fun _ => ?_)
theorem annuletref18_Right.mono : ∀ a0 a1 a2 a3 a4 a5 a6 k, LeO (annuletref18_Right.f k a0 a1 a2 a3 a4 a5 a6) (annuletref18_Right.f (k + 1) a0 a1 a2 a3 a4 a5 a6) := by
  intro a0 a1 a2 a3 a4 a5 a6 k
  obtain ⟨ih0, ih1⟩ := annuletref18_Right.mono_l k
  unfold annuletref18_Right.f
  repeat' first
      | (with_reducible exact ih0 _ _ _ _ _ _ _ _)
      | (with_reducible exact ih1 _ _ _ _ _ _ _ _)
      | (with_reducible exact LeO.refl _)
      | (with_reducible exact LeO.none _)
      | (with_reducible refine LeO.ite ?_ ?_)
      | (with_reducible refine LeO.bind ?_ (fun _ => ?_))
      | exact ih0 _ _ _ _ _ _ _ _
      | exact ih1 _ _ _ _ _ _ _ _
      | exact LeO.none _
      | refine LeO.ite ?_ ?_
      | refine LeO.bind ?_ (fun _ => ?_)
set_option maxHeartbeats 3000000 in
set_option maxRecDepth 100000 in
theorem annuletref18_Right.calls (k : Nat) (a0_0 : Int) (a0_1 : Int) (a0_2 : Int) (a0_3 : Int) (a0_4 : Int) (a0_5 : Int) (A0_6 : Option Addr) (c0_6 : Nat) (l0_6 : List Int) (r : Int) (w : World) (hr0_6 : Kd.C (Kd.int .u8) w A0_6 l0_6.length l0_6) (hc0_6 : l0_6.length ≤ c0_6) (h : annuletref18_Right.f k a0_0 a0_1 a0_2 a0_3 a0_4 a0_5 l0_6 = some r) :
    Calls Try.prog 21 #[.agg #[.int .u8 a0_0, .int .u8 a0_1, .int .u32 a0_2, .int .u32 a0_3, .int .u16 a0_4, .int .u16 a0_5, .slice A0_6 l0_6.length c0_6]] w fun e w' => e = .returned (.int .i64 r) ∧ Below w.heap.size w w' := by
  have hu32 := Try.underlying32
  have HR0_6 := Aside0.mk hr0_6
  have HC0_6 := Aside0.mk hc0_6
  clear hr0_6 hc0_6
  have HB := Aside0.mk (Below.refl w.heap.size w)
  have H : (if a0_0 < 1 then (annuletref18_Right.j0 k true a0_0 a0_1 a0_2 a0_3 a0_4 a0_5 l0_6) else (annuletref18_Right.j0 k (decide (a0_0 > 2)) a0_0 a0_1 a0_2 a0_3 a0_4 a0_5 l0_6)) = some r := h
  clear h
  have HC2 := Aside0.mk H
  clear H
  go_enter Try.func21, Try.ntmps21
  go_upto_region 1 with (first | ((with_reducible refine gate_dst (N := 1) rfl ?_); refine box_event ?hg (N := 1) ?hd (cs := #[.int .u8 a0_0, .int .u8 a0_1, .int .u32 a0_2, .int .u32 a0_3, .int .u16 a0_4, .int .u16 a0_5, .slice A0_6 l0_6.length c0_6]) (t := 32) ?hr ?_; (case hd => rfl); (case hg => rfl); (case hr => first | (go_simp; done) | (go_simp; rfl)); intro gb214 hg w3 hbox hb; have n0_ := Aside0.mk (below_step (by repeat (first | (with_reducible first | exact HB.out | apply below_alloc | apply pw_below_drewN | apply below_drew1) | exact HB.out)) hb); have n1_ := Aside0.mk (hbox); have n2_ := Aside0.mk ((by rw [hg]; exact (below_size (by repeat (first | (with_reducible first | exact HB.out | apply below_alloc | apply pw_below_drewN | apply below_drew1) | exact HB.out))) : w.heap.size ≤ gb214)); have n3_ := Aside0.mk ((by rw [hg]; exact (below_size (by repeat (first | (with_reducible first | exact HB.out | apply below_alloc | apply pw_below_drewN | apply below_drew1) | exact HB.out))) : w.heap.size ≤ gb214)); clear HB; have HB := n0_; have BK214 := n1_; have GW214 := n2_; have GE214 := n3_; clear n0_ n1_ n2_ n3_; clear hb hbox hg))
  (try simp only [Act.put, List.setIfInBounds_toArray, List.set_cons_zero, List.set_cons_succ])
  go_cut [10] (fun v10 wc => ∃ (kq : Nat) (x10_1 : Bool), v10 = .bool x10_1 ∧ Aside0 (annuletref18_Right.j0 kq x10_1 a0_0 a0_1 a0_2 a0_3 a0_4 a0_5 l0_6 = some r) ∧ Aside0 (kq ≤ k) ∧ Aside0 (wc.heap[gb214]? = some (.cells #[.int .u8 a0_0, .int .u8 a0_1, .int .u32 a0_2, .int .u32 a0_3, .int .u16 a0_4, .int .u16 a0_5, (.slice A0_6 l0_6.length c0_6)] 32 (0, 0))) ∧ Aside0 (Below w.heap.size w wc))
  case first =>
    have H := HC2.out
    clear HC2
    by_cases c4 : a0_0 < 1
    · rw [if_pos c4] at H
      have c4b0 : decide (a0_0 < 1) = true := decide_eq_true c4
      clear c4
      (first | rw [c4b0] | (simp only [i64_w, i32_w]; rw [c4b0]) | skip)
      have H' := Aside0.mk H
      clear H
      have hcz5_0 : w3.cell? ⟨gb214, 0, none⟩ = some (.int .u8 a0_0) := (blk_cell BK214.out 0).trans rfl
      have hcz5_1 : w3.cell? ⟨gb214, 1, none⟩ = some (.int .u8 a0_1) := (blk_cell BK214.out 1).trans rfl
      have hcz5_2 : w3.cell? ⟨gb214, 2, none⟩ = some (.int .u32 a0_2) := (blk_cell BK214.out 2).trans rfl
      have hcz5_3 : w3.cell? ⟨gb214, 3, none⟩ = some (.int .u32 a0_3) := (blk_cell BK214.out 3).trans rfl
      have hcz5_4 : w3.cell? ⟨gb214, 4, none⟩ = some (.int .u16 a0_4) := (blk_cell BK214.out 4).trans rfl
      have hcz5_5 : w3.cell? ⟨gb214, 5, none⟩ = some (.int .u16 a0_5) := (blk_cell BK214.out 5).trans rfl
      have hcz5_6 : w3.cell? ⟨gb214, 6, none⟩ = some (.slice A0_6 l0_6.length c0_6) := (blk_cell BK214.out 6).trans rfl
      have hfz5_0 := blk_frozen BK214.out 0
      have hfz5_1 := blk_frozen BK214.out 1
      have hfz5_2 := blk_frozen BK214.out 2
      have hfz5_3 := blk_frozen BK214.out 3
      have hfz5_4 := blk_frozen BK214.out 4
      have hfz5_5 := blk_frozen BK214.out 5
      have hfz5_6 := blk_frozen BK214.out 6
      go_wp2
      go_meet
      case rel => exact ⟨_, (true), (by first | rfl | (simp; done) | (simp [*]; done)), H', ⟨by first | omega | exact Nat.le_refl _⟩, ⟨by (with_reducible repeat (first | refine blk_drewN ?_ _ | refine blk_drew ?_ | refine blk_alloc ?_ _)); exact BK214.out⟩, ⟨by repeat (first | (with_reducible first | exact HB.out | apply below_alloc | apply pw_below_drewN | apply below_drew1 | refine below_set ?_ GE214.out) | exact HB.out)⟩⟩
    · rw [if_neg c4] at H
      have c4b0 : decide (a0_0 < 1) = false := decide_eq_false c4
      clear c4
      (first | rw [c4b0] | (simp only [i64_w, i32_w]; rw [c4b0]) | skip)
      have H' := Aside0.mk H
      clear H
      have hcz6_0 : w3.cell? ⟨gb214, 0, none⟩ = some (.int .u8 a0_0) := (blk_cell BK214.out 0).trans rfl
      have hcz6_1 : w3.cell? ⟨gb214, 1, none⟩ = some (.int .u8 a0_1) := (blk_cell BK214.out 1).trans rfl
      have hcz6_2 : w3.cell? ⟨gb214, 2, none⟩ = some (.int .u32 a0_2) := (blk_cell BK214.out 2).trans rfl
      have hcz6_3 : w3.cell? ⟨gb214, 3, none⟩ = some (.int .u32 a0_3) := (blk_cell BK214.out 3).trans rfl
      have hcz6_4 : w3.cell? ⟨gb214, 4, none⟩ = some (.int .u16 a0_4) := (blk_cell BK214.out 4).trans rfl
      have hcz6_5 : w3.cell? ⟨gb214, 5, none⟩ = some (.int .u16 a0_5) := (blk_cell BK214.out 5).trans rfl
      have hcz6_6 : w3.cell? ⟨gb214, 6, none⟩ = some (.slice A0_6 l0_6.length c0_6) := (blk_cell BK214.out 6).trans rfl
      have hfz6_0 := blk_frozen BK214.out 0
      have hfz6_1 := blk_frozen BK214.out 1
      have hfz6_2 := blk_frozen BK214.out 2
      have hfz6_3 := blk_frozen BK214.out 3
      have hfz6_4 := blk_frozen BK214.out 4
      have hfz6_5 := blk_frozen BK214.out 5
      have hfz6_6 := blk_frozen BK214.out 6
      go_wp2
      go_meet
      case rel => exact ⟨_, (decide (a0_0 > 2)), (by first | rfl | (simp; done) | (simp [*]; done)), H', ⟨by first | omega | exact Nat.le_refl _⟩, ⟨by (with_reducible repeat (first | refine blk_drewN ?_ _ | refine blk_drew ?_ | refine blk_alloc ?_ _)); exact BK214.out⟩, ⟨by repeat (first | (with_reducible first | exact HB.out | apply below_alloc | apply pw_below_drewN | apply below_drew1 | refine below_set ?_ GE214.out) | exact HB.out)⟩⟩
  case rest =>
    clear HC2
    try clear c2
    try clear p2
    try clear c4
    try clear c4b0
    try clear hcz5_0
    try clear hcz5_1
    try clear hcz5_2
    try clear hcz5_3
    try clear hcz5_4
    try clear hcz5_5
    try clear hcz5_6
    try clear hcz6_0
    try clear hcz6_1
    try clear hcz6_2
    try clear hcz6_3
    try clear hcz6_4
    try clear hcz6_5
    try clear hcz6_6
    try clear hfz5_0
    try clear hfz5_1
    try clear hfz5_2
    try clear hfz5_3
    try clear hfz5_4
    try clear hfz5_5
    try clear hfz5_6
    try clear hfz6_0
    try clear hfz6_1
    try clear hfz6_2
    try clear hfz6_3
    try clear hfz6_4
    try clear hfz6_5
    try clear hfz6_6
    obtain ⟨kq, x10_1, rfl, HA, HJ1, BK214, HB⟩ := hcut
    cases kq with
    | zero => exact absurd HA.out (by simp [annuletref18_Right.j0])
    | succ kj1 =>
      have H := HA.out
      clear HA
      simp only [annuletref18_Right.j0] at H
      by_cases c7 : x10_1 = true
      · subst c7
        have H1 : (some 9) = some r := by rw [if_pos rfl] at H; exact H
        clear H
        have H := H1
        clear H1
        obtain rfl := Option.some.inj H
        go_wp2
        all_goals go_ret
        all_goals first | (exact ⟨by first | rfl | (simp [errW_none, errW_some] <;> rfl) | (simp [*, errW_none, errW_some] <;> rfl), by repeat (first | (with_reducible first | exact HB.out | apply below_alloc | apply pw_below_drewN | apply below_drew1 | refine below_set ?_ GE214.out) | exact HB.out)⟩) | (exfalso; simp_all; done)
      · replace c7 := Bool.eq_false_iff.mpr c7
        subst c7
        have H1 : (if a0_5 = 0 then (annuletref18_Right.j1 kj1 true a0_0 a0_1 a0_2 a0_3 a0_4 a0_5 l0_6) else (annuletref18_Right.j1 kj1 (decide (a0_4 ≥ a0_5)) a0_0 a0_1 a0_2 a0_3 a0_4 a0_5 l0_6)) = some r := by rw [if_neg (show ¬ (false = true) by decide)] at H; exact H
        clear H
        have H := H1
        clear H1
        have HC8 := Aside0.mk H
        clear H
        go_upto_region 3 with (fail)
        go_cut [20] (fun v20 wc => ∃ (kq : Nat) (x20_7 : Bool), v20 = .bool x20_7 ∧ Aside0 (annuletref18_Right.j1 kq x20_7 a0_0 a0_1 a0_2 a0_3 a0_4 a0_5 l0_6 = some r) ∧ Aside0 (kq ≤ kj1) ∧ Aside0 (wc.heap[gb214]? = some (.cells #[.int .u8 a0_0, .int .u8 a0_1, .int .u32 a0_2, .int .u32 a0_3, .int .u16 a0_4, .int .u16 a0_5, (.slice A0_6 l0_6.length c0_6)] 32 (0, 0))) ∧ Aside0 (Below w.heap.size w wc))
        case first =>
          have H := HC8.out
          clear HC8
          by_cases c9 : a0_5 = 0
          · rw [if_pos c9] at H
            have c9b0 : (a0_5 == 0) = true := beq_iff_eq.mpr c9
            have c9b1 : (a0_5 != 0) = false := bne_eq_false_iff_eq.mpr c9
            clear c9
            (first | rw [c9b0] | (simp only [i64_w, i32_w]; rw [c9b0]) | skip)
            have H' := Aside0.mk H
            clear H
            have hcz10_0 : wc.cell? ⟨gb214, 0, none⟩ = some (.int .u8 a0_0) := (blk_cell BK214.out 0).trans rfl
            have hcz10_1 : wc.cell? ⟨gb214, 1, none⟩ = some (.int .u8 a0_1) := (blk_cell BK214.out 1).trans rfl
            have hcz10_2 : wc.cell? ⟨gb214, 2, none⟩ = some (.int .u32 a0_2) := (blk_cell BK214.out 2).trans rfl
            have hcz10_3 : wc.cell? ⟨gb214, 3, none⟩ = some (.int .u32 a0_3) := (blk_cell BK214.out 3).trans rfl
            have hcz10_4 : wc.cell? ⟨gb214, 4, none⟩ = some (.int .u16 a0_4) := (blk_cell BK214.out 4).trans rfl
            have hcz10_5 : wc.cell? ⟨gb214, 5, none⟩ = some (.int .u16 a0_5) := (blk_cell BK214.out 5).trans rfl
            have hcz10_6 : wc.cell? ⟨gb214, 6, none⟩ = some (.slice A0_6 l0_6.length c0_6) := (blk_cell BK214.out 6).trans rfl
            have hfz10_0 := blk_frozen BK214.out 0
            have hfz10_1 := blk_frozen BK214.out 1
            have hfz10_2 := blk_frozen BK214.out 2
            have hfz10_3 := blk_frozen BK214.out 3
            have hfz10_4 := blk_frozen BK214.out 4
            have hfz10_5 := blk_frozen BK214.out 5
            have hfz10_6 := blk_frozen BK214.out 6
            go_wp2
            go_meet
            case rel => exact ⟨_, (true), (by first | rfl | (simp; done) | (simp [*]; done)), H', ⟨by have := HJ1.out; first | omega | exact Nat.le_refl _⟩, ⟨by (with_reducible repeat (first | refine blk_drewN ?_ _ | refine blk_drew ?_ | refine blk_alloc ?_ _)); exact BK214.out⟩, ⟨by repeat (first | (with_reducible first | exact HB.out | apply below_alloc | apply pw_below_drewN | apply below_drew1 | refine below_set ?_ GE214.out) | exact HB.out)⟩⟩
          · rw [if_neg c9] at H
            have c9b0 : (a0_5 == 0) = false := beq_eq_false_iff_ne.mpr c9
            have c9b1 : (a0_5 != 0) = true := bne_iff_ne.mpr c9
            (first | rw [c9b0] | (simp only [i64_w, i32_w]; rw [c9b0]) | skip)
            have H' := Aside0.mk H
            clear H
            have hcz11_0 : wc.cell? ⟨gb214, 0, none⟩ = some (.int .u8 a0_0) := (blk_cell BK214.out 0).trans rfl
            have hcz11_1 : wc.cell? ⟨gb214, 1, none⟩ = some (.int .u8 a0_1) := (blk_cell BK214.out 1).trans rfl
            have hcz11_2 : wc.cell? ⟨gb214, 2, none⟩ = some (.int .u32 a0_2) := (blk_cell BK214.out 2).trans rfl
            have hcz11_3 : wc.cell? ⟨gb214, 3, none⟩ = some (.int .u32 a0_3) := (blk_cell BK214.out 3).trans rfl
            have hcz11_4 : wc.cell? ⟨gb214, 4, none⟩ = some (.int .u16 a0_4) := (blk_cell BK214.out 4).trans rfl
            have hcz11_5 : wc.cell? ⟨gb214, 5, none⟩ = some (.int .u16 a0_5) := (blk_cell BK214.out 5).trans rfl
            have hcz11_6 : wc.cell? ⟨gb214, 6, none⟩ = some (.slice A0_6 l0_6.length c0_6) := (blk_cell BK214.out 6).trans rfl
            have hfz11_0 := blk_frozen BK214.out 0
            have hfz11_1 := blk_frozen BK214.out 1
            have hfz11_2 := blk_frozen BK214.out 2
            have hfz11_3 := blk_frozen BK214.out 3
            have hfz11_4 := blk_frozen BK214.out 4
            have hfz11_5 := blk_frozen BK214.out 5
            have hfz11_6 := blk_frozen BK214.out 6
            go_wp2
            go_meet
            case rel => exact ⟨_, (decide (a0_4 ≥ a0_5)), (by first | rfl | (simp; done) | (simp [*]; done)), H', ⟨by have := HJ1.out; first | omega | exact Nat.le_refl _⟩, ⟨by (with_reducible repeat (first | refine blk_drewN ?_ _ | refine blk_drew ?_ | refine blk_alloc ?_ _)); exact BK214.out⟩, ⟨by repeat (first | (with_reducible first | exact HB.out | apply below_alloc | apply pw_below_drewN | apply below_drew1 | refine below_set ?_ GE214.out) | exact HB.out)⟩⟩
        case rest =>
          clear HC8
          try clear c2
          try clear p2
          try clear c4
          try clear c4b0
          try clear c7
          try clear c9
          try clear c9b0
          try clear c9b1
          try clear hcz10_0
          try clear hcz10_1
          try clear hcz10_2
          try clear hcz10_3
          try clear hcz10_4
          try clear hcz10_5
          try clear hcz10_6
          try clear hcz11_0
          try clear hcz11_1
          try clear hcz11_2
          try clear hcz11_3
          try clear hcz11_4
          try clear hcz11_5
          try clear hcz11_6
          try clear hcz5_0
          try clear hcz5_1
          try clear hcz5_2
          try clear hcz5_3
          try clear hcz5_4
          try clear hcz5_5
          try clear hcz5_6
          try clear hcz6_0
          try clear hcz6_1
          try clear hcz6_2
          try clear hcz6_3
          try clear hcz6_4
          try clear hcz6_5
          try clear hcz6_6
          try clear hfz10_0
          try clear hfz10_1
          try clear hfz10_2
          try clear hfz10_3
          try clear hfz10_4
          try clear hfz10_5
          try clear hfz10_6
          try clear hfz11_0
          try clear hfz11_1
          try clear hfz11_2
          try clear hfz11_3
          try clear hfz11_4
          try clear hfz11_5
          try clear hfz11_6
          try clear hfz5_0
          try clear hfz5_1
          try clear hfz5_2
          try clear hfz5_3
          try clear hfz5_4
          try clear hfz5_5
          try clear hfz5_6
          try clear hfz6_0
          try clear hfz6_1
          try clear hfz6_2
          try clear hfz6_3
          try clear hfz6_4
          try clear hfz6_5
          try clear hfz6_6
          try clear p2
          obtain ⟨kq, x20_7, rfl, HA, HJ7, BK214, HB⟩ := hcut
          cases kq with
          | zero => exact absurd HA.out (by simp [annuletref18_Right.j1])
          | succ kj7 =>
            have H := HA.out
            clear HA
            simp only [annuletref18_Right.j1] at H
            by_cases c12 : x20_7 = true
            · subst c12
              have H1 : (some 1) = some r := by rw [if_pos rfl] at H; exact H
              clear H
              have H := H1
              clear H1
              obtain rfl := Option.some.inj H
              go_wp2
              all_goals go_ret
              all_goals first | (exact ⟨by first | rfl | (simp [errW_none, errW_some] <;> rfl) | (simp [*, errW_none, errW_some] <;> rfl), by repeat (first | (with_reducible first | exact HB.out | apply below_alloc | apply pw_below_drewN | apply below_drew1 | refine below_set ?_ GE214.out) | exact HB.out)⟩) | (exfalso; simp_all; done)
            · replace c12 := Bool.eq_false_iff.mpr c12
              subst c12
              have H1 : (if (l0_6.length : Int) > 65487 then (some 5) else (some 0)) = some r := by rw [if_neg (show ¬ (false = true) by decide)] at H; exact H
              clear H
              have H := H1
              clear H1
              by_cases c13 : (l0_6.length : Int) > 65487
              · rw [if_pos c13] at H
                have c13b0 : decide (65487 < (l0_6.length : Int)) = true := decide_eq_true c13
                have c13b1 : decide (65487 < l0_6.length) = true := decide_eq_true (by omega)
                clear c13
                obtain rfl := Option.some.inj H
                have hcz14_0 : wc.cell? ⟨gb214, 0, none⟩ = some (.int .u8 a0_0) := (blk_cell BK214.out 0).trans rfl
                have hcz14_1 : wc.cell? ⟨gb214, 1, none⟩ = some (.int .u8 a0_1) := (blk_cell BK214.out 1).trans rfl
                have hcz14_2 : wc.cell? ⟨gb214, 2, none⟩ = some (.int .u32 a0_2) := (blk_cell BK214.out 2).trans rfl
                have hcz14_3 : wc.cell? ⟨gb214, 3, none⟩ = some (.int .u32 a0_3) := (blk_cell BK214.out 3).trans rfl
                have hcz14_4 : wc.cell? ⟨gb214, 4, none⟩ = some (.int .u16 a0_4) := (blk_cell BK214.out 4).trans rfl
                have hcz14_5 : wc.cell? ⟨gb214, 5, none⟩ = some (.int .u16 a0_5) := (blk_cell BK214.out 5).trans rfl
                have hcz14_6 : wc.cell? ⟨gb214, 6, none⟩ = some (.slice A0_6 l0_6.length c0_6) := (blk_cell BK214.out 6).trans rfl
                have hfz14_0 := blk_frozen BK214.out 0
                have hfz14_1 := blk_frozen BK214.out 1
                have hfz14_2 := blk_frozen BK214.out 2
                have hfz14_3 := blk_frozen BK214.out 3
                have hfz14_4 := blk_frozen BK214.out 4
                have hfz14_5 := blk_frozen BK214.out 5
                have hfz14_6 := blk_frozen BK214.out 6
                go_wp2
                all_goals go_ret
                all_goals first | (exact ⟨by first | rfl | (simp [errW_none, errW_some] <;> rfl) | (simp [*, errW_none, errW_some] <;> rfl), by repeat (first | (with_reducible first | exact HB.out | apply below_alloc | apply pw_below_drewN | apply below_drew1 | refine below_set ?_ GE214.out) | exact HB.out)⟩) | (exfalso; simp_all; done)
              · rw [if_neg c13] at H
                have c13b0 : decide (65487 < (l0_6.length : Int)) = false := decide_eq_false c13
                have c13b1 : decide (65487 < l0_6.length) = false := decide_eq_false (by omega)
                clear c13
                obtain rfl := Option.some.inj H
                have hcz15_0 : wc.cell? ⟨gb214, 0, none⟩ = some (.int .u8 a0_0) := (blk_cell BK214.out 0).trans rfl
                have hcz15_1 : wc.cell? ⟨gb214, 1, none⟩ = some (.int .u8 a0_1) := (blk_cell BK214.out 1).trans rfl
                have hcz15_2 : wc.cell? ⟨gb214, 2, none⟩ = some (.int .u32 a0_2) := (blk_cell BK214.out 2).trans rfl
                have hcz15_3 : wc.cell? ⟨gb214, 3, none⟩ = some (.int .u32 a0_3) := (blk_cell BK214.out 3).trans rfl
                have hcz15_4 : wc.cell? ⟨gb214, 4, none⟩ = some (.int .u16 a0_4) := (blk_cell BK214.out 4).trans rfl
                have hcz15_5 : wc.cell? ⟨gb214, 5, none⟩ = some (.int .u16 a0_5) := (blk_cell BK214.out 5).trans rfl
                have hcz15_6 : wc.cell? ⟨gb214, 6, none⟩ = some (.slice A0_6 l0_6.length c0_6) := (blk_cell BK214.out 6).trans rfl
                have hfz15_0 := blk_frozen BK214.out 0
                have hfz15_1 := blk_frozen BK214.out 1
                have hfz15_2 := blk_frozen BK214.out 2
                have hfz15_3 := blk_frozen BK214.out 3
                have hfz15_4 := blk_frozen BK214.out 4
                have hfz15_5 := blk_frozen BK214.out 5
                have hfz15_6 := blk_frozen BK214.out 6
                go_wp2
                all_goals go_ret
                all_goals first | (exact ⟨by first | rfl | (simp [errW_none, errW_some] <;> rfl) | (simp [*, errW_none, errW_some] <;> rfl), by repeat (first | (with_reducible first | exact HB.out | apply below_alloc | apply pw_below_drewN | apply below_drew1 | refine below_set ?_ GE214.out) | exact HB.out)⟩) | (exfalso; simp_all; done)

end Go.Proofs.Ytplloiinedbnlaa.PSplitBack
