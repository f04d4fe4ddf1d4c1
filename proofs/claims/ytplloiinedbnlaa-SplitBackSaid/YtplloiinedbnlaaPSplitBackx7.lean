/- Written by a program of this session (a turned copy of the kit's print): functions of the program, each with the Lean function that it comes to, and the row of one law. No condition. -/
import Derived.Test.YtplloiinedbnlaaPSplitBackx0
import Derived.Test.YtplloiinedbnlaaPSplitBackx3
import Derived.Test.YtplloiinedbnlaaPSplitBackx6
namespace Go.Proofs.Ytplloiinedbnlaa.PSplitBack
open Go.RowKit Go.Proofs.YtplloiinedbnlaaW.PrintWords Go.Proofs.YtplloiinedbnlaaW.PrintLast Go.Proofs.YtplloiinedbnlaaW.PrintMore
attribute [local go_sem] max2_int min2_int max_two min_two max_three min_three max_four min_four   -- for this text's walks alone
set_option linter.unusedVariables false
set_option linter.unusedSimpArgs false

/-! ### annuletlaw19_SplitBack: function 5 -/
def annuletlaw19_SplitBack.l0 : Nat → Int → List (List Int) → List Int → Int → Int → Int → Int → Int → Int → Int → List Int → Option (Bool)
  | 0, _, _, _, _, _, _, _, _, _, _, _ => none
  | k + 1, x0, x5, x7, x8, x255000, x255001, x255002, x255003, x255004, x255005, x255006 => if x8 < (x5.length : Int) then (if 0 ≤ x8 then ((annuletref18_Get.f k (rd_L1 x5 x8)).bind fun bt262 => (if bt262.2.2.2.2.2.2.2 = 0 then (if ((rd_L1 x5 x8).length : Int) > x0 then (none) else (if (wrap64 (bt262.2.2.2.2.1)) = x8 then (if (wrap64 (bt262.2.2.2.2.2.1)) = (x5.length : Int) then (if bt262.1 = x255000 then (if bt262.2.1 = x255001 then (if bt262.2.2.1 = x255002 then (if bt262.2.2.2.1 = x255003 then (if x7.length + bt262.2.2.2.2.2.2.1.length < 140737488355328 then (annuletlaw19_SplitBack.l0 k x0 x5 (x7 ++ bt262.2.2.2.2.2.2.1) (wrap64 (x8 + 1)) x255000 x255001 x255002 x255003 x255004 x255005 x255006) else (none)) else (none)) else (none)) else (none)) else (none)) else (none)) else (none))) else (none))) else (none)) else (if (x5.length : Int) > 0 then (if (strOfNums x7).toList = (strOfNums x255006).toList then ((annuletlaw19_awake.f k).bind fun t277 => (some t277)) else (none)) else (none))
def annuletlaw19_SplitBack.f (k : Nat) (a0 : Int) (a1_0 : Int) (a1_1 : Int) (a1_2 : Int) (a1_3 : Int) (a1_4 : Int) (a1_5 : Int) (l1_6 : List Int) : Option (Bool) := if (l1_6.length : Int) > 1500 then ((annuletlaw19_awake.f k).bind fun t255 => (some t255)) else ((split_Split.f k a0 a1_0 a1_1 a1_2 a1_3 a1_4 a1_5 l1_6).bind fun bt256 => (if bt256.2 = 0 then (annuletlaw19_SplitBack.l0 k a0 bt256.1 ([] : List Int) 0 a1_0 a1_1 a1_2 a1_3 a1_4 a1_5 l1_6) else (if (bt256.1.length : Int) = 0 then ((annuletlaw19_awake.f k).bind fun t260 => (some t260)) else (none))))
theorem annuletlaw19_SplitBack.mono_l : ∀ k, (∀ y0 y1 y2 y3 y4 y5 y6 y7 y8 y9 y10, LeO (annuletlaw19_SplitBack.l0 k y0 y1 y2 y3 y4 y5 y6 y7 y8 y9 y10) (annuletlaw19_SplitBack.l0 (k + 1) y0 y1 y2 y3 y4 y5 y6 y7 y8 y9 y10))
  | 0 => fun _ _ _ _ _ _ _ _ _ _ _ r h => by simp [annuletlaw19_SplitBack.l0] at h
  | k + 1 => by
    have ih0 := annuletlaw19_SplitBack.mono_l k
    · intro y0 y1 y2 y3 y4 y5 y6 y7 y8 y9 y10
      unfold annuletlaw19_SplitBack.l0
      repeat' first
      | (with_reducible exact ih0 _ _ _ _ _ _ _ _ _ _ _)
      | (with_reducible exact annuletlaw19_awake.mono _)
      | (with_reducible exact annuletref18_Get.mono _ _)
      | (with_reducible exact split_Split.mono _ _ _ _ _ _ _ _ _)
      | (with_reducible exact LeO.refl _)
      | (with_reducible exact LeO.none _)
      | (with_reducible refine LeO.ite ?_ ?_)
      | (with_reducible refine LeO.bind ?_ (fun _ => ?_))
      | exact ih0 _ _ _ _ _ _ _ _ _ _ _
      | exact annuletlaw19_awake.mono _
      | exact annuletref18_Get.mono _ _
      | exact split_Split.mono _ _ _ _ _ _ _ _ _
      | exact LeO.none _
      | refine LeO.ite ?_ ?_
      | refine LeO.bind ?_ (fun _ => ?_)
theorem annuletlaw19_SplitBack.mono : ∀ a0 a1 a2 a3 a4 a5 a6 a7 k, LeO (annuletlaw19_SplitBack.f k a0 a1 a2 a3 a4 a5 a6 a7) (annuletlaw19_SplitBack.f (k + 1) a0 a1 a2 a3 a4 a5 a6 a7) := by
  intro a0 a1 a2 a3 a4 a5 a6 a7 k
  have ih0 := annuletlaw19_SplitBack.mono_l k
  unfold annuletlaw19_SplitBack.f
  repeat' first
      | (with_reducible exact ih0 _ _ _ _ _ _ _ _ _ _ _)
      | (with_reducible exact annuletlaw19_awake.mono _)
      | (with_reducible exact annuletref18_Get.mono _ _)
      | (with_reducible exact split_Split.mono _ _ _ _ _ _ _ _ _)
      | (with_reducible exact LeO.refl _)
      | (with_reducible exact LeO.none _)
      | (with_reducible refine LeO.ite ?_ ?_)
      | (with_reducible refine LeO.bind ?_ (fun _ => ?_))
      | exact ih0 _ _ _ _ _ _ _ _ _ _ _
      | exact annuletlaw19_awake.mono _
      | exact annuletref18_Get.mono _ _
      | exact split_Split.mono _ _ _ _ _ _ _ _ _
      | exact LeO.none _
      | refine LeO.ite ?_ ?_
      | refine LeO.bind ?_ (fun _ => ?_)
set_option maxHeartbeats 3000000 in
set_option maxRecDepth 100000 in
theorem annuletlaw19_SplitBack.calls (k : Nat) (a0 : Int) (a1_0 : Int) (a1_1 : Int) (a1_2 : Int) (a1_3 : Int) (a1_4 : Int) (a1_5 : Int) (A1_6 : Option Addr) (c1_6 : Nat) (l1_6 : List Int) (r : Bool) (w : World) (hr1_6 : Kd.C (Kd.int .u8) w A1_6 l1_6.length l1_6) (hc1_6 : l1_6.length ≤ c1_6) (h : annuletlaw19_SplitBack.f k a0 a1_0 a1_1 a1_2 a1_3 a1_4 a1_5 l1_6 = some r) :
    Calls Try.prog 5 #[.int .i64 a0, .agg #[.int .u8 a1_0, .int .u8 a1_1, .int .u32 a1_2, .int .u32 a1_3, .int .u16 a1_4, .int .u16 a1_5, .slice A1_6 l1_6.length c1_6]] w fun e w' => e = .returned (.bool r) ∧ Below w.heap.size w w' := by
  have hu32 := Try.underlying32
  have HR1_6 := Aside0.mk hr1_6
  have HC1_6 := Aside0.mk hc1_6
  clear hr1_6 hc1_6
  have HB := Aside0.mk (Below.refl w.heap.size w)
  have H : (if (l1_6.length : Int) > 1500 then ((annuletlaw19_awake.f k).bind fun t255 => (some t255)) else ((split_Split.f k a0 a1_0 a1_1 a1_2 a1_3 a1_4 a1_5 l1_6).bind fun bt256 => (if bt256.2 = 0 then (annuletlaw19_SplitBack.l0 k a0 bt256.1 ([] : List Int) 0 a1_0 a1_1 a1_2 a1_3 a1_4 a1_5 l1_6) else (if (bt256.1.length : Int) = 0 then ((annuletlaw19_awake.f k).bind fun t260 => (some t260)) else (none))))) = some r := h
  clear h
  by_cases c3 : (l1_6.length : Int) > 1500
  · rw [if_pos c3] at H
    have c3b0 : decide (1500 < (l1_6.length : Int)) = true := decide_eq_true c3
    have c3b1 : decide (1500 < l1_6.length) = true := decide_eq_true (by omega)
    clear c3
    replace H := Option.bind_eq_some_iff.mp H
    obtain ⟨t255, A40, H⟩ := H
    replace H : (some t255) = some r := H
    have A4 := Aside0.mk A40
    clear A40
    obtain rfl := Option.some.inj H
    go_enter Try.func5, Try.ntmps5
    go_wp2_with (first | ((with_reducible refine gate_dst (N := 3) rfl ?_); (try (refine gate_guard (by rfl) ?_; dsimp only)); refine box_event ?hg (N := 3) ?hd (cs := #[.int .u8 a1_0, .int .u8 a1_1, .int .u32 a1_2, .int .u32 a1_3, .int .u16 a1_4, .int .u16 a1_5, .slice A1_6 l1_6.length c1_6]) (t := 32) ?hr ?_; (case hd => rfl); (case hg => rfl); (case hr => first | (go_simp; done) | (go_simp; rfl)); intro gb254 hg w5 hbox hb; have n0_ := Aside0.mk (below_step (by repeat (first | (with_reducible first | exact HB.out | apply below_alloc | apply pw_below_drewN | apply below_drew1) | exact HB.out)) hb); have n1_ := Aside0.mk (hbox); have n2_ := Aside0.mk ((by rw [hg]; exact (below_size (by repeat (first | (with_reducible first | exact HB.out | apply below_alloc | apply pw_below_drewN | apply below_drew1) | exact HB.out))) : w.heap.size ≤ gb254)); have n3_ := Aside0.mk ((by rw [hg]; exact (below_size (by repeat (first | (with_reducible first | exact HB.out | apply below_alloc | apply pw_below_drewN | apply below_drew1) | exact HB.out))) : w.heap.size ≤ gb254)); clear HB; have HB := n0_; have BK254 := n1_; have GW254 := n2_; have GE254 := n3_; clear n0_ n1_ n2_ n3_; clear hb hbox hg; have hcz6_0 : w5.cell? ⟨gb254, 0, none⟩ = some (.int .u8 a1_0) := (blk_cell BK254.out 0).trans rfl; have hcz6_1 : w5.cell? ⟨gb254, 1, none⟩ = some (.int .u8 a1_1) := (blk_cell BK254.out 1).trans rfl; have hcz6_2 : w5.cell? ⟨gb254, 2, none⟩ = some (.int .u32 a1_2) := (blk_cell BK254.out 2).trans rfl; have hcz6_3 : w5.cell? ⟨gb254, 3, none⟩ = some (.int .u32 a1_3) := (blk_cell BK254.out 3).trans rfl; have hcz6_4 : w5.cell? ⟨gb254, 4, none⟩ = some (.int .u16 a1_4) := (blk_cell BK254.out 4).trans rfl; have hcz6_5 : w5.cell? ⟨gb254, 5, none⟩ = some (.int .u16 a1_5) := (blk_cell BK254.out 5).trans rfl; have hcz6_6 : w5.cell? ⟨gb254, 6, none⟩ = some (.slice A1_6 l1_6.length c1_6) := (blk_cell BK254.out 6).trans rfl; have hfz6_0 := blk_frozen BK254.out 0; have hfz6_1 := blk_frozen BK254.out 1; have hfz6_2 := blk_frozen BK254.out 2; have hfz6_3 := blk_frozen BK254.out 3; have hfz6_4 := blk_frozen BK254.out 4; have hfz6_5 := blk_frozen BK254.out 5; have hfz6_6 := blk_frozen BK254.out 6) | ((with_reducible refine gate_callee (f := 10) rfl ?_); refine goesL_ (some 15) rfl rfl Try.func10 (by kernel_rfl) rfl #[] rfl (by (try simp only [List.map_toArray, List.map_cons, List.map_nil]); first | done | rfl | (simp only [List.length_drop, List.length_take]; rfl)) ?_; (with_reducible refine (annuletlaw19_awake.calls k  t255 _ A4.out).mono ?_); rintro e w7 ⟨rfl, hb⟩; refine ⟨_, rfl, ?_⟩; have n0_ := Aside0.mk (blk_below (g := gb254) (o := .cells #[.int .u8 a1_0, .int .u8 a1_1, .int .u32 a1_2, .int .u32 a1_3, .int .u16 a1_4, .int .u16 a1_5, .slice A1_6 l1_6.length c1_6] 32 (0, 0)) (by (with_reducible repeat (first | refine blk_drewN ?_ _ | refine blk_drew ?_ | refine blk_alloc ?_ _)); exact BK254.out) hb); have n1_ := Aside0.mk (below_step (by repeat (first | (with_reducible first | exact HB.out | apply below_alloc | apply pw_below_drewN | apply below_drew1 | refine below_set ?_ GE254.out) | exact HB.out)) hb); clear BK254; clear HB; have BK254 := n0_; have HB := n1_; clear n0_ n1_; (try clear hb); (try clear hb2); (try clear hk); (try clear hi)))
    all_goals go_ret
    all_goals first | (exact ⟨by first | rfl | (simp [errW_none, errW_some] <;> rfl) | (simp [*, errW_none, errW_some] <;> rfl), by repeat (first | (with_reducible first | exact HB.out | apply below_alloc | apply pw_below_drewN | apply below_drew1 | refine below_set ?_ GE254.out) | exact HB.out)⟩) | (exfalso; simp_all; done)
  · rw [if_neg c3] at H
    have c3b0 : decide (1500 < (l1_6.length : Int)) = false := decide_eq_false c3
    have c3b1 : decide (1500 < l1_6.length) = false := decide_eq_false (by omega)
    clear c3
    replace H := Option.bind_eq_some_iff.mp H
    obtain ⟨⟨t256, t259⟩, A80, H⟩ := H
    replace H : (if t259 = 0 then (annuletlaw19_SplitBack.l0 k a0 t256 ([] : List Int) 0 a1_0 a1_1 a1_2 a1_3 a1_4 a1_5 l1_6) else (if (t256.length : Int) = 0 then ((annuletlaw19_awake.f k).bind fun t260 => (some t260)) else (none))) = some r := H
    have A8 := Aside0.mk A80
    clear A80
    by_cases c9 : t259 = 0
    · rw [if_pos c9] at H
      have c9b0 : (t259 == 0) = true := beq_iff_eq.mpr c9
      have c9b1 : (t259 != 0) = false := bne_eq_false_iff_eq.mpr c9
      clear c9
      have H' := Aside0.mk H
      clear H
      go_enter Try.func5, Try.ntmps5
      go_wp2_with (first | ((with_reducible refine gate_dst (N := 3) rfl ?_); (try (refine gate_guard (by rfl) ?_; dsimp only)); refine box_event ?hg (N := 3) ?hd (cs := #[.int .u8 a1_0, .int .u8 a1_1, .int .u32 a1_2, .int .u32 a1_3, .int .u16 a1_4, .int .u16 a1_5, .slice A1_6 l1_6.length c1_6]) (t := 32) ?hr ?_; (case hd => rfl); (case hg => rfl); (case hr => first | (go_simp; done) | (go_simp; rfl)); intro gb254 hg w10 hbox hb; have n0_ := Aside0.mk (below_step (by repeat (first | (with_reducible first | exact HB.out | apply below_alloc | apply pw_below_drewN | apply below_drew1) | exact HB.out)) hb); have n1_ := Aside0.mk (hbox); have n2_ := Aside0.mk ((by rw [hg]; exact (below_size (by repeat (first | (with_reducible first | exact HB.out | apply below_alloc | apply pw_below_drewN | apply below_drew1) | exact HB.out))) : w.heap.size ≤ gb254)); have n3_ := Aside0.mk ((by rw [hg]; exact (below_size (by repeat (first | (with_reducible first | exact HB.out | apply below_alloc | apply pw_below_drewN | apply below_drew1) | exact HB.out))) : w.heap.size ≤ gb254)); clear HB; have HB := n0_; have BK254 := n1_; have GW254 := n2_; have GE254 := n3_; clear n0_ n1_ n2_ n3_; clear hb hbox hg; have hcz11_0 : w10.cell? ⟨gb254, 0, none⟩ = some (.int .u8 a1_0) := (blk_cell BK254.out 0).trans rfl; have hcz11_1 : w10.cell? ⟨gb254, 1, none⟩ = some (.int .u8 a1_1) := (blk_cell BK254.out 1).trans rfl; have hcz11_2 : w10.cell? ⟨gb254, 2, none⟩ = some (.int .u32 a1_2) := (blk_cell BK254.out 2).trans rfl; have hcz11_3 : w10.cell? ⟨gb254, 3, none⟩ = some (.int .u32 a1_3) := (blk_cell BK254.out 3).trans rfl; have hcz11_4 : w10.cell? ⟨gb254, 4, none⟩ = some (.int .u16 a1_4) := (blk_cell BK254.out 4).trans rfl; have hcz11_5 : w10.cell? ⟨gb254, 5, none⟩ = some (.int .u16 a1_5) := (blk_cell BK254.out 5).trans rfl; have hcz11_6 : w10.cell? ⟨gb254, 6, none⟩ = some (.slice A1_6 l1_6.length c1_6) := (blk_cell BK254.out 6).trans rfl; have hfz11_0 := blk_frozen BK254.out 0; have hfz11_1 := blk_frozen BK254.out 1; have hfz11_2 := blk_frozen BK254.out 2; have hfz11_3 := blk_frozen BK254.out 3; have hfz11_4 := blk_frozen BK254.out 4; have hfz11_5 := blk_frozen BK254.out 5; have hfz11_6 := blk_frozen BK254.out 6) | ((with_reducible refine gate_callee (f := 11) rfl ?_); refine goesL_ (some 19) rfl rfl Try.func11 (by kernel_rfl) rfl #[.int .i64 a0, .agg #[.int .u8 a1_0, .int .u8 a1_1, .int .u32 a1_2, .int .u32 a1_3, .int .u16 a1_4, .int .u16 a1_5, .slice A1_6 l1_6.length c1_6]] rfl (by (try simp only [List.map_toArray, List.map_cons, List.map_nil]); first | done | rfl | (simp only [List.length_drop, List.length_take]; rfl)) ?_; (with_reducible refine (split_Split.calls k a0 a1_0 a1_1 a1_2 a1_3 a1_4 a1_5 (fun k_ => k_ < w.heap.size) _ _ l1_6 t256 t259 _ ?side1 A8.out).mono ?_); (case side1 => exact Kd.V_mk HC1_6.out (Kd.F_below (Kd.C_F (Kd.heap_int .u8) HR1_6.out) (by repeat (first | (with_reducible first | exact HB.out | apply below_alloc | apply pw_below_drewN | apply below_drew1 | refine below_set ?_ GE254.out) | exact HB.out)))); rintro e w12 ⟨v257, rfl, ho0, hb⟩; refine ⟨_, rfl, ?_⟩; have n0_ := Aside0.mk (Kd.S_lower (Kd.S_mono (ok' := fun k_ => True) ho0 (fun _ hk_ => trivial)) (below_size (by repeat (first | (with_reducible first | exact HB.out | apply below_alloc | apply pw_below_drewN | apply below_drew1 | refine below_set ?_ GE254.out) | exact HB.out)))); have n1_ := Aside0.mk (blk_below (g := gb254) (o := .cells #[.int .u8 a1_0, .int .u8 a1_1, .int .u32 a1_2, .int .u32 a1_3, .int .u16 a1_4, .int .u16 a1_5, .slice A1_6 l1_6.length c1_6] 32 (0, 0)) (by (with_reducible repeat (first | refine blk_drewN ?_ _ | refine blk_drew ?_ | refine blk_alloc ?_ _)); exact BK254.out) hb); have n2_ := Aside0.mk (below_step (by repeat (first | (with_reducible first | exact HB.out | apply below_alloc | apply pw_below_drewN | apply below_drew1 | refine below_set ?_ GE254.out) | exact HB.out)) hb); clear BK254; clear HB; have HO258 := n0_; have BK254 := n1_; have HB := n2_; clear n0_ n1_ n2_; (try clear hb); (try clear hb2); (try clear hk); (try clear hi); (try clear ho0)))
      go_loopg [7, 8] k (fun kq v7 v8 w' => ∃ (x7_1 : List Int) (x8_1 : Int), v8 = .int .i64 x8_1 ∧ Aside0 (annuletlaw19_SplitBack.l0 kq a0 t256 x7_1 x8_1 a1_0 a1_1 a1_2 a1_3 a1_4 a1_5 l1_6 = some r) ∧ Aside0 (kq ≤ k) ∧ Aside0 (Kd.S (Kd.slice 5 (Kd.int .u8)) 30 w' w.heap.size (fun k_ => some k_ ≠ (v7 : Value).ownBlock) v257 t256) ∧ Aside0 (Kd.R (Kd.int .u8) 5 w' w.heap.size (fun _ => True) v7 x7_1) ∧ Aside0 (w'.heap[gb254]? = some (.cells #[.int .u8 a1_0, .int .u8 a1_1, .int .u32 a1_2, .int .u32 a1_3, .int .u16 a1_4, .int .u16 a1_5, (.slice A1_6 l1_6.length c1_6)] 32 (0, 0))) ∧ Aside0 (Below w.heap.size w w'))
      case atStart => exact ⟨(([] : List Int)), (0), (by first | rfl | (simp; done) | (simp [*]; done)), H', ⟨Nat.le_refl _⟩, ⟨by (with_reducible repeat (first | apply Kd.S_alloc | apply Kd.S_drewN | apply Kd.S_drew)); exact Kd.S_mono HO258.out (fun _ hk => (by simp [Value.ownBlock]))⟩, ⟨by first | exact Kd.R_nil _ _ _ _ _ | exact Kd.N_nil _ _ _ _ _ | exact Kd.V_nil _ _ _ _ _ | exact Kd.Q_nil _ _ _ _ _ | exact Kd.S_nil _ _ _ _ _⟩, ⟨by (with_reducible repeat (first | refine blk_drewN ?_ _ | refine blk_drew ?_ | refine blk_alloc ?_ _)); exact BK254.out⟩, ⟨by repeat (first | (with_reducible first | exact HB.out | apply below_alloc | apply pw_below_drewN | apply below_drew1 | refine below_set ?_ GE254.out) | exact HB.out)⟩⟩
      case round =>
        clear H'
        try clear c1
        try clear p2
        try clear c3
        try clear c3b0
        try clear c3b1
        try clear c5
        try clear c9
        try clear c9b0
        try clear c9b1
        try clear c10
        try clear c11
        try clear hcz11_0
        try clear hcz11_1
        try clear hcz11_2
        try clear hcz11_3
        try clear hcz11_4
        try clear hcz11_5
        try clear hcz11_6
        try clear hcz6_0
        try clear hcz6_1
        try clear hcz6_2
        try clear hcz6_3
        try clear hcz6_4
        try clear hcz6_5
        try clear hcz6_6
        try clear hfz11_0
        try clear hfz11_1
        try clear hfz11_2
        try clear hfz11_3
        try clear hfz11_4
        try clear hfz11_5
        try clear hfz11_6
        try clear hfz6_0
        try clear hfz6_1
        try clear hfz6_2
        try clear hfz6_3
        try clear hfz6_4
        try clear hfz6_5
        try clear hfz6_6
        obtain ⟨x7_1, x8_1, rfl, HA, HK1, HO_5, HO_7, BK254, HB⟩ := hrel
        cases gk with
        | zero => exact absurd HA.out (by simp [annuletlaw19_SplitBack.l0])
        | succ k1 =>
          have H := HA.out
          clear HA
          simp only [annuletlaw19_SplitBack.l0] at H
          by_cases c13 : x8_1 < (t256.length : Int)
          · rw [if_pos c13] at H
            have c13b0 : decide (x8_1 < (t256.length : Int)) = true := decide_eq_true c13
            clear c13
            by_cases c14 : 0 ≤ x8_1
            · rw [if_pos c14] at H
              have c14b0 : decide (0 ≤ x8_1) = true := decide_eq_true c14
              clear c14
              replace H := Option.bind_eq_some_iff.mp H
              obtain ⟨⟨t262, t263, t264, t265, t266, t267, t268, t271⟩, A150, H⟩ := H
              replace H : (if t271 = 0 then (if ((rd_L1 t256 x8_1).length : Int) > a0 then (none) else (if (wrap64 (t266)) = x8_1 then (if (wrap64 (t267)) = (t256.length : Int) then (if t262 = a1_0 then (if t263 = a1_1 then (if t264 = a1_2 then (if t265 = a1_3 then (if x7_1.length + t268.length < 140737488355328 then (annuletlaw19_SplitBack.l0 k1 a0 t256 (x7_1 ++ t268) (wrap64 (x8_1 + 1)) a1_0 a1_1 a1_2 a1_3 a1_4 a1_5 l1_6) else (none)) else (none)) else (none)) else (none)) else (none)) else (none)) else (none))) else (none)) = some r := H
              have A15 := Aside0.mk A150
              clear A150
              by_cases c16 : t271 = 0
              · rw [if_pos c16] at H
                have c16b0 : (t271 == 0) = true := beq_iff_eq.mpr c16
                have c16b1 : (t271 != 0) = false := bne_eq_false_iff_eq.mpr c16
                clear c16
                by_cases c17 : ((rd_L1 t256 x8_1).length : Int) > a0
                · rw [if_pos c17] at H
                  exact absurd H (by simp)
                · rw [if_neg c17] at H
                  have c17b0 : decide (a0 < ((rd_L1 t256 x8_1).length : Int)) = false := decide_eq_false c17
                  clear c17
                  by_cases c18 : (wrap64 (t266)) = x8_1
                  · rw [if_pos c18] at H
                    have c18b0 : ((wrap64 (t266)) == x8_1) = true := beq_iff_eq.mpr c18
                    have c18b1 : ((wrap64 (t266)) != x8_1) = false := bne_eq_false_iff_eq.mpr c18
                    clear c18
                    by_cases c19 : (wrap64 (t267)) = (t256.length : Int)
                    · rw [if_pos c19] at H
                      have c19b0 : ((wrap64 (t267)) == (t256.length : Int)) = true := beq_iff_eq.mpr c19
                      have c19b1 : ((wrap64 (t267)) != (t256.length : Int)) = false := bne_eq_false_iff_eq.mpr c19
                      clear c19
                      by_cases c20 : t262 = a1_0
                      · rw [if_pos c20] at H
                        have c20b0 : (t262 == a1_0) = true := beq_iff_eq.mpr c20
                        have c20b1 : (t262 != a1_0) = false := bne_eq_false_iff_eq.mpr c20
                        clear c20
                        by_cases c21 : t263 = a1_1
                        · rw [if_pos c21] at H
                          have c21b0 : (t263 == a1_1) = true := beq_iff_eq.mpr c21
                          have c21b1 : (t263 != a1_1) = false := bne_eq_false_iff_eq.mpr c21
                          clear c21
                          by_cases c22 : t264 = a1_2
                          · rw [if_pos c22] at H
                            have c22b0 : (t264 == a1_2) = true := beq_iff_eq.mpr c22
                            have c22b1 : (t264 != a1_2) = false := bne_eq_false_iff_eq.mpr c22
                            clear c22
                            by_cases c23 : t265 = a1_3
                            · rw [if_pos c23] at H
                              have c23b0 : (t265 == a1_3) = true := beq_iff_eq.mpr c23
                              have c23b1 : (t265 != a1_3) = false := bne_eq_false_iff_eq.mpr c23
                              clear c23
                              by_cases c24 : x7_1.length + t268.length < 140737488355328
                              · rw [if_pos c24] at H
                                have LMc24 := Aside0.mk c24
                                clear c24
                                obtain ⟨y274, hy274⟩ : ∃ y_ : List Int, y_ = (x7_1 ++ t268) := ⟨_, rfl⟩
                                replace H : (annuletlaw19_SplitBack.l0 k1 a0 t256 y274 (wrap64 (x8_1 + 1)) a1_0 a1_1 a1_2 a1_3 a1_4 a1_5 l1_6) = some r := by first | (rw [hy274]; with_reducible exact H) | (have H2_ := (Option.bind_some _ _).symm.trans H; rw [hy274]; with_reducible exact H2_) | (have H2_ := (Option.bind_some _ _).symm.trans H; with_reducible exact H2_) | with_reducible exact H | (rw [hy274]; exact H) | exact H
                                have Ny274 := Aside0.mk hy274
                                clear hy274
                                have H' := Aside0.mk H
                                clear H
                                obtain ⟨Ao25, co25, eo25⟩ := Kd.S_slice HO_5.out
                                subst eo25
                                have p261 : 0 ≤ (x8_1 : Int) := of_decide_eq_true (by first | (with_reducible assumption) | assumption)
                                have q261 : x8_1 < (t256.length : Int) := of_decide_eq_true (by first | (with_reducible assumption) | assumption)
                                obtain ⟨ad261, A261_0, c261_0, e261, hx261_0, hl261_0, hi261_0⟩ := at_L1 (Kd.S_reads' HO_5.out).2.2 x8_1 p261 q261
                                cases e261
                                obtain ⟨ce261, hce261, hMe261, hcc261⟩ := Kd.S_get HO_5.out [] x8_1 p261 (by first | exact q261 | exact of_decide_eq_true (by first | (with_reducible assumption) | assumption) | (have e_ := (Kd.S_reads' HO_5.out).1; omega))
                                obtain ⟨ve261_0, rfl, ge261_0⟩ := hMe261
                                have hv261_0 := hcc261 0 _ rfl
                                rw [Nat.add_zero, show ((Kd.slice 5 (Kd.int .u8))).sz = 1 from rfl, Nat.mul_one] at hv261_0
                                replace hv261_0 := Option.some.inj (hv261_0.symm.trans hx261_0)
                                rw [hv261_0] at ge261_0
                                have HL261_0 := Aside0.mk (show Kd.R (Kd.int .u8) 5 _ _ _ _ (rd_L1 t256 x8_1) from ge261_0)
                                clear hv261_0 ge261_0
                                clear hcc261 hce261
                                have HR261_0 := Aside0.mk hi261_0
                                have HC261_0 := Aside0.mk hl261_0
                                clear hi261_0 hl261_0
                                replace p261 := eq_true p261
                                replace q261 := eq_true q261
                                go_wp2_with (first | ((with_reducible refine gate_callee (f := 14) rfl ?_); refine goesL_ (some 41) rfl rfl Try.func14 (by kernel_rfl) rfl #[.slice A261_0 (rd_L1 t256 x8_1).length c261_0] rfl (by (try simp only [List.map_toArray, List.map_cons, List.map_nil]); first | done | rfl | (simp only [List.length_drop, List.length_take]; rfl)) ?_; (with_reducible refine (annuletref18_Get.calls k1 _ _ (rd_L1 t256 x8_1) t262 t263 t264 t265 t266 t267 t268 t271 _ ?side1 ?side2 A15.out).mono ?_); (case side1 => repeat (first | exact (by repeat (first | (with_reducible exact HR261_0.out) | (with_reducible refine Kd.C_alloc ?_ _) | (with_reducible refine Kd.C_drewN ?_ _) | (with_reducible refine Kd.C_drew ?_) | exact HR261_0.out)) | (with_reducible refine Kd.C_alloc ?_ _) | (with_reducible refine Kd.C_drewN ?_ _) | (with_reducible refine Kd.C_drew ?_))); (case side2 => exact HC261_0.out); rintro e w26 ⟨v269, rfl, ho0, hb⟩; refine ⟨_, rfl, ?_⟩; have n0_ := Aside0.mk (Kd.S_elder' (by (with_reducible repeat (first | apply Kd.S_alloc | apply Kd.S_drewN | apply Kd.S_drew)); exact HO_5.out) (Kd.R_base ho0) hb); have n1_ := Aside0.mk (Kd.R_elder' (by (with_reducible repeat (first | apply Kd.R_alloc | apply Kd.R_drewN | apply Kd.R_drew)); exact HO_7.out) (Kd.R_base ho0) hb); have n2_ := Aside0.mk (Kd.R_elder' (by (with_reducible repeat (first | apply Kd.R_alloc | apply Kd.R_drewN | apply Kd.R_drew)); exact HL261_0.out) (Kd.R_base ho0) hb); have n3_ := Aside0.mk (Kd.R_lower (Kd.R_new' (Kd.R_new' ho0 (Kd.R_lt (by (with_reducible repeat (first | apply Kd.R_alloc | apply Kd.R_drewN | apply Kd.R_drew)); exact HO_7.out))) (Kd.R_lt (by (with_reducible repeat (first | apply Kd.R_alloc | apply Kd.R_drewN | apply Kd.R_drew)); exact HL261_0.out))) (below_size (by repeat (first | (with_reducible first | exact HB.out | apply below_alloc | apply pw_below_drewN | apply below_drew1 | refine below_set ?_ GE254.out) | exact HB.out)))); have n4_ := Aside0.mk (blk_below (g := gb254) (o := .cells #[.int .u8 a1_0, .int .u8 a1_1, .int .u32 a1_2, .int .u32 a1_3, .int .u16 a1_4, .int .u16 a1_5, .slice A1_6 l1_6.length c1_6] 32 (0, 0)) (by (with_reducible repeat (first | refine blk_drewN ?_ _ | refine blk_drew ?_ | refine blk_alloc ?_ _)); exact BK254.out) hb); have n5_ := Aside0.mk (Kd.C_below (by repeat (first | (with_reducible exact HR261_0.out) | (with_reducible refine Kd.C_alloc ?_ _) | (with_reducible refine Kd.C_drewN ?_ _) | (with_reducible refine Kd.C_drew ?_) | exact HR261_0.out)) hb); have n6_ := Aside0.mk (below_step (by repeat (first | (with_reducible first | exact HB.out | apply below_alloc | apply pw_below_drewN | apply below_drew1 | refine below_set ?_ GE254.out) | exact HB.out)) hb); clear HO_5; clear HO_7; clear HL261_0; clear BK254; clear HR261_0; clear HB; have HO_5 := n0_; have HO_7 := n1_; have HL261_0 := n2_; have HO270 := n3_; have BK254 := n4_; have HR261_0 := n5_; have HB := n6_; clear n0_ n1_ n2_ n3_ n4_ n5_ n6_; (try clear hb); (try clear hb2); (try clear hk); (try clear hi); (try clear ho0)) | ((with_reducible refine gate_dst (N := 9) rfl ?_); (try (refine gate_guard (by rfl) ?_; dsimp only)); refine box_event ?hg (N := 9) ?hd (cs := #[.int .u8 0, .int .u8 0, .int .u32 0, .int .u32 0, .int .u16 0, .int .u16 0, .slice none 0 0]) (t := 32) ?hr ?_; (case hd => rfl); (case hg => rfl); (case hr => first | (go_simp; done) | (go_simp; rfl)); intro gb272 hg w27 hbox hb; have n0_ := Aside0.mk (Kd.S_below (by (with_reducible repeat (first | apply Kd.S_alloc | apply Kd.S_drewN | apply Kd.S_drew)); exact HO_5.out) hb); have n1_ := Aside0.mk (Kd.R_below (by (with_reducible repeat (first | apply Kd.R_alloc | apply Kd.R_drewN | apply Kd.R_drew)); exact HO_7.out) hb); have n2_ := Aside0.mk (Kd.R_below (by (with_reducible repeat (first | apply Kd.R_alloc | apply Kd.R_drewN | apply Kd.R_drew)); exact HL261_0.out) hb); have n3_ := Aside0.mk (Kd.R_below (by (with_reducible repeat (first | apply Kd.R_alloc | apply Kd.R_drewN | apply Kd.R_drew)); exact HO270.out) hb); have n4_ := Aside0.mk (blk_below (g := gb254) (o := .cells #[.int .u8 a1_0, .int .u8 a1_1, .int .u32 a1_2, .int .u32 a1_3, .int .u16 a1_4, .int .u16 a1_5, .slice A1_6 l1_6.length c1_6] 32 (0, 0)) (by (with_reducible repeat (first | refine blk_drewN ?_ _ | refine blk_drew ?_ | refine blk_alloc ?_ _)); exact BK254.out) hb); have n5_ := Aside0.mk (Kd.C_below (by repeat (first | (with_reducible exact HR261_0.out) | (with_reducible refine Kd.C_alloc ?_ _) | (with_reducible refine Kd.C_drewN ?_ _) | (with_reducible refine Kd.C_drew ?_) | exact HR261_0.out)) hb); have n6_ := Aside0.mk (below_step (by repeat (first | (with_reducible first | exact HB.out | apply below_alloc | apply pw_below_drewN | apply below_drew1 | refine below_set ?_ GE254.out) | exact HB.out)) hb); have n7_ := Aside0.mk (hbox); have n8_ := Aside0.mk ((by rw [hg]; exact (below_size (by repeat (first | (with_reducible first | exact HB.out | apply below_alloc | apply pw_below_drewN | apply below_drew1 | refine below_set ?_ GE254.out) | exact HB.out))) : w.heap.size ≤ gb272)); have n9_ := Aside0.mk ((by rw [hg]; exact (below_size (by repeat (first | (with_reducible first | exact HB.out | apply below_alloc | apply pw_below_drewN | apply below_drew1 | refine below_set ?_ GE254.out) | exact HB.out))) : w.heap.size ≤ gb272)); have n10_ := Aside0.mk ((by rw [hg]; exact Nat.ne_of_lt (blk_lt (g := gb254) (o := .cells #[.int .u8 a1_0, .int .u8 a1_1, .int .u32 a1_2, .int .u32 a1_3, .int .u16 a1_4, .int .u16 a1_5, .slice A1_6 l1_6.length c1_6] 32 (0, 0)) (by (with_reducible repeat (first | refine blk_drewN ?_ _ | refine blk_drew ?_ | refine blk_alloc ?_ _)); exact BK254.out)) : gb254 ≠ gb272)); have n11_ := Aside0.mk ((by rw [hg]; exact Nat.ne_of_gt (blk_lt (g := gb254) (o := .cells #[.int .u8 a1_0, .int .u8 a1_1, .int .u32 a1_2, .int .u32 a1_3, .int .u16 a1_4, .int .u16 a1_5, .slice A1_6 l1_6.length c1_6] 32 (0, 0)) (by (with_reducible repeat (first | refine blk_drewN ?_ _ | refine blk_drew ?_ | refine blk_alloc ?_ _)); exact BK254.out)) : gb272 ≠ gb254)); clear HO_5; clear HO_7; clear HL261_0; clear HO270; clear BK254; clear HR261_0; clear HB; have HO_5 := n0_; have HO_7 := n1_; have HL261_0 := n2_; have HO270 := n3_; have BK254 := n4_; have HR261_0 := n5_; have HB := n6_; have BK272 := n7_; have GW272 := n8_; have GE272 := n9_; have NB254_272 := n10_; have NB272_254 := n11_; clear n0_ n1_ n2_ n3_ n4_ n5_ n6_ n7_ n8_ n9_ n10_ n11_; clear hb hbox hg; have hnb28 := NB272_254.out; have hnc28 := NB254_272.out; have hcz29_0 : w27.cell? ⟨gb272, 0, none⟩ = some (.int .u8 0) := (blk_cell BK272.out 0).trans rfl; have hcz29_1 : w27.cell? ⟨gb272, 1, none⟩ = some (.int .u8 0) := (blk_cell BK272.out 1).trans rfl; have hcz29_2 : w27.cell? ⟨gb272, 2, none⟩ = some (.int .u32 0) := (blk_cell BK272.out 2).trans rfl; have hcz29_3 : w27.cell? ⟨gb272, 3, none⟩ = some (.int .u32 0) := (blk_cell BK272.out 3).trans rfl; have hcz29_4 : w27.cell? ⟨gb272, 4, none⟩ = some (.int .u16 0) := (blk_cell BK272.out 4).trans rfl; have hcz29_5 : w27.cell? ⟨gb272, 5, none⟩ = some (.int .u16 0) := (blk_cell BK272.out 5).trans rfl; have hcz29_6 : w27.cell? ⟨gb272, 6, none⟩ = some (.slice none 0 0) := (blk_cell BK272.out 6).trans rfl; have hfz29_0 := blk_frozen BK272.out 0; have hfz29_1 := blk_frozen BK272.out 1; have hfz29_2 := blk_frozen BK272.out 2; have hfz29_3 := blk_frozen BK272.out 3; have hfz29_4 := blk_frozen BK272.out 4; have hfz29_5 := blk_frozen BK272.out 5; have hfz29_6 := blk_frozen BK272.out 6; obtain ⟨Ao30, co30, eo30⟩ := Kd.R_slice HO270.out; subst eo30) | ((with_reducible refine gate_store (t := 32) (p := 9) rfl ?_); refine store_event (t := 32) (p := 9) (v := ?vo_w31) (w1 := (((((((w27.setCell ⟨gb272, 0, none⟩ (.int .u8 t262)).setCell ⟨gb272, 1, none⟩ (.int .u8 t263)).setCell ⟨gb272, 2, none⟩ (.int .u32 t264)).setCell ⟨gb272, 3, none⟩ (.int .u32 t265)).setCell ⟨gb272, 4, none⟩ (.int .u16 t266)).setCell ⟨gb272, 5, none⟩ (.int .u16 t267)).setCell ⟨gb272, 6, none⟩ (.slice Ao30 t268.length co30))) ?hg ?ho ?hn ?hr ?_; (case ho => rfl); (case hg => rfl); (case hn => rfl); (case hr => first | (go_simp; done) | (go_simp; rfl)); intro w31 hw; have n0_ : Aside0 (Kd.S (Kd.slice 5 (Kd.int .u8)) 30 w31 w.heap.size (fun k_ => some k_ ≠ (u7 : Value).ownBlock ∧ some k_ ≠ (.slice Ao30 t268.length co30 : Value).ownBlock) (.slice (some ad261) t256.length co25) t256) := ⟨(by rw [hw]; exact (by (with_reducible repeat (first | apply Kd.S_alloc | apply Kd.S_drewN | apply Kd.S_drew)); exact Kd.S_mono (Kd.S_far (p := ⟨gb272, 6, none⟩) (Kd.S_far (p := ⟨gb272, 5, none⟩) (Kd.S_far (p := ⟨gb272, 4, none⟩) (Kd.S_far (p := ⟨gb272, 3, none⟩) (Kd.S_far (p := ⟨gb272, 2, none⟩) (Kd.S_far (p := ⟨gb272, 1, none⟩) (Kd.S_far (p := ⟨gb272, 0, none⟩) (Kd.S_types HO_5.out BK272.out (by decide)) (fun _ hk => hk.2) (.int .u8 t262)) (fun _ hk => hk.2) (.int .u8 t263)) (fun _ hk => hk.2) (.int .u32 t264)) (fun _ hk => hk.2) (.int .u32 t265)) (fun _ hk => hk.2) (.int .u16 t266)) (fun _ hk => hk.2) (.int .u16 t267)) (fun _ hk => hk.2) (.slice Ao30 t268.length co30)) (fun _ hk => ⟨hk.1.1, hk.1.2⟩)))⟩; have n1_ : Aside0 (Kd.R (Kd.int .u8) 5 w31 w.heap.size (fun k_ => some k_ ≠ (.slice Ao30 t268.length co30 : Value).ownBlock) u7 x7_1) := ⟨(by rw [hw]; exact (by (with_reducible repeat (first | apply Kd.R_alloc | apply Kd.R_drewN | apply Kd.R_drew)); exact Kd.R_mono (Kd.R_far (p := ⟨gb272, 6, none⟩) (Kd.R_far (p := ⟨gb272, 5, none⟩) (Kd.R_far (p := ⟨gb272, 4, none⟩) (Kd.R_far (p := ⟨gb272, 3, none⟩) (Kd.R_far (p := ⟨gb272, 2, none⟩) (Kd.R_far (p := ⟨gb272, 1, none⟩) (Kd.R_far (p := ⟨gb272, 0, none⟩) (Kd.R_types HO_7.out BK272.out (by decide)) (fun _ hk => hk.2) (.int .u8 t262)) (fun _ hk => hk.2) (.int .u8 t263)) (fun _ hk => hk.2) (.int .u32 t264)) (fun _ hk => hk.2) (.int .u32 t265)) (fun _ hk => hk.2) (.int .u16 t266)) (fun _ hk => hk.2) (.int .u16 t267)) (fun _ hk => hk.2) (.slice Ao30 t268.length co30)) (fun _ hk => hk.1.2)))⟩; have n2_ : Aside0 (Kd.R (Kd.int .u8) 5 w31 w.heap.size (fun k_ => some k_ ≠ (.slice (some ad261) t256.length co25 : Value).ownBlock ∧ some k_ ≠ (u7 : Value).ownBlock ∧ some k_ ≠ (.slice Ao30 t268.length co30 : Value).ownBlock) (.slice A261_0 (rd_L1 t256 x8_1).length c261_0) (rd_L1 t256 x8_1)) := ⟨(by rw [hw]; exact (by (with_reducible repeat (first | apply Kd.R_alloc | apply Kd.R_drewN | apply Kd.R_drew)); exact Kd.R_mono (Kd.R_far (p := ⟨gb272, 6, none⟩) (Kd.R_far (p := ⟨gb272, 5, none⟩) (Kd.R_far (p := ⟨gb272, 4, none⟩) (Kd.R_far (p := ⟨gb272, 3, none⟩) (Kd.R_far (p := ⟨gb272, 2, none⟩) (Kd.R_far (p := ⟨gb272, 1, none⟩) (Kd.R_far (p := ⟨gb272, 0, none⟩) (Kd.R_types HL261_0.out BK272.out (by decide)) (fun _ hk => hk.2) (.int .u8 t262)) (fun _ hk => hk.2) (.int .u8 t263)) (fun _ hk => hk.2) (.int .u32 t264)) (fun _ hk => hk.2) (.int .u32 t265)) (fun _ hk => hk.2) (.int .u16 t266)) (fun _ hk => hk.2) (.int .u16 t267)) (fun _ hk => hk.2) (.slice Ao30 t268.length co30)) (fun _ hk => ⟨hk.1.1.2, ⟨hk.1.1.1, hk.1.2⟩⟩)))⟩; have n3_ : Aside0 (Kd.R (Kd.int .u8) 5 w31 w.heap.size (fun k_ => some k_ ≠ (u7 : Value).ownBlock ∧ some k_ ≠ (.slice A261_0 (rd_L1 t256 x8_1).length c261_0 : Value).ownBlock) (.slice Ao30 t268.length co30) t268) := ⟨(by rw [hw]; exact (by (with_reducible repeat (first | apply Kd.R_alloc | apply Kd.R_drewN | apply Kd.R_drew)); exact Kd.R_mono (Kd.R_far (p := ⟨gb272, 6, none⟩) (Kd.R_far (p := ⟨gb272, 5, none⟩) (Kd.R_far (p := ⟨gb272, 4, none⟩) (Kd.R_far (p := ⟨gb272, 3, none⟩) (Kd.R_far (p := ⟨gb272, 2, none⟩) (Kd.R_far (p := ⟨gb272, 1, none⟩) (Kd.R_far (p := ⟨gb272, 0, none⟩) (Kd.R_types HO270.out BK272.out (by decide)) (fun _ hk => hk.2) (.int .u8 t262)) (fun _ hk => hk.2) (.int .u8 t263)) (fun _ hk => hk.2) (.int .u32 t264)) (fun _ hk => hk.2) (.int .u32 t265)) (fun _ hk => hk.2) (.int .u16 t266)) (fun _ hk => hk.2) (.int .u16 t267)) (fun _ hk => hk.2) (.slice Ao30 t268.length co30)) (fun _ hk => ⟨hk.1.1.2, hk.1.2⟩)))⟩; have n4_ : Aside0 (w31.heap[gb254]? = some (.cells #[.int .u8 a1_0, .int .u8 a1_1, .int .u32 a1_2, .int .u32 a1_3, .int .u16 a1_4, .int .u16 a1_5, .slice A1_6 l1_6.length c1_6] 32 (0, 0))) := ⟨(by rw [hw]; exact (by (with_reducible repeat (first | refine blk_drewN ?_ _ | refine blk_drew ?_ | refine blk_alloc ?_ _)); refine blk_far ?_ NB254_272.out _; (with_reducible repeat (first | refine blk_drewN ?_ _ | refine blk_drew ?_ | refine blk_alloc ?_ _)); refine blk_far ?_ NB254_272.out _; (with_reducible repeat (first | refine blk_drewN ?_ _ | refine blk_drew ?_ | refine blk_alloc ?_ _)); refine blk_far ?_ NB254_272.out _; (with_reducible repeat (first | refine blk_drewN ?_ _ | refine blk_drew ?_ | refine blk_alloc ?_ _)); refine blk_far ?_ NB254_272.out _; (with_reducible repeat (first | refine blk_drewN ?_ _ | refine blk_drew ?_ | refine blk_alloc ?_ _)); refine blk_far ?_ NB254_272.out _; (with_reducible repeat (first | refine blk_drewN ?_ _ | refine blk_drew ?_ | refine blk_alloc ?_ _)); refine blk_far ?_ NB254_272.out _; (with_reducible repeat (first | refine blk_drewN ?_ _ | refine blk_drew ?_ | refine blk_alloc ?_ _)); refine blk_far ?_ NB254_272.out _; (with_reducible repeat (first | refine blk_drewN ?_ _ | refine blk_drew ?_ | refine blk_alloc ?_ _)); exact BK254.out))⟩; have n5_ : Aside0 (w31.heap[gb272]? = some (.cells #[.int .u8 t262, .int .u8 t263, .int .u32 t264, .int .u32 t265, .int .u16 t266, .int .u16 t267, .slice Ao30 t268.length co30] 32 (0, 0))) := ⟨(by rw [hw]; exact (by (with_reducible repeat (first | refine blk_drewN ?_ _ | refine blk_drew ?_ | refine blk_alloc ?_ _)); refine blk_put (cs := #[.int .u8 t262, .int .u8 t263, .int .u32 t264, .int .u32 t265, .int .u16 t266, .int .u16 t267, .slice none 0 0]) ?_ 6 _ rfl; (with_reducible repeat (first | refine blk_drewN ?_ _ | refine blk_drew ?_ | refine blk_alloc ?_ _)); refine blk_put (cs := #[.int .u8 t262, .int .u8 t263, .int .u32 t264, .int .u32 t265, .int .u16 t266, .int .u16 0, .slice none 0 0]) ?_ 5 _ rfl; (with_reducible repeat (first | refine blk_drewN ?_ _ | refine blk_drew ?_ | refine blk_alloc ?_ _)); refine blk_put (cs := #[.int .u8 t262, .int .u8 t263, .int .u32 t264, .int .u32 t265, .int .u16 0, .int .u16 0, .slice none 0 0]) ?_ 4 _ rfl; (with_reducible repeat (first | refine blk_drewN ?_ _ | refine blk_drew ?_ | refine blk_alloc ?_ _)); refine blk_put (cs := #[.int .u8 t262, .int .u8 t263, .int .u32 t264, .int .u32 0, .int .u16 0, .int .u16 0, .slice none 0 0]) ?_ 3 _ rfl; (with_reducible repeat (first | refine blk_drewN ?_ _ | refine blk_drew ?_ | refine blk_alloc ?_ _)); refine blk_put (cs := #[.int .u8 t262, .int .u8 t263, .int .u32 0, .int .u32 0, .int .u16 0, .int .u16 0, .slice none 0 0]) ?_ 2 _ rfl; (with_reducible repeat (first | refine blk_drewN ?_ _ | refine blk_drew ?_ | refine blk_alloc ?_ _)); refine blk_put (cs := #[.int .u8 t262, .int .u8 0, .int .u32 0, .int .u32 0, .int .u16 0, .int .u16 0, .slice none 0 0]) ?_ 1 _ rfl; (with_reducible repeat (first | refine blk_drewN ?_ _ | refine blk_drew ?_ | refine blk_alloc ?_ _)); refine blk_put (cs := #[.int .u8 0, .int .u8 0, .int .u32 0, .int .u32 0, .int .u16 0, .int .u16 0, .slice none 0 0]) ?_ 0 _ rfl; (with_reducible repeat (first | refine blk_drewN ?_ _ | refine blk_drew ?_ | refine blk_alloc ?_ _)); exact BK272.out))⟩; have n6_ : Aside0 (Below w.heap.size w w31) := ⟨(by rw [hw]; exact (by repeat (first | (with_reducible first | exact HB.out | apply below_alloc | apply pw_below_drewN | apply below_drew1 | refine below_set ?_ GE254.out | refine below_set ?_ GE272.out) | exact HB.out)))⟩; clear hw; clear HO_5; clear HO_7; clear HL261_0; clear HO270; clear BK254; clear BK272; clear HB; have HO_5 := n0_; have HO_7 := n1_; have HL261_0 := n2_; have HO270 := n3_; have BK254 := n4_; have BK272 := n5_; have HB := n6_; clear n0_ n1_ n2_ n3_ n4_ n5_ n6_; have p273 : 0 ≤ (x8_1 : Int) := of_decide_eq_true (by first | (with_reducible assumption) | assumption); have q273 : x8_1 < (t256.length : Int) := of_decide_eq_true (by first | (with_reducible assumption) | assumption); obtain ⟨ad273, A273_0, c273_0, e273, hx273_0, hl273_0, hi273_0⟩ := at_L1 (Kd.S_reads' HO_5.out).2.2 x8_1 p273 q273; obtain rfl : ad261 = ad273 := (by injection e273); obtain ⟨ce273, hce273, hMe273, hcc273⟩ := Kd.S_get HO_5.out [] x8_1 p273 (by first | exact q273 | exact of_decide_eq_true (by first | (with_reducible assumption) | assumption) | (have e_ := (Kd.S_reads' HO_5.out).1; omega)); obtain ⟨ve273_0, rfl, ge273_0⟩ := hMe273; have hv273_0 := hcc273 0 _ rfl; rw [Nat.add_zero, show ((Kd.slice 5 (Kd.int .u8))).sz = 1 from rfl, Nat.mul_one] at hv273_0; replace hv273_0 := Option.some.inj (hv273_0.symm.trans hx273_0); rw [hv273_0] at ge273_0; have HL273_0 := Aside0.mk (show Kd.R (Kd.int .u8) 5 _ _ _ _ (rd_L1 t256 x8_1) from ge273_0); clear hv273_0 ge273_0; clear hcc273 hce273; have HR273_0 := Aside0.mk hi273_0; have HC273_0 := Aside0.mk hl273_0; clear hi273_0 hl273_0; replace p273 := eq_true p273; replace q273 := eq_true q273; have hcz32_0 : w31.cell? ⟨gb272, 0, none⟩ = some (.int .u8 t262) := (blk_cell BK272.out 0).trans rfl; have hcz32_1 : w31.cell? ⟨gb272, 1, none⟩ = some (.int .u8 t263) := (blk_cell BK272.out 1).trans rfl; have hcz32_2 : w31.cell? ⟨gb272, 2, none⟩ = some (.int .u32 t264) := (blk_cell BK272.out 2).trans rfl; have hcz32_3 : w31.cell? ⟨gb272, 3, none⟩ = some (.int .u32 t265) := (blk_cell BK272.out 3).trans rfl; have hcz32_4 : w31.cell? ⟨gb272, 4, none⟩ = some (.int .u16 t266) := (blk_cell BK272.out 4).trans rfl; have hcz32_5 : w31.cell? ⟨gb272, 5, none⟩ = some (.int .u16 t267) := (blk_cell BK272.out 5).trans rfl; have hcz32_6 : w31.cell? ⟨gb272, 6, none⟩ = some (.slice Ao30 t268.length co30) := (blk_cell BK272.out 6).trans rfl; have hfz32_0 := blk_frozen BK272.out 0; have hfz32_1 := blk_frozen BK272.out 1; have hfz32_2 := blk_frozen BK272.out 2; have hfz32_3 := blk_frozen BK272.out 3; have hfz32_4 := blk_frozen BK272.out 4; have hfz32_5 := blk_frozen BK272.out 5; have hfz32_6 := blk_frozen BK272.out 6; have hcz33_0 : w31.cell? ⟨gb254, 0, none⟩ = some (.int .u8 a1_0) := (blk_cell BK254.out 0).trans rfl; have hcz33_1 : w31.cell? ⟨gb254, 1, none⟩ = some (.int .u8 a1_1) := (blk_cell BK254.out 1).trans rfl; have hcz33_2 : w31.cell? ⟨gb254, 2, none⟩ = some (.int .u32 a1_2) := (blk_cell BK254.out 2).trans rfl; have hcz33_3 : w31.cell? ⟨gb254, 3, none⟩ = some (.int .u32 a1_3) := (blk_cell BK254.out 3).trans rfl; have hcz33_4 : w31.cell? ⟨gb254, 4, none⟩ = some (.int .u16 a1_4) := (blk_cell BK254.out 4).trans rfl; have hcz33_5 : w31.cell? ⟨gb254, 5, none⟩ = some (.int .u16 a1_5) := (blk_cell BK254.out 5).trans rfl; have hcz33_6 : w31.cell? ⟨gb254, 6, none⟩ = some (.slice A1_6 l1_6.length c1_6) := (blk_cell BK254.out 6).trans rfl; have hfz33_0 := blk_frozen BK254.out 0; have hfz33_1 := blk_frozen BK254.out 1; have hfz33_2 := blk_frozen BK254.out 2; have hfz33_3 := blk_frozen BK254.out 3; have hfz33_4 := blk_frozen BK254.out 4; have hfz33_5 := blk_frozen BK254.out 5; have hfz33_6 := blk_frozen BK254.out 6) | ((with_reducible refine gate_builtin (b := .append) (xs := #[.tmp 98, .tmp 100]) rfl ?_); (try (refine gate_guard (by rfl) ?_; dsimp only)); at_builtin; refine Kd.R_append_rows (Kd.int .u8) (w0 := w) w.heap.size rfl (.tmp 98) (.tmp 100) 30 5 (.int .u8 0) 1 rfl Try.underlying30 info5 rfl (by decide) (by omega) u7 x7_1 t268 _ _ _ (fun k_ => some k_ ≠ (.slice Ao30 t268.length co30 : Value).ownBlock) (fun _ => False) rfl rfl ?aO ?aR (fun _ _ h => h) (fun _ h => h.elim) ?aF ?aB ?aS ?aL ?_; (case aR => repeat (first | exact (Kd.R_reads' HO270.out).2.2 | (with_reducible refine Kd.C_alloc ?_ _) | (with_reducible refine Kd.C_drewN ?_ _) | (with_reducible refine Kd.C_drew ?_))); (case aB => exact (by repeat (first | (with_reducible first | exact HB.out | apply below_alloc | apply pw_below_drewN | apply below_drew1 | refine below_set ?_ GE254.out | refine below_set ?_ GE272.out) | exact HB.out))); (case aF => exact (fun k_ hk => Kd.fresh' (Kd.R_lt (by (with_reducible repeat (first | apply Kd.R_alloc | apply Kd.R_drewN | apply Kd.R_drew)); exact HO270.out)) k_ hk)); (case aO => exact (by (with_reducible repeat (first | apply Kd.R_alloc | apply Kd.R_drewN | apply Kd.R_drew)); exact HO_7.out)); (case aS => exact (below_size (by repeat (first | (with_reducible first | exact HB.out | apply below_alloc | apply pw_below_drewN | apply below_drew1 | refine below_set ?_ GE254.out | refine below_set ?_ GE272.out) | exact HB.out)))); (case aL => have := LMc24.out; omega); intro v275 w34 ho hb hg hat; rw [← Ny274.out] at ho; have n0_ := Aside0.mk (Kd.S_after (ok := (fun k_ => some k_ ≠ (.slice Ao30 t268.length co30 : Value).ownBlock)) (by (with_reducible repeat (first | apply Kd.S_alloc | apply Kd.S_drewN | apply Kd.S_drew)); exact Kd.S_mono HO_5.out (fun _ hk => ⟨hk.2, hk.1⟩)) hg hat); have n1_ := Aside0.mk (blk_grown (g := gb254) (o := .cells #[.int .u8 a1_0, .int .u8 a1_1, .int .u32 a1_2, .int .u32 a1_3, .int .u16 a1_4, .int .u16 a1_5, .slice A1_6 l1_6.length c1_6] 32 (0, 0)) (by (with_reducible repeat (first | refine blk_drewN ?_ _ | refine blk_drew ?_ | refine blk_alloc ?_ _)); exact BK254.out) hg (Kd.R_ne HO_7.out BK254.out (by decide))); have n2_ := Aside0.mk (Kd.R_after (ok := (fun k_ => some k_ ≠ (.slice (some ad261) t256.length co25 : Value).ownBlock ∧ some k_ ≠ (.slice Ao30 t268.length co30 : Value).ownBlock)) (by (with_reducible repeat (first | apply Kd.R_alloc | apply Kd.R_drewN | apply Kd.R_drew)); exact Kd.R_mono HL261_0.out (fun _ hk => ⟨⟨hk.1, hk.2.2⟩, hk.2.1⟩)) hg hat); have n3_ := Aside0.mk (Kd.R_after (ok := (fun k_ => some k_ ≠ (.slice A261_0 (rd_L1 t256 x8_1).length c261_0 : Value).ownBlock)) (by (with_reducible repeat (first | apply Kd.R_alloc | apply Kd.R_drewN | apply Kd.R_drew)); exact Kd.R_mono HO270.out (fun _ hk => ⟨hk.2, hk.1⟩)) hg hat); have n4_ := Aside0.mk (blk_grown (g := gb272) (o := .cells #[.int .u8 t262, .int .u8 t263, .int .u32 t264, .int .u32 t265, .int .u16 t266, .int .u16 t267, .slice Ao30 t268.length co30] 32 (0, 0)) (by (with_reducible repeat (first | refine blk_drewN ?_ _ | refine blk_drew ?_ | refine blk_alloc ?_ _)); exact BK272.out) hg (Kd.R_ne HO_7.out BK272.out (by decide))); have n5_ := Aside0.mk (Kd.R_after (ok := (fun k_ => some k_ ≠ (.slice (some ad261) t256.length co25 : Value).ownBlock ∧ some k_ ≠ (.slice Ao30 t268.length co30 : Value).ownBlock)) (by (with_reducible repeat (first | apply Kd.R_alloc | apply Kd.R_drewN | apply Kd.R_drew)); exact Kd.R_mono HL273_0.out (fun _ hk => ⟨⟨hk.2, hk.1.2⟩, hk.1.1⟩)) hg hat); have n6_ := Aside0.mk (hb); have n7_ := Aside0.mk (ho); clear HO_5; clear BK254; clear HL261_0; clear HO270; clear BK272; clear HL273_0; clear HB; clear HO_7; have HO_5 := n0_; have BK254 := n1_; have HL261_0 := n2_; have HO270 := n3_; have BK272 := n4_; have HL273_0 := n5_; have HB := n6_; have HO276 := n7_; clear n0_ n1_ n2_ n3_ n4_ n5_ n6_ n7_; clear ho hb hg hat))
                                go_roundg k1
                                case measure => have := HK1.out; omega
                                case rel => exact ⟨(y274), (wrap64 (x8_1 + 1)), (by first | rfl | (simp; done) | (simp [*]; done)), H', ⟨by have := HK1.out; omega⟩, ⟨by (with_reducible repeat (first | apply Kd.S_alloc | apply Kd.S_drewN | apply Kd.S_drew)); exact Kd.S_mono HO_5.out (fun _ hk => hk.2)⟩, ⟨by (with_reducible repeat (first | apply Kd.R_alloc | apply Kd.R_drewN | apply Kd.R_drew)); exact Kd.R_mono HO276.out (fun _ hk => trivial)⟩, ⟨by (with_reducible repeat (first | refine blk_drewN ?_ _ | refine blk_drew ?_ | refine blk_alloc ?_ _)); exact BK254.out⟩, ⟨by repeat (first | (with_reducible first | exact HB.out | apply below_alloc | apply pw_below_drewN | apply below_drew1 | refine below_set ?_ GE254.out | refine below_set ?_ GE272.out) | exact HB.out)⟩⟩
                              · rw [if_neg c24] at H
                                exact absurd H (by simp)
                            · rw [if_neg c23] at H
                              exact absurd H (by simp)
                          · rw [if_neg c22] at H
                            exact absurd H (by simp)
                        · rw [if_neg c21] at H
                          exact absurd H (by simp)
                      · rw [if_neg c20] at H
                        exact absurd H (by simp)
                    · rw [if_neg c19] at H
                      exact absurd H (by simp)
                  · rw [if_neg c18] at H
                    exact absurd H (by simp)
              · rw [if_neg c16] at H
                exact absurd H (by simp)
            · rw [if_neg c14] at H
              exact absurd H (by simp)
          · rw [if_neg c13] at H
            have c13b0 : decide (x8_1 < (t256.length : Int)) = false := decide_eq_false c13
            clear c13
            by_cases c35 : (t256.length : Int) > 0
            · rw [if_pos c35] at H
              have c35b0 : decide (0 < (t256.length : Int)) = true := decide_eq_true c35
              have c35b1 : decide (0 < t256.length) = true := decide_eq_true (by omega)
              clear c35
              by_cases c36 : (strOfNums x7_1).toList = (strOfNums l1_6).toList
              · rw [if_pos c36] at H
                have c36b0 : ((strOfNums x7_1).toList == (strOfNums l1_6).toList) = true := beq_iff_eq.mpr c36
                have c36b1 : ((strOfNums x7_1).toList != (strOfNums l1_6).toList) = false := bne_eq_false_iff_eq.mpr c36
                clear c36
                replace H := Option.bind_eq_some_iff.mp H
                obtain ⟨t277, A370, H⟩ := H
                replace H : (some t277) = some r := H
                have A37 := Aside0.mk A370
                clear A370
                obtain rfl := Option.some.inj H
                obtain ⟨Ao38, co38, eo38⟩ := Kd.S_slice HO_5.out
                subst eo38
                have hcv39 := own_string (P := Try.prog) Try.underlying30 Try.underlying5 Try.underlying9 (Kd.own_of_R HO_7.out)
                have hcz40_0 : wr.cell? ⟨gb254, 0, none⟩ = some (.int .u8 a1_0) := (blk_cell BK254.out 0).trans rfl
                have hcz40_1 : wr.cell? ⟨gb254, 1, none⟩ = some (.int .u8 a1_1) := (blk_cell BK254.out 1).trans rfl
                have hcz40_2 : wr.cell? ⟨gb254, 2, none⟩ = some (.int .u32 a1_2) := (blk_cell BK254.out 2).trans rfl
                have hcz40_3 : wr.cell? ⟨gb254, 3, none⟩ = some (.int .u32 a1_3) := (blk_cell BK254.out 3).trans rfl
                have hcz40_4 : wr.cell? ⟨gb254, 4, none⟩ = some (.int .u16 a1_4) := (blk_cell BK254.out 4).trans rfl
                have hcz40_5 : wr.cell? ⟨gb254, 5, none⟩ = some (.int .u16 a1_5) := (blk_cell BK254.out 5).trans rfl
                have hcz40_6 : wr.cell? ⟨gb254, 6, none⟩ = some (.slice A1_6 l1_6.length c1_6) := (blk_cell BK254.out 6).trans rfl
                have hfz40_0 := blk_frozen BK254.out 0
                have hfz40_1 := blk_frozen BK254.out 1
                have hfz40_2 := blk_frozen BK254.out 2
                have hfz40_3 := blk_frozen BK254.out 3
                have hfz40_4 := blk_frozen BK254.out 4
                have hfz40_5 := blk_frozen BK254.out 5
                have hfz40_6 := blk_frozen BK254.out 6
                have hcv41 := Kd.C_string (P := Try.prog) (A := A1_6) (c := c1_6) Try.underlying30 Try.underlying5 Try.underlying9 (Kd.C_below HR1_6.out HB.out)
                have hcn41 := fun n_ => Kd.C_string (P := Try.prog) (A := A1_6) (c := c1_6) Try.underlying30 Try.underlying5 Try.underlying9 (Kd.C_drewN (Kd.C_below HR1_6.out HB.out) n_)
                go_wp2_with (first | (go_at_call 10; (with_reducible refine (annuletlaw19_awake.calls k1  t277 _ A37.out).mono ?_); rintro e w42 ⟨rfl, hb⟩; have n0_ := Aside0.mk (Kd.S_below (by (with_reducible repeat (first | apply Kd.S_alloc | apply Kd.S_drewN | apply Kd.S_drew)); exact HO_5.out) hb); have n1_ := Aside0.mk (Kd.R_below (by (with_reducible repeat (first | apply Kd.R_alloc | apply Kd.R_drewN | apply Kd.R_drew)); exact HO_7.out) hb); have n2_ := Aside0.mk (blk_below (g := gb254) (o := .cells #[.int .u8 a1_0, .int .u8 a1_1, .int .u32 a1_2, .int .u32 a1_3, .int .u16 a1_4, .int .u16 a1_5, .slice A1_6 l1_6.length c1_6] 32 (0, 0)) (by (with_reducible repeat (first | refine blk_drewN ?_ _ | refine blk_drew ?_ | refine blk_alloc ?_ _)); exact BK254.out) hb); have n3_ := Aside0.mk (below_step (by repeat (first | (with_reducible first | exact HB.out | apply below_alloc | apply pw_below_drewN | apply below_drew1 | refine below_set ?_ GE254.out) | exact HB.out)) hb); clear HO_5; clear HO_7; clear BK254; clear HB; have HO_5 := n0_; have HO_7 := n1_; have BK254 := n2_; have HB := n3_; clear n0_ n1_ n2_ n3_; (try clear hb); (try clear hb2); (try clear hk); (try clear hi)))
                all_goals go_ret
                all_goals first | (exact ⟨by first | rfl | (simp [errW_none, errW_some] <;> rfl) | (simp [*, errW_none, errW_some] <;> rfl), by repeat (first | (with_reducible first | exact HB.out | apply below_alloc | apply pw_below_drewN | apply below_drew1 | refine below_set ?_ GE254.out) | exact HB.out)⟩) | (exfalso; simp_all; done)
              · rw [if_neg c36] at H
                exact absurd H (by simp)
            · rw [if_neg c35] at H
              exact absurd H (by simp)
    · rw [if_neg c9] at H
      have c9b0 : (t259 == 0) = false := beq_eq_false_iff_ne.mpr c9
      have c9b1 : (t259 != 0) = true := bne_iff_ne.mpr c9
      by_cases c43 : (t256.length : Int) = 0
      · rw [if_pos c43] at H
        have c43b0 : ((t256.length : Int) == 0) = true := beq_iff_eq.mpr c43
        have c43b1 : ((t256.length : Int) != 0) = false := bne_eq_false_iff_eq.mpr c43
        clear c43
        replace H := Option.bind_eq_some_iff.mp H
        obtain ⟨t260, A440, H⟩ := H
        replace H : (some t260) = some r := H
        have A44 := Aside0.mk A440
        clear A440
        obtain rfl := Option.some.inj H
        go_enter Try.func5, Try.ntmps5
        go_wp2_with (first | ((with_reducible refine gate_dst (N := 3) rfl ?_); (try (refine gate_guard (by rfl) ?_; dsimp only)); refine box_event ?hg (N := 3) ?hd (cs := #[.int .u8 a1_0, .int .u8 a1_1, .int .u32 a1_2, .int .u32 a1_3, .int .u16 a1_4, .int .u16 a1_5, .slice A1_6 l1_6.length c1_6]) (t := 32) ?hr ?_; (case hd => rfl); (case hg => rfl); (case hr => first | (go_simp; done) | (go_simp; rfl)); intro gb254 hg w45 hbox hb; have n0_ := Aside0.mk (below_step (by repeat (first | (with_reducible first | exact HB.out | apply below_alloc | apply pw_below_drewN | apply below_drew1) | exact HB.out)) hb); have n1_ := Aside0.mk (hbox); have n2_ := Aside0.mk ((by rw [hg]; exact (below_size (by repeat (first | (with_reducible first | exact HB.out | apply below_alloc | apply pw_below_drewN | apply below_drew1) | exact HB.out))) : w.heap.size ≤ gb254)); have n3_ := Aside0.mk ((by rw [hg]; exact (below_size (by repeat (first | (with_reducible first | exact HB.out | apply below_alloc | apply pw_below_drewN | apply below_drew1) | exact HB.out))) : w.heap.size ≤ gb254)); clear HB; have HB := n0_; have BK254 := n1_; have GW254 := n2_; have GE254 := n3_; clear n0_ n1_ n2_ n3_; clear hb hbox hg; have hcz46_0 : w45.cell? ⟨gb254, 0, none⟩ = some (.int .u8 a1_0) := (blk_cell BK254.out 0).trans rfl; have hcz46_1 : w45.cell? ⟨gb254, 1, none⟩ = some (.int .u8 a1_1) := (blk_cell BK254.out 1).trans rfl; have hcz46_2 : w45.cell? ⟨gb254, 2, none⟩ = some (.int .u32 a1_2) := (blk_cell BK254.out 2).trans rfl; have hcz46_3 : w45.cell? ⟨gb254, 3, none⟩ = some (.int .u32 a1_3) := (blk_cell BK254.out 3).trans rfl; have hcz46_4 : w45.cell? ⟨gb254, 4, none⟩ = some (.int .u16 a1_4) := (blk_cell BK254.out 4).trans rfl; have hcz46_5 : w45.cell? ⟨gb254, 5, none⟩ = some (.int .u16 a1_5) := (blk_cell BK254.out 5).trans rfl; have hcz46_6 : w45.cell? ⟨gb254, 6, none⟩ = some (.slice A1_6 l1_6.length c1_6) := (blk_cell BK254.out 6).trans rfl; have hfz46_0 := blk_frozen BK254.out 0; have hfz46_1 := blk_frozen BK254.out 1; have hfz46_2 := blk_frozen BK254.out 2; have hfz46_3 := blk_frozen BK254.out 3; have hfz46_4 := blk_frozen BK254.out 4; have hfz46_5 := blk_frozen BK254.out 5; have hfz46_6 := blk_frozen BK254.out 6) | ((with_reducible refine gate_callee (f := 11) rfl ?_); refine goesL_ (some 19) rfl rfl Try.func11 (by kernel_rfl) rfl #[.int .i64 a0, .agg #[.int .u8 a1_0, .int .u8 a1_1, .int .u32 a1_2, .int .u32 a1_3, .int .u16 a1_4, .int .u16 a1_5, .slice A1_6 l1_6.length c1_6]] rfl (by (try simp only [List.map_toArray, List.map_cons, List.map_nil]); first | done | rfl | (simp only [List.length_drop, List.length_take]; rfl)) ?_; (with_reducible refine (split_Split.calls k a0 a1_0 a1_1 a1_2 a1_3 a1_4 a1_5 (fun k_ => k_ < w.heap.size) _ _ l1_6 t256 t259 _ ?side1 A8.out).mono ?_); (case side1 => exact Kd.V_mk HC1_6.out (Kd.F_below (Kd.C_F (Kd.heap_int .u8) HR1_6.out) (by repeat (first | (with_reducible first | exact HB.out | apply below_alloc | apply pw_below_drewN | apply below_drew1 | refine below_set ?_ GE254.out) | exact HB.out)))); rintro e w47 ⟨v257, rfl, ho0, hb⟩; refine ⟨_, rfl, ?_⟩; have n0_ := Aside0.mk (Kd.S_lower (Kd.S_mono (ok' := fun k_ => True) ho0 (fun _ hk_ => trivial)) (below_size (by repeat (first | (with_reducible first | exact HB.out | apply below_alloc | apply pw_below_drewN | apply below_drew1 | refine below_set ?_ GE254.out) | exact HB.out)))); have n1_ := Aside0.mk (blk_below (g := gb254) (o := .cells #[.int .u8 a1_0, .int .u8 a1_1, .int .u32 a1_2, .int .u32 a1_3, .int .u16 a1_4, .int .u16 a1_5, .slice A1_6 l1_6.length c1_6] 32 (0, 0)) (by (with_reducible repeat (first | refine blk_drewN ?_ _ | refine blk_drew ?_ | refine blk_alloc ?_ _)); exact BK254.out) hb); have n2_ := Aside0.mk (below_step (by repeat (first | (with_reducible first | exact HB.out | apply below_alloc | apply pw_below_drewN | apply below_drew1 | refine below_set ?_ GE254.out) | exact HB.out)) hb); clear BK254; clear HB; have HO258 := n0_; have BK254 := n1_; have HB := n2_; clear n0_ n1_ n2_; (try clear hb); (try clear hb2); (try clear hk); (try clear hi); (try clear ho0); obtain ⟨Ao48, co48, eo48⟩ := Kd.S_slice HO258.out; subst eo48) | (go_at_call 10; (with_reducible refine (annuletlaw19_awake.calls k  t260 _ A44.out).mono ?_); rintro e w49 ⟨rfl, hb⟩; have n0_ := Aside0.mk (Kd.S_below (by (with_reducible repeat (first | apply Kd.S_alloc | apply Kd.S_drewN | apply Kd.S_drew)); exact HO258.out) hb); have n1_ := Aside0.mk (blk_below (g := gb254) (o := .cells #[.int .u8 a1_0, .int .u8 a1_1, .int .u32 a1_2, .int .u32 a1_3, .int .u16 a1_4, .int .u16 a1_5, .slice A1_6 l1_6.length c1_6] 32 (0, 0)) (by (with_reducible repeat (first | refine blk_drewN ?_ _ | refine blk_drew ?_ | refine blk_alloc ?_ _)); exact BK254.out) hb); have n2_ := Aside0.mk (below_step (by repeat (first | (with_reducible first | exact HB.out | apply below_alloc | apply pw_below_drewN | apply below_drew1 | refine below_set ?_ GE254.out) | exact HB.out)) hb); clear HO258; clear BK254; clear HB; have HO258 := n0_; have BK254 := n1_; have HB := n2_; clear n0_ n1_ n2_; (try clear hb); (try clear hb2); (try clear hk); (try clear hi)))
        all_goals go_ret
        all_goals first | (exact ⟨by first | rfl | (simp [errW_none, errW_some] <;> rfl) | (simp [*, errW_none, errW_some] <;> rfl), by repeat (first | (with_reducible first | exact HB.out | apply below_alloc | apply pw_below_drewN | apply below_drew1 | refine below_set ?_ GE254.out) | exact HB.out)⟩) | (exfalso; simp_all; done)
      · rw [if_neg c43] at H
        exact absurd H (by simp)

def annuletlaw19_SplitBack.Pure : Prop := ∀ (a0 : Int) (a1_0 : Int) (a1_1 : Int) (a1_2 : Int) (a1_3 : Int) (a1_4 : Int) (a1_5 : Int) (l1_6 : List Int), (Lit.int .i64 a0).wf = true → (Lit.int .u8 a1_0).wf = true → (Lit.int .u8 a1_1).wf = true → (Lit.int .u32 a1_2).wf = true → (Lit.int .u32 a1_3).wf = true → (Lit.int .u16 a1_4).wf = true → (Lit.int .u16 a1_5).wf = true → (l1_6.length ≤ maxLen ∧ ∀ z0 ∈ l1_6, (Lit.int .u8 z0).wf = true) → ∃ k, annuletlaw19_SplitBack.f k a0 a1_0 a1_1 a1_2 a1_3 a1_4 a1_5 l1_6 = some true

end Go.Proofs.Ytplloiinedbnlaa.PSplitBack
