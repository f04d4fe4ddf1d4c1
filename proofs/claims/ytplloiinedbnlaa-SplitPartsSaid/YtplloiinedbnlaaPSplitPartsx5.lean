/- Written by a program of this session (a turned copy of the kit's print): functions of the program, each with the Lean function that it comes to, and the row of one law. No condition. -/
import Derived.Test.YtplloiinedbnlaaPSplitPartsx0
import Derived.Test.YtplloiinedbnlaaPSplitPartsx3
import Derived.Test.YtplloiinedbnlaaPSplitPartsx4
namespace Go.Proofs.Ytplloiinedbnlaa.PSplitParts
open Go.RowKit Go.Proofs.YtplloiinedbnlaaW.PrintWords Go.Proofs.YtplloiinedbnlaaW.PrintLast Go.Proofs.YtplloiinedbnlaaW.PrintMore
attribute [local go_sem] max2_int min2_int max_two min_two max_three min_three max_four min_four   -- for this text's walks alone
set_option linter.unusedVariables false
set_option linter.unusedSimpArgs false

/-! ### annuletref19_Split: function 12 -/
mutual
def annuletref19_Split.j0 : Nat → Int → Int → Bool → Int → Int → Int → Int → Int → Int → List Int → Option ((List (List Int)) × Int)
  | 0, _, _, _, _, _, _, _, _, _, _ => none
  | k + 1, x0, x6, x31, x240000, x240001, x240002, x240003, x240004, x240005, x240006 => if x31 = true then (some (([] : List (List Int)), 9)) else (annuletref19_Split.l0 k x0 x6 ([] : List (List Int)) 0 x240000 x240001 x240002 x240003 x240004 x240005 x240006)
def annuletref19_Split.l0 : Nat → Int → Int → List (List Int) → Int → Int → Int → Int → Int → Int → Int → List Int → Option ((List (List Int)) × Int)
  | 0, _, _, _, _, _, _, _, _, _, _, _ => none
  | k + 1, x0, x6, x8, x9, x240000, x240001, x240002, x240003, x240004, x240005, x240006 => if x9 < x6 then ((annuletref19_Room.f x0).bind fun t242 => ((annuletref19_Room.f x0).bind fun t243 => (if (wrap64 ((wrap64 (x9 * t242)) + t243)) > (x240006.length : Int) then (if 0 ≤ (wrap64 (x9 * t242)) then (if (wrap64 (x9 * t242)) ≤ (x240006.length : Int) then (if (x240006.length : Int) ≤ (x240006.length : Int) then ((annuletref18_Bytes.f k x240000 x240001 x240002 x240003 (IntKind.u16.wrap (x9)) (IntKind.u16.wrap (x6)) ((x240006.take ((x240006.length : Int) : Int).toNat).drop ((wrap64 (x9 * t242)) : Int).toNat)).bind fun t246 => (if x8.length < 5864062014805 then (annuletref19_Split.l0 k x0 x6 (x8 ++ [t246]) (wrap64 (x9 + 1)) x240000 x240001 x240002 x240003 x240004 x240005 x240006) else (none))) else (none)) else (none)) else (none)) else (if 0 ≤ (wrap64 (x9 * t242)) then (if (wrap64 (x9 * t242)) ≤ (wrap64 ((wrap64 (x9 * t242)) + t243)) then (if (wrap64 ((wrap64 (x9 * t242)) + t243)) ≤ (x240006.length : Int) then ((annuletref18_Bytes.f k x240000 x240001 x240002 x240003 (IntKind.u16.wrap (x9)) (IntKind.u16.wrap (x6)) ((x240006.take ((wrap64 ((wrap64 (x9 * t242)) + t243)) : Int).toNat).drop ((wrap64 (x9 * t242)) : Int).toNat)).bind fun t254 => (if x8.length < 5864062014805 then (annuletref19_Split.l0 k x0 x6 (x8 ++ [t254]) (wrap64 (x9 + 1)) x240000 x240001 x240002 x240003 x240004 x240005 x240006) else (none))) else (none)) else (none)) else (none))))) else (some (x8, 0))
end
def annuletref19_Split.f (k : Nat) (a0 : Int) (a1_0 : Int) (a1_1 : Int) (a1_2 : Int) (a1_3 : Int) (a1_4 : Int) (a1_5 : Int) (l1_6 : List Int) : Option ((List (List Int)) × Int) := (annuletref19_Count.f k a0 (l1_6.length : Int)).bind fun bt240 => (if bt240.2 = 0 then (if a1_0 < 1 then (annuletref19_Split.j0 k a0 bt240.1 true a1_0 a1_1 a1_2 a1_3 a1_4 a1_5 l1_6) else (annuletref19_Split.j0 k a0 bt240.1 (decide (a1_0 > 2)) a1_0 a1_1 a1_2 a1_3 a1_4 a1_5 l1_6)) else (some (([] : List (List Int)), bt240.2)))
theorem annuletref19_Split.mono_l : ∀ k, (∀ y0 y1 y2 y3 y4 y5 y6 y7 y8 y9, LeO (annuletref19_Split.j0 k y0 y1 y2 y3 y4 y5 y6 y7 y8 y9) (annuletref19_Split.j0 (k + 1) y0 y1 y2 y3 y4 y5 y6 y7 y8 y9)) ∧ (∀ y0 y1 y2 y3 y4 y5 y6 y7 y8 y9 y10, LeO (annuletref19_Split.l0 k y0 y1 y2 y3 y4 y5 y6 y7 y8 y9 y10) (annuletref19_Split.l0 (k + 1) y0 y1 y2 y3 y4 y5 y6 y7 y8 y9 y10))
  | 0 => ⟨fun _ _ _ _ _ _ _ _ _ _ r h => by simp [annuletref19_Split.j0] at h, fun _ _ _ _ _ _ _ _ _ _ _ r h => by simp [annuletref19_Split.l0] at h⟩
  | k + 1 => by
    obtain ⟨ih0, ih1⟩ := annuletref19_Split.mono_l k
    refine ⟨?_, ?_⟩
    · intro y0 y1 y2 y3 y4 y5 y6 y7 y8 y9
      unfold annuletref19_Split.j0
      repeat' first
      | (with_reducible exact ih0 _ _ _ _ _ _ _ _ _ _)
      | (with_reducible exact ih1 _ _ _ _ _ _ _ _ _ _ _)
      | (with_reducible exact annuletref18_Bytes.mono _ _ _ _ _ _ _ _)
      | (with_reducible exact annuletref19_Count.mono _ _ _)
      | (with_reducible exact LeO.refl _)
      | (with_reducible exact LeO.none _)
      | (with_reducible refine LeO.ite ?_ ?_)
      | (with_reducible refine LeO.bind ?_ (fun _ => ?_))
      | exact ih0 _ _ _ _ _ _ _ _ _ _
      | exact ih1 _ _ _ _ _ _ _ _ _ _ _
      | exact annuletref18_Bytes.mono _ _ _ _ _ _ _ _
      | exact annuletref19_Count.mono _ _ _
      | exact LeO.none _
      | refine LeO.ite ?_ ?_
      | refine LeO.bind ?_ (fun _ => ?_)
    · intro y0 y1 y2 y3 y4 y5 y6 y7 y8 y9 y10
      unfold annuletref19_Split.l0
      repeat' first
      | (with_reducible exact ih0 _ _ _ _ _ _ _ _ _ _)
      | (with_reducible exact ih1 _ _ _ _ _ _ _ _ _ _ _)
      | (with_reducible exact annuletref18_Bytes.mono _ _ _ _ _ _ _ _)
      | (with_reducible exact annuletref19_Count.mono _ _ _)
      | (with_reducible exact LeO.refl _)
      | (with_reducible exact LeO.none _)
      | (with_reducible refine LeO.ite ?_ ?_)
      | (with_reducible refine LeO.bind ?_ (fun _ => ?_))
      | exact ih0 _ _ _ _ _ _ _ _ _ _
      | exact ih1 _ _ _ _ _ _ _ _ _ _ _
      | exact annuletref18_Bytes.mono _ _ _ _ _ _ _ _
      | exact annuletref19_Count.mono _ _ _
      | exact LeO.none _
      | refine LeO.ite ?_ ?_
      | refine LeO.bind ?_ (fun _ => ?_)
theorem annuletref19_Split.mono : ∀ a0 a1 a2 a3 a4 a5 a6 a7 k, LeO (annuletref19_Split.f k a0 a1 a2 a3 a4 a5 a6 a7) (annuletref19_Split.f (k + 1) a0 a1 a2 a3 a4 a5 a6 a7) := by
  intro a0 a1 a2 a3 a4 a5 a6 a7 k
  obtain ⟨ih0, ih1⟩ := annuletref19_Split.mono_l k
  unfold annuletref19_Split.f
  repeat' first
      | (with_reducible exact ih0 _ _ _ _ _ _ _ _ _ _)
      | (with_reducible exact ih1 _ _ _ _ _ _ _ _ _ _ _)
      | (with_reducible exact annuletref18_Bytes.mono _ _ _ _ _ _ _ _)
      | (with_reducible exact annuletref19_Count.mono _ _ _)
      | (with_reducible exact LeO.refl _)
      | (with_reducible exact LeO.none _)
      | (with_reducible refine LeO.ite ?_ ?_)
      | (with_reducible refine LeO.bind ?_ (fun _ => ?_))
      | exact ih0 _ _ _ _ _ _ _ _ _ _
      | exact ih1 _ _ _ _ _ _ _ _ _ _ _
      | exact annuletref18_Bytes.mono _ _ _ _ _ _ _ _
      | exact annuletref19_Count.mono _ _ _
      | exact LeO.none _
      | refine LeO.ite ?_ ?_
      | refine LeO.bind ?_ (fun _ => ?_)
def annuletref19_Split.T14 : Bool × List (List Nat × List Nat) := (true, [([], []), ([0], [0]), ([], []), ([2], [2]), ([], []), ([4], [4]), ([], []), ([6], [6]), ([], []), ([8], [8]), ([], []), ([10], [10]), ([], []), ([12], [12]), ([], []), ([], []), ([13, 14, 15], [13, 14, 15]), ([1, 3, 5, 7, 9, 11, 16], [1, 3, 5, 7, 9, 11, 16]), ([], []), ([18, 17, 0, 1, 2, 3, 4, 5, 6, 7, 8, 9, 10, 11, 12, 13, 14, 15, 16, 17, 18], [17, 18])])
def annuletref19_Split.B14 : List Nat := [0, 1, 0, 4, 0, 16, 0, 64, 0, 256, 0, 1024, 0, 4096, 0, 0, 61440, 131071, 0, 524287]
theorem annuletref19_Split.tab14 : rtab .any (opsOf Try.f12 14) = annuletref19_Split.T14 := by kernel_rfl
theorem annuletref19_Split.bits14 : waitsOk annuletref19_Split.T14.2 annuletref19_Split.B14 = true := by kernel_rfl
set_option maxHeartbeats 3000000 in
set_option maxRecDepth 100000 in
theorem annuletref19_Split.calls (k : Nat) (a0 : Int) (a1_0 : Int) (a1_1 : Int) (a1_2 : Int) (a1_3 : Int) (a1_4 : Int) (a1_5 : Int) (A1_6 : Option Addr) (c1_6 : Nat) (l1_6 : List Int) (r1 : List (List Int)) (r2 : Int) (w : World) (hr1_6 : Kd.C (Kd.int .u8) w A1_6 l1_6.length l1_6) (hc1_6 : l1_6.length ≤ c1_6) (h : annuletref19_Split.f k a0 a1_0 a1_1 a1_2 a1_3 a1_4 a1_5 l1_6 = some (r1, r2)) :
    Calls Try.prog 12 #[.int .i64 a0, .agg #[.int .u8 a1_0, .int .u8 a1_1, .int .u32 a1_2, .int .u32 a1_3, .int .u16 a1_4, .int .u16 a1_5, .slice A1_6 l1_6.length c1_6]] w fun e w' => ∃ v0_ : Value, e = .returned (.tuple #[v0_, .int .i64 r2]) ∧ Kd.S (Kd.slice 5 (Kd.int .u8)) 30 w' w.heap.size (fun _ => True) v0_ r1 ∧ Below w.heap.size w w' := by
  have hu32 := Try.underlying32
  have HR1_6 := Aside0.mk hr1_6
  have HC1_6 := Aside0.mk hc1_6
  clear hr1_6 hc1_6
  have HB := Aside0.mk (Below.refl w.heap.size w)
  have H : ((annuletref19_Count.f k a0 (l1_6.length : Int)).bind fun bt240 => (if bt240.2 = 0 then (if a1_0 < 1 then (annuletref19_Split.j0 k a0 bt240.1 true a1_0 a1_1 a1_2 a1_3 a1_4 a1_5 l1_6) else (annuletref19_Split.j0 k a0 bt240.1 (decide (a1_0 > 2)) a1_0 a1_1 a1_2 a1_3 a1_4 a1_5 l1_6)) else (some (([] : List (List Int)), bt240.2)))) = some (r1, r2) := h
  clear h
  replace H := Option.bind_eq_some_iff.mp H
  obtain ⟨⟨t240, t241⟩, A30, H⟩ := H
  replace H : (if t241 = 0 then (if a1_0 < 1 then (annuletref19_Split.j0 k a0 t240 true a1_0 a1_1 a1_2 a1_3 a1_4 a1_5 l1_6) else (annuletref19_Split.j0 k a0 t240 (decide (a1_0 > 2)) a1_0 a1_1 a1_2 a1_3 a1_4 a1_5 l1_6)) else (some (([] : List (List Int)), t241))) = some (r1, r2) := H
  have A3 := Aside0.mk A30
  clear A30
  by_cases c4 : t241 = 0
  · rw [if_pos c4] at H
    have c4b0 : (t241 == 0) = true := beq_iff_eq.mpr c4
    have c4b1 : (t241 != 0) = false := bne_eq_false_iff_eq.mpr c4
    clear c4
    have HC5 := Aside0.mk H
    clear H
    go_enter Try.func12, Try.ntmps12
    go_upto_region 4 with (first | ((with_reducible refine gate_dst (N := 3) rfl ?_); refine box_event ?hg (N := 3) ?hd (cs := #[.int .u8 a1_0, .int .u8 a1_1, .int .u32 a1_2, .int .u32 a1_3, .int .u16 a1_4, .int .u16 a1_5, .slice A1_6 l1_6.length c1_6]) (t := 32) ?hr ?_; (case hd => rfl); (case hg => rfl); (case hr => first | (go_simp; done) | (go_simp; rfl)); intro gb239 hg w6 hbox hb; have n0_ := Aside0.mk (below_step (by repeat (first | (with_reducible first | exact HB.out | apply below_alloc | apply pw_below_drewN | apply below_drew1) | exact HB.out)) hb); have n1_ := Aside0.mk (hbox); have n2_ := Aside0.mk ((by rw [hg]; exact (below_size (by repeat (first | (with_reducible first | exact HB.out | apply below_alloc | apply pw_below_drewN | apply below_drew1) | exact HB.out))) : w.heap.size ≤ gb239)); have n3_ := Aside0.mk ((by rw [hg]; exact (below_size (by repeat (first | (with_reducible first | exact HB.out | apply below_alloc | apply pw_below_drewN | apply below_drew1) | exact HB.out))) : w.heap.size ≤ gb239)); clear HB; have HB := n0_; have BK239 := n1_; have GW239 := n2_; have GE239 := n3_; clear n0_ n1_ n2_ n3_; clear hb hbox hg; have hcz7_0 : w6.cell? ⟨gb239, 0, none⟩ = some (.int .u8 a1_0) := (blk_cell BK239.out 0).trans rfl; have hcz7_1 : w6.cell? ⟨gb239, 1, none⟩ = some (.int .u8 a1_1) := (blk_cell BK239.out 1).trans rfl; have hcz7_2 : w6.cell? ⟨gb239, 2, none⟩ = some (.int .u32 a1_2) := (blk_cell BK239.out 2).trans rfl; have hcz7_3 : w6.cell? ⟨gb239, 3, none⟩ = some (.int .u32 a1_3) := (blk_cell BK239.out 3).trans rfl; have hcz7_4 : w6.cell? ⟨gb239, 4, none⟩ = some (.int .u16 a1_4) := (blk_cell BK239.out 4).trans rfl; have hcz7_5 : w6.cell? ⟨gb239, 5, none⟩ = some (.int .u16 a1_5) := (blk_cell BK239.out 5).trans rfl; have hcz7_6 : w6.cell? ⟨gb239, 6, none⟩ = some (.slice A1_6 l1_6.length c1_6) := (blk_cell BK239.out 6).trans rfl; have hfz7_0 := blk_frozen BK239.out 0; have hfz7_1 := blk_frozen BK239.out 1; have hfz7_2 := blk_frozen BK239.out 2; have hfz7_3 := blk_frozen BK239.out 3; have hfz7_4 := blk_frozen BK239.out 4; have hfz7_5 := blk_frozen BK239.out 5; have hfz7_6 := blk_frozen BK239.out 6) | ((with_reducible refine gate_callee (f := 7) rfl ?_); refine goesL_ (some 18) rfl rfl Try.func7 (by kernel_rfl) rfl #[.int .i64 a0, .int .i64 (l1_6.length : Int)] rfl (by (try simp only [List.map_toArray, List.map_cons, List.map_nil]); first | done | rfl | (simp only [List.length_drop, List.length_take]; rfl)) ?_; (with_reducible refine (annuletref19_Count.calls k a0 (l1_6.length : Int) t240 t241 _ A3.out).mono ?_); rintro e w' ⟨rfl, ⟨nd, rfl⟩⟩; refine ⟨_, rfl, ?_⟩))
    (try simp only [Act.put, List.setIfInBounds_toArray, List.set_cons_zero, List.set_cons_succ])
    go_cut [31] (fun v31 wc => ∃ (kq : Nat) (x31_4 : Bool), v31 = .bool x31_4 ∧ Aside0 (annuletref19_Split.j0 kq a0 t240 x31_4 a1_0 a1_1 a1_2 a1_3 a1_4 a1_5 l1_6 = some (r1, r2)) ∧ Aside0 (kq ≤ k) ∧ Aside0 (wc.heap[gb239]? = some (.cells #[.int .u8 a1_0, .int .u8 a1_1, .int .u32 a1_2, .int .u32 a1_3, .int .u16 a1_4, .int .u16 a1_5, (.slice A1_6 l1_6.length c1_6)] 32 (0, 0))) ∧ Aside0 (Below w.heap.size w wc))
    case first =>
      have H := HC5.out
      clear HC5
      by_cases c8 : a1_0 < 1
      · rw [if_pos c8] at H
        have c8b0 : decide (a1_0 < 1) = true := decide_eq_true c8
        clear c8
        (first | rw [c8b0] | (simp only [i64_w, i32_w]; rw [c8b0]) | skip)
        have H' := Aside0.mk H
        clear H
        have hcz9_0 : w6.cell? ⟨gb239, 0, none⟩ = some (.int .u8 a1_0) := (blk_cell BK239.out 0).trans rfl
        have hcz9_1 : w6.cell? ⟨gb239, 1, none⟩ = some (.int .u8 a1_1) := (blk_cell BK239.out 1).trans rfl
        have hcz9_2 : w6.cell? ⟨gb239, 2, none⟩ = some (.int .u32 a1_2) := (blk_cell BK239.out 2).trans rfl
        have hcz9_3 : w6.cell? ⟨gb239, 3, none⟩ = some (.int .u32 a1_3) := (blk_cell BK239.out 3).trans rfl
        have hcz9_4 : w6.cell? ⟨gb239, 4, none⟩ = some (.int .u16 a1_4) := (blk_cell BK239.out 4).trans rfl
        have hcz9_5 : w6.cell? ⟨gb239, 5, none⟩ = some (.int .u16 a1_5) := (blk_cell BK239.out 5).trans rfl
        have hcz9_6 : w6.cell? ⟨gb239, 6, none⟩ = some (.slice A1_6 l1_6.length c1_6) := (blk_cell BK239.out 6).trans rfl
        have hfz9_0 := blk_frozen BK239.out 0
        have hfz9_1 := blk_frozen BK239.out 1
        have hfz9_2 := blk_frozen BK239.out 2
        have hfz9_3 := blk_frozen BK239.out 3
        have hfz9_4 := blk_frozen BK239.out 4
        have hfz9_5 := blk_frozen BK239.out 5
        have hfz9_6 := blk_frozen BK239.out 6
        go_wp2
        go_meet
        case rel => exact ⟨_, (true), (by first | rfl | (simp; done) | (simp [*]; done)), H', ⟨by first | omega | exact Nat.le_refl _⟩, ⟨by (with_reducible repeat (first | refine blk_drewN ?_ _ | refine blk_drew ?_ | refine blk_alloc ?_ _)); exact BK239.out⟩, ⟨by repeat (first | (with_reducible first | exact HB.out | apply below_alloc | apply pw_below_drewN | apply below_drew1 | refine below_set ?_ GE239.out) | exact HB.out)⟩⟩
      · rw [if_neg c8] at H
        have c8b0 : decide (a1_0 < 1) = false := decide_eq_false c8
        clear c8
        (first | rw [c8b0] | (simp only [i64_w, i32_w]; rw [c8b0]) | skip)
        have H' := Aside0.mk H
        clear H
        have hcz10_0 : w6.cell? ⟨gb239, 0, none⟩ = some (.int .u8 a1_0) := (blk_cell BK239.out 0).trans rfl
        have hcz10_1 : w6.cell? ⟨gb239, 1, none⟩ = some (.int .u8 a1_1) := (blk_cell BK239.out 1).trans rfl
        have hcz10_2 : w6.cell? ⟨gb239, 2, none⟩ = some (.int .u32 a1_2) := (blk_cell BK239.out 2).trans rfl
        have hcz10_3 : w6.cell? ⟨gb239, 3, none⟩ = some (.int .u32 a1_3) := (blk_cell BK239.out 3).trans rfl
        have hcz10_4 : w6.cell? ⟨gb239, 4, none⟩ = some (.int .u16 a1_4) := (blk_cell BK239.out 4).trans rfl
        have hcz10_5 : w6.cell? ⟨gb239, 5, none⟩ = some (.int .u16 a1_5) := (blk_cell BK239.out 5).trans rfl
        have hcz10_6 : w6.cell? ⟨gb239, 6, none⟩ = some (.slice A1_6 l1_6.length c1_6) := (blk_cell BK239.out 6).trans rfl
        have hfz10_0 := blk_frozen BK239.out 0
        have hfz10_1 := blk_frozen BK239.out 1
        have hfz10_2 := blk_frozen BK239.out 2
        have hfz10_3 := blk_frozen BK239.out 3
        have hfz10_4 := blk_frozen BK239.out 4
        have hfz10_5 := blk_frozen BK239.out 5
        have hfz10_6 := blk_frozen BK239.out 6
        go_wp2
        go_meet
        case rel => exact ⟨_, (decide (a1_0 > 2)), (by first | rfl | (simp; done) | (simp [*]; done)), H', ⟨by first | omega | exact Nat.le_refl _⟩, ⟨by (with_reducible repeat (first | refine blk_drewN ?_ _ | refine blk_drew ?_ | refine blk_alloc ?_ _)); exact BK239.out⟩, ⟨by repeat (first | (with_reducible first | exact HB.out | apply below_alloc | apply pw_below_drewN | apply below_drew1 | refine below_set ?_ GE239.out) | exact HB.out)⟩⟩
    case rest =>
      clear HC5
      try clear c1
      try clear p2
      try clear c4
      try clear c4b0
      try clear c4b1
      try clear c7
      try clear c8
      try clear c8b0
      try clear hcz10_0
      try clear hcz10_1
      try clear hcz10_2
      try clear hcz10_3
      try clear hcz10_4
      try clear hcz10_5
      try clear hcz10_6
      try clear hcz7_0
      try clear hcz7_1
      try clear hcz7_2
      try clear hcz7_3
      try clear hcz7_4
      try clear hcz7_5
      try clear hcz7_6
      try clear hcz9_0
      try clear hcz9_1
      try clear hcz9_2
      try clear hcz9_3
      try clear hcz9_4
      try clear hcz9_5
      try clear hcz9_6
      try clear hfz10_0
      try clear hfz10_1
      try clear hfz10_2
      try clear hfz10_3
      try clear hfz10_4
      try clear hfz10_5
      try clear hfz10_6
      try clear hfz7_0
      try clear hfz7_1
      try clear hfz7_2
      try clear hfz7_3
      try clear hfz7_4
      try clear hfz7_5
      try clear hfz7_6
      try clear hfz9_0
      try clear hfz9_1
      try clear hfz9_2
      try clear hfz9_3
      try clear hfz9_4
      try clear hfz9_5
      try clear hfz9_6
      obtain ⟨kq, x31_4, rfl, HA, HJ4, BK239, HB⟩ := hcut
      cases kq with
      | zero => exact absurd HA.out (by simp [annuletref19_Split.j0])
      | succ kj4 =>
        have H := HA.out
        clear HA
        simp only [annuletref19_Split.j0] at H
        by_cases c11 : x31_4 = true
        · subst c11
          have H1 : (some (([] : List (List Int)), 9)) = some (r1, r2) := by rw [if_pos rfl] at H; exact H
          clear H
          have H := H1
          clear H1
          simp only [Option.some.injEq, Prod.mk.injEq] at H
          obtain ⟨rfl, rfl⟩ := H
          go_wp2
          all_goals go_ret2
          all_goals first | (exact ⟨_, by first | rfl | (simp [errW_none, errW_some] <;> rfl) | (simp [*, errW_none, errW_some] <;> rfl), by first | exact Kd.S_nil _ _ _ _ _ | exact Kd.N_nil _ _ _ _ _ | exact Kd.V_nil _ _ _ _ _ | exact Kd.Q_nil _ _ _ _ _ | exact Kd.R_nil _ _ _ _ _, by repeat (first | (with_reducible first | exact HB.out | apply below_alloc | apply pw_below_drewN | apply below_drew1 | refine below_set ?_ GE239.out) | exact HB.out)⟩) | (exfalso; simp_all; done)
        · replace c11 := Bool.eq_false_iff.mpr c11
          subst c11
          have H1 : (annuletref19_Split.l0 kj4 a0 t240 ([] : List (List Int)) 0 a1_0 a1_1 a1_2 a1_3 a1_4 a1_5 l1_6) = some (r1, r2) := by rw [if_neg (show ¬ (false = true) by decide)] at H; exact H
          clear H
          have H := H1
          clear H1
          have H' := Aside0.mk H
          clear H
          go_wp2
          go_loopg [8, 9] kj4 (fun kq v8 v9 w' => ∃ (x8_2 : List (List Int)) (x9_2 : Int), v9 = .int .i64 x9_2 ∧ Aside0 (annuletref19_Split.l0 kq a0 t240 x8_2 x9_2 a1_0 a1_1 a1_2 a1_3 a1_4 a1_5 l1_6 = some (r1, r2)) ∧ Aside0 (kq ≤ kj4) ∧ Aside0 (Kd.S (Kd.slice 5 (Kd.int .u8)) 30 w' w.heap.size (fun _ => True) v8 x8_2) ∧ Aside0 (w'.heap[gb239]? = some (.cells #[.int .u8 a1_0, .int .u8 a1_1, .int .u32 a1_2, .int .u32 a1_3, .int .u16 a1_4, .int .u16 a1_5, (.slice A1_6 l1_6.length c1_6)] 32 (0, 0))) ∧ Aside0 (Below w.heap.size w w'))
          case atStart => exact ⟨(([] : List (List Int))), (0), (by first | rfl | (simp; done) | (simp [*]; done)), H', ⟨Nat.le_refl _⟩, ⟨by first | exact Kd.S_nil _ _ _ _ _ | exact Kd.N_nil _ _ _ _ _ | exact Kd.V_nil _ _ _ _ _ | exact Kd.Q_nil _ _ _ _ _ | exact Kd.R_nil _ _ _ _ _⟩, ⟨by (with_reducible repeat (first | refine blk_drewN ?_ _ | refine blk_drew ?_ | refine blk_alloc ?_ _)); exact BK239.out⟩, ⟨by repeat (first | (with_reducible first | exact HB.out | apply below_alloc | apply pw_below_drewN | apply below_drew1 | refine below_set ?_ GE239.out) | exact HB.out)⟩⟩
          case round =>
            clear H'
            try clear c1
            try clear p2
            try clear c4
            try clear c4b0
            try clear c4b1
            try clear c7
            try clear c8
            try clear c8b0
            try clear c11
            try clear hcz10_0
            try clear hcz10_1
            try clear hcz10_2
            try clear hcz10_3
            try clear hcz10_4
            try clear hcz10_5
            try clear hcz10_6
            try clear hcz7_0
            try clear hcz7_1
            try clear hcz7_2
            try clear hcz7_3
            try clear hcz7_4
            try clear hcz7_5
            try clear hcz7_6
            try clear hcz9_0
            try clear hcz9_1
            try clear hcz9_2
            try clear hcz9_3
            try clear hcz9_4
            try clear hcz9_5
            try clear hcz9_6
            try clear hfz10_0
            try clear hfz10_1
            try clear hfz10_2
            try clear hfz10_3
            try clear hfz10_4
            try clear hfz10_5
            try clear hfz10_6
            try clear hfz7_0
            try clear hfz7_1
            try clear hfz7_2
            try clear hfz7_3
            try clear hfz7_4
            try clear hfz7_5
            try clear hfz7_6
            try clear hfz9_0
            try clear hfz9_1
            try clear hfz9_2
            try clear hfz9_3
            try clear hfz9_4
            try clear hfz9_5
            try clear hfz9_6
            try clear p2
            obtain ⟨x8_2, x9_2, rfl, HA, HK2, HO_8, BK239, HB⟩ := hrel
            cases gk with
            | zero => exact absurd HA.out (by simp [annuletref19_Split.l0])
            | succ k2 =>
              have H := HA.out
              clear HA
              simp only [annuletref19_Split.l0] at H
              by_cases c12 : x9_2 < t240
              · rw [if_pos c12] at H
                have c12b0 : decide (x9_2 < t240) = true := decide_eq_true c12
                clear c12
                replace H := Option.bind_eq_some_iff.mp H
                obtain ⟨t242, A130, H⟩ := H
                replace H : ((annuletref19_Room.f a0).bind fun t243 => (if (wrap64 ((wrap64 (x9_2 * t242)) + t243)) > (l1_6.length : Int) then (if 0 ≤ (wrap64 (x9_2 * t242)) then (if (wrap64 (x9_2 * t242)) ≤ (l1_6.length : Int) then (if (l1_6.length : Int) ≤ (l1_6.length : Int) then ((annuletref18_Bytes.f k2 a1_0 a1_1 a1_2 a1_3 (IntKind.u16.wrap (x9_2)) (IntKind.u16.wrap (t240)) ((l1_6.take ((l1_6.length : Int) : Int).toNat).drop ((wrap64 (x9_2 * t242)) : Int).toNat)).bind fun t246 => (if x8_2.length < 5864062014805 then (annuletref19_Split.l0 k2 a0 t240 (x8_2 ++ [t246]) (wrap64 (x9_2 + 1)) a1_0 a1_1 a1_2 a1_3 a1_4 a1_5 l1_6) else (none))) else (none)) else (none)) else (none)) else (if 0 ≤ (wrap64 (x9_2 * t242)) then (if (wrap64 (x9_2 * t242)) ≤ (wrap64 ((wrap64 (x9_2 * t242)) + t243)) then (if (wrap64 ((wrap64 (x9_2 * t242)) + t243)) ≤ (l1_6.length : Int) then ((annuletref18_Bytes.f k2 a1_0 a1_1 a1_2 a1_3 (IntKind.u16.wrap (x9_2)) (IntKind.u16.wrap (t240)) ((l1_6.take ((wrap64 ((wrap64 (x9_2 * t242)) + t243)) : Int).toNat).drop ((wrap64 (x9_2 * t242)) : Int).toNat)).bind fun t254 => (if x8_2.length < 5864062014805 then (annuletref19_Split.l0 k2 a0 t240 (x8_2 ++ [t254]) (wrap64 (x9_2 + 1)) a1_0 a1_1 a1_2 a1_3 a1_4 a1_5 l1_6) else (none))) else (none)) else (none)) else (none)))) = some (r1, r2) := H
                have A13 := Aside0.mk A130
                clear A130
                replace H := Option.bind_eq_some_iff.mp H
                obtain ⟨t243, A140, H⟩ := H
                replace H : (if (wrap64 ((wrap64 (x9_2 * t242)) + t243)) > (l1_6.length : Int) then (if 0 ≤ (wrap64 (x9_2 * t242)) then (if (wrap64 (x9_2 * t242)) ≤ (l1_6.length : Int) then (if (l1_6.length : Int) ≤ (l1_6.length : Int) then ((annuletref18_Bytes.f k2 a1_0 a1_1 a1_2 a1_3 (IntKind.u16.wrap (x9_2)) (IntKind.u16.wrap (t240)) ((l1_6.take ((l1_6.length : Int) : Int).toNat).drop ((wrap64 (x9_2 * t242)) : Int).toNat)).bind fun t246 => (if x8_2.length < 5864062014805 then (annuletref19_Split.l0 k2 a0 t240 (x8_2 ++ [t246]) (wrap64 (x9_2 + 1)) a1_0 a1_1 a1_2 a1_3 a1_4 a1_5 l1_6) else (none))) else (none)) else (none)) else (none)) else (if 0 ≤ (wrap64 (x9_2 * t242)) then (if (wrap64 (x9_2 * t242)) ≤ (wrap64 ((wrap64 (x9_2 * t242)) + t243)) then (if (wrap64 ((wrap64 (x9_2 * t242)) + t243)) ≤ (l1_6.length : Int) then ((annuletref18_Bytes.f k2 a1_0 a1_1 a1_2 a1_3 (IntKind.u16.wrap (x9_2)) (IntKind.u16.wrap (t240)) ((l1_6.take ((wrap64 ((wrap64 (x9_2 * t242)) + t243)) : Int).toNat).drop ((wrap64 (x9_2 * t242)) : Int).toNat)).bind fun t254 => (if x8_2.length < 5864062014805 then (annuletref19_Split.l0 k2 a0 t240 (x8_2 ++ [t254]) (wrap64 (x9_2 + 1)) a1_0 a1_1 a1_2 a1_3 a1_4 a1_5 l1_6) else (none))) else (none)) else (none)) else (none))) = some (r1, r2) := H
                have A14 := Aside0.mk A140
                clear A140
                by_cases c15 : (wrap64 ((wrap64 (x9_2 * t242)) + t243)) > (l1_6.length : Int)
                · rw [if_pos c15] at H
                  have c15b0 : decide ((l1_6.length : Int) < (wrap64 ((wrap64 (x9_2 * t242)) + t243))) = true := decide_eq_true c15
                  clear c15
                  obtain ⟨ji16, hji16⟩ : ∃ j_ : Int, (wrap64 (x9_2 * t242)) = j_ := ⟨_, rfl⟩
                  replace H : (if 0 ≤ (ji16) then (if (ji16) ≤ (l1_6.length : Int) then (if (l1_6.length : Int) ≤ (l1_6.length : Int) then ((annuletref18_Bytes.f k2 a1_0 a1_1 a1_2 a1_3 (IntKind.u16.wrap (x9_2)) (IntKind.u16.wrap (t240)) ((l1_6.take ((l1_6.length : Int) : Int).toNat).drop ((ji16) : Int).toNat)).bind fun t246 => (if x8_2.length < 5864062014805 then (annuletref19_Split.l0 k2 a0 t240 (x8_2 ++ [t246]) (wrap64 (x9_2 + 1)) a1_0 a1_1 a1_2 a1_3 a1_4 a1_5 l1_6) else (none))) else (none)) else (none)) else (none)) = some (r1, r2) := by first | (rw [hji16] at H; exact H) | (simp only [hji16] at H ⊢; exact H)
                  (try rw [hji16] at c15b0)
                  (try rw [hji16] at A13)
                  (try rw [hji16] at A14)
                  have hji16w : (IntKind.i64.wrap (x9_2 * t242)) = ji16 := (i64_w _).trans hji16
                  by_cases c17 : 0 ≤ (ji16)
                  · rw [if_pos c17] at H
                    have c17b0 := eq_true c17
                    have c17b1 : decide (0 ≤ (ji16)) = true := decide_eq_true c17
                    clear c17
                    by_cases c18 : (ji16) ≤ (l1_6.length : Int)
                    · rw [if_pos c18] at H
                      have c18b0 := eq_true c18
                      have c18b1 : decide ((ji16) ≤ (l1_6.length : Int)) = true := decide_eq_true c18
                      clear c18
                      by_cases c19 : (l1_6.length : Int) ≤ (l1_6.length : Int)
                      · rw [if_pos c19] at H
                        have c19b0 := eq_true c19
                        have c19b1 : decide ((l1_6.length : Int) ≤ (l1_6.length : Int)) = true := decide_eq_true c19
                        clear c19
                        replace H := Option.bind_eq_some_iff.mp H
                        obtain ⟨t246, A200, H⟩ := H
                        replace H : (if x8_2.length < 5864062014805 then (annuletref19_Split.l0 k2 a0 t240 (x8_2 ++ [t246]) (wrap64 (x9_2 + 1)) a1_0 a1_1 a1_2 a1_3 a1_4 a1_5 l1_6) else (none)) = some (r1, r2) := H
                        have A20 := Aside0.mk A200
                        clear A200
                        by_cases c21 : x8_2.length < 5864062014805
                        · rw [if_pos c21] at H
                          have LMc21 := Aside0.mk c21
                          clear c21
                          obtain ⟨y249, hy249⟩ : ∃ y_ : List (List Int), y_ = (x8_2 ++ [t246]) := ⟨_, rfl⟩
                          replace H : (annuletref19_Split.l0 k2 a0 t240 y249 (wrap64 (x9_2 + 1)) a1_0 a1_1 a1_2 a1_3 a1_4 a1_5 l1_6) = some (r1, r2) := by first | (rw [hy249]; with_reducible exact H) | (have H2_ := (Option.bind_some _ _).symm.trans H; rw [hy249]; with_reducible exact H2_) | (have H2_ := (Option.bind_some _ _).symm.trans H; with_reducible exact H2_) | with_reducible exact H | (rw [hy249]; exact H) | exact H
                          have Ny249 := Aside0.mk hy249
                          clear hy249
                          have H' := Aside0.mk H
                          clear H
                          try go_wp2_with (first | ((with_reducible refine gate_callee (f := 9) rfl ?_); refine goesL_ (some 39) rfl rfl Try.func9 (by kernel_rfl) rfl #[.int .i64 a0] rfl (by (try simp only [List.map_toArray, List.map_cons, List.map_nil]); first | done | rfl | (simp only [List.length_drop, List.length_take]; rfl)) ?_; (with_reducible refine (annuletref19_Room.calls a0 t242 _ A13.out).mono ?_); rintro e w' ⟨rfl, ⟨nd, rfl⟩⟩; refine ⟨_, rfl, ?_⟩; (try (rw [drewN_self wr]; generalize hq_ : World.drewN wr _ = wr; have n0_ : Aside0 (Kd.S (Kd.slice 5 (Kd.int .u8)) 30 wr w.heap.size (fun _ => True) u8 x8_2) := ⟨by rw [← hq_]; exact (by (with_reducible repeat (first | apply Kd.S_alloc | apply Kd.S_drewN | apply Kd.S_drew)); exact HO_8.out)⟩; have n1_ : Aside0 (wr.heap[gb239]? = some (.cells #[.int .u8 a1_0, .int .u8 a1_1, .int .u32 a1_2, .int .u32 a1_3, .int .u16 a1_4, .int .u16 a1_5, .slice A1_6 l1_6.length c1_6] 32 (0, 0))) := ⟨by rw [← hq_]; exact (by (with_reducible repeat (first | refine blk_drewN ?_ _ | refine blk_drew ?_ | refine blk_alloc ?_ _)); exact BK239.out)⟩; have n2_ : Aside0 (Below w.heap.size w wr) := ⟨by rw [← hq_]; exact (by repeat (first | (with_reducible first | exact HB.out | apply below_alloc | apply pw_below_drewN | apply below_drew1 | refine below_set ?_ GE239.out) | exact HB.out))⟩; clear HO_8 BK239 HB hq_; have HO_8 := n0_; have BK239 := n1_; have HB := n2_; clear n0_ n1_ n2_))) | ((with_reducible refine gate_callee (f := 9) rfl ?_); refine goesL_ (some 43) rfl rfl Try.func9 (by kernel_rfl) rfl #[.int .i64 a0] rfl (by (try simp only [List.map_toArray, List.map_cons, List.map_nil]); first | done | rfl | (simp only [List.length_drop, List.length_take]; rfl)) ?_; (with_reducible refine (annuletref19_Room.calls a0 t243 _ A14.out).mono ?_); rintro e w' ⟨rfl, ⟨nd, rfl⟩⟩; refine ⟨_, rfl, ?_⟩; (try (rw [drewN_self wr]; generalize hq_ : World.drewN wr _ = wr; have n0_ : Aside0 (Kd.S (Kd.slice 5 (Kd.int .u8)) 30 wr w.heap.size (fun _ => True) u8 x8_2) := ⟨by rw [← hq_]; exact (by (with_reducible repeat (first | apply Kd.S_alloc | apply Kd.S_drewN | apply Kd.S_drew)); exact HO_8.out)⟩; have n1_ : Aside0 (wr.heap[gb239]? = some (.cells #[.int .u8 a1_0, .int .u8 a1_1, .int .u32 a1_2, .int .u32 a1_3, .int .u16 a1_4, .int .u16 a1_5, .slice A1_6 l1_6.length c1_6] 32 (0, 0))) := ⟨by rw [← hq_]; exact (by (with_reducible repeat (first | refine blk_drewN ?_ _ | refine blk_drew ?_ | refine blk_alloc ?_ _)); exact BK239.out)⟩; have n2_ : Aside0 (Below w.heap.size w wr) := ⟨by rw [← hq_]; exact (by repeat (first | (with_reducible first | exact HB.out | apply below_alloc | apply pw_below_drewN | apply below_drew1 | refine below_set ?_ GE239.out) | exact HB.out))⟩; clear HO_8 BK239 HB hq_; have HO_8 := n0_; have BK239 := n1_; have HB := n2_; clear n0_ n1_ n2_)); have hcz22_0 : wr.cell? ⟨gb239, 0, none⟩ = some (.int .u8 a1_0) := (blk_cell BK239.out 0).trans rfl; have hcz22_1 : wr.cell? ⟨gb239, 1, none⟩ = some (.int .u8 a1_1) := (blk_cell BK239.out 1).trans rfl; have hcz22_2 : wr.cell? ⟨gb239, 2, none⟩ = some (.int .u32 a1_2) := (blk_cell BK239.out 2).trans rfl; have hcz22_3 : wr.cell? ⟨gb239, 3, none⟩ = some (.int .u32 a1_3) := (blk_cell BK239.out 3).trans rfl; have hcz22_4 : wr.cell? ⟨gb239, 4, none⟩ = some (.int .u16 a1_4) := (blk_cell BK239.out 4).trans rfl; have hcz22_5 : wr.cell? ⟨gb239, 5, none⟩ = some (.int .u16 a1_5) := (blk_cell BK239.out 5).trans rfl; have hcz22_6 : wr.cell? ⟨gb239, 6, none⟩ = some (.slice A1_6 l1_6.length c1_6) := (blk_cell BK239.out 6).trans rfl; have hfz22_0 := blk_frozen BK239.out 0; have hfz22_1 := blk_frozen BK239.out 1; have hfz22_2 := blk_frozen BK239.out 2; have hfz22_3 := blk_frozen BK239.out 3; have hfz22_4 := blk_frozen BK239.out 4; have hfz22_5 := blk_frozen BK239.out 5; have hfz22_6 := blk_frozen BK239.out 6))
                          have n0_ := Aside0.mk (Kd.S_drew HO_8.out)
                          have n1_ := Aside0.mk (blk_drew BK239.out)
                          have n2_ := Aside0.mk (below_drew1 HB.out)
                          clear HO_8
                          clear BK239
                          clear HB
                          have HO_8 := n0_
                          have BK239 := n1_
                          have HB := n2_
                          clear n0_ n1_ n2_
                          obtain ⟨i024, hi024, _, hsz24, _⟩ := info_parts info5
                          obtain ⟨A24, hcut24, hA24, hC24⟩ := print_mid_of (P := Try.prog) (Value.int .u8) 0 30 5 .i64 .i64 Try.underlying30 hi024 hsz24 A1_6 c1_6 l1_6 (ji16) (l1_6.length : Int) (of_decide_eq_true (by first | (with_reducible assumption) | assumption)) (by first | omega | exact of_decide_eq_true (by first | (with_reducible assumption) | assumption)) (of_decide_eq_true (by first | (with_reducible assumption) | assumption)) HC1_6.out
                          have HR244 := Aside0.mk (Kd.C_of_reads (h1 := fun _ => rfl) (hA24 _ (Kd.reads_of_C HR1_6.out)))
                          have HC244 := Aside0.mk hC24
                          clear hA24 hC24 hi024 hsz24
                          refine start_ (n := 20) (S := fun w' => w'.cell? ⟨gb239, 0, none⟩ = some (.int .u8 a1_0) ∧ w'.cell? ⟨gb239, 1, none⟩ = some (.int .u8 a1_1) ∧ w'.cell? ⟨gb239, 2, none⟩ = some (.int .u32 a1_2) ∧ w'.cell? ⟨gb239, 3, none⟩ = some (.int .u32 a1_3) ∧ w'.cell? ⟨gb239, 4, none⟩ = some (.int .u16 a1_4) ∧ w'.cell? ⟨gb239, 5, none⟩ = some (.int .u16 a1_5) ∧ w'.cell? ⟨gb239, 6, none⟩ = some (.slice A1_6 l1_6.length c1_6)) (ds := []) #[false, false, false, false, false, false, false, false, false, false, false, false, false, false, false, false, false, false, false, false] (by kernel_rfl) rfl rfl ⟨(blk_cell BK239.out 0).trans rfl, (blk_cell BK239.out 1).trans rfl, (blk_cell BK239.out 2).trans rfl, (blk_cell BK239.out 3).trans rfl, (blk_cell BK239.out 4).trans rfl, (blk_cell BK239.out 5).trans rfl, (blk_cell BK239.out 6).trans rfl⟩ (fun hHeld => ?_); refine with_tabW annuletref19_Split.tab14 annuletref19_Split.bits14 (fun HT_ HW_ => ?_)
                          generalize wr.drew = w23 at HO_8 BK239 HB HR244 hHeld ⊢
                          refine pure_ (i := 0) (N := some 53) (v := ?_) (a' := ?_) #[true, false, false, false, false, false, false, false, false, false, false, false, false, false, false, false, false, false, false, false] rfl rfl (any_of HT_.out (by kernel_rfl)) (fun _ _ _ h => h) (Or.inl ⟨by rfl, ?_⟩) ?_ ?_
                          rotate_left
                          · intro w'
                            go_simp
                            with_reducible rfl
                          rotate_left
                          · simp only [Act.put, List.setIfInBounds_toArray, List.set_cons_zero, List.set_cons_succ, i64_w, i32_w]
                            rfl
                          refine pure_ (i := 2) (N := some 55) (v := ?_) (a' := ?_) #[true, false, true, false, false, false, false, false, false, false, false, false, false, false, false, false, false, false, false, false] rfl rfl (any_of HT_.out (by kernel_rfl)) (fun _ _ _ h => h) (Or.inl ⟨by rfl, ?_⟩) ?_ ?_
                          rotate_left
                          · intro w'
                            go_simp
                            with_reducible rfl
                          rotate_left
                          · simp only [Act.put, List.setIfInBounds_toArray, List.set_cons_zero, List.set_cons_succ, i64_w, i32_w]
                            rfl
                          refine pure_ (i := 4) (N := some 57) (v := ?_) (a' := ?_) #[true, false, true, false, true, false, false, false, false, false, false, false, false, false, false, false, false, false, false, false] rfl rfl (any_of HT_.out (by kernel_rfl)) (fun _ _ _ h => h) (Or.inl ⟨by rfl, ?_⟩) ?_ ?_
                          rotate_left
                          · intro w'
                            go_simp
                            with_reducible rfl
                          rotate_left
                          · simp only [Act.put, List.setIfInBounds_toArray, List.set_cons_zero, List.set_cons_succ, i64_w, i32_w]
                            rfl
                          refine pure_ (i := 6) (N := some 59) (v := ?_) (a' := ?_) #[true, false, true, false, true, false, true, false, false, false, false, false, false, false, false, false, false, false, false, false] rfl rfl (any_of HT_.out (by kernel_rfl)) (fun _ _ _ h => h) (Or.inl ⟨by rfl, ?_⟩) ?_ ?_
                          rotate_left
                          · intro w'
                            go_simp
                            with_reducible rfl
                          rotate_left
                          · simp only [Act.put, List.setIfInBounds_toArray, List.set_cons_zero, List.set_cons_succ, i64_w, i32_w]
                            rfl
                          refine pure_ (i := 8) (N := some 61) (v := ?_) (a' := ?_) #[true, false, true, false, true, false, true, false, true, false, false, false, false, false, false, false, false, false, false, false] rfl rfl (any_of HT_.out (by kernel_rfl)) (fun _ _ _ h => h) (Or.inl ⟨by rfl, ?_⟩) ?_ ?_
                          rotate_left
                          · intro w'
                            go_simp
                            with_reducible rfl
                          rotate_left
                          · simp only [Act.put, List.setIfInBounds_toArray, List.set_cons_zero, List.set_cons_succ, i64_w, i32_w]
                            rfl
                          refine pure_ (i := 9) (N := some 62) (v := ?_) (a' := ?_) #[true, false, true, false, true, false, true, false, true, true, false, false, false, false, false, false, false, false, false, false] rfl rfl (any_of HT_.out (by kernel_rfl)) (fun _ _ _ h => h) (Or.inl ⟨by rfl, ?_⟩) ?_ ?_
                          rotate_left
                          · intro w'
                            go_simp
                            with_reducible rfl
                          rotate_left
                          · simp only [Act.put, List.setIfInBounds_toArray, List.set_cons_zero, List.set_cons_succ, i64_w, i32_w]
                            rfl
                          refine pure_ (i := 10) (N := some 63) (v := ?_) (a' := ?_) #[true, false, true, false, true, false, true, false, true, true, true, false, false, false, false, false, false, false, false, false] rfl rfl (any_of HT_.out (by kernel_rfl)) (fun _ _ _ h => h) (Or.inl ⟨by rfl, ?_⟩) ?_ ?_
                          rotate_left
                          · intro w'
                            go_simp
                            with_reducible rfl
                          rotate_left
                          · simp only [Act.put, List.setIfInBounds_toArray, List.set_cons_zero, List.set_cons_succ, i64_w, i32_w]
                            rfl
                          refine pure_ (i := 11) (N := some 64) (v := ?_) (a' := ?_) #[true, false, true, false, true, false, true, false, true, true, true, true, false, false, false, false, false, false, false, false] rfl rfl (any_of HT_.out (by kernel_rfl)) (fun _ _ _ h => h) (Or.inl ⟨by rfl, ?_⟩) ?_ ?_
                          rotate_left
                          · intro w'
                            go_simp
                            with_reducible rfl
                          rotate_left
                          · simp only [Act.put, List.setIfInBounds_toArray, List.set_cons_zero, List.set_cons_succ, i64_w, i32_w]
                            rfl
                          refine pure_ (i := 12) (N := some 65) (v := ?_) (a' := ?_) #[true, false, true, false, true, false, true, false, true, true, true, true, true, false, false, false, false, false, false, false] rfl rfl (any_of HT_.out (by kernel_rfl)) (fun _ _ _ h => h) (Or.inl ⟨by rfl, ?_⟩) ?_ ?_
                          rotate_left
                          · intro w'
                            go_simp
                            with_reducible rfl
                          rotate_left
                          · simp only [Act.put, List.setIfInBounds_toArray, List.set_cons_zero, List.set_cons_succ, i64_w, i32_w]
                            rfl
                          refine pure_ (i := 14) (N := some 67) (v := ?_) (a' := ?_) #[true, false, true, false, true, false, true, false, true, true, true, true, true, false, true, false, false, false, false, false] rfl rfl (any_of HT_.out (by kernel_rfl)) (fun _ _ _ h => h) (Or.inl ⟨by rfl, ?_⟩) ?_ ?_
                          rotate_left
                          · intro w'
                            go_simp
                            with_reducible rfl
                          rotate_left
                          · simp only [Act.put, List.setIfInBounds_toArray, List.set_cons_zero, List.set_cons_succ, i64_w, i32_w]
                            rfl
                          refine pure_ (i := 15) (N := some 68) (v := ?_) (a' := ?_) #[true, false, true, false, true, false, true, false, true, true, true, true, true, false, true, true, false, false, false, false] rfl rfl (any_of HT_.out (by kernel_rfl)) (fun _ _ _ h => h) (Or.inl ⟨by rfl, ?_⟩) ?_ ?_
                          rotate_left
                          · intro w'
                            go_simp
                            with_reducible rfl
                          rotate_left
                          · simp only [Act.put, List.setIfInBounds_toArray, List.set_cons_zero, List.set_cons_succ, i64_w, i32_w]
                            rfl
                          refine take_ (i := 1) (N := some 54) (v := ?_) (a' := ?_) #[true, true, true, false, true, false, true, false, true, true, true, true, true, false, true, true, false, false, false, false] rfl rfl (take_ofW HT_.out HW_.out (by kernel_rfl)) (fun _ _ _ h => h) (Or.inl ⟨by rfl, ?_⟩) hHeld ?_ ?_
                          rotate_left
                          · rintro w' ⟨s0, s1, s2, s3, s4, s5, s6⟩
                            go_simp
                            with_reducible rfl
                          rotate_left
                          · simp only [Act.put, List.setIfInBounds_toArray, List.set_cons_zero, List.set_cons_succ, i64_w, i32_w]
                            rfl
                          refine take_ (i := 3) (N := some 56) (v := ?_) (a' := ?_) #[true, true, true, true, true, false, true, false, true, true, true, true, true, false, true, true, false, false, false, false] rfl rfl (take_ofW HT_.out HW_.out (by kernel_rfl)) (fun _ _ _ h => h) (Or.inl ⟨by rfl, ?_⟩) hHeld ?_ ?_
                          rotate_left
                          · rintro w' ⟨s0, s1, s2, s3, s4, s5, s6⟩
                            go_simp
                            with_reducible rfl
                          rotate_left
                          · simp only [Act.put, List.setIfInBounds_toArray, List.set_cons_zero, List.set_cons_succ, i64_w, i32_w]
                            rfl
                          refine take_ (i := 5) (N := some 58) (v := ?_) (a' := ?_) #[true, true, true, true, true, true, true, false, true, true, true, true, true, false, true, true, false, false, false, false] rfl rfl (take_ofW HT_.out HW_.out (by kernel_rfl)) (fun _ _ _ h => h) (Or.inl ⟨by rfl, ?_⟩) hHeld ?_ ?_
                          rotate_left
                          · rintro w' ⟨s0, s1, s2, s3, s4, s5, s6⟩
                            go_simp
                            with_reducible rfl
                          rotate_left
                          · simp only [Act.put, List.setIfInBounds_toArray, List.set_cons_zero, List.set_cons_succ, i64_w, i32_w]
                            rfl
                          refine take_ (i := 7) (N := some 60) (v := ?_) (a' := ?_) #[true, true, true, true, true, true, true, true, true, true, true, true, true, false, true, true, false, false, false, false] rfl rfl (take_ofW HT_.out HW_.out (by kernel_rfl)) (fun _ _ _ h => h) (Or.inl ⟨by rfl, ?_⟩) hHeld ?_ ?_
                          rotate_left
                          · rintro w' ⟨s0, s1, s2, s3, s4, s5, s6⟩
                            go_simp
                            with_reducible rfl
                          rotate_left
                          · simp only [Act.put, List.setIfInBounds_toArray, List.set_cons_zero, List.set_cons_succ, i64_w, i32_w]
                            rfl
                          refine take_ (i := 13) (N := some 66) (v := ?_) (a' := ?_) #[true, true, true, true, true, true, true, true, true, true, true, true, true, true, true, true, false, false, false, false] rfl rfl (take_ofW HT_.out HW_.out (by kernel_rfl)) (fun _ _ _ h => h) (Or.inl ⟨by rfl, ?_⟩) hHeld ?_ ?_
                          rotate_left
                          · rintro w' ⟨s0, s1, s2, s3, s4, s5, s6⟩
                            go_simp
                            with_reducible rfl
                          rotate_left
                          · simp only [Act.put, List.setIfInBounds_toArray, List.set_cons_zero, List.set_cons_succ, i64_w, i32_w]
                            rfl
                          refine pure_ (i := 16) (N := some 69) (v := ?_) (a' := ?_) #[true, true, true, true, true, true, true, true, true, true, true, true, true, true, true, true, true, false, false, false] rfl rfl (any_of HT_.out (by kernel_rfl)) (fun _ _ _ h => h) (Or.inl ⟨by rfl, ?_⟩) ?_ ?_
                          rotate_left
                          · intro w'
                            go_simp
                            with_reducible rfl
                          rotate_left
                          · simp only [Act.put, List.setIfInBounds_toArray, List.set_cons_zero, List.set_cons_succ, i64_w, i32_w]
                            rfl
                          refine pure_ (i := 17) (N := some 70) (v := ?_) (a' := ?_) #[true, true, true, true, true, true, true, true, true, true, true, true, true, true, true, true, true, true, false, false] rfl rfl (any_of HT_.out (by kernel_rfl)) (fun _ _ _ h => h) (Or.inl ⟨by rfl, ?_⟩) ?_ ?_
                          rotate_left
                          · intro w'
                            go_simp
                            with_reducible rfl
                          rotate_left
                          · simp only [Act.put, List.setIfInBounds_toArray, List.set_cons_zero, List.set_cons_succ, i64_w, i32_w]
                            rfl
                          refine one_ (i := 18) (N := some 12) #[true, true, true, true, true, true, true, true, true, true, true, true, true, true, true, true, true, true, true, false] rfl rfl (one_of HT_.out (by kernel_rfl)) (by decide) (fun K hK => ?_)
                          refine box_step ?hg (N := 12) ?hd (cs := #[.int .u8 0, .int .u8 0, .int .u32 0, .int .u32 0, .int .u16 0, .int .u16 0, .slice none 0 0]) (t := 32) ?hr ?_; (case hd => rfl); (case hg => rfl); (case hr => first | (go_simp; done) | (go_simp; rfl))
                          intro gb245 hg w25 hbox hb
                          have n0_ := Aside0.mk (Kd.S_below (by (with_reducible repeat (first | apply Kd.S_alloc | apply Kd.S_drewN | apply Kd.S_drew)); exact HO_8.out) hb)
                          have n1_ := Aside0.mk (blk_below (g := gb239) (o := .cells #[.int .u8 a1_0, .int .u8 a1_1, .int .u32 a1_2, .int .u32 a1_3, .int .u16 a1_4, .int .u16 a1_5, .slice A1_6 l1_6.length c1_6] 32 (0, 0)) (by (with_reducible repeat (first | refine blk_drewN ?_ _ | refine blk_drew ?_ | refine blk_alloc ?_ _)); exact BK239.out) hb)
                          have n2_ := Aside0.mk (below_step (by repeat (first | (with_reducible first | exact HB.out | apply below_alloc | apply pw_below_drewN | apply below_drew1 | refine below_set ?_ GE239.out) | exact HB.out)) hb)
                          have n3_ := Aside0.mk (hbox)
                          have n4_ := Aside0.mk ((by rw [hg]; exact (below_size (by repeat (first | (with_reducible first | exact HB.out | apply below_alloc | apply pw_below_drewN | apply below_drew1 | refine below_set ?_ GE239.out) | exact HB.out))) : w.heap.size ≤ gb245))
                          have n5_ := Aside0.mk ((by rw [hg]; exact (below_size (by repeat (first | (with_reducible first | exact HB.out | apply below_alloc | apply pw_below_drewN | apply below_drew1 | refine below_set ?_ GE239.out) | exact HB.out))) : w.heap.size ≤ gb245))
                          have n6_ := Aside0.mk ((by rw [hg]; exact Nat.ne_of_lt (blk_lt (g := gb239) (o := .cells #[.int .u8 a1_0, .int .u8 a1_1, .int .u32 a1_2, .int .u32 a1_3, .int .u16 a1_4, .int .u16 a1_5, .slice A1_6 l1_6.length c1_6] 32 (0, 0)) (by (with_reducible repeat (first | refine blk_drewN ?_ _ | refine blk_drew ?_ | refine blk_alloc ?_ _)); exact BK239.out)) : gb239 ≠ gb245))
                          have n7_ := Aside0.mk ((by rw [hg]; exact Nat.ne_of_gt (blk_lt (g := gb239) (o := .cells #[.int .u8 a1_0, .int .u8 a1_1, .int .u32 a1_2, .int .u32 a1_3, .int .u16 a1_4, .int .u16 a1_5, .slice A1_6 l1_6.length c1_6] 32 (0, 0)) (by (with_reducible repeat (first | refine blk_drewN ?_ _ | refine blk_drew ?_ | refine blk_alloc ?_ _)); exact BK239.out)) : gb245 ≠ gb239))
                          clear HO_8
                          clear BK239
                          clear HB
                          have HO_8 := n0_
                          have BK239 := n1_
                          have HB := n2_
                          have BK245 := n3_
                          have GW245 := n4_
                          have GE245 := n5_
                          have NB239_245 := n6_
                          have NB245_239 := n7_
                          clear n0_ n1_ n2_ n3_ n4_ n5_ n6_ n7_
                          clear hb hbox hg
                          refine hK.out _ _ ⟨(blk_cell BK239.out 0).trans rfl, (blk_cell BK239.out 1).trans rfl, (blk_cell BK239.out 2).trans rfl, (blk_cell BK239.out 3).trans rfl, (blk_cell BK239.out 4).trans rfl, (blk_cell BK239.out 5).trans rfl, (blk_cell BK239.out 6).trans rfl⟩ (fun hHeld => ?_)
                          clear hK K
                          refine norm_ (a' := ?_) ?_ ?_
                          rotate_left
                          · show Act.put _ (some 12) _ = _
                            simp only [Act.put, List.setIfInBounds_toArray, List.set_cons_zero, List.set_cons_succ, i64_w, i32_w]
                            rfl
                          refine one_ (i := 19) (N := none) #[true, true, true, true, true, true, true, true, true, true, true, true, true, true, true, true, true, true, true, true] rfl rfl (one_of HT_.out (by kernel_rfl)) (by decide) (fun K hK => ?_)
                          have hs26 : w25.cell? ⟨gb245, 0, none⟩ = some (.int .u8 0) := (blk_cell BK245.out 0).trans rfl
                          have hfs26 := blk_frozen BK245.out 0
                          have hns26_0 := NB239_245.out
                          have hms26_0 := NB245_239.out
                          have hs27 : w25.cell? ⟨gb245, 1, none⟩ = some (.int .u8 0) := (blk_cell BK245.out 1).trans rfl
                          have hfs27 := blk_frozen BK245.out 1
                          have hns27_0 := NB239_245.out
                          have hms27_0 := NB245_239.out
                          have hs28 : w25.cell? ⟨gb245, 2, none⟩ = some (.int .u32 0) := (blk_cell BK245.out 2).trans rfl
                          have hfs28 := blk_frozen BK245.out 2
                          have hns28_0 := NB239_245.out
                          have hms28_0 := NB245_239.out
                          have hs29 : w25.cell? ⟨gb245, 3, none⟩ = some (.int .u32 0) := (blk_cell BK245.out 3).trans rfl
                          have hfs29 := blk_frozen BK245.out 3
                          have hns29_0 := NB239_245.out
                          have hms29_0 := NB245_239.out
                          have hs30 : w25.cell? ⟨gb245, 4, none⟩ = some (.int .u16 0) := (blk_cell BK245.out 4).trans rfl
                          have hfs30 := blk_frozen BK245.out 4
                          have hns30_0 := NB239_245.out
                          have hms30_0 := NB245_239.out
                          have hs31 : w25.cell? ⟨gb245, 5, none⟩ = some (.int .u16 0) := (blk_cell BK245.out 5).trans rfl
                          have hfs31 := blk_frozen BK245.out 5
                          have hns31_0 := NB239_245.out
                          have hms31_0 := NB245_239.out
                          have hs32 : w25.cell? ⟨gb245, 6, none⟩ = some (.slice none 0 0) := (blk_cell BK245.out 6).trans rfl
                          have hfs32 := blk_frozen BK245.out 6
                          have hns32_0 := NB239_245.out
                          have hms32_0 := NB245_239.out
                          refine skip_ (w1 := ?_) (by rfl) rfl ?_ ?_
                          rotate_left
                          · go_simp
                            rfl
                          refine hK.out _ _ ⟨((cell_far (p := ⟨gb245, _, none⟩) NB239_245.out _).trans (((cell_far (p := ⟨gb245, _, none⟩) NB239_245.out _).trans (((cell_far (p := ⟨gb245, _, none⟩) NB239_245.out _).trans (((cell_far (p := ⟨gb245, _, none⟩) NB239_245.out _).trans (((cell_far (p := ⟨gb245, _, none⟩) NB239_245.out _).trans (((cell_far (p := ⟨gb245, _, none⟩) NB239_245.out _).trans (((cell_far (p := ⟨gb245, _, none⟩) NB239_245.out _).trans (hHeld.1)))))))))))))), ((cell_far (p := ⟨gb245, _, none⟩) NB239_245.out _).trans (((cell_far (p := ⟨gb245, _, none⟩) NB239_245.out _).trans (((cell_far (p := ⟨gb245, _, none⟩) NB239_245.out _).trans (((cell_far (p := ⟨gb245, _, none⟩) NB239_245.out _).trans (((cell_far (p := ⟨gb245, _, none⟩) NB239_245.out _).trans (((cell_far (p := ⟨gb245, _, none⟩) NB239_245.out _).trans (((cell_far (p := ⟨gb245, _, none⟩) NB239_245.out _).trans (hHeld.2.1)))))))))))))), ((cell_far (p := ⟨gb245, _, none⟩) NB239_245.out _).trans (((cell_far (p := ⟨gb245, _, none⟩) NB239_245.out _).trans (((cell_far (p := ⟨gb245, _, none⟩) NB239_245.out _).trans (((cell_far (p := ⟨gb245, _, none⟩) NB239_245.out _).trans (((cell_far (p := ⟨gb245, _, none⟩) NB239_245.out _).trans (((cell_far (p := ⟨gb245, _, none⟩) NB239_245.out _).trans (((cell_far (p := ⟨gb245, _, none⟩) NB239_245.out _).trans (hHeld.2.2.1)))))))))))))), ((cell_far (p := ⟨gb245, _, none⟩) NB239_245.out _).trans (((cell_far (p := ⟨gb245, _, none⟩) NB239_245.out _).trans (((cell_far (p := ⟨gb245, _, none⟩) NB239_245.out _).trans (((cell_far (p := ⟨gb245, _, none⟩) NB239_245.out _).trans (((cell_far (p := ⟨gb245, _, none⟩) NB239_245.out _).trans (((cell_far (p := ⟨gb245, _, none⟩) NB239_245.out _).trans (((cell_far (p := ⟨gb245, _, none⟩) NB239_245.out _).trans (hHeld.2.2.2.1)))))))))))))), ((cell_far (p := ⟨gb245, _, none⟩) NB239_245.out _).trans (((cell_far (p := ⟨gb245, _, none⟩) NB239_245.out _).trans (((cell_far (p := ⟨gb245, _, none⟩) NB239_245.out _).trans (((cell_far (p := ⟨gb245, _, none⟩) NB239_245.out _).trans (((cell_far (p := ⟨gb245, _, none⟩) NB239_245.out _).trans (((cell_far (p := ⟨gb245, _, none⟩) NB239_245.out _).trans (((cell_far (p := ⟨gb245, _, none⟩) NB239_245.out _).trans (hHeld.2.2.2.2.1)))))))))))))), ((cell_far (p := ⟨gb245, _, none⟩) NB239_245.out _).trans (((cell_far (p := ⟨gb245, _, none⟩) NB239_245.out _).trans (((cell_far (p := ⟨gb245, _, none⟩) NB239_245.out _).trans (((cell_far (p := ⟨gb245, _, none⟩) NB239_245.out _).trans (((cell_far (p := ⟨gb245, _, none⟩) NB239_245.out _).trans (((cell_far (p := ⟨gb245, _, none⟩) NB239_245.out _).trans (((cell_far (p := ⟨gb245, _, none⟩) NB239_245.out _).trans (hHeld.2.2.2.2.2.1)))))))))))))), ((cell_far (p := ⟨gb245, _, none⟩) NB239_245.out _).trans (((cell_far (p := ⟨gb245, _, none⟩) NB239_245.out _).trans (((cell_far (p := ⟨gb245, _, none⟩) NB239_245.out _).trans (((cell_far (p := ⟨gb245, _, none⟩) NB239_245.out _).trans (((cell_far (p := ⟨gb245, _, none⟩) NB239_245.out _).trans (((cell_far (p := ⟨gb245, _, none⟩) NB239_245.out _).trans (((cell_far (p := ⟨gb245, _, none⟩) NB239_245.out _).trans (hHeld.2.2.2.2.2.2))))))))))))))⟩ (fun hHeld => ?_)
                          clear hK K
                          refine done_ (done_of HT_.out (by kernel_rfl)) ?_
                          have hnb33 := NB245_239.out
                          have hnc33 := NB239_245.out
                          have hcz34_0 : w25.cell? ⟨gb245, 0, none⟩ = some (.int .u8 0) := (blk_cell BK245.out 0).trans rfl
                          have hcz34_1 : w25.cell? ⟨gb245, 1, none⟩ = some (.int .u8 0) := (blk_cell BK245.out 1).trans rfl
                          have hcz34_2 : w25.cell? ⟨gb245, 2, none⟩ = some (.int .u32 0) := (blk_cell BK245.out 2).trans rfl
                          have hcz34_3 : w25.cell? ⟨gb245, 3, none⟩ = some (.int .u32 0) := (blk_cell BK245.out 3).trans rfl
                          have hcz34_4 : w25.cell? ⟨gb245, 4, none⟩ = some (.int .u16 0) := (blk_cell BK245.out 4).trans rfl
                          have hcz34_5 : w25.cell? ⟨gb245, 5, none⟩ = some (.int .u16 0) := (blk_cell BK245.out 5).trans rfl
                          have hcz34_6 : w25.cell? ⟨gb245, 6, none⟩ = some (.slice none 0 0) := (blk_cell BK245.out 6).trans rfl
                          have hfz34_0 := blk_frozen BK245.out 0
                          have hfz34_1 := blk_frozen BK245.out 1
                          have hfz34_2 := blk_frozen BK245.out 2
                          have hfz34_3 := blk_frozen BK245.out 3
                          have hfz34_4 := blk_frozen BK245.out 4
                          have hfz34_5 := blk_frozen BK245.out 5
                          have hfz34_6 := blk_frozen BK245.out 6
                          try go_wp2_with (first | ((with_reducible refine gate_callee (f := 16) rfl ?_); refine goesL_ (some 73) rfl rfl Try.func16 (by kernel_rfl) rfl #[.agg #[.int .u8 a1_0, .int .u8 a1_1, .int .u32 a1_2, .int .u32 a1_3, .int .u16 (IntKind.u16.wrap (x9_2)), .int .u16 (IntKind.u16.wrap (t240)), .slice A24 ((l1_6.take ((l1_6.length : Int) : Int).toNat).drop ((ji16) : Int).toNat).length (c1_6 - (ji16).toNat)]] rfl (by (try simp only [List.map_toArray, List.map_cons, List.map_nil]); first | done | (rw [show ((l1_6.take ((l1_6.length : Int) : Int).toNat).drop ((ji16) : Int).toNat).length = ((l1_6.length : Int).toNat - (ji16).toNat) from (by rw [List.length_drop, List.length_take]; have h_ : ((l1_6.length : Int) : Int) ≤ (l1_6.length : Int) := of_decide_eq_true (by first | (with_reducible assumption) | assumption); omega)] <;> rfl) | (simp only [hji16]; rfl) | rfl | (simp only [List.length_drop, List.length_take]; rfl)) ?_; (with_reducible refine (annuletref18_Bytes.calls k2 a1_0 a1_1 a1_2 a1_3 (IntKind.u16.wrap (x9_2)) (IntKind.u16.wrap (t240)) _ _ ((l1_6.take ((l1_6.length : Int) : Int).toNat).drop ((ji16) : Int).toNat) t246 _ ?side1 ?side2 A20.out).mono ?_); (case side1 => exact Kd.C_below HR244.out (by repeat (first | (with_reducible first | exact HB.out | apply below_alloc | apply pw_below_drewN | apply below_drew1 | refine below_set ?_ GE239.out | refine below_set ?_ GE245.out) | exact HB.out))); (case side2 => exact HC244.out); rintro e w35 ⟨v247, rfl, ho0, hb⟩; refine ⟨_, rfl, ?_⟩; have n0_ := Aside0.mk (Kd.S_elder' (by (with_reducible repeat (first | apply Kd.S_alloc | apply Kd.S_drewN | apply Kd.S_drew)); exact (Kd.S_mono (Kd.S_far (p := ⟨gb245, 6, none⟩) (Kd.S_far (p := ⟨gb245, 5, none⟩) (Kd.S_far (p := ⟨gb245, 4, none⟩) (Kd.S_far (p := ⟨gb245, 3, none⟩) (Kd.S_far (p := ⟨gb245, 2, none⟩) (Kd.S_far (p := ⟨gb245, 1, none⟩) (Kd.S_far (p := ⟨gb245, 0, none⟩) (Kd.S_types HO_8.out BK245.out (by decide)) (fun _ hk => hk.2) (.int .u8 a1_0)) (fun _ hk => hk.2) (.int .u8 a1_1)) (fun _ hk => hk.2) (.int .u32 a1_2)) (fun _ hk => hk.2) (.int .u32 a1_3)) (fun _ hk => hk.2) (.int .u16 (IntKind.u16.wrap (x9_2)))) (fun _ hk => hk.2) (.int .u16 (IntKind.u16.wrap (t240)))) (fun _ hk => hk.2) (.slice A24 ((l1_6.length : Int).toNat - (ji16).toNat) (c1_6 - (ji16).toNat))) (fun _ h_ => h_.1))) (Kd.R_base ho0) hb); have n1_ := Aside0.mk (Kd.R_lower ho0 (below_size (by repeat (first | (with_reducible first | exact HB.out | apply below_alloc | apply pw_below_drewN | apply below_drew1 | refine below_set ?_ GE239.out | refine below_set ?_ GE245.out) | exact HB.out)))); have n2_ := Aside0.mk (blk_below (g := gb239) (o := .cells #[.int .u8 a1_0, .int .u8 a1_1, .int .u32 a1_2, .int .u32 a1_3, .int .u16 a1_4, .int .u16 a1_5, .slice A1_6 l1_6.length c1_6] 32 (0, 0)) (by (with_reducible repeat (first | refine blk_drewN ?_ _ | refine blk_drew ?_ | refine blk_alloc ?_ _)); refine blk_far ?_ NB239_245.out _; (with_reducible repeat (first | refine blk_drewN ?_ _ | refine blk_drew ?_ | refine blk_alloc ?_ _)); refine blk_far ?_ NB239_245.out _; (with_reducible repeat (first | refine blk_drewN ?_ _ | refine blk_drew ?_ | refine blk_alloc ?_ _)); refine blk_far ?_ NB239_245.out _; (with_reducible repeat (first | refine blk_drewN ?_ _ | refine blk_drew ?_ | refine blk_alloc ?_ _)); refine blk_far ?_ NB239_245.out _; (with_reducible repeat (first | refine blk_drewN ?_ _ | refine blk_drew ?_ | refine blk_alloc ?_ _)); refine blk_far ?_ NB239_245.out _; (with_reducible repeat (first | refine blk_drewN ?_ _ | refine blk_drew ?_ | refine blk_alloc ?_ _)); refine blk_far ?_ NB239_245.out _; (with_reducible repeat (first | refine blk_drewN ?_ _ | refine blk_drew ?_ | refine blk_alloc ?_ _)); refine blk_far ?_ NB239_245.out _; (with_reducible repeat (first | refine blk_drewN ?_ _ | refine blk_drew ?_ | refine blk_alloc ?_ _)); exact BK239.out) hb); have n3_ := Aside0.mk (blk_below (g := gb245) (o := .cells #[.int .u8 a1_0, .int .u8 a1_1, .int .u32 a1_2, .int .u32 a1_3, .int .u16 (IntKind.u16.wrap (x9_2)), .int .u16 (IntKind.u16.wrap (t240)), .slice A24 ((l1_6.length : Int).toNat - (ji16).toNat) (c1_6 - (ji16).toNat)] 32 (0, 0)) (by (with_reducible repeat (first | refine blk_drewN ?_ _ | refine blk_drew ?_ | refine blk_alloc ?_ _)); refine blk_put (cs := #[.int .u8 a1_0, .int .u8 a1_1, .int .u32 a1_2, .int .u32 a1_3, .int .u16 (IntKind.u16.wrap (x9_2)), .int .u16 (IntKind.u16.wrap (t240)), .slice none 0 0]) ?_ 6 _ rfl; (with_reducible repeat (first | refine blk_drewN ?_ _ | refine blk_drew ?_ | refine blk_alloc ?_ _)); refine blk_put (cs := #[.int .u8 a1_0, .int .u8 a1_1, .int .u32 a1_2, .int .u32 a1_3, .int .u16 (IntKind.u16.wrap (x9_2)), .int .u16 0, .slice none 0 0]) ?_ 5 _ rfl; (with_reducible repeat (first | refine blk_drewN ?_ _ | refine blk_drew ?_ | refine blk_alloc ?_ _)); refine blk_put (cs := #[.int .u8 a1_0, .int .u8 a1_1, .int .u32 a1_2, .int .u32 a1_3, .int .u16 0, .int .u16 0, .slice none 0 0]) ?_ 4 _ rfl; (with_reducible repeat (first | refine blk_drewN ?_ _ | refine blk_drew ?_ | refine blk_alloc ?_ _)); refine blk_put (cs := #[.int .u8 a1_0, .int .u8 a1_1, .int .u32 a1_2, .int .u32 0, .int .u16 0, .int .u16 0, .slice none 0 0]) ?_ 3 _ rfl; (with_reducible repeat (first | refine blk_drewN ?_ _ | refine blk_drew ?_ | refine blk_alloc ?_ _)); refine blk_put (cs := #[.int .u8 a1_0, .int .u8 a1_1, .int .u32 0, .int .u32 0, .int .u16 0, .int .u16 0, .slice none 0 0]) ?_ 2 _ rfl; (with_reducible repeat (first | refine blk_drewN ?_ _ | refine blk_drew ?_ | refine blk_alloc ?_ _)); refine blk_put (cs := #[.int .u8 a1_0, .int .u8 0, .int .u32 0, .int .u32 0, .int .u16 0, .int .u16 0, .slice none 0 0]) ?_ 1 _ rfl; (with_reducible repeat (first | refine blk_drewN ?_ _ | refine blk_drew ?_ | refine blk_alloc ?_ _)); refine blk_put (cs := #[.int .u8 0, .int .u8 0, .int .u32 0, .int .u32 0, .int .u16 0, .int .u16 0, .slice none 0 0]) ?_ 0 _ rfl; (with_reducible repeat (first | refine blk_drewN ?_ _ | refine blk_drew ?_ | refine blk_alloc ?_ _)); exact BK245.out) hb); have n4_ := Aside0.mk (below_step (by repeat (first | (with_reducible first | exact HB.out | apply below_alloc | apply pw_below_drewN | apply below_drew1 | refine below_set ?_ GE239.out | refine below_set ?_ GE245.out) | exact HB.out)) hb); clear HO_8; clear BK239; clear BK245; clear HB; have HO_8 := n0_; have HO248 := n1_; have BK239 := n2_; have BK245 := n3_; have HB := n4_; clear n0_ n1_ n2_ n3_ n4_; (try clear hb); (try clear hb2); (try clear hk); (try clear hi); (try clear ho0); obtain ⟨Ao37, co37, eo37⟩ := Kd.R_slice HO248.out; subst eo37) | ((with_reducible refine gate_builtin (b := .append) (xs := #[.tmp 71, .tmp 74]) rfl ?_); at_builtin; refine Kd.S_append (Kd.slice 5 (Kd.int .u8)) (w0 := w) w.heap.size rfl (.tmp 71) (.tmp 74) 33 30 (.slice none 0 0) 24 rfl Try.underlying33 info30 rfl (by decide) (by omega) u8 x8_2 t246 [.slice Ao37 t246.length co37] (fun _ => True) (fun k_ => some k_ = (.slice Ao37 t246.length co37 : Value).ownBlock) rfl rfl ?aP (fun k_ hk_ => ((Kd.R_mono (ok' := fun k_ => ((fun _ => True)) k_ ∧ some k_ ≠ (u8 : Value).ownBlock) (Kd.R_apart' (HO248.out) (Kd.S_typed HO_8.out) (by decide)) (fun k_ hk => ⟨trivial, hk.2⟩))).1 k_ hk_.symm) ?aF ?aO ?aB ?aS ?aL ?_; (case aP => exact Kd.M_row (Kd.R_mono (Kd.R_tight rfl (Kd.R_mono (ok' := fun k_ => ((fun _ => True)) k_ ∧ some k_ ≠ (u8 : Value).ownBlock) (Kd.R_apart' (HO248.out) (Kd.S_typed HO_8.out) (by decide)) (fun k_ hk => ⟨trivial, hk.2⟩))) (fun _ h_ => h_))); (case aB => exact (by repeat (first | (with_reducible first | exact HB.out | apply below_alloc | apply pw_below_drewN | apply below_drew1 | refine below_set ?_ GE239.out | refine below_set ?_ GE245.out) | exact HB.out))); (case aF => exact (fun _ _ => trivial)); (case aO => exact (by (with_reducible repeat (first | apply Kd.S_alloc | apply Kd.S_drewN | apply Kd.S_drew)); exact Kd.S_mono HO_8.out (fun k_ hk => ⟨trivial, fun e_ => hk.2 e_⟩))); (case aS => exact (below_size (by repeat (first | (with_reducible first | exact HB.out | apply below_alloc | apply pw_below_drewN | apply below_drew1 | refine below_set ?_ GE239.out | refine below_set ?_ GE245.out) | exact HB.out)))); (case aL => have := LMc21.out; omega); intro v250 w36 ho hb hg hat; rw [← Ny249.out] at ho; have n0_ := Aside0.mk (blk_grown (g := gb239) (o := .cells #[.int .u8 a1_0, .int .u8 a1_1, .int .u32 a1_2, .int .u32 a1_3, .int .u16 a1_4, .int .u16 a1_5, .slice A1_6 l1_6.length c1_6] 32 (0, 0)) (by (with_reducible repeat (first | refine blk_drewN ?_ _ | refine blk_drew ?_ | refine blk_alloc ?_ _)); exact BK239.out) hg (Kd.S_ne HO_8.out BK239.out (by decide))); have n1_ := Aside0.mk (blk_grown (g := gb245) (o := .cells #[.int .u8 a1_0, .int .u8 a1_1, .int .u32 a1_2, .int .u32 a1_3, .int .u16 (IntKind.u16.wrap (x9_2)), .int .u16 (IntKind.u16.wrap (t240)), .slice A24 ((l1_6.length : Int).toNat - (ji16).toNat) (c1_6 - (ji16).toNat)] 32 (0, 0)) (by (with_reducible repeat (first | refine blk_drewN ?_ _ | refine blk_drew ?_ | refine blk_alloc ?_ _)); exact BK245.out) hg (Kd.S_ne HO_8.out BK245.out (by decide))); have n2_ := Aside0.mk (hb); have n3_ := Aside0.mk (ho); clear BK239; clear BK245; clear HB; clear HO_8; clear HO248; have BK239 := n0_; have BK245 := n1_; have HB := n2_; have HO251 := n3_; clear n0_ n1_ n2_ n3_; clear ho hb hg hat))
                          go_roundg k2
                          case measure => have := HJ4.out; have := HK2.out; omega
                          case rel => exact ⟨(y249), (wrap64 (x9_2 + 1)), (by first | rfl | (simp; done) | (simp [*]; done)), H', ⟨by have := HJ4.out; have := HK2.out; omega⟩, ⟨by (with_reducible repeat (first | apply Kd.S_alloc | apply Kd.S_drewN | apply Kd.S_drew)); exact HO251.out⟩, ⟨by (with_reducible repeat (first | refine blk_drewN ?_ _ | refine blk_drew ?_ | refine blk_alloc ?_ _)); exact BK239.out⟩, ⟨by repeat (first | (with_reducible first | exact HB.out | apply below_alloc | apply pw_below_drewN | apply below_drew1 | refine below_set ?_ GE239.out | refine below_set ?_ GE245.out) | exact HB.out)⟩⟩
                        · rw [if_neg c21] at H
                          exact absurd H (by simp)
                      · rw [if_neg c19] at H
                        exact absurd H (by simp)
                    · rw [if_neg c18] at H
                      exact absurd H (by simp)
                  · rw [if_neg c17] at H
                    exact absurd H (by simp)
                · rw [if_neg c15] at H
                  have c15b0 : decide ((l1_6.length : Int) < (wrap64 ((wrap64 (x9_2 * t242)) + t243))) = false := decide_eq_false c15
                  clear c15
                  obtain ⟨ji38, hji38⟩ : ∃ j_ : Int, (wrap64 (x9_2 * t242)) = j_ := ⟨_, rfl⟩
                  replace H : (if 0 ≤ (ji38) then (if (ji38) ≤ (wrap64 ((ji38) + t243)) then (if (wrap64 ((ji38) + t243)) ≤ (l1_6.length : Int) then ((annuletref18_Bytes.f k2 a1_0 a1_1 a1_2 a1_3 (IntKind.u16.wrap (x9_2)) (IntKind.u16.wrap (t240)) ((l1_6.take ((wrap64 ((ji38) + t243)) : Int).toNat).drop ((ji38) : Int).toNat)).bind fun t254 => (if x8_2.length < 5864062014805 then (annuletref19_Split.l0 k2 a0 t240 (x8_2 ++ [t254]) (wrap64 (x9_2 + 1)) a1_0 a1_1 a1_2 a1_3 a1_4 a1_5 l1_6) else (none))) else (none)) else (none)) else (none)) = some (r1, r2) := by first | (rw [hji38] at H; exact H) | (simp only [hji38] at H ⊢; exact H)
                  (try rw [hji38] at c15b0)
                  (try rw [hji38] at A13)
                  (try rw [hji38] at A14)
                  have hji38w : (IntKind.i64.wrap (x9_2 * t242)) = ji38 := (i64_w _).trans hji38
                  by_cases c39 : 0 ≤ (ji38)
                  · rw [if_pos c39] at H
                    have c39b0 := eq_true c39
                    have c39b1 : decide (0 ≤ (ji38)) = true := decide_eq_true c39
                    clear c39
                    by_cases c40 : (ji38) ≤ (wrap64 ((ji38) + t243))
                    · rw [if_pos c40] at H
                      have c40b0 := eq_true c40
                      have c40b1 : decide ((ji38) ≤ (wrap64 ((ji38) + t243))) = true := decide_eq_true c40
                      by_cases c41 : (wrap64 ((ji38) + t243)) ≤ (l1_6.length : Int)
                      · rw [if_pos c41] at H
                        have c41b0 := eq_true c41
                        have c41b1 : decide ((wrap64 ((ji38) + t243)) ≤ (l1_6.length : Int)) = true := decide_eq_true c41
                        replace H := Option.bind_eq_some_iff.mp H
                        obtain ⟨t254, A420, H⟩ := H
                        replace H : (if x8_2.length < 5864062014805 then (annuletref19_Split.l0 k2 a0 t240 (x8_2 ++ [t254]) (wrap64 (x9_2 + 1)) a1_0 a1_1 a1_2 a1_3 a1_4 a1_5 l1_6) else (none)) = some (r1, r2) := H
                        have A42 := Aside0.mk A420
                        clear A420
                        by_cases c43 : x8_2.length < 5864062014805
                        · rw [if_pos c43] at H
                          have LMc43 := Aside0.mk c43
                          clear c43
                          obtain ⟨y257, hy257⟩ : ∃ y_ : List (List Int), y_ = (x8_2 ++ [t254]) := ⟨_, rfl⟩
                          replace H : (annuletref19_Split.l0 k2 a0 t240 y257 (wrap64 (x9_2 + 1)) a1_0 a1_1 a1_2 a1_3 a1_4 a1_5 l1_6) = some (r1, r2) := by first | (rw [hy257]; with_reducible exact H) | (have H2_ := (Option.bind_some _ _).symm.trans H; rw [hy257]; with_reducible exact H2_) | (have H2_ := (Option.bind_some _ _).symm.trans H; with_reducible exact H2_) | with_reducible exact H | (rw [hy257]; exact H) | exact H
                          have Ny257 := Aside0.mk hy257
                          clear hy257
                          have H' := Aside0.mk H
                          clear H
                          try go_wp2_with (first | ((with_reducible refine gate_callee (f := 9) rfl ?_); refine goesL_ (some 39) rfl rfl Try.func9 (by kernel_rfl) rfl #[.int .i64 a0] rfl (by (try simp only [List.map_toArray, List.map_cons, List.map_nil]); first | done | rfl | (simp only [List.length_drop, List.length_take]; rfl)) ?_; (with_reducible refine (annuletref19_Room.calls a0 t242 _ A13.out).mono ?_); rintro e w' ⟨rfl, ⟨nd, rfl⟩⟩; refine ⟨_, rfl, ?_⟩; (try (rw [drewN_self wr]; generalize hq_ : World.drewN wr _ = wr; have n0_ : Aside0 (Kd.S (Kd.slice 5 (Kd.int .u8)) 30 wr w.heap.size (fun _ => True) u8 x8_2) := ⟨by rw [← hq_]; exact (by (with_reducible repeat (first | apply Kd.S_alloc | apply Kd.S_drewN | apply Kd.S_drew)); exact HO_8.out)⟩; have n1_ : Aside0 (wr.heap[gb239]? = some (.cells #[.int .u8 a1_0, .int .u8 a1_1, .int .u32 a1_2, .int .u32 a1_3, .int .u16 a1_4, .int .u16 a1_5, .slice A1_6 l1_6.length c1_6] 32 (0, 0))) := ⟨by rw [← hq_]; exact (by (with_reducible repeat (first | refine blk_drewN ?_ _ | refine blk_drew ?_ | refine blk_alloc ?_ _)); exact BK239.out)⟩; have n2_ : Aside0 (Below w.heap.size w wr) := ⟨by rw [← hq_]; exact (by repeat (first | (with_reducible first | exact HB.out | apply below_alloc | apply pw_below_drewN | apply below_drew1 | refine below_set ?_ GE239.out) | exact HB.out))⟩; clear HO_8 BK239 HB hq_; have HO_8 := n0_; have BK239 := n1_; have HB := n2_; clear n0_ n1_ n2_))) | ((with_reducible refine gate_callee (f := 9) rfl ?_); refine goesL_ (some 43) rfl rfl Try.func9 (by kernel_rfl) rfl #[.int .i64 a0] rfl (by (try simp only [List.map_toArray, List.map_cons, List.map_nil]); first | done | rfl | (simp only [List.length_drop, List.length_take]; rfl)) ?_; (with_reducible refine (annuletref19_Room.calls a0 t243 _ A14.out).mono ?_); rintro e w' ⟨rfl, ⟨nd, rfl⟩⟩; refine ⟨_, rfl, ?_⟩; (try (rw [drewN_self wr]; generalize hq_ : World.drewN wr _ = wr; have n0_ : Aside0 (Kd.S (Kd.slice 5 (Kd.int .u8)) 30 wr w.heap.size (fun _ => True) u8 x8_2) := ⟨by rw [← hq_]; exact (by (with_reducible repeat (first | apply Kd.S_alloc | apply Kd.S_drewN | apply Kd.S_drew)); exact HO_8.out)⟩; have n1_ : Aside0 (wr.heap[gb239]? = some (.cells #[.int .u8 a1_0, .int .u8 a1_1, .int .u32 a1_2, .int .u32 a1_3, .int .u16 a1_4, .int .u16 a1_5, .slice A1_6 l1_6.length c1_6] 32 (0, 0))) := ⟨by rw [← hq_]; exact (by (with_reducible repeat (first | refine blk_drewN ?_ _ | refine blk_drew ?_ | refine blk_alloc ?_ _)); exact BK239.out)⟩; have n2_ : Aside0 (Below w.heap.size w wr) := ⟨by rw [← hq_]; exact (by repeat (first | (with_reducible first | exact HB.out | apply below_alloc | apply pw_below_drewN | apply below_drew1 | refine below_set ?_ GE239.out) | exact HB.out))⟩; clear HO_8 BK239 HB hq_; have HO_8 := n0_; have BK239 := n1_; have HB := n2_; clear n0_ n1_ n2_)); have hcz44_0 : wr.cell? ⟨gb239, 0, none⟩ = some (.int .u8 a1_0) := (blk_cell BK239.out 0).trans rfl; have hcz44_1 : wr.cell? ⟨gb239, 1, none⟩ = some (.int .u8 a1_1) := (blk_cell BK239.out 1).trans rfl; have hcz44_2 : wr.cell? ⟨gb239, 2, none⟩ = some (.int .u32 a1_2) := (blk_cell BK239.out 2).trans rfl; have hcz44_3 : wr.cell? ⟨gb239, 3, none⟩ = some (.int .u32 a1_3) := (blk_cell BK239.out 3).trans rfl; have hcz44_4 : wr.cell? ⟨gb239, 4, none⟩ = some (.int .u16 a1_4) := (blk_cell BK239.out 4).trans rfl; have hcz44_5 : wr.cell? ⟨gb239, 5, none⟩ = some (.int .u16 a1_5) := (blk_cell BK239.out 5).trans rfl; have hcz44_6 : wr.cell? ⟨gb239, 6, none⟩ = some (.slice A1_6 l1_6.length c1_6) := (blk_cell BK239.out 6).trans rfl; have hfz44_0 := blk_frozen BK239.out 0; have hfz44_1 := blk_frozen BK239.out 1; have hfz44_2 := blk_frozen BK239.out 2; have hfz44_3 := blk_frozen BK239.out 3; have hfz44_4 := blk_frozen BK239.out 4; have hfz44_5 := blk_frozen BK239.out 5; have hfz44_6 := blk_frozen BK239.out 6))
                          have n0_ := Aside0.mk (Kd.S_drew HO_8.out)
                          have n1_ := Aside0.mk (blk_drew BK239.out)
                          have n2_ := Aside0.mk (below_drew1 HB.out)
                          clear HO_8
                          clear BK239
                          clear HB
                          have HO_8 := n0_
                          have BK239 := n1_
                          have HB := n2_
                          clear n0_ n1_ n2_
                          obtain ⟨i046, hi046, _, hsz46, _⟩ := info_parts info5
                          obtain ⟨A46, hcut46, hA46, hC46⟩ := print_mid_of (P := Try.prog) (Value.int .u8) 0 30 5 .i64 .i64 Try.underlying30 hi046 hsz46 A1_6 c1_6 l1_6 (ji38) (wrap64 ((ji38) + t243)) (of_decide_eq_true (by first | (with_reducible assumption) | assumption)) (by first | omega | exact of_decide_eq_true (by first | (with_reducible assumption) | assumption)) (of_decide_eq_true (by first | (with_reducible assumption) | assumption)) HC1_6.out
                          have HR252 := Aside0.mk (Kd.C_of_reads (h1 := fun _ => rfl) (hA46 _ (Kd.reads_of_C HR1_6.out)))
                          have HC252 := Aside0.mk hC46
                          clear hA46 hC46 hi046 hsz46
                          refine start_ (n := 20) (S := fun w' => w'.cell? ⟨gb239, 0, none⟩ = some (.int .u8 a1_0) ∧ w'.cell? ⟨gb239, 1, none⟩ = some (.int .u8 a1_1) ∧ w'.cell? ⟨gb239, 2, none⟩ = some (.int .u32 a1_2) ∧ w'.cell? ⟨gb239, 3, none⟩ = some (.int .u32 a1_3) ∧ w'.cell? ⟨gb239, 4, none⟩ = some (.int .u16 a1_4) ∧ w'.cell? ⟨gb239, 5, none⟩ = some (.int .u16 a1_5) ∧ w'.cell? ⟨gb239, 6, none⟩ = some (.slice A1_6 l1_6.length c1_6)) (ds := []) #[false, false, false, false, false, false, false, false, false, false, false, false, false, false, false, false, false, false, false, false] (by kernel_rfl) rfl rfl ⟨(blk_cell BK239.out 0).trans rfl, (blk_cell BK239.out 1).trans rfl, (blk_cell BK239.out 2).trans rfl, (blk_cell BK239.out 3).trans rfl, (blk_cell BK239.out 4).trans rfl, (blk_cell BK239.out 5).trans rfl, (blk_cell BK239.out 6).trans rfl⟩ (fun hHeld => ?_); refine with_tabW annuletref19_Split.tab14 annuletref19_Split.bits14 (fun HT_ HW_ => ?_)
                          generalize wr.drew = w45 at HO_8 BK239 HB HR252 hHeld ⊢
                          refine pure_ (i := 0) (N := some 53) (v := ?_) (a' := ?_) #[true, false, false, false, false, false, false, false, false, false, false, false, false, false, false, false, false, false, false, false] rfl rfl (any_of HT_.out (by kernel_rfl)) (fun _ _ _ h => h) (Or.inl ⟨by rfl, ?_⟩) ?_ ?_
                          rotate_left
                          · intro w'
                            go_simp
                            with_reducible rfl
                          rotate_left
                          · simp only [Act.put, List.setIfInBounds_toArray, List.set_cons_zero, List.set_cons_succ, i64_w, i32_w]
                            rfl
                          refine pure_ (i := 2) (N := some 55) (v := ?_) (a' := ?_) #[true, false, true, false, false, false, false, false, false, false, false, false, false, false, false, false, false, false, false, false] rfl rfl (any_of HT_.out (by kernel_rfl)) (fun _ _ _ h => h) (Or.inl ⟨by rfl, ?_⟩) ?_ ?_
                          rotate_left
                          · intro w'
                            go_simp
                            with_reducible rfl
                          rotate_left
                          · simp only [Act.put, List.setIfInBounds_toArray, List.set_cons_zero, List.set_cons_succ, i64_w, i32_w]
                            rfl
                          refine pure_ (i := 4) (N := some 57) (v := ?_) (a' := ?_) #[true, false, true, false, true, false, false, false, false, false, false, false, false, false, false, false, false, false, false, false] rfl rfl (any_of HT_.out (by kernel_rfl)) (fun _ _ _ h => h) (Or.inl ⟨by rfl, ?_⟩) ?_ ?_
                          rotate_left
                          · intro w'
                            go_simp
                            with_reducible rfl
                          rotate_left
                          · simp only [Act.put, List.setIfInBounds_toArray, List.set_cons_zero, List.set_cons_succ, i64_w, i32_w]
                            rfl
                          refine pure_ (i := 6) (N := some 59) (v := ?_) (a' := ?_) #[true, false, true, false, true, false, true, false, false, false, false, false, false, false, false, false, false, false, false, false] rfl rfl (any_of HT_.out (by kernel_rfl)) (fun _ _ _ h => h) (Or.inl ⟨by rfl, ?_⟩) ?_ ?_
                          rotate_left
                          · intro w'
                            go_simp
                            with_reducible rfl
                          rotate_left
                          · simp only [Act.put, List.setIfInBounds_toArray, List.set_cons_zero, List.set_cons_succ, i64_w, i32_w]
                            rfl
                          refine pure_ (i := 8) (N := some 61) (v := ?_) (a' := ?_) #[true, false, true, false, true, false, true, false, true, false, false, false, false, false, false, false, false, false, false, false] rfl rfl (any_of HT_.out (by kernel_rfl)) (fun _ _ _ h => h) (Or.inl ⟨by rfl, ?_⟩) ?_ ?_
                          rotate_left
                          · intro w'
                            go_simp
                            with_reducible rfl
                          rotate_left
                          · simp only [Act.put, List.setIfInBounds_toArray, List.set_cons_zero, List.set_cons_succ, i64_w, i32_w]
                            rfl
                          refine pure_ (i := 9) (N := some 62) (v := ?_) (a' := ?_) #[true, false, true, false, true, false, true, false, true, true, false, false, false, false, false, false, false, false, false, false] rfl rfl (any_of HT_.out (by kernel_rfl)) (fun _ _ _ h => h) (Or.inl ⟨by rfl, ?_⟩) ?_ ?_
                          rotate_left
                          · intro w'
                            go_simp
                            with_reducible rfl
                          rotate_left
                          · simp only [Act.put, List.setIfInBounds_toArray, List.set_cons_zero, List.set_cons_succ, i64_w, i32_w]
                            rfl
                          refine pure_ (i := 10) (N := some 63) (v := ?_) (a' := ?_) #[true, false, true, false, true, false, true, false, true, true, true, false, false, false, false, false, false, false, false, false] rfl rfl (any_of HT_.out (by kernel_rfl)) (fun _ _ _ h => h) (Or.inl ⟨by rfl, ?_⟩) ?_ ?_
                          rotate_left
                          · intro w'
                            go_simp
                            with_reducible rfl
                          rotate_left
                          · simp only [Act.put, List.setIfInBounds_toArray, List.set_cons_zero, List.set_cons_succ, i64_w, i32_w]
                            rfl
                          refine pure_ (i := 11) (N := some 64) (v := ?_) (a' := ?_) #[true, false, true, false, true, false, true, false, true, true, true, true, false, false, false, false, false, false, false, false] rfl rfl (any_of HT_.out (by kernel_rfl)) (fun _ _ _ h => h) (Or.inl ⟨by rfl, ?_⟩) ?_ ?_
                          rotate_left
                          · intro w'
                            go_simp
                            with_reducible rfl
                          rotate_left
                          · simp only [Act.put, List.setIfInBounds_toArray, List.set_cons_zero, List.set_cons_succ, i64_w, i32_w]
                            rfl
                          refine pure_ (i := 12) (N := some 65) (v := ?_) (a' := ?_) #[true, false, true, false, true, false, true, false, true, true, true, true, true, false, false, false, false, false, false, false] rfl rfl (any_of HT_.out (by kernel_rfl)) (fun _ _ _ h => h) (Or.inl ⟨by rfl, ?_⟩) ?_ ?_
                          rotate_left
                          · intro w'
                            go_simp
                            with_reducible rfl
                          rotate_left
                          · simp only [Act.put, List.setIfInBounds_toArray, List.set_cons_zero, List.set_cons_succ, i64_w, i32_w]
                            rfl
                          refine pure_ (i := 14) (N := some 67) (v := ?_) (a' := ?_) #[true, false, true, false, true, false, true, false, true, true, true, true, true, false, true, false, false, false, false, false] rfl rfl (any_of HT_.out (by kernel_rfl)) (fun _ _ _ h => h) (Or.inl ⟨by rfl, ?_⟩) ?_ ?_
                          rotate_left
                          · intro w'
                            go_simp
                            with_reducible rfl
                          rotate_left
                          · simp only [Act.put, List.setIfInBounds_toArray, List.set_cons_zero, List.set_cons_succ, i64_w, i32_w]
                            rfl
                          refine pure_ (i := 15) (N := some 68) (v := ?_) (a' := ?_) #[true, false, true, false, true, false, true, false, true, true, true, true, true, false, true, true, false, false, false, false] rfl rfl (any_of HT_.out (by kernel_rfl)) (fun _ _ _ h => h) (Or.inl ⟨by rfl, ?_⟩) ?_ ?_
                          rotate_left
                          · intro w'
                            go_simp
                            with_reducible rfl
                          rotate_left
                          · simp only [Act.put, List.setIfInBounds_toArray, List.set_cons_zero, List.set_cons_succ, i64_w, i32_w]
                            rfl
                          refine take_ (i := 1) (N := some 54) (v := ?_) (a' := ?_) #[true, true, true, false, true, false, true, false, true, true, true, true, true, false, true, true, false, false, false, false] rfl rfl (take_ofW HT_.out HW_.out (by kernel_rfl)) (fun _ _ _ h => h) (Or.inl ⟨by rfl, ?_⟩) hHeld ?_ ?_
                          rotate_left
                          · rintro w' ⟨s0, s1, s2, s3, s4, s5, s6⟩
                            go_simp
                            with_reducible rfl
                          rotate_left
                          · simp only [Act.put, List.setIfInBounds_toArray, List.set_cons_zero, List.set_cons_succ, i64_w, i32_w]
                            rfl
                          refine take_ (i := 3) (N := some 56) (v := ?_) (a' := ?_) #[true, true, true, true, true, false, true, false, true, true, true, true, true, false, true, true, false, false, false, false] rfl rfl (take_ofW HT_.out HW_.out (by kernel_rfl)) (fun _ _ _ h => h) (Or.inl ⟨by rfl, ?_⟩) hHeld ?_ ?_
                          rotate_left
                          · rintro w' ⟨s0, s1, s2, s3, s4, s5, s6⟩
                            go_simp
                            with_reducible rfl
                          rotate_left
                          · simp only [Act.put, List.setIfInBounds_toArray, List.set_cons_zero, List.set_cons_succ, i64_w, i32_w]
                            rfl
                          refine take_ (i := 5) (N := some 58) (v := ?_) (a' := ?_) #[true, true, true, true, true, true, true, false, true, true, true, true, true, false, true, true, false, false, false, false] rfl rfl (take_ofW HT_.out HW_.out (by kernel_rfl)) (fun _ _ _ h => h) (Or.inl ⟨by rfl, ?_⟩) hHeld ?_ ?_
                          rotate_left
                          · rintro w' ⟨s0, s1, s2, s3, s4, s5, s6⟩
                            go_simp
                            with_reducible rfl
                          rotate_left
                          · simp only [Act.put, List.setIfInBounds_toArray, List.set_cons_zero, List.set_cons_succ, i64_w, i32_w]
                            rfl
                          refine take_ (i := 7) (N := some 60) (v := ?_) (a' := ?_) #[true, true, true, true, true, true, true, true, true, true, true, true, true, false, true, true, false, false, false, false] rfl rfl (take_ofW HT_.out HW_.out (by kernel_rfl)) (fun _ _ _ h => h) (Or.inl ⟨by rfl, ?_⟩) hHeld ?_ ?_
                          rotate_left
                          · rintro w' ⟨s0, s1, s2, s3, s4, s5, s6⟩
                            go_simp
                            with_reducible rfl
                          rotate_left
                          · simp only [Act.put, List.setIfInBounds_toArray, List.set_cons_zero, List.set_cons_succ, i64_w, i32_w]
                            rfl
                          refine take_ (i := 13) (N := some 66) (v := ?_) (a' := ?_) #[true, true, true, true, true, true, true, true, true, true, true, true, true, true, true, true, false, false, false, false] rfl rfl (take_ofW HT_.out HW_.out (by kernel_rfl)) (fun _ _ _ h => h) (Or.inl ⟨by rfl, ?_⟩) hHeld ?_ ?_
                          rotate_left
                          · rintro w' ⟨s0, s1, s2, s3, s4, s5, s6⟩
                            go_simp
                            with_reducible rfl
                          rotate_left
                          · simp only [Act.put, List.setIfInBounds_toArray, List.set_cons_zero, List.set_cons_succ, i64_w, i32_w]
                            rfl
                          refine pure_ (i := 16) (N := some 69) (v := ?_) (a' := ?_) #[true, true, true, true, true, true, true, true, true, true, true, true, true, true, true, true, true, false, false, false] rfl rfl (any_of HT_.out (by kernel_rfl)) (fun _ _ _ h => h) (Or.inl ⟨by rfl, ?_⟩) ?_ ?_
                          rotate_left
                          · intro w'
                            go_simp
                            with_reducible rfl
                          rotate_left
                          · simp only [Act.put, List.setIfInBounds_toArray, List.set_cons_zero, List.set_cons_succ, i64_w, i32_w]
                            rfl
                          refine pure_ (i := 17) (N := some 70) (v := ?_) (a' := ?_) #[true, true, true, true, true, true, true, true, true, true, true, true, true, true, true, true, true, true, false, false] rfl rfl (any_of HT_.out (by kernel_rfl)) (fun _ _ _ h => h) (Or.inl ⟨by rfl, ?_⟩) ?_ ?_
                          rotate_left
                          · intro w'
                            go_simp
                            with_reducible rfl
                          rotate_left
                          · simp only [Act.put, List.setIfInBounds_toArray, List.set_cons_zero, List.set_cons_succ, i64_w, i32_w]
                            rfl
                          refine one_ (i := 18) (N := some 12) #[true, true, true, true, true, true, true, true, true, true, true, true, true, true, true, true, true, true, true, false] rfl rfl (one_of HT_.out (by kernel_rfl)) (by decide) (fun K hK => ?_)
                          refine box_step ?hg (N := 12) ?hd (cs := #[.int .u8 0, .int .u8 0, .int .u32 0, .int .u32 0, .int .u16 0, .int .u16 0, .slice none 0 0]) (t := 32) ?hr ?_; (case hd => rfl); (case hg => rfl); (case hr => first | (go_simp; done) | (go_simp; rfl))
                          intro gb253 hg w47 hbox hb
                          have n0_ := Aside0.mk (Kd.S_below (by (with_reducible repeat (first | apply Kd.S_alloc | apply Kd.S_drewN | apply Kd.S_drew)); exact HO_8.out) hb)
                          have n1_ := Aside0.mk (blk_below (g := gb239) (o := .cells #[.int .u8 a1_0, .int .u8 a1_1, .int .u32 a1_2, .int .u32 a1_3, .int .u16 a1_4, .int .u16 a1_5, .slice A1_6 l1_6.length c1_6] 32 (0, 0)) (by (with_reducible repeat (first | refine blk_drewN ?_ _ | refine blk_drew ?_ | refine blk_alloc ?_ _)); exact BK239.out) hb)
                          have n2_ := Aside0.mk (below_step (by repeat (first | (with_reducible first | exact HB.out | apply below_alloc | apply pw_below_drewN | apply below_drew1 | refine below_set ?_ GE239.out) | exact HB.out)) hb)
                          have n3_ := Aside0.mk (hbox)
                          have n4_ := Aside0.mk ((by rw [hg]; exact (below_size (by repeat (first | (with_reducible first | exact HB.out | apply below_alloc | apply pw_below_drewN | apply below_drew1 | refine below_set ?_ GE239.out) | exact HB.out))) : w.heap.size ≤ gb253))
                          have n5_ := Aside0.mk ((by rw [hg]; exact (below_size (by repeat (first | (with_reducible first | exact HB.out | apply below_alloc | apply pw_below_drewN | apply below_drew1 | refine below_set ?_ GE239.out) | exact HB.out))) : w.heap.size ≤ gb253))
                          have n6_ := Aside0.mk ((by rw [hg]; exact Nat.ne_of_lt (blk_lt (g := gb239) (o := .cells #[.int .u8 a1_0, .int .u8 a1_1, .int .u32 a1_2, .int .u32 a1_3, .int .u16 a1_4, .int .u16 a1_5, .slice A1_6 l1_6.length c1_6] 32 (0, 0)) (by (with_reducible repeat (first | refine blk_drewN ?_ _ | refine blk_drew ?_ | refine blk_alloc ?_ _)); exact BK239.out)) : gb239 ≠ gb253))
                          have n7_ := Aside0.mk ((by rw [hg]; exact Nat.ne_of_gt (blk_lt (g := gb239) (o := .cells #[.int .u8 a1_0, .int .u8 a1_1, .int .u32 a1_2, .int .u32 a1_3, .int .u16 a1_4, .int .u16 a1_5, .slice A1_6 l1_6.length c1_6] 32 (0, 0)) (by (with_reducible repeat (first | refine blk_drewN ?_ _ | refine blk_drew ?_ | refine blk_alloc ?_ _)); exact BK239.out)) : gb253 ≠ gb239))
                          clear HO_8
                          clear BK239
                          clear HB
                          have HO_8 := n0_
                          have BK239 := n1_
                          have HB := n2_
                          have BK253 := n3_
                          have GW253 := n4_
                          have GE253 := n5_
                          have NB239_253 := n6_
                          have NB253_239 := n7_
                          clear n0_ n1_ n2_ n3_ n4_ n5_ n6_ n7_
                          clear hb hbox hg
                          refine hK.out _ _ ⟨(blk_cell BK239.out 0).trans rfl, (blk_cell BK239.out 1).trans rfl, (blk_cell BK239.out 2).trans rfl, (blk_cell BK239.out 3).trans rfl, (blk_cell BK239.out 4).trans rfl, (blk_cell BK239.out 5).trans rfl, (blk_cell BK239.out 6).trans rfl⟩ (fun hHeld => ?_)
                          clear hK K
                          refine norm_ (a' := ?_) ?_ ?_
                          rotate_left
                          · show Act.put _ (some 12) _ = _
                            simp only [Act.put, List.setIfInBounds_toArray, List.set_cons_zero, List.set_cons_succ, i64_w, i32_w]
                            rfl
                          refine one_ (i := 19) (N := none) #[true, true, true, true, true, true, true, true, true, true, true, true, true, true, true, true, true, true, true, true] rfl rfl (one_of HT_.out (by kernel_rfl)) (by decide) (fun K hK => ?_)
                          have hs48 : w47.cell? ⟨gb253, 0, none⟩ = some (.int .u8 0) := (blk_cell BK253.out 0).trans rfl
                          have hfs48 := blk_frozen BK253.out 0
                          have hns48_0 := NB239_253.out
                          have hms48_0 := NB253_239.out
                          have hs49 : w47.cell? ⟨gb253, 1, none⟩ = some (.int .u8 0) := (blk_cell BK253.out 1).trans rfl
                          have hfs49 := blk_frozen BK253.out 1
                          have hns49_0 := NB239_253.out
                          have hms49_0 := NB253_239.out
                          have hs50 : w47.cell? ⟨gb253, 2, none⟩ = some (.int .u32 0) := (blk_cell BK253.out 2).trans rfl
                          have hfs50 := blk_frozen BK253.out 2
                          have hns50_0 := NB239_253.out
                          have hms50_0 := NB253_239.out
                          have hs51 : w47.cell? ⟨gb253, 3, none⟩ = some (.int .u32 0) := (blk_cell BK253.out 3).trans rfl
                          have hfs51 := blk_frozen BK253.out 3
                          have hns51_0 := NB239_253.out
                          have hms51_0 := NB253_239.out
                          have hs52 : w47.cell? ⟨gb253, 4, none⟩ = some (.int .u16 0) := (blk_cell BK253.out 4).trans rfl
                          have hfs52 := blk_frozen BK253.out 4
                          have hns52_0 := NB239_253.out
                          have hms52_0 := NB253_239.out
                          have hs53 : w47.cell? ⟨gb253, 5, none⟩ = some (.int .u16 0) := (blk_cell BK253.out 5).trans rfl
                          have hfs53 := blk_frozen BK253.out 5
                          have hns53_0 := NB239_253.out
                          have hms53_0 := NB253_239.out
                          have hs54 : w47.cell? ⟨gb253, 6, none⟩ = some (.slice none 0 0) := (blk_cell BK253.out 6).trans rfl
                          have hfs54 := blk_frozen BK253.out 6
                          have hns54_0 := NB239_253.out
                          have hms54_0 := NB253_239.out
                          refine skip_ (w1 := ?_) (by rfl) rfl ?_ ?_
                          rotate_left
                          · go_simp
                            rfl
                          refine hK.out _ _ ⟨((cell_far (p := ⟨gb253, _, none⟩) NB239_253.out _).trans (((cell_far (p := ⟨gb253, _, none⟩) NB239_253.out _).trans (((cell_far (p := ⟨gb253, _, none⟩) NB239_253.out _).trans (((cell_far (p := ⟨gb253, _, none⟩) NB239_253.out _).trans (((cell_far (p := ⟨gb253, _, none⟩) NB239_253.out _).trans (((cell_far (p := ⟨gb253, _, none⟩) NB239_253.out _).trans (((cell_far (p := ⟨gb253, _, none⟩) NB239_253.out _).trans (hHeld.1)))))))))))))), ((cell_far (p := ⟨gb253, _, none⟩) NB239_253.out _).trans (((cell_far (p := ⟨gb253, _, none⟩) NB239_253.out _).trans (((cell_far (p := ⟨gb253, _, none⟩) NB239_253.out _).trans (((cell_far (p := ⟨gb253, _, none⟩) NB239_253.out _).trans (((cell_far (p := ⟨gb253, _, none⟩) NB239_253.out _).trans (((cell_far (p := ⟨gb253, _, none⟩) NB239_253.out _).trans (((cell_far (p := ⟨gb253, _, none⟩) NB239_253.out _).trans (hHeld.2.1)))))))))))))), ((cell_far (p := ⟨gb253, _, none⟩) NB239_253.out _).trans (((cell_far (p := ⟨gb253, _, none⟩) NB239_253.out _).trans (((cell_far (p := ⟨gb253, _, none⟩) NB239_253.out _).trans (((cell_far (p := ⟨gb253, _, none⟩) NB239_253.out _).trans (((cell_far (p := ⟨gb253, _, none⟩) NB239_253.out _).trans (((cell_far (p := ⟨gb253, _, none⟩) NB239_253.out _).trans (((cell_far (p := ⟨gb253, _, none⟩) NB239_253.out _).trans (hHeld.2.2.1)))))))))))))), ((cell_far (p := ⟨gb253, _, none⟩) NB239_253.out _).trans (((cell_far (p := ⟨gb253, _, none⟩) NB239_253.out _).trans (((cell_far (p := ⟨gb253, _, none⟩) NB239_253.out _).trans (((cell_far (p := ⟨gb253, _, none⟩) NB239_253.out _).trans (((cell_far (p := ⟨gb253, _, none⟩) NB239_253.out _).trans (((cell_far (p := ⟨gb253, _, none⟩) NB239_253.out _).trans (((cell_far (p := ⟨gb253, _, none⟩) NB239_253.out _).trans (hHeld.2.2.2.1)))))))))))))), ((cell_far (p := ⟨gb253, _, none⟩) NB239_253.out _).trans (((cell_far (p := ⟨gb253, _, none⟩) NB239_253.out _).trans (((cell_far (p := ⟨gb253, _, none⟩) NB239_253.out _).trans (((cell_far (p := ⟨gb253, _, none⟩) NB239_253.out _).trans (((cell_far (p := ⟨gb253, _, none⟩) NB239_253.out _).trans (((cell_far (p := ⟨gb253, _, none⟩) NB239_253.out _).trans (((cell_far (p := ⟨gb253, _, none⟩) NB239_253.out _).trans (hHeld.2.2.2.2.1)))))))))))))), ((cell_far (p := ⟨gb253, _, none⟩) NB239_253.out _).trans (((cell_far (p := ⟨gb253, _, none⟩) NB239_253.out _).trans (((cell_far (p := ⟨gb253, _, none⟩) NB239_253.out _).trans (((cell_far (p := ⟨gb253, _, none⟩) NB239_253.out _).trans (((cell_far (p := ⟨gb253, _, none⟩) NB239_253.out _).trans (((cell_far (p := ⟨gb253, _, none⟩) NB239_253.out _).trans (((cell_far (p := ⟨gb253, _, none⟩) NB239_253.out _).trans (hHeld.2.2.2.2.2.1)))))))))))))), ((cell_far (p := ⟨gb253, _, none⟩) NB239_253.out _).trans (((cell_far (p := ⟨gb253, _, none⟩) NB239_253.out _).trans (((cell_far (p := ⟨gb253, _, none⟩) NB239_253.out _).trans (((cell_far (p := ⟨gb253, _, none⟩) NB239_253.out _).trans (((cell_far (p := ⟨gb253, _, none⟩) NB239_253.out _).trans (((cell_far (p := ⟨gb253, _, none⟩) NB239_253.out _).trans (((cell_far (p := ⟨gb253, _, none⟩) NB239_253.out _).trans (hHeld.2.2.2.2.2.2))))))))))))))⟩ (fun hHeld => ?_)
                          clear hK K
                          refine done_ (done_of HT_.out (by kernel_rfl)) ?_
                          have hnb55 := NB253_239.out
                          have hnc55 := NB239_253.out
                          have hcz56_0 : w47.cell? ⟨gb253, 0, none⟩ = some (.int .u8 0) := (blk_cell BK253.out 0).trans rfl
                          have hcz56_1 : w47.cell? ⟨gb253, 1, none⟩ = some (.int .u8 0) := (blk_cell BK253.out 1).trans rfl
                          have hcz56_2 : w47.cell? ⟨gb253, 2, none⟩ = some (.int .u32 0) := (blk_cell BK253.out 2).trans rfl
                          have hcz56_3 : w47.cell? ⟨gb253, 3, none⟩ = some (.int .u32 0) := (blk_cell BK253.out 3).trans rfl
                          have hcz56_4 : w47.cell? ⟨gb253, 4, none⟩ = some (.int .u16 0) := (blk_cell BK253.out 4).trans rfl
                          have hcz56_5 : w47.cell? ⟨gb253, 5, none⟩ = some (.int .u16 0) := (blk_cell BK253.out 5).trans rfl
                          have hcz56_6 : w47.cell? ⟨gb253, 6, none⟩ = some (.slice none 0 0) := (blk_cell BK253.out 6).trans rfl
                          have hfz56_0 := blk_frozen BK253.out 0
                          have hfz56_1 := blk_frozen BK253.out 1
                          have hfz56_2 := blk_frozen BK253.out 2
                          have hfz56_3 := blk_frozen BK253.out 3
                          have hfz56_4 := blk_frozen BK253.out 4
                          have hfz56_5 := blk_frozen BK253.out 5
                          have hfz56_6 := blk_frozen BK253.out 6
                          try go_wp2_with (first | ((with_reducible refine gate_callee (f := 16) rfl ?_); refine goesL_ (some 73) rfl rfl Try.func16 (by kernel_rfl) rfl #[.agg #[.int .u8 a1_0, .int .u8 a1_1, .int .u32 a1_2, .int .u32 a1_3, .int .u16 (IntKind.u16.wrap (x9_2)), .int .u16 (IntKind.u16.wrap (t240)), .slice A46 ((l1_6.take ((wrap64 ((ji38) + t243)) : Int).toNat).drop ((ji38) : Int).toNat).length (c1_6 - (ji38).toNat)]] rfl (by (try simp only [List.map_toArray, List.map_cons, List.map_nil]); first | done | (rw [show ((l1_6.take ((wrap64 ((ji38) + t243)) : Int).toNat).drop ((ji38) : Int).toNat).length = ((wrap64 ((ji38) + t243)).toNat - (ji38).toNat) from (by rw [List.length_drop, List.length_take]; have h_ : ((wrap64 ((ji38) + t243)) : Int) ≤ (l1_6.length : Int) := of_decide_eq_true (by first | (with_reducible assumption) | assumption); omega)] <;> rfl) | (simp only [hji38]; rfl) | rfl | (simp only [List.length_drop, List.length_take]; rfl)) ?_; (with_reducible refine (annuletref18_Bytes.calls k2 a1_0 a1_1 a1_2 a1_3 (IntKind.u16.wrap (x9_2)) (IntKind.u16.wrap (t240)) _ _ ((l1_6.take ((wrap64 ((ji38) + t243)) : Int).toNat).drop ((ji38) : Int).toNat) t254 _ ?side1 ?side2 A42.out).mono ?_); (case side1 => exact Kd.C_below HR252.out (by repeat (first | (with_reducible first | exact HB.out | apply below_alloc | apply pw_below_drewN | apply below_drew1 | refine below_set ?_ GE239.out | refine below_set ?_ GE253.out) | exact HB.out))); (case side2 => exact HC252.out); rintro e w57 ⟨v255, rfl, ho0, hb⟩; refine ⟨_, rfl, ?_⟩; have n0_ := Aside0.mk (Kd.S_elder' (by (with_reducible repeat (first | apply Kd.S_alloc | apply Kd.S_drewN | apply Kd.S_drew)); exact (Kd.S_mono (Kd.S_far (p := ⟨gb253, 6, none⟩) (Kd.S_far (p := ⟨gb253, 5, none⟩) (Kd.S_far (p := ⟨gb253, 4, none⟩) (Kd.S_far (p := ⟨gb253, 3, none⟩) (Kd.S_far (p := ⟨gb253, 2, none⟩) (Kd.S_far (p := ⟨gb253, 1, none⟩) (Kd.S_far (p := ⟨gb253, 0, none⟩) (Kd.S_types HO_8.out BK253.out (by decide)) (fun _ hk => hk.2) (.int .u8 a1_0)) (fun _ hk => hk.2) (.int .u8 a1_1)) (fun _ hk => hk.2) (.int .u32 a1_2)) (fun _ hk => hk.2) (.int .u32 a1_3)) (fun _ hk => hk.2) (.int .u16 (IntKind.u16.wrap (x9_2)))) (fun _ hk => hk.2) (.int .u16 (IntKind.u16.wrap (t240)))) (fun _ hk => hk.2) (.slice A46 ((wrap64 ((ji38) + t243)).toNat - (ji38).toNat) (c1_6 - (ji38).toNat))) (fun _ h_ => h_.1))) (Kd.R_base ho0) hb); have n1_ := Aside0.mk (Kd.R_lower ho0 (below_size (by repeat (first | (with_reducible first | exact HB.out | apply below_alloc | apply pw_below_drewN | apply below_drew1 | refine below_set ?_ GE239.out | refine below_set ?_ GE253.out) | exact HB.out)))); have n2_ := Aside0.mk (blk_below (g := gb239) (o := .cells #[.int .u8 a1_0, .int .u8 a1_1, .int .u32 a1_2, .int .u32 a1_3, .int .u16 a1_4, .int .u16 a1_5, .slice A1_6 l1_6.length c1_6] 32 (0, 0)) (by (with_reducible repeat (first | refine blk_drewN ?_ _ | refine blk_drew ?_ | refine blk_alloc ?_ _)); refine blk_far ?_ NB239_253.out _; (with_reducible repeat (first | refine blk_drewN ?_ _ | refine blk_drew ?_ | refine blk_alloc ?_ _)); refine blk_far ?_ NB239_253.out _; (with_reducible repeat (first | refine blk_drewN ?_ _ | refine blk_drew ?_ | refine blk_alloc ?_ _)); refine blk_far ?_ NB239_253.out _; (with_reducible repeat (first | refine blk_drewN ?_ _ | refine blk_drew ?_ | refine blk_alloc ?_ _)); refine blk_far ?_ NB239_253.out _; (with_reducible repeat (first | refine blk_drewN ?_ _ | refine blk_drew ?_ | refine blk_alloc ?_ _)); refine blk_far ?_ NB239_253.out _; (with_reducible repeat (first | refine blk_drewN ?_ _ | refine blk_drew ?_ | refine blk_alloc ?_ _)); refine blk_far ?_ NB239_253.out _; (with_reducible repeat (first | refine blk_drewN ?_ _ | refine blk_drew ?_ | refine blk_alloc ?_ _)); refine blk_far ?_ NB239_253.out _; (with_reducible repeat (first | refine blk_drewN ?_ _ | refine blk_drew ?_ | refine blk_alloc ?_ _)); exact BK239.out) hb); have n3_ := Aside0.mk (blk_below (g := gb253) (o := .cells #[.int .u8 a1_0, .int .u8 a1_1, .int .u32 a1_2, .int .u32 a1_3, .int .u16 (IntKind.u16.wrap (x9_2)), .int .u16 (IntKind.u16.wrap (t240)), .slice A46 ((wrap64 ((ji38) + t243)).toNat - (ji38).toNat) (c1_6 - (ji38).toNat)] 32 (0, 0)) (by (with_reducible repeat (first | refine blk_drewN ?_ _ | refine blk_drew ?_ | refine blk_alloc ?_ _)); refine blk_put (cs := #[.int .u8 a1_0, .int .u8 a1_1, .int .u32 a1_2, .int .u32 a1_3, .int .u16 (IntKind.u16.wrap (x9_2)), .int .u16 (IntKind.u16.wrap (t240)), .slice none 0 0]) ?_ 6 _ rfl; (with_reducible repeat (first | refine blk_drewN ?_ _ | refine blk_drew ?_ | refine blk_alloc ?_ _)); refine blk_put (cs := #[.int .u8 a1_0, .int .u8 a1_1, .int .u32 a1_2, .int .u32 a1_3, .int .u16 (IntKind.u16.wrap (x9_2)), .int .u16 0, .slice none 0 0]) ?_ 5 _ rfl; (with_reducible repeat (first | refine blk_drewN ?_ _ | refine blk_drew ?_ | refine blk_alloc ?_ _)); refine blk_put (cs := #[.int .u8 a1_0, .int .u8 a1_1, .int .u32 a1_2, .int .u32 a1_3, .int .u16 0, .int .u16 0, .slice none 0 0]) ?_ 4 _ rfl; (with_reducible repeat (first | refine blk_drewN ?_ _ | refine blk_drew ?_ | refine blk_alloc ?_ _)); refine blk_put (cs := #[.int .u8 a1_0, .int .u8 a1_1, .int .u32 a1_2, .int .u32 0, .int .u16 0, .int .u16 0, .slice none 0 0]) ?_ 3 _ rfl; (with_reducible repeat (first | refine blk_drewN ?_ _ | refine blk_drew ?_ | refine blk_alloc ?_ _)); refine blk_put (cs := #[.int .u8 a1_0, .int .u8 a1_1, .int .u32 0, .int .u32 0, .int .u16 0, .int .u16 0, .slice none 0 0]) ?_ 2 _ rfl; (with_reducible repeat (first | refine blk_drewN ?_ _ | refine blk_drew ?_ | refine blk_alloc ?_ _)); refine blk_put (cs := #[.int .u8 a1_0, .int .u8 0, .int .u32 0, .int .u32 0, .int .u16 0, .int .u16 0, .slice none 0 0]) ?_ 1 _ rfl; (with_reducible repeat (first | refine blk_drewN ?_ _ | refine blk_drew ?_ | refine blk_alloc ?_ _)); refine blk_put (cs := #[.int .u8 0, .int .u8 0, .int .u32 0, .int .u32 0, .int .u16 0, .int .u16 0, .slice none 0 0]) ?_ 0 _ rfl; (with_reducible repeat (first | refine blk_drewN ?_ _ | refine blk_drew ?_ | refine blk_alloc ?_ _)); exact BK253.out) hb); have n4_ := Aside0.mk (below_step (by repeat (first | (with_reducible first | exact HB.out | apply below_alloc | apply pw_below_drewN | apply below_drew1 | refine below_set ?_ GE239.out | refine below_set ?_ GE253.out) | exact HB.out)) hb); clear HO_8; clear BK239; clear BK253; clear HB; have HO_8 := n0_; have HO256 := n1_; have BK239 := n2_; have BK253 := n3_; have HB := n4_; clear n0_ n1_ n2_ n3_ n4_; (try clear hb); (try clear hb2); (try clear hk); (try clear hi); (try clear ho0); obtain ⟨Ao59, co59, eo59⟩ := Kd.R_slice HO256.out; subst eo59) | ((with_reducible refine gate_builtin (b := .append) (xs := #[.tmp 71, .tmp 74]) rfl ?_); at_builtin; refine Kd.S_append (Kd.slice 5 (Kd.int .u8)) (w0 := w) w.heap.size rfl (.tmp 71) (.tmp 74) 33 30 (.slice none 0 0) 24 rfl Try.underlying33 info30 rfl (by decide) (by omega) u8 x8_2 t254 [.slice Ao59 t254.length co59] (fun _ => True) (fun k_ => some k_ = (.slice Ao59 t254.length co59 : Value).ownBlock) rfl rfl ?aP (fun k_ hk_ => ((Kd.R_mono (ok' := fun k_ => ((fun _ => True)) k_ ∧ some k_ ≠ (u8 : Value).ownBlock) (Kd.R_apart' (HO256.out) (Kd.S_typed HO_8.out) (by decide)) (fun k_ hk => ⟨trivial, hk.2⟩))).1 k_ hk_.symm) ?aF ?aO ?aB ?aS ?aL ?_; (case aP => exact Kd.M_row (Kd.R_mono (Kd.R_tight rfl (Kd.R_mono (ok' := fun k_ => ((fun _ => True)) k_ ∧ some k_ ≠ (u8 : Value).ownBlock) (Kd.R_apart' (HO256.out) (Kd.S_typed HO_8.out) (by decide)) (fun k_ hk => ⟨trivial, hk.2⟩))) (fun _ h_ => h_))); (case aB => exact (by repeat (first | (with_reducible first | exact HB.out | apply below_alloc | apply pw_below_drewN | apply below_drew1 | refine below_set ?_ GE239.out | refine below_set ?_ GE253.out) | exact HB.out))); (case aF => exact (fun _ _ => trivial)); (case aO => exact (by (with_reducible repeat (first | apply Kd.S_alloc | apply Kd.S_drewN | apply Kd.S_drew)); exact Kd.S_mono HO_8.out (fun k_ hk => ⟨trivial, fun e_ => hk.2 e_⟩))); (case aS => exact (below_size (by repeat (first | (with_reducible first | exact HB.out | apply below_alloc | apply pw_below_drewN | apply below_drew1 | refine below_set ?_ GE239.out | refine below_set ?_ GE253.out) | exact HB.out)))); (case aL => have := LMc43.out; omega); intro v258 w58 ho hb hg hat; rw [← Ny257.out] at ho; have n0_ := Aside0.mk (blk_grown (g := gb239) (o := .cells #[.int .u8 a1_0, .int .u8 a1_1, .int .u32 a1_2, .int .u32 a1_3, .int .u16 a1_4, .int .u16 a1_5, .slice A1_6 l1_6.length c1_6] 32 (0, 0)) (by (with_reducible repeat (first | refine blk_drewN ?_ _ | refine blk_drew ?_ | refine blk_alloc ?_ _)); exact BK239.out) hg (Kd.S_ne HO_8.out BK239.out (by decide))); have n1_ := Aside0.mk (blk_grown (g := gb253) (o := .cells #[.int .u8 a1_0, .int .u8 a1_1, .int .u32 a1_2, .int .u32 a1_3, .int .u16 (IntKind.u16.wrap (x9_2)), .int .u16 (IntKind.u16.wrap (t240)), .slice A46 ((wrap64 ((ji38) + t243)).toNat - (ji38).toNat) (c1_6 - (ji38).toNat)] 32 (0, 0)) (by (with_reducible repeat (first | refine blk_drewN ?_ _ | refine blk_drew ?_ | refine blk_alloc ?_ _)); exact BK253.out) hg (Kd.S_ne HO_8.out BK253.out (by decide))); have n2_ := Aside0.mk (hb); have n3_ := Aside0.mk (ho); clear BK239; clear BK253; clear HB; clear HO_8; clear HO256; have BK239 := n0_; have BK253 := n1_; have HB := n2_; have HO259 := n3_; clear n0_ n1_ n2_ n3_; clear ho hb hg hat))
                          go_roundg k2
                          case measure => have := HJ4.out; have := HK2.out; omega
                          case rel => exact ⟨(y257), (wrap64 (x9_2 + 1)), (by first | rfl | (simp; done) | (simp [*]; done)), H', ⟨by have := HJ4.out; have := HK2.out; omega⟩, ⟨by (with_reducible repeat (first | apply Kd.S_alloc | apply Kd.S_drewN | apply Kd.S_drew)); exact HO259.out⟩, ⟨by (with_reducible repeat (first | refine blk_drewN ?_ _ | refine blk_drew ?_ | refine blk_alloc ?_ _)); exact BK239.out⟩, ⟨by repeat (first | (with_reducible first | exact HB.out | apply below_alloc | apply pw_below_drewN | apply below_drew1 | refine below_set ?_ GE239.out | refine below_set ?_ GE253.out) | exact HB.out)⟩⟩
                        · rw [if_neg c43] at H
                          exact absurd H (by simp)
                      · rw [if_neg c41] at H
                        exact absurd H (by simp)
                    · rw [if_neg c40] at H
                      exact absurd H (by simp)
                  · rw [if_neg c39] at H
                    exact absurd H (by simp)
              · rw [if_neg c12] at H
                have c12b0 : decide (x9_2 < t240) = false := decide_eq_false c12
                clear c12
                simp only [Option.some.injEq, Prod.mk.injEq] at H
                obtain ⟨rfl, rfl⟩ := H
                go_wp2
                all_goals go_ret2
                all_goals first | (exact ⟨_, by first | rfl | (simp [errW_none, errW_some] <;> rfl) | (simp [*, errW_none, errW_some] <;> rfl), by (with_reducible repeat (first | apply Kd.S_alloc | apply Kd.S_drewN | apply Kd.S_drew)); exact HO_8.out, by repeat (first | (with_reducible first | exact HB.out | apply below_alloc | apply pw_below_drewN | apply below_drew1 | refine below_set ?_ GE239.out) | exact HB.out)⟩) | (exfalso; simp_all; done)
  · rw [if_neg c4] at H
    have c4b0 : (t241 == 0) = false := beq_eq_false_iff_ne.mpr c4
    have c4b1 : (t241 != 0) = true := bne_iff_ne.mpr c4
    simp only [Option.some.injEq, Prod.mk.injEq] at H
    obtain ⟨rfl, rfl⟩ := H
    go_enter Try.func12, Try.ntmps12
    go_wp2_with (first | ((with_reducible refine gate_dst (N := 3) rfl ?_); refine box_event ?hg (N := 3) ?hd (cs := #[.int .u8 a1_0, .int .u8 a1_1, .int .u32 a1_2, .int .u32 a1_3, .int .u16 a1_4, .int .u16 a1_5, .slice A1_6 l1_6.length c1_6]) (t := 32) ?hr ?_; (case hd => rfl); (case hg => rfl); (case hr => first | (go_simp; done) | (go_simp; rfl)); intro gb239 hg w60 hbox hb; have n0_ := Aside0.mk (below_step (by repeat (first | (with_reducible first | exact HB.out | apply below_alloc | apply pw_below_drewN | apply below_drew1) | exact HB.out)) hb); have n1_ := Aside0.mk (hbox); have n2_ := Aside0.mk ((by rw [hg]; exact (below_size (by repeat (first | (with_reducible first | exact HB.out | apply below_alloc | apply pw_below_drewN | apply below_drew1) | exact HB.out))) : w.heap.size ≤ gb239)); have n3_ := Aside0.mk ((by rw [hg]; exact (below_size (by repeat (first | (with_reducible first | exact HB.out | apply below_alloc | apply pw_below_drewN | apply below_drew1) | exact HB.out))) : w.heap.size ≤ gb239)); clear HB; have HB := n0_; have BK239 := n1_; have GW239 := n2_; have GE239 := n3_; clear n0_ n1_ n2_ n3_; clear hb hbox hg; have hcz61_0 : w60.cell? ⟨gb239, 0, none⟩ = some (.int .u8 a1_0) := (blk_cell BK239.out 0).trans rfl; have hcz61_1 : w60.cell? ⟨gb239, 1, none⟩ = some (.int .u8 a1_1) := (blk_cell BK239.out 1).trans rfl; have hcz61_2 : w60.cell? ⟨gb239, 2, none⟩ = some (.int .u32 a1_2) := (blk_cell BK239.out 2).trans rfl; have hcz61_3 : w60.cell? ⟨gb239, 3, none⟩ = some (.int .u32 a1_3) := (blk_cell BK239.out 3).trans rfl; have hcz61_4 : w60.cell? ⟨gb239, 4, none⟩ = some (.int .u16 a1_4) := (blk_cell BK239.out 4).trans rfl; have hcz61_5 : w60.cell? ⟨gb239, 5, none⟩ = some (.int .u16 a1_5) := (blk_cell BK239.out 5).trans rfl; have hcz61_6 : w60.cell? ⟨gb239, 6, none⟩ = some (.slice A1_6 l1_6.length c1_6) := (blk_cell BK239.out 6).trans rfl; have hfz61_0 := blk_frozen BK239.out 0; have hfz61_1 := blk_frozen BK239.out 1; have hfz61_2 := blk_frozen BK239.out 2; have hfz61_3 := blk_frozen BK239.out 3; have hfz61_4 := blk_frozen BK239.out 4; have hfz61_5 := blk_frozen BK239.out 5; have hfz61_6 := blk_frozen BK239.out 6) | ((with_reducible refine gate_callee (f := 7) rfl ?_); refine goesL_ (some 18) rfl rfl Try.func7 (by kernel_rfl) rfl #[.int .i64 a0, .int .i64 (l1_6.length : Int)] rfl (by (try simp only [List.map_toArray, List.map_cons, List.map_nil]); first | done | rfl | (simp only [List.length_drop, List.length_take]; rfl)) ?_; (with_reducible refine (annuletref19_Count.calls k a0 (l1_6.length : Int) t240 t241 _ A3.out).mono ?_); rintro e w' ⟨rfl, ⟨nd, rfl⟩⟩; refine ⟨_, rfl, ?_⟩))
    all_goals go_ret2
    all_goals first | (exact ⟨_, by first | rfl | (simp [errW_none, errW_some] <;> rfl) | (simp [*, errW_none, errW_some] <;> rfl), by first | exact Kd.S_nil _ _ _ _ _ | exact Kd.N_nil _ _ _ _ _ | exact Kd.V_nil _ _ _ _ _ | exact Kd.Q_nil _ _ _ _ _ | exact Kd.R_nil _ _ _ _ _, by repeat (first | (with_reducible first | exact HB.out | apply below_alloc | apply pw_below_drewN | apply below_drew1 | refine below_set ?_ GE239.out) | exact HB.out)⟩) | (exfalso; simp_all; done)

end Go.Proofs.Ytplloiinedbnlaa.PSplitParts
