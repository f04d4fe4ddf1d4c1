/- Written by a program of this session (a turned copy of the kit's print): functions of the program, each with the Lean function that it comes to, and the row of one law. No condition. -/
import Derived.Test.YtplloiinedbnlaaPSplitBackx0
import Derived.Test.YtplloiinedbnlaaPSplitBackx1
import Derived.Test.YtplloiinedbnlaaPSplitBackx2
namespace Go.Proofs.Ytplloiinedbnlaa.PSplitBack
open Go.RowKit Go.Proofs.YtplloiinedbnlaaW.PrintWords Go.Proofs.YtplloiinedbnlaaW.PrintLast Go.Proofs.YtplloiinedbnlaaW.PrintMore
attribute [local go_sem] max2_int min2_int max_two min_two max_three min_three max_four min_four   -- for this text's walks alone
set_option linter.unusedVariables false
set_option linter.unusedSimpArgs false

/-! ### split_Split: function 11 -/
def split_Split.l0 : Nat → Int → Int → List (List Int) → List Int → Int → Int → Int → Int → Int → Int → Int → Int → List Int → Option ((List (List Int)) × Int)
  | 0, _, _, _, _, _, _, _, _, _, _, _, _, _ => none
  | k + 1, x0, x6, x8, x9, x27, x28, x150000, x150001, x150002, x150003, x150004, x150005, x150006 => if x28 < x27 then ((split_Room.f x0).bind fun t153 => (if 0 ≤ (mn t153 (x9.length : Int)) then (if (mn t153 (x9.length : Int)) ≤ (x9.length : Int) then ((some (x9.take ((mn t153 (x9.length : Int)) : Int).toNat : List Int)).bind fun y154 => (if 0 ≤ (y154.length : Int) then (if (y154.length : Int) ≤ (x9.length : Int) then ((gram_Put.f k x150000 x150001 x150002 x150003 (IntKind.u16.wrap (x28)) (IntKind.u16.wrap (x6)) y154).bind fun bt164 => (if bt164.2 = 0 then (if x8.length < 5864062014805 then (split_Split.l0 k x0 x6 (x8 ++ [bt164.1]) (x9.drop ((y154.length : Int) : Int).toNat) x27 (wrap64 (x28 + 1)) x150000 x150001 x150002 x150003 x150004 x150005 x150006) else (none)) else (some (([] : List (List Int)), bt164.2)))) else (none)) else (none))) else (none)) else (none))) else (some (x8, 0))
def split_Split.f (k : Nat) (a0 : Int) (a1_0 : Int) (a1_1 : Int) (a1_2 : Int) (a1_3 : Int) (a1_4 : Int) (a1_5 : Int) (l1_6 : List Int) : Option ((List (List Int)) × Int) := (split_Count.f k a0 (l1_6.length : Int)).bind fun bt150 => (if bt150.2 = 0 then (split_Split.l0 k a0 bt150.1 ([] : List (List Int)) l1_6 bt150.1 0 a1_0 a1_1 a1_2 a1_3 a1_4 a1_5 l1_6) else (some (([] : List (List Int)), bt150.2)))
theorem split_Split.mono_l : ∀ k, (∀ y0 y1 y2 y3 y4 y5 y6 y7 y8 y9 y10 y11 y12, LeO (split_Split.l0 k y0 y1 y2 y3 y4 y5 y6 y7 y8 y9 y10 y11 y12) (split_Split.l0 (k + 1) y0 y1 y2 y3 y4 y5 y6 y7 y8 y9 y10 y11 y12))
  | 0 => fun _ _ _ _ _ _ _ _ _ _ _ _ _ r h => by simp [split_Split.l0] at h
  | k + 1 => by
    have ih0 := split_Split.mono_l k
    · intro y0 y1 y2 y3 y4 y5 y6 y7 y8 y9 y10 y11 y12
      unfold split_Split.l0
      repeat' first
      | (with_reducible exact ih0 _ _ _ _ _ _ _ _ _ _ _ _ _)
      | (with_reducible exact gram_Put.mono _ _ _ _ _ _ _ _)
      | (with_reducible exact split_Count.mono _ _ _)
      | (with_reducible exact LeO.refl _)
      | (with_reducible exact LeO.none _)
      | (with_reducible refine LeO.ite ?_ ?_)
      | (with_reducible refine LeO.bind ?_ (fun _ => ?_))
      | exact ih0 _ _ _ _ _ _ _ _ _ _ _ _ _
      | exact gram_Put.mono _ _ _ _ _ _ _ _
      | exact split_Count.mono _ _ _
      | exact LeO.none _
      | refine LeO.ite ?_ ?_
      | refine LeO.bind ?_ (fun _ => ?_)
theorem split_Split.mono : ∀ a0 a1 a2 a3 a4 a5 a6 a7 k, LeO (split_Split.f k a0 a1 a2 a3 a4 a5 a6 a7) (split_Split.f (k + 1) a0 a1 a2 a3 a4 a5 a6 a7) := by
  intro a0 a1 a2 a3 a4 a5 a6 a7 k
  have ih0 := split_Split.mono_l k
  unfold split_Split.f
  repeat' first
      | (with_reducible exact ih0 _ _ _ _ _ _ _ _ _ _ _ _ _)
      | (with_reducible exact gram_Put.mono _ _ _ _ _ _ _ _)
      | (with_reducible exact split_Count.mono _ _ _)
      | (with_reducible exact LeO.refl _)
      | (with_reducible exact LeO.none _)
      | (with_reducible refine LeO.ite ?_ ?_)
      | (with_reducible refine LeO.bind ?_ (fun _ => ?_))
      | exact ih0 _ _ _ _ _ _ _ _ _ _ _ _ _
      | exact gram_Put.mono _ _ _ _ _ _ _ _
      | exact split_Count.mono _ _ _
      | exact LeO.none _
      | refine LeO.ite ?_ ?_
      | refine LeO.bind ?_ (fun _ => ?_)
set_option maxHeartbeats 3000000 in
set_option maxRecDepth 100000 in
theorem split_Split.calls (k : Nat) (a0 : Int) (a1_0 : Int) (a1_1 : Int) (a1_2 : Int) (a1_3 : Int) (a1_4 : Int) (a1_5 : Int) (P1_6_ : Nat → Prop) (A1_6 : Option Addr) (c1_6 : Nat) (l1_6 : List Int) (r1 : List (List Int)) (r2 : Int) (w : World) (hs1_6 : Kd.V (Kd.int .u8) 5 w w.heap.size (fun k_ => P1_6_ k_) (.slice A1_6 l1_6.length c1_6) l1_6) (h : split_Split.f k a0 a1_0 a1_1 a1_2 a1_3 a1_4 a1_5 l1_6 = some (r1, r2)) :
    Calls Try.prog 11 #[.int .i64 a0, .agg #[.int .u8 a1_0, .int .u8 a1_1, .int .u32 a1_2, .int .u32 a1_3, .int .u16 a1_4, .int .u16 a1_5, .slice A1_6 l1_6.length c1_6]] w fun e w' => ∃ v0_ : Value, e = .returned (.tuple #[v0_, .int .i64 r2]) ∧ Kd.S (Kd.slice 5 (Kd.int .u8)) 30 w' w.heap.size (fun k_ => (w.heap.size ≤ k_)) v0_ r1 ∧ Below w.heap.size w w' := by
  have hu32 := Try.underlying32
  have HO1_6 := Aside0.mk (show Kd.V (Kd.int .u8) 5 w w.heap.size (fun k_ => (P1_6_ k_ ∨ w.heap.size ≤ k_)) (.slice A1_6 l1_6.length c1_6) l1_6 from Kd.V_mono hs1_6 (fun k_ hk => .inl hk))
  have HB := Aside0.mk (Below.refl w.heap.size w)
  have H : ((split_Count.f k a0 (l1_6.length : Int)).bind fun bt150 => (if bt150.2 = 0 then (split_Split.l0 k a0 bt150.1 ([] : List (List Int)) l1_6 bt150.1 0 a1_0 a1_1 a1_2 a1_3 a1_4 a1_5 l1_6) else (some (([] : List (List Int)), bt150.2)))) = some (r1, r2) := h
  clear h
  replace H := Option.bind_eq_some_iff.mp H
  obtain ⟨⟨t150, t151⟩, A30, H⟩ := H
  replace H : (if t151 = 0 then (split_Split.l0 k a0 t150 ([] : List (List Int)) l1_6 t150 0 a1_0 a1_1 a1_2 a1_3 a1_4 a1_5 l1_6) else (some (([] : List (List Int)), t151))) = some (r1, r2) := H
  have A3 := Aside0.mk A30
  clear A30
  by_cases c4 : t151 = 0
  · rw [if_pos c4] at H
    have c4b0 : (t151 == 0) = true := beq_iff_eq.mpr c4
    have c4b1 : (t151 != 0) = false := bne_eq_false_iff_eq.mpr c4
    clear c4
    have H' := Aside0.mk H
    clear H
    go_enter Try.func11, Try.ntmps11
    go_wp2_with (first | ((with_reducible refine gate_dst (N := 3) rfl ?_); refine box_event ?hg (N := 3) ?hd (cs := #[.int .u8 a1_0, .int .u8 a1_1, .int .u32 a1_2, .int .u32 a1_3, .int .u16 a1_4, .int .u16 a1_5, .slice A1_6 l1_6.length c1_6]) (t := 32) ?hr ?_; (case hd => rfl); (case hg => rfl); (case hr => first | (go_simp; done) | (go_simp; rfl)); intro gb149 hg w5 hbox hb; have n0_ := Aside0.mk (Kd.V_below (Kd.V_elderB (by (with_reducible repeat (first | apply Kd.V_alloc | apply Kd.V_drewN | apply Kd.V_drew)); exact HO1_6.out) gb149 (Nat.le_of_eq hg.symm)) hb); have n1_ := Aside0.mk (below_step (by repeat (first | (with_reducible first | exact HB.out | apply below_alloc | apply pw_below_drewN | apply below_drew1) | exact HB.out)) hb); have n2_ := Aside0.mk (hbox); have n3_ := Aside0.mk ((by rw [hg]; exact (below_size (by repeat (first | (with_reducible first | exact HB.out | apply below_alloc | apply pw_below_drewN | apply below_drew1) | exact HB.out))) : w.heap.size ≤ gb149)); have n4_ := Aside0.mk ((by rw [hg]; exact (below_size (by repeat (first | (with_reducible first | exact HB.out | apply below_alloc | apply pw_below_drewN | apply below_drew1) | exact HB.out))) : w.heap.size ≤ gb149)); clear HO1_6; clear HB; have HO1_6 := n0_; have HB := n1_; have BK149 := n2_; have GW149 := n3_; have GE149 := n4_; clear n0_ n1_ n2_ n3_ n4_; clear hb hbox hg; have hcz6_0 : w5.cell? ⟨gb149, 0, none⟩ = some (.int .u8 a1_0) := (blk_cell BK149.out 0).trans rfl; have hcz6_1 : w5.cell? ⟨gb149, 1, none⟩ = some (.int .u8 a1_1) := (blk_cell BK149.out 1).trans rfl; have hcz6_2 : w5.cell? ⟨gb149, 2, none⟩ = some (.int .u32 a1_2) := (blk_cell BK149.out 2).trans rfl; have hcz6_3 : w5.cell? ⟨gb149, 3, none⟩ = some (.int .u32 a1_3) := (blk_cell BK149.out 3).trans rfl; have hcz6_4 : w5.cell? ⟨gb149, 4, none⟩ = some (.int .u16 a1_4) := (blk_cell BK149.out 4).trans rfl; have hcz6_5 : w5.cell? ⟨gb149, 5, none⟩ = some (.int .u16 a1_5) := (blk_cell BK149.out 5).trans rfl; have hcz6_6 : w5.cell? ⟨gb149, 6, none⟩ = some (.slice A1_6 l1_6.length c1_6) := (blk_cell BK149.out 6).trans rfl; have hfz6_0 := blk_frozen BK149.out 0; have hfz6_1 := blk_frozen BK149.out 1; have hfz6_2 := blk_frozen BK149.out 2; have hfz6_3 := blk_frozen BK149.out 3; have hfz6_4 := blk_frozen BK149.out 4; have hfz6_5 := blk_frozen BK149.out 5; have hfz6_6 := blk_frozen BK149.out 6) | ((with_reducible refine gate_callee (f := 6) rfl ?_); refine goesL_ (some 19) rfl rfl Try.func6 (by kernel_rfl) rfl #[.int .i64 a0, .int .i64 (l1_6.length : Int)] rfl (by (try simp only [List.map_toArray, List.map_cons, List.map_nil]); first | done | rfl | (simp only [List.length_drop, List.length_take]; rfl)) ?_; (with_reducible refine (split_Count.calls k a0 (l1_6.length : Int) t150 t151 _ A3.out).mono ?_); rintro e w7 ⟨rfl, hb⟩; refine ⟨_, rfl, ?_⟩; have n0_ := Aside0.mk (Kd.V_below (by (with_reducible repeat (first | apply Kd.V_alloc | apply Kd.V_drewN | apply Kd.V_drew)); exact HO1_6.out) hb); have n1_ := Aside0.mk (blk_below (g := gb149) (o := .cells #[.int .u8 a1_0, .int .u8 a1_1, .int .u32 a1_2, .int .u32 a1_3, .int .u16 a1_4, .int .u16 a1_5, .slice A1_6 l1_6.length c1_6] 32 (0, 0)) (by (with_reducible repeat (first | refine blk_drewN ?_ _ | refine blk_drew ?_ | refine blk_alloc ?_ _)); exact BK149.out) hb); have n2_ := Aside0.mk (below_step (by repeat (first | (with_reducible first | exact HB.out | apply below_alloc | apply pw_below_drewN | apply below_drew1 | refine below_set ?_ GE149.out) | exact HB.out)) hb); clear HO1_6; clear BK149; clear HB; have HO1_6 := n0_; have BK149 := n1_; have HB := n2_; clear n0_ n1_ n2_; (try clear hb); (try clear hb2); (try clear hk); (try clear hi); have hcz8_0 : w7.cell? ⟨gb149, 0, none⟩ = some (.int .u8 a1_0) := (blk_cell BK149.out 0).trans rfl; have hcz8_1 : w7.cell? ⟨gb149, 1, none⟩ = some (.int .u8 a1_1) := (blk_cell BK149.out 1).trans rfl; have hcz8_2 : w7.cell? ⟨gb149, 2, none⟩ = some (.int .u32 a1_2) := (blk_cell BK149.out 2).trans rfl; have hcz8_3 : w7.cell? ⟨gb149, 3, none⟩ = some (.int .u32 a1_3) := (blk_cell BK149.out 3).trans rfl; have hcz8_4 : w7.cell? ⟨gb149, 4, none⟩ = some (.int .u16 a1_4) := (blk_cell BK149.out 4).trans rfl; have hcz8_5 : w7.cell? ⟨gb149, 5, none⟩ = some (.int .u16 a1_5) := (blk_cell BK149.out 5).trans rfl; have hcz8_6 : w7.cell? ⟨gb149, 6, none⟩ = some (.slice A1_6 l1_6.length c1_6) := (blk_cell BK149.out 6).trans rfl; have hfz8_0 := blk_frozen BK149.out 0; have hfz8_1 := blk_frozen BK149.out 1; have hfz8_2 := blk_frozen BK149.out 2; have hfz8_3 := blk_frozen BK149.out 3; have hfz8_4 := blk_frozen BK149.out 4; have hfz8_5 := blk_frozen BK149.out 5; have hfz8_6 := blk_frozen BK149.out 6))
    go_loopg [8, 9, 28] k (fun kq v8 v9 v28 w' => ∃ (x8_1 : List (List Int)) (x9_1 : List Int) (x28_1 : Int), v28 = .int .i64 x28_1 ∧ Aside0 (split_Split.l0 kq a0 t150 x8_1 x9_1 t150 x28_1 a1_0 a1_1 a1_2 a1_3 a1_4 a1_5 l1_6 = some (r1, r2)) ∧ Aside0 (kq ≤ k) ∧ Aside0 (Kd.S (Kd.slice 5 (Kd.int .u8)) 30 w' w.heap.size (fun k_ => (w.heap.size ≤ k_)) v8 x8_1) ∧ Aside0 (Kd.V (Kd.int .u8) 5 w' w.heap.size (fun k_ => (P1_6_ k_ ∨ w.heap.size ≤ k_) ∧ some k_ ≠ (v8 : Value).ownBlock ∧ k_ ≠ gb149) v9 x9_1) ∧ Aside0 (Kd.V (Kd.int .u8) 5 w' w.heap.size (fun k_ => (P1_6_ k_ ∨ w.heap.size ≤ k_) ∧ some k_ ≠ (v8 : Value).ownBlock ∧ k_ ≠ gb149) (.slice A1_6 l1_6.length c1_6) l1_6) ∧ Aside0 (w'.heap[gb149]? = some (.cells #[.int .u8 a1_0, .int .u8 a1_1, .int .u32 a1_2, .int .u32 a1_3, .int .u16 a1_4, .int .u16 a1_5, (.slice A1_6 l1_6.length c1_6)] 32 (0, 0))) ∧ Aside0 (Below w.heap.size w w'))
    case atStart => exact ⟨(([] : List (List Int))), (l1_6), (0), (by first | rfl | (simp; done) | (simp [*]; done)), H', ⟨Nat.le_refl _⟩, ⟨by first | exact Kd.S_nil _ _ _ _ _ | exact Kd.N_nil _ _ _ _ _ | exact Kd.V_nil _ _ _ _ _ | exact Kd.Q_nil _ _ _ _ _ | exact Kd.R_nil _ _ _ _ _⟩, ⟨by (with_reducible repeat (first | apply Kd.V_alloc | apply Kd.V_drewN | apply Kd.V_drew)); exact Kd.V_mono HO1_6.out (fun _ hk => ⟨hk.1, ⟨(by simp [Value.ownBlock]), hk.2⟩⟩)⟩, ⟨by (with_reducible repeat (first | apply Kd.V_alloc | apply Kd.V_drewN | apply Kd.V_drew)); exact Kd.V_mono HO1_6.out (fun _ hk => ⟨hk.1, ⟨(by simp [Value.ownBlock]), hk.2⟩⟩)⟩, ⟨by (with_reducible repeat (first | refine blk_drewN ?_ _ | refine blk_drew ?_ | refine blk_alloc ?_ _)); exact BK149.out⟩, ⟨by repeat (first | (with_reducible first | exact HB.out | apply below_alloc | apply pw_below_drewN | apply below_drew1 | refine below_set ?_ GE149.out) | exact HB.out)⟩⟩
    case round =>
      clear H'
      try clear c1
      try clear p2
      try clear c4
      try clear c4b0
      try clear c4b1
      try clear c6
      try clear hcz6_0
      try clear hcz6_1
      try clear hcz6_2
      try clear hcz6_3
      try clear hcz6_4
      try clear hcz6_5
      try clear hcz6_6
      try clear hcz8_0
      try clear hcz8_1
      try clear hcz8_2
      try clear hcz8_3
      try clear hcz8_4
      try clear hcz8_5
      try clear hcz8_6
      try clear hfz6_0
      try clear hfz6_1
      try clear hfz6_2
      try clear hfz6_3
      try clear hfz6_4
      try clear hfz6_5
      try clear hfz6_6
      try clear hfz8_0
      try clear hfz8_1
      try clear hfz8_2
      try clear hfz8_3
      try clear hfz8_4
      try clear hfz8_5
      try clear hfz8_6
      obtain ⟨x8_1, x9_1, x28_1, rfl, HA, HK1, HO_8, HO_9, HO_150006, BK149, HB⟩ := hrel
      cases gk with
      | zero => exact absurd HA.out (by simp [split_Split.l0])
      | succ k1 =>
        have H := HA.out
        clear HA
        simp only [split_Split.l0] at H
        by_cases c9 : x28_1 < t150
        · rw [if_pos c9] at H
          have c9b0 : decide (x28_1 < t150) = true := decide_eq_true c9
          clear c9
          replace H := Option.bind_eq_some_iff.mp H
          obtain ⟨t153, A100, H⟩ := H
          replace H : (if 0 ≤ (mn t153 (x9_1.length : Int)) then (if (mn t153 (x9_1.length : Int)) ≤ (x9_1.length : Int) then ((some (x9_1.take ((mn t153 (x9_1.length : Int)) : Int).toNat : List Int)).bind fun y154 => (if 0 ≤ (y154.length : Int) then (if (y154.length : Int) ≤ (x9_1.length : Int) then ((gram_Put.f k1 a1_0 a1_1 a1_2 a1_3 (IntKind.u16.wrap (x28_1)) (IntKind.u16.wrap (t150)) y154).bind fun bt164 => (if bt164.2 = 0 then (if x8_1.length < 5864062014805 then (split_Split.l0 k1 a0 t150 (x8_1 ++ [bt164.1]) (x9_1.drop ((y154.length : Int) : Int).toNat) t150 (wrap64 (x28_1 + 1)) a1_0 a1_1 a1_2 a1_3 a1_4 a1_5 l1_6) else (none)) else (some (([] : List (List Int)), bt164.2)))) else (none)) else (none))) else (none)) else (none)) = some (r1, r2) := H
          have A10 := Aside0.mk A100
          clear A100
          obtain ⟨ji11, hji11⟩ : ∃ j_ : Int, (mn t153 (x9_1.length : Int)) = j_ := ⟨_, rfl⟩
          replace H : (if 0 ≤ (ji11) then (if (ji11) ≤ (x9_1.length : Int) then ((some (x9_1.take ((ji11) : Int).toNat : List Int)).bind fun y154 => (if 0 ≤ (y154.length : Int) then (if (y154.length : Int) ≤ (x9_1.length : Int) then ((gram_Put.f k1 a1_0 a1_1 a1_2 a1_3 (IntKind.u16.wrap (x28_1)) (IntKind.u16.wrap (t150)) y154).bind fun bt164 => (if bt164.2 = 0 then (if x8_1.length < 5864062014805 then (split_Split.l0 k1 a0 t150 (x8_1 ++ [bt164.1]) (x9_1.drop ((y154.length : Int) : Int).toNat) t150 (wrap64 (x28_1 + 1)) a1_0 a1_1 a1_2 a1_3 a1_4 a1_5 l1_6) else (none)) else (some (([] : List (List Int)), bt164.2)))) else (none)) else (none))) else (none)) else (none)) = some (r1, r2) := by first | (rw [hji11] at H; exact H) | (simp only [hji11] at H ⊢; exact H)
          (try rw [hji11] at A10)
          have hji11_ : (if (x9_1.length : Int) < t153 then (x9_1.length : Int) else t153) = ji11 := hji11
          by_cases c12 : 0 ≤ (ji11)
          · rw [if_pos c12] at H
            have c12b0 := eq_true c12
            have c12b1 : decide (0 ≤ (ji11)) = true := decide_eq_true c12
            clear c12
            by_cases c13 : (ji11) ≤ (x9_1.length : Int)
            · rw [if_pos c13] at H
              have c13b0 := eq_true c13
              have c13b1 : decide ((ji11) ≤ (x9_1.length : Int)) = true := decide_eq_true c13
              clear c13
              obtain ⟨y154, hy154⟩ : ∃ y_ : List Int, y_ = (x9_1.take ((ji11) : Int).toNat) := ⟨_, rfl⟩
              replace H : (if 0 ≤ (y154.length : Int) then (if (y154.length : Int) ≤ (x9_1.length : Int) then ((gram_Put.f k1 a1_0 a1_1 a1_2 a1_3 (IntKind.u16.wrap (x28_1)) (IntKind.u16.wrap (t150)) y154).bind fun bt164 => (if bt164.2 = 0 then (if x8_1.length < 5864062014805 then (split_Split.l0 k1 a0 t150 (x8_1 ++ [bt164.1]) (x9_1.drop ((y154.length : Int) : Int).toNat) t150 (wrap64 (x28_1 + 1)) a1_0 a1_1 a1_2 a1_3 a1_4 a1_5 l1_6) else (none)) else (some (([] : List (List Int)), bt164.2)))) else (none)) else (none)) = some (r1, r2) := by first | (rw [hy154]; with_reducible exact H) | (have H2_ := (Option.bind_some _ _).symm.trans H; rw [hy154]; with_reducible exact H2_) | (have H2_ := (Option.bind_some _ _).symm.trans H; with_reducible exact H2_) | with_reducible exact H | (rw [hy154]; exact H) | exact H
              have Ny154 := Aside0.mk hy154
              clear hy154
              by_cases c14 : 0 ≤ (y154.length : Int)
              · rw [if_pos c14] at H
                have c14b0 := eq_true c14
                have c14b1 : decide (0 ≤ (y154.length : Int)) = true := decide_eq_true c14
                clear c14
                by_cases c15 : (y154.length : Int) ≤ (x9_1.length : Int)
                · rw [if_pos c15] at H
                  have c15b0 := eq_true c15
                  have c15b1 : decide ((y154.length : Int) ≤ (x9_1.length : Int)) = true := decide_eq_true c15
                  clear c15
                  obtain ⟨y159, hy159⟩ : ∃ y_ : List Int, y_ = (x9_1.drop ((y154.length : Int) : Int).toNat) := ⟨_, rfl⟩
                  replace H : ((gram_Put.f k1 a1_0 a1_1 a1_2 a1_3 (IntKind.u16.wrap (x28_1)) (IntKind.u16.wrap (t150)) y154).bind fun bt164 => (if bt164.2 = 0 then (if x8_1.length < 5864062014805 then (split_Split.l0 k1 a0 t150 (x8_1 ++ [bt164.1]) y159 t150 (wrap64 (x28_1 + 1)) a1_0 a1_1 a1_2 a1_3 a1_4 a1_5 l1_6) else (none)) else (some (([] : List (List Int)), bt164.2)))) = some (r1, r2) := by first | (rw [hy159]; with_reducible exact H) | (have H2_ := (Option.bind_some _ _).symm.trans H; rw [hy159]; with_reducible exact H2_) | (have H2_ := (Option.bind_some _ _).symm.trans H; with_reducible exact H2_) | with_reducible exact H | (rw [hy159]; exact H) | exact H
                  have Ny159 := Aside0.mk hy159
                  clear hy159
                  replace H := Option.bind_eq_some_iff.mp H
                  obtain ⟨⟨t164, t167⟩, A160, H⟩ := H
                  replace H : (if t167 = 0 then (if x8_1.length < 5864062014805 then (split_Split.l0 k1 a0 t150 (x8_1 ++ [t164]) y159 t150 (wrap64 (x28_1 + 1)) a1_0 a1_1 a1_2 a1_3 a1_4 a1_5 l1_6) else (none)) else (some (([] : List (List Int)), t167))) = some (r1, r2) := H
                  have A16 := Aside0.mk A160
                  clear A160
                  by_cases c17 : t167 = 0
                  · rw [if_pos c17] at H
                    have c17b0 : (t167 == 0) = true := beq_iff_eq.mpr c17
                    have c17b1 : (t167 != 0) = false := bne_eq_false_iff_eq.mpr c17
                    clear c17
                    by_cases c18 : x8_1.length < 5864062014805
                    · rw [if_pos c18] at H
                      have LMc18 := Aside0.mk c18
                      clear c18
                      obtain ⟨y168, hy168⟩ : ∃ y_ : List (List Int), y_ = (x8_1 ++ [t164]) := ⟨_, rfl⟩
                      replace H : (split_Split.l0 k1 a0 t150 y168 y159 t150 (wrap64 (x28_1 + 1)) a1_0 a1_1 a1_2 a1_3 a1_4 a1_5 l1_6) = some (r1, r2) := by first | (rw [hy168]; with_reducible exact H) | (have H2_ := (Option.bind_some _ _).symm.trans H; rw [hy168]; with_reducible exact H2_) | (have H2_ := (Option.bind_some _ _).symm.trans H; with_reducible exact H2_) | with_reducible exact H | (rw [hy168]; exact H) | exact H
                      have Ny168 := Aside0.mk hy168
                      clear hy168
                      have H' := Aside0.mk H
                      clear H
                      have hcz19_0 : wr.cell? ⟨gb149, 0, none⟩ = some (.int .u8 a1_0) := (blk_cell BK149.out 0).trans rfl
                      have hcz19_1 : wr.cell? ⟨gb149, 1, none⟩ = some (.int .u8 a1_1) := (blk_cell BK149.out 1).trans rfl
                      have hcz19_2 : wr.cell? ⟨gb149, 2, none⟩ = some (.int .u32 a1_2) := (blk_cell BK149.out 2).trans rfl
                      have hcz19_3 : wr.cell? ⟨gb149, 3, none⟩ = some (.int .u32 a1_3) := (blk_cell BK149.out 3).trans rfl
                      have hcz19_4 : wr.cell? ⟨gb149, 4, none⟩ = some (.int .u16 a1_4) := (blk_cell BK149.out 4).trans rfl
                      have hcz19_5 : wr.cell? ⟨gb149, 5, none⟩ = some (.int .u16 a1_5) := (blk_cell BK149.out 5).trans rfl
                      have hcz19_6 : wr.cell? ⟨gb149, 6, none⟩ = some (.slice A1_6 l1_6.length c1_6) := (blk_cell BK149.out 6).trans rfl
                      have hfz19_0 := blk_frozen BK149.out 0
                      have hfz19_1 := blk_frozen BK149.out 1
                      have hfz19_2 := blk_frozen BK149.out 2
                      have hfz19_3 := blk_frozen BK149.out 3
                      have hfz19_4 := blk_frozen BK149.out 4
                      have hfz19_5 := blk_frozen BK149.out 5
                      have hfz19_6 := blk_frozen BK149.out 6
                      go_wp2_with (first | ((with_reducible refine gate_dst (N := 11) rfl ?_); refine box_event ?hg (N := 11) ?hd (cs := #[.int .u8 0, .int .u8 0, .int .u32 0, .int .u32 0, .int .u16 0, .int .u16 0, .slice none 0 0]) (t := 32) ?hr ?_; (case hd => rfl); (case hg => rfl); (case hr => first | (go_simp; done) | (go_simp; rfl)); intro gb152 hg w20 hbox hb; have n0_ := Aside0.mk (Kd.S_below (by (with_reducible repeat (first | apply Kd.S_alloc | apply Kd.S_drewN | apply Kd.S_drew)); exact HO_8.out) hb); have n1_ := Aside0.mk (Kd.V_below (Kd.V_elderB (by (with_reducible repeat (first | apply Kd.V_alloc | apply Kd.V_drewN | apply Kd.V_drew)); exact HO_9.out) gb152 (Nat.le_of_eq hg.symm)) hb); have n2_ := Aside0.mk (Kd.V_below (Kd.V_elderB (by (with_reducible repeat (first | apply Kd.V_alloc | apply Kd.V_drewN | apply Kd.V_drew)); exact HO_150006.out) gb152 (Nat.le_of_eq hg.symm)) hb); have n3_ := Aside0.mk (blk_below (g := gb149) (o := .cells #[.int .u8 a1_0, .int .u8 a1_1, .int .u32 a1_2, .int .u32 a1_3, .int .u16 a1_4, .int .u16 a1_5, .slice A1_6 l1_6.length c1_6] 32 (0, 0)) (by (with_reducible repeat (first | refine blk_drewN ?_ _ | refine blk_drew ?_ | refine blk_alloc ?_ _)); exact BK149.out) hb); have n4_ := Aside0.mk (below_step (by repeat (first | (with_reducible first | exact HB.out | apply below_alloc | apply pw_below_drewN | apply below_drew1 | refine below_set ?_ GE149.out) | exact HB.out)) hb); have n5_ := Aside0.mk (hbox); have n6_ := Aside0.mk ((by rw [hg]; exact (below_size (by repeat (first | (with_reducible first | exact HB.out | apply below_alloc | apply pw_below_drewN | apply below_drew1 | refine below_set ?_ GE149.out) | exact HB.out))) : w.heap.size ≤ gb152)); have n7_ := Aside0.mk ((by rw [hg]; exact (below_size (by repeat (first | (with_reducible first | exact HB.out | apply below_alloc | apply pw_below_drewN | apply below_drew1 | refine below_set ?_ GE149.out) | exact HB.out))) : w.heap.size ≤ gb152)); have n8_ := Aside0.mk ((by rw [hg]; exact Nat.ne_of_lt (blk_lt (g := gb149) (o := .cells #[.int .u8 a1_0, .int .u8 a1_1, .int .u32 a1_2, .int .u32 a1_3, .int .u16 a1_4, .int .u16 a1_5, .slice A1_6 l1_6.length c1_6] 32 (0, 0)) (by (with_reducible repeat (first | refine blk_drewN ?_ _ | refine blk_drew ?_ | refine blk_alloc ?_ _)); exact BK149.out)) : gb149 ≠ gb152)); have n9_ := Aside0.mk ((by rw [hg]; exact Nat.ne_of_gt (blk_lt (g := gb149) (o := .cells #[.int .u8 a1_0, .int .u8 a1_1, .int .u32 a1_2, .int .u32 a1_3, .int .u16 a1_4, .int .u16 a1_5, .slice A1_6 l1_6.length c1_6] 32 (0, 0)) (by (with_reducible repeat (first | refine blk_drewN ?_ _ | refine blk_drew ?_ | refine blk_alloc ?_ _)); exact BK149.out)) : gb152 ≠ gb149)); clear HO_8; clear HO_9; clear HO_150006; clear BK149; clear HB; have HO_8 := n0_; have HO_9 := n1_; have HO_150006 := n2_; have BK149 := n3_; have HB := n4_; have BK152 := n5_; have GW152 := n6_; have GE152 := n7_; have NB149_152 := n8_; have NB152_149 := n9_; clear n0_ n1_ n2_ n3_ n4_ n5_ n6_ n7_ n8_ n9_; clear hb hbox hg; have hnb21 := NB152_149.out; have hnc21 := NB149_152.out; have hcz22_0 : w20.cell? ⟨gb152, 0, none⟩ = some (.int .u8 0) := (blk_cell BK152.out 0).trans rfl; have hcz22_1 : w20.cell? ⟨gb152, 1, none⟩ = some (.int .u8 0) := (blk_cell BK152.out 1).trans rfl; have hcz22_2 : w20.cell? ⟨gb152, 2, none⟩ = some (.int .u32 0) := (blk_cell BK152.out 2).trans rfl; have hcz22_3 : w20.cell? ⟨gb152, 3, none⟩ = some (.int .u32 0) := (blk_cell BK152.out 3).trans rfl; have hcz22_4 : w20.cell? ⟨gb152, 4, none⟩ = some (.int .u16 0) := (blk_cell BK152.out 4).trans rfl; have hcz22_5 : w20.cell? ⟨gb152, 5, none⟩ = some (.int .u16 0) := (blk_cell BK152.out 5).trans rfl; have hcz22_6 : w20.cell? ⟨gb152, 6, none⟩ = some (.slice none 0 0) := (blk_cell BK152.out 6).trans rfl; have hfz22_0 := blk_frozen BK152.out 0; have hfz22_1 := blk_frozen BK152.out 1; have hfz22_2 := blk_frozen BK152.out 2; have hfz22_3 := blk_frozen BK152.out 3; have hfz22_4 := blk_frozen BK152.out 4; have hfz22_5 := blk_frozen BK152.out 5; have hfz22_6 := blk_frozen BK152.out 6) | ((with_reducible refine gate_store (t := 32) (p := 11) rfl ?_); refine store_event (t := 32) (p := 11) (v := ?vo_w23) (w1 := (((((((w20.setCell ⟨gb152, 0, none⟩ (.int .u8 a1_0)).setCell ⟨gb152, 1, none⟩ (.int .u8 a1_1)).setCell ⟨gb152, 2, none⟩ (.int .u32 a1_2)).setCell ⟨gb152, 3, none⟩ (.int .u32 a1_3)).setCell ⟨gb152, 4, none⟩ (.int .u16 a1_4)).setCell ⟨gb152, 5, none⟩ (.int .u16 a1_5)).setCell ⟨gb152, 6, none⟩ (.slice A1_6 l1_6.length c1_6))) ?hg ?ho ?hn ?hr ?_; (case ho => rfl); (case hg => rfl); (case hn => rfl); (case hr => first | (go_simp; done) | (go_simp; rfl)); intro w23 hw; have n0_ : Aside0 (Kd.S (Kd.slice 5 (Kd.int .u8)) 30 w23 w.heap.size (fun k_ => (w.heap.size ≤ k_)) u8 x8_1) := ⟨(by rw [hw]; exact (by (with_reducible repeat (first | apply Kd.S_alloc | apply Kd.S_drewN | apply Kd.S_drew)); exact Kd.S_mono (Kd.S_far (p := ⟨gb152, 6, none⟩) (Kd.S_far (p := ⟨gb152, 5, none⟩) (Kd.S_far (p := ⟨gb152, 4, none⟩) (Kd.S_far (p := ⟨gb152, 3, none⟩) (Kd.S_far (p := ⟨gb152, 2, none⟩) (Kd.S_far (p := ⟨gb152, 1, none⟩) (Kd.S_far (p := ⟨gb152, 0, none⟩) (Kd.S_types HO_8.out BK152.out (by decide)) (fun _ hk => hk.2) (.int .u8 a1_0)) (fun _ hk => hk.2) (.int .u8 a1_1)) (fun _ hk => hk.2) (.int .u32 a1_2)) (fun _ hk => hk.2) (.int .u32 a1_3)) (fun _ hk => hk.2) (.int .u16 a1_4)) (fun _ hk => hk.2) (.int .u16 a1_5)) (fun _ hk => hk.2) (.slice A1_6 l1_6.length c1_6)) (fun _ hk => hk.1)))⟩; have n1_ : Aside0 (Kd.V (Kd.int .u8) 5 w23 w.heap.size (fun k_ => (P1_6_ k_ ∨ w.heap.size ≤ k_) ∧ some k_ ≠ (u8 : Value).ownBlock ∧ k_ ≠ gb149 ∧ k_ ≠ gb152) u9 x9_1) := ⟨(by rw [hw]; exact (by (with_reducible repeat (first | apply Kd.V_alloc | apply Kd.V_drewN | apply Kd.V_drew)); exact Kd.V_mono (Kd.V_far (p := ⟨gb152, 6, none⟩) (Kd.V_far (p := ⟨gb152, 5, none⟩) (Kd.V_far (p := ⟨gb152, 4, none⟩) (Kd.V_far (p := ⟨gb152, 3, none⟩) (Kd.V_far (p := ⟨gb152, 2, none⟩) (Kd.V_far (p := ⟨gb152, 1, none⟩) (Kd.V_far (p := ⟨gb152, 0, none⟩) (Kd.V_mono HO_9.out (fun k_ hk => (⟨hk, hk.2⟩ : _ ∧ k_ ≠ gb152))) (fun _ hk => hk.2) (.int .u8 a1_0)) (fun _ hk => hk.2) (.int .u8 a1_1)) (fun _ hk => hk.2) (.int .u32 a1_2)) (fun _ hk => hk.2) (.int .u32 a1_3)) (fun _ hk => hk.2) (.int .u16 a1_4)) (fun _ hk => hk.2) (.int .u16 a1_5)) (fun _ hk => hk.2) (.slice A1_6 l1_6.length c1_6)) (fun _ hk => ⟨hk.1.1.1, ⟨hk.1.1.2.1, ⟨hk.1.1.2.2, hk.1.2⟩⟩⟩)))⟩; have n2_ : Aside0 (Kd.V (Kd.int .u8) 5 w23 w.heap.size (fun k_ => (P1_6_ k_ ∨ w.heap.size ≤ k_) ∧ some k_ ≠ (u8 : Value).ownBlock ∧ k_ ≠ gb149 ∧ k_ ≠ gb152) (.slice A1_6 l1_6.length c1_6) l1_6) := ⟨(by rw [hw]; exact (by (with_reducible repeat (first | apply Kd.V_alloc | apply Kd.V_drewN | apply Kd.V_drew)); exact Kd.V_mono (Kd.V_far (p := ⟨gb152, 6, none⟩) (Kd.V_far (p := ⟨gb152, 5, none⟩) (Kd.V_far (p := ⟨gb152, 4, none⟩) (Kd.V_far (p := ⟨gb152, 3, none⟩) (Kd.V_far (p := ⟨gb152, 2, none⟩) (Kd.V_far (p := ⟨gb152, 1, none⟩) (Kd.V_far (p := ⟨gb152, 0, none⟩) (Kd.V_mono HO_150006.out (fun k_ hk => (⟨hk, hk.2⟩ : _ ∧ k_ ≠ gb152))) (fun _ hk => hk.2) (.int .u8 a1_0)) (fun _ hk => hk.2) (.int .u8 a1_1)) (fun _ hk => hk.2) (.int .u32 a1_2)) (fun _ hk => hk.2) (.int .u32 a1_3)) (fun _ hk => hk.2) (.int .u16 a1_4)) (fun _ hk => hk.2) (.int .u16 a1_5)) (fun _ hk => hk.2) (.slice A1_6 l1_6.length c1_6)) (fun _ hk => ⟨hk.1.1.1, ⟨hk.1.1.2.1, ⟨hk.1.1.2.2, hk.1.2⟩⟩⟩)))⟩; have n3_ : Aside0 (w23.heap[gb149]? = some (.cells #[.int .u8 a1_0, .int .u8 a1_1, .int .u32 a1_2, .int .u32 a1_3, .int .u16 a1_4, .int .u16 a1_5, .slice A1_6 l1_6.length c1_6] 32 (0, 0))) := ⟨(by rw [hw]; exact (by (with_reducible repeat (first | refine blk_drewN ?_ _ | refine blk_drew ?_ | refine blk_alloc ?_ _)); refine blk_far ?_ NB149_152.out _; (with_reducible repeat (first | refine blk_drewN ?_ _ | refine blk_drew ?_ | refine blk_alloc ?_ _)); refine blk_far ?_ NB149_152.out _; (with_reducible repeat (first | refine blk_drewN ?_ _ | refine blk_drew ?_ | refine blk_alloc ?_ _)); refine blk_far ?_ NB149_152.out _; (with_reducible repeat (first | refine blk_drewN ?_ _ | refine blk_drew ?_ | refine blk_alloc ?_ _)); refine blk_far ?_ NB149_152.out _; (with_reducible repeat (first | refine blk_drewN ?_ _ | refine blk_drew ?_ | refine blk_alloc ?_ _)); refine blk_far ?_ NB149_152.out _; (with_reducible repeat (first | refine blk_drewN ?_ _ | refine blk_drew ?_ | refine blk_alloc ?_ _)); refine blk_far ?_ NB149_152.out _; (with_reducible repeat (first | refine blk_drewN ?_ _ | refine blk_drew ?_ | refine blk_alloc ?_ _)); refine blk_far ?_ NB149_152.out _; (with_reducible repeat (first | refine blk_drewN ?_ _ | refine blk_drew ?_ | refine blk_alloc ?_ _)); exact BK149.out))⟩; have n4_ : Aside0 (w23.heap[gb152]? = some (.cells #[.int .u8 a1_0, .int .u8 a1_1, .int .u32 a1_2, .int .u32 a1_3, .int .u16 a1_4, .int .u16 a1_5, .slice A1_6 l1_6.length c1_6] 32 (0, 0))) := ⟨(by rw [hw]; exact (by (with_reducible repeat (first | refine blk_drewN ?_ _ | refine blk_drew ?_ | refine blk_alloc ?_ _)); refine blk_put (cs := #[.int .u8 a1_0, .int .u8 a1_1, .int .u32 a1_2, .int .u32 a1_3, .int .u16 a1_4, .int .u16 a1_5, .slice none 0 0]) ?_ 6 _ rfl; (with_reducible repeat (first | refine blk_drewN ?_ _ | refine blk_drew ?_ | refine blk_alloc ?_ _)); refine blk_put (cs := #[.int .u8 a1_0, .int .u8 a1_1, .int .u32 a1_2, .int .u32 a1_3, .int .u16 a1_4, .int .u16 0, .slice none 0 0]) ?_ 5 _ rfl; (with_reducible repeat (first | refine blk_drewN ?_ _ | refine blk_drew ?_ | refine blk_alloc ?_ _)); refine blk_put (cs := #[.int .u8 a1_0, .int .u8 a1_1, .int .u32 a1_2, .int .u32 a1_3, .int .u16 0, .int .u16 0, .slice none 0 0]) ?_ 4 _ rfl; (with_reducible repeat (first | refine blk_drewN ?_ _ | refine blk_drew ?_ | refine blk_alloc ?_ _)); refine blk_put (cs := #[.int .u8 a1_0, .int .u8 a1_1, .int .u32 a1_2, .int .u32 0, .int .u16 0, .int .u16 0, .slice none 0 0]) ?_ 3 _ rfl; (with_reducible repeat (first | refine blk_drewN ?_ _ | refine blk_drew ?_ | refine blk_alloc ?_ _)); refine blk_put (cs := #[.int .u8 a1_0, .int .u8 a1_1, .int .u32 0, .int .u32 0, .int .u16 0, .int .u16 0, .slice none 0 0]) ?_ 2 _ rfl; (with_reducible repeat (first | refine blk_drewN ?_ _ | refine blk_drew ?_ | refine blk_alloc ?_ _)); refine blk_put (cs := #[.int .u8 a1_0, .int .u8 0, .int .u32 0, .int .u32 0, .int .u16 0, .int .u16 0, .slice none 0 0]) ?_ 1 _ rfl; (with_reducible repeat (first | refine blk_drewN ?_ _ | refine blk_drew ?_ | refine blk_alloc ?_ _)); refine blk_put (cs := #[.int .u8 0, .int .u8 0, .int .u32 0, .int .u32 0, .int .u16 0, .int .u16 0, .slice none 0 0]) ?_ 0 _ rfl; (with_reducible repeat (first | refine blk_drewN ?_ _ | refine blk_drew ?_ | refine blk_alloc ?_ _)); exact BK152.out))⟩; have n5_ : Aside0 (Below w.heap.size w w23) := ⟨(by rw [hw]; exact (by repeat (first | (with_reducible first | exact HB.out | apply below_alloc | apply pw_below_drewN | apply below_drew1 | refine below_set ?_ GE149.out | refine below_set ?_ GE152.out) | exact HB.out)))⟩; clear hw; clear HO_8; clear HO_9; clear HO_150006; clear BK149; clear BK152; clear HB; have HO_8 := n0_; have HO_9 := n1_; have HO_150006 := n2_; have BK149 := n3_; have BK152 := n4_; have HB := n5_; clear n0_ n1_ n2_ n3_ n4_ n5_; have hcz24_0 : w23.cell? ⟨gb152, 0, none⟩ = some (.int .u8 a1_0) := (blk_cell BK152.out 0).trans rfl; have hcz24_1 : w23.cell? ⟨gb152, 1, none⟩ = some (.int .u8 a1_1) := (blk_cell BK152.out 1).trans rfl; have hcz24_2 : w23.cell? ⟨gb152, 2, none⟩ = some (.int .u32 a1_2) := (blk_cell BK152.out 2).trans rfl; have hcz24_3 : w23.cell? ⟨gb152, 3, none⟩ = some (.int .u32 a1_3) := (blk_cell BK152.out 3).trans rfl; have hcz24_4 : w23.cell? ⟨gb152, 4, none⟩ = some (.int .u16 a1_4) := (blk_cell BK152.out 4).trans rfl; have hcz24_5 : w23.cell? ⟨gb152, 5, none⟩ = some (.int .u16 a1_5) := (blk_cell BK152.out 5).trans rfl; have hcz24_6 : w23.cell? ⟨gb152, 6, none⟩ = some (.slice A1_6 l1_6.length c1_6) := (blk_cell BK152.out 6).trans rfl; have hfz24_0 := blk_frozen BK152.out 0; have hfz24_1 := blk_frozen BK152.out 1; have hfz24_2 := blk_frozen BK152.out 2; have hfz24_3 := blk_frozen BK152.out 3; have hfz24_4 := blk_frozen BK152.out 4; have hfz24_5 := blk_frozen BK152.out 5; have hfz24_6 := blk_frozen BK152.out 6) | ((with_reducible refine gate_store (t := 29) (p := 36) rfl ?_); refine store_event (t := 29) (p := 36) (v := ?vo_w25) (w1 := (w23.setCell ⟨gb152, 4, none⟩ (.int .u16 (IntKind.u16.wrap (x28_1))))) ?hg ?ho ?hn ?hr ?_; (case ho => rfl); (case hg => rfl); (case hn => rfl); (case hr => first | (go_simp; done) | (go_simp; rfl)); intro w25 hw; have n0_ : Aside0 (Kd.S (Kd.slice 5 (Kd.int .u8)) 30 w25 w.heap.size (fun k_ => (w.heap.size ≤ k_)) u8 x8_1) := ⟨(by rw [hw]; exact (by (with_reducible repeat (first | apply Kd.S_alloc | apply Kd.S_drewN | apply Kd.S_drew)); exact Kd.S_mono (Kd.S_far (p := ⟨gb152, 4, none⟩) (Kd.S_types HO_8.out BK152.out (by decide)) (fun _ hk => hk.2) (.int .u16 (IntKind.u16.wrap (x28_1)))) (fun _ hk => hk.1)))⟩; have n1_ : Aside0 (Kd.V (Kd.int .u8) 5 w25 w.heap.size (fun k_ => (P1_6_ k_ ∨ w.heap.size ≤ k_) ∧ some k_ ≠ (u8 : Value).ownBlock ∧ k_ ≠ gb149 ∧ k_ ≠ gb152) u9 x9_1) := ⟨(by rw [hw]; exact (by (with_reducible repeat (first | apply Kd.V_alloc | apply Kd.V_drewN | apply Kd.V_drew)); exact Kd.V_mono (Kd.V_far (p := ⟨gb152, 4, none⟩) (Kd.V_mono HO_9.out (fun k_ hk => (⟨hk, hk.2.2.2⟩ : _ ∧ k_ ≠ gb152))) (fun _ hk => hk.2) (.int .u16 (IntKind.u16.wrap (x28_1)))) (fun _ hk => ⟨hk.1.1, ⟨hk.1.2.1, ⟨hk.1.2.2.1, hk.1.2.2.2⟩⟩⟩)))⟩; have n2_ : Aside0 (Kd.V (Kd.int .u8) 5 w25 w.heap.size (fun k_ => (P1_6_ k_ ∨ w.heap.size ≤ k_) ∧ some k_ ≠ (u8 : Value).ownBlock ∧ k_ ≠ gb149 ∧ k_ ≠ gb152) (.slice A1_6 l1_6.length c1_6) l1_6) := ⟨(by rw [hw]; exact (by (with_reducible repeat (first | apply Kd.V_alloc | apply Kd.V_drewN | apply Kd.V_drew)); exact Kd.V_mono (Kd.V_far (p := ⟨gb152, 4, none⟩) (Kd.V_mono HO_150006.out (fun k_ hk => (⟨hk, hk.2.2.2⟩ : _ ∧ k_ ≠ gb152))) (fun _ hk => hk.2) (.int .u16 (IntKind.u16.wrap (x28_1)))) (fun _ hk => ⟨hk.1.1, ⟨hk.1.2.1, ⟨hk.1.2.2.1, hk.1.2.2.2⟩⟩⟩)))⟩; have n3_ : Aside0 (w25.heap[gb149]? = some (.cells #[.int .u8 a1_0, .int .u8 a1_1, .int .u32 a1_2, .int .u32 a1_3, .int .u16 a1_4, .int .u16 a1_5, .slice A1_6 l1_6.length c1_6] 32 (0, 0))) := ⟨(by rw [hw]; exact (by (with_reducible repeat (first | refine blk_drewN ?_ _ | refine blk_drew ?_ | refine blk_alloc ?_ _)); refine blk_far ?_ NB149_152.out _; (with_reducible repeat (first | refine blk_drewN ?_ _ | refine blk_drew ?_ | refine blk_alloc ?_ _)); exact BK149.out))⟩; have n4_ : Aside0 (w25.heap[gb152]? = some (.cells #[.int .u8 a1_0, .int .u8 a1_1, .int .u32 a1_2, .int .u32 a1_3, .int .u16 (IntKind.u16.wrap (x28_1)), .int .u16 a1_5, .slice A1_6 l1_6.length c1_6] 32 (0, 0))) := ⟨(by rw [hw]; exact (by (with_reducible repeat (first | refine blk_drewN ?_ _ | refine blk_drew ?_ | refine blk_alloc ?_ _)); refine blk_put (cs := #[.int .u8 a1_0, .int .u8 a1_1, .int .u32 a1_2, .int .u32 a1_3, .int .u16 a1_4, .int .u16 a1_5, .slice A1_6 l1_6.length c1_6]) ?_ 4 _ rfl; (with_reducible repeat (first | refine blk_drewN ?_ _ | refine blk_drew ?_ | refine blk_alloc ?_ _)); exact BK152.out))⟩; have n5_ : Aside0 (Below w.heap.size w w25) := ⟨(by rw [hw]; exact (by repeat (first | (with_reducible first | exact HB.out | apply below_alloc | apply pw_below_drewN | apply below_drew1 | refine below_set ?_ GE149.out | refine below_set ?_ GE152.out) | exact HB.out)))⟩; clear hw; clear HO_8; clear HO_9; clear HO_150006; clear BK149; clear BK152; clear HB; have HO_8 := n0_; have HO_9 := n1_; have HO_150006 := n2_; have BK149 := n3_; have BK152 := n4_; have HB := n5_; clear n0_ n1_ n2_ n3_ n4_ n5_; have hcz26_0 : w25.cell? ⟨gb152, 0, none⟩ = some (.int .u8 a1_0) := (blk_cell BK152.out 0).trans rfl; have hcz26_1 : w25.cell? ⟨gb152, 1, none⟩ = some (.int .u8 a1_1) := (blk_cell BK152.out 1).trans rfl; have hcz26_2 : w25.cell? ⟨gb152, 2, none⟩ = some (.int .u32 a1_2) := (blk_cell BK152.out 2).trans rfl; have hcz26_3 : w25.cell? ⟨gb152, 3, none⟩ = some (.int .u32 a1_3) := (blk_cell BK152.out 3).trans rfl; have hcz26_4 : w25.cell? ⟨gb152, 4, none⟩ = some (.int .u16 (IntKind.u16.wrap (x28_1))) := (blk_cell BK152.out 4).trans rfl; have hcz26_5 : w25.cell? ⟨gb152, 5, none⟩ = some (.int .u16 a1_5) := (blk_cell BK152.out 5).trans rfl; have hcz26_6 : w25.cell? ⟨gb152, 6, none⟩ = some (.slice A1_6 l1_6.length c1_6) := (blk_cell BK152.out 6).trans rfl; have hfz26_0 := blk_frozen BK152.out 0; have hfz26_1 := blk_frozen BK152.out 1; have hfz26_2 := blk_frozen BK152.out 2; have hfz26_3 := blk_frozen BK152.out 3; have hfz26_4 := blk_frozen BK152.out 4; have hfz26_5 := blk_frozen BK152.out 5; have hfz26_6 := blk_frozen BK152.out 6) | ((with_reducible refine gate_store (t := 29) (p := 37) rfl ?_); refine store_event (t := 29) (p := 37) (v := ?vo_w27) (w1 := (w25.setCell ⟨gb152, 5, none⟩ (.int .u16 (IntKind.u16.wrap (t150))))) ?hg ?ho ?hn ?hr ?_; (case ho => rfl); (case hg => rfl); (case hn => rfl); (case hr => first | (go_simp; done) | (go_simp; rfl)); intro w27 hw; have n0_ : Aside0 (Kd.S (Kd.slice 5 (Kd.int .u8)) 30 w27 w.heap.size (fun k_ => (w.heap.size ≤ k_)) u8 x8_1) := ⟨(by rw [hw]; exact (by (with_reducible repeat (first | apply Kd.S_alloc | apply Kd.S_drewN | apply Kd.S_drew)); exact Kd.S_mono (Kd.S_far (p := ⟨gb152, 5, none⟩) (Kd.S_types HO_8.out BK152.out (by decide)) (fun _ hk => hk.2) (.int .u16 (IntKind.u16.wrap (t150)))) (fun _ hk => hk.1)))⟩; have n1_ : Aside0 (Kd.V (Kd.int .u8) 5 w27 w.heap.size (fun k_ => (P1_6_ k_ ∨ w.heap.size ≤ k_) ∧ some k_ ≠ (u8 : Value).ownBlock ∧ k_ ≠ gb149 ∧ k_ ≠ gb152) u9 x9_1) := ⟨(by rw [hw]; exact (by (with_reducible repeat (first | apply Kd.V_alloc | apply Kd.V_drewN | apply Kd.V_drew)); exact Kd.V_mono (Kd.V_far (p := ⟨gb152, 5, none⟩) (Kd.V_mono HO_9.out (fun k_ hk => (⟨hk, hk.2.2.2⟩ : _ ∧ k_ ≠ gb152))) (fun _ hk => hk.2) (.int .u16 (IntKind.u16.wrap (t150)))) (fun _ hk => ⟨hk.1.1, ⟨hk.1.2.1, ⟨hk.1.2.2.1, hk.1.2.2.2⟩⟩⟩)))⟩; have n2_ : Aside0 (Kd.V (Kd.int .u8) 5 w27 w.heap.size (fun k_ => (P1_6_ k_ ∨ w.heap.size ≤ k_) ∧ some k_ ≠ (u8 : Value).ownBlock ∧ k_ ≠ gb149 ∧ k_ ≠ gb152) (.slice A1_6 l1_6.length c1_6) l1_6) := ⟨(by rw [hw]; exact (by (with_reducible repeat (first | apply Kd.V_alloc | apply Kd.V_drewN | apply Kd.V_drew)); exact Kd.V_mono (Kd.V_far (p := ⟨gb152, 5, none⟩) (Kd.V_mono HO_150006.out (fun k_ hk => (⟨hk, hk.2.2.2⟩ : _ ∧ k_ ≠ gb152))) (fun _ hk => hk.2) (.int .u16 (IntKind.u16.wrap (t150)))) (fun _ hk => ⟨hk.1.1, ⟨hk.1.2.1, ⟨hk.1.2.2.1, hk.1.2.2.2⟩⟩⟩)))⟩; have n3_ : Aside0 (w27.heap[gb149]? = some (.cells #[.int .u8 a1_0, .int .u8 a1_1, .int .u32 a1_2, .int .u32 a1_3, .int .u16 a1_4, .int .u16 a1_5, .slice A1_6 l1_6.length c1_6] 32 (0, 0))) := ⟨(by rw [hw]; exact (by (with_reducible repeat (first | refine blk_drewN ?_ _ | refine blk_drew ?_ | refine blk_alloc ?_ _)); refine blk_far ?_ NB149_152.out _; (with_reducible repeat (first | refine blk_drewN ?_ _ | refine blk_drew ?_ | refine blk_alloc ?_ _)); exact BK149.out))⟩; have n4_ : Aside0 (w27.heap[gb152]? = some (.cells #[.int .u8 a1_0, .int .u8 a1_1, .int .u32 a1_2, .int .u32 a1_3, .int .u16 (IntKind.u16.wrap (x28_1)), .int .u16 (IntKind.u16.wrap (t150)), .slice A1_6 l1_6.length c1_6] 32 (0, 0))) := ⟨(by rw [hw]; exact (by (with_reducible repeat (first | refine blk_drewN ?_ _ | refine blk_drew ?_ | refine blk_alloc ?_ _)); refine blk_put (cs := #[.int .u8 a1_0, .int .u8 a1_1, .int .u32 a1_2, .int .u32 a1_3, .int .u16 (IntKind.u16.wrap (x28_1)), .int .u16 a1_5, .slice A1_6 l1_6.length c1_6]) ?_ 5 _ rfl; (with_reducible repeat (first | refine blk_drewN ?_ _ | refine blk_drew ?_ | refine blk_alloc ?_ _)); exact BK152.out))⟩; have n5_ : Aside0 (Below w.heap.size w w27) := ⟨(by rw [hw]; exact (by repeat (first | (with_reducible first | exact HB.out | apply below_alloc | apply pw_below_drewN | apply below_drew1 | refine below_set ?_ GE149.out | refine below_set ?_ GE152.out) | exact HB.out)))⟩; clear hw; clear HO_8; clear HO_9; clear HO_150006; clear BK149; clear BK152; clear HB; have HO_8 := n0_; have HO_9 := n1_; have HO_150006 := n2_; have BK149 := n3_; have BK152 := n4_; have HB := n5_; clear n0_ n1_ n2_ n3_ n4_ n5_) | ((with_reducible refine gate_callee (f := 8) rfl ?_); refine goesL_ (some 40) rfl rfl Try.func8 (by kernel_rfl) rfl #[.int .i64 a0] rfl (by (try simp only [List.map_toArray, List.map_cons, List.map_nil]); first | done | rfl | (simp only [List.length_drop, List.length_take]; rfl)) ?_; (with_reducible refine (split_Room.calls a0 t153 _ A10.out).mono ?_); rintro e w' ⟨rfl, ⟨nd, rfl⟩⟩; refine ⟨_, rfl, ?_⟩; (try (rw [drewN_self w27]; generalize hq_ : World.drewN w27 _ = w27; have n0_ := Aside0.mk (Kd.S_at hq_ HO_8.out); have n1_ := Aside0.mk (V_atq hq_ HO_9.out); have n2_ := Aside0.mk (V_atq hq_ HO_150006.out); have n3_ := Aside0.mk (blk_at hq_ BK149.out); have n4_ := Aside0.mk (blk_at hq_ BK152.out); have n5_ := Aside0.mk (below_at hq_ HB.out); clear hq_ HO_8 HO_9 HO_150006 BK149 BK152 HB; have HO_8 := n0_; have HO_9 := n1_; have HO_150006 := n2_; have BK149 := n3_; have BK152 := n4_; have HB := n5_; clear n0_ n1_ n2_ n3_ n4_ n5_)); obtain ⟨Ao28, co28, eo28⟩ := Kd.V_slice HO_9.out; subst eo28; have q29 : ((ji11) : Int) ≤ ((x9_1.length : Int) : Int) := of_decide_eq_true (by first | (with_reducible assumption) | assumption); obtain ⟨i029, hi029, _, hsz29, _⟩ := info_parts info5; have hroom29 : x9_1.length ≤ co28 := (Kd.V_reads' HO_9.out).2.1; have hC29 : Kd.F (Kd.int .u8) _ _ Ao28 x9_1.length x9_1 := (Kd.V_at (base := w.heap.size) HO_9.out).2.2; have hcut29 := cut_to (P := Try.prog) 30 5 .i64 Try.underlying30 hi029 Ao28 x9_1.length co28 (ji11) (of_decide_eq_true (by first | (with_reducible assumption) | assumption)) q29 hroom29; have hr29 := Kd.F_take (m := ((ji11) : Int).toNat) hC29 (by omega); have hy29 : y154.length = ((ji11) : Int).toNat := (by rw [Ny154.out, List.length_take]; omega); rw [← Ny154.out] at hr29; rw [← hy29] at hcut29; have HO158 := Aside0.mk (show Kd.V (Kd.int .u8) 5 _ w.heap.size _ (.slice Ao28 y154.length co28) y154 from Kd.V_mk (by omega) hr29); have HC158 := Aside0.mk (show y154.length ≤ co28 from by omega); clear hr29 hC29 hroom29 hi029 hsz29; have KY29 := Aside0.mk hy29; clear hy29; replace q29 := eq_true q29; have hcz30_0 : w27.cell? ⟨gb152, 0, none⟩ = some (.int .u8 a1_0) := (blk_cell BK152.out 0).trans rfl; have hcz30_1 : w27.cell? ⟨gb152, 1, none⟩ = some (.int .u8 a1_1) := (blk_cell BK152.out 1).trans rfl; have hcz30_2 : w27.cell? ⟨gb152, 2, none⟩ = some (.int .u32 a1_2) := (blk_cell BK152.out 2).trans rfl; have hcz30_3 : w27.cell? ⟨gb152, 3, none⟩ = some (.int .u32 a1_3) := (blk_cell BK152.out 3).trans rfl; have hcz30_4 : w27.cell? ⟨gb152, 4, none⟩ = some (.int .u16 (IntKind.u16.wrap (x28_1))) := (blk_cell BK152.out 4).trans rfl; have hcz30_5 : w27.cell? ⟨gb152, 5, none⟩ = some (.int .u16 (IntKind.u16.wrap (t150))) := (blk_cell BK152.out 5).trans rfl; have hcz30_6 : w27.cell? ⟨gb152, 6, none⟩ = some (.slice A1_6 l1_6.length c1_6) := (blk_cell BK152.out 6).trans rfl; have hfz30_0 := blk_frozen BK152.out 0; have hfz30_1 := blk_frozen BK152.out 1; have hfz30_2 := blk_frozen BK152.out 2; have hfz30_3 := blk_frozen BK152.out 3; have hfz30_4 := blk_frozen BK152.out 4; have hfz30_5 := blk_frozen BK152.out 5; have hfz30_6 := blk_frozen BK152.out 6) | ((with_reducible refine gate_store (t := 30) (p := 45) rfl ?_); refine store_event (t := 30) (p := 45) (v := ?vo_w31) (w1 := (w27.setCell ⟨gb152, 6, none⟩ (.slice Ao28 y154.length co28))) ?hg ?ho ?hn ?hr ?_; (case ho => rfl); (case hg => rfl); (case hn => rfl); (case hr => first | (go_simp; done) | (go_simp; rfl)); intro w31 hw; have n0_ : Aside0 (Kd.S (Kd.slice 5 (Kd.int .u8)) 30 w31 w.heap.size (fun k_ => (w.heap.size ≤ k_)) u8 x8_1) := ⟨(by rw [hw]; exact (by (with_reducible repeat (first | apply Kd.S_alloc | apply Kd.S_drewN | apply Kd.S_drew)); exact Kd.S_mono (Kd.S_far (p := ⟨gb152, 6, none⟩) (Kd.S_types HO_8.out BK152.out (by decide)) (fun _ hk => hk.2) (.slice Ao28 y154.length co28)) (fun _ hk => hk.1)))⟩; have n1_ : Aside0 (Kd.V (Kd.int .u8) 5 w31 w.heap.size (fun k_ => (P1_6_ k_ ∨ w.heap.size ≤ k_) ∧ some k_ ≠ (u8 : Value).ownBlock ∧ k_ ≠ gb149 ∧ k_ ≠ gb152) (.slice Ao28 x9_1.length co28) x9_1) := ⟨(by rw [hw]; exact (by (with_reducible repeat (first | apply Kd.V_alloc | apply Kd.V_drewN | apply Kd.V_drew)); exact Kd.V_mono (Kd.V_far (p := ⟨gb152, 6, none⟩) (Kd.V_mono HO_9.out (fun k_ hk => (⟨hk, hk.2.2.2⟩ : _ ∧ k_ ≠ gb152))) (fun _ hk => hk.2) (.slice Ao28 y154.length co28)) (fun _ hk => ⟨hk.1.1, ⟨hk.1.2.1, ⟨hk.1.2.2.1, hk.1.2.2.2⟩⟩⟩)))⟩; have n2_ : Aside0 (Kd.V (Kd.int .u8) 5 w31 w.heap.size (fun k_ => (P1_6_ k_ ∨ w.heap.size ≤ k_) ∧ some k_ ≠ (u8 : Value).ownBlock ∧ k_ ≠ gb149 ∧ k_ ≠ gb152) (.slice A1_6 l1_6.length c1_6) l1_6) := ⟨(by rw [hw]; exact (by (with_reducible repeat (first | apply Kd.V_alloc | apply Kd.V_drewN | apply Kd.V_drew)); exact Kd.V_mono (Kd.V_far (p := ⟨gb152, 6, none⟩) (Kd.V_mono HO_150006.out (fun k_ hk => (⟨hk, hk.2.2.2⟩ : _ ∧ k_ ≠ gb152))) (fun _ hk => hk.2) (.slice Ao28 y154.length co28)) (fun _ hk => ⟨hk.1.1, ⟨hk.1.2.1, ⟨hk.1.2.2.1, hk.1.2.2.2⟩⟩⟩)))⟩; have n3_ : Aside0 (Kd.V (Kd.int .u8) 5 w31 w.heap.size (fun k_ => (P1_6_ k_ ∨ w.heap.size ≤ k_) ∧ some k_ ≠ (u8 : Value).ownBlock ∧ k_ ≠ gb149 ∧ k_ ≠ gb152) (.slice Ao28 y154.length co28) y154) := ⟨(by rw [hw]; exact (by (with_reducible repeat (first | apply Kd.V_alloc | apply Kd.V_drewN | apply Kd.V_drew)); exact Kd.V_mono (Kd.V_far (p := ⟨gb152, 6, none⟩) (Kd.V_mono HO158.out (fun k_ hk => (⟨hk, hk.2.2.2⟩ : _ ∧ k_ ≠ gb152))) (fun _ hk => hk.2) (.slice Ao28 y154.length co28)) (fun _ hk => ⟨hk.1.1, ⟨hk.1.2.1, ⟨hk.1.2.2.1, hk.1.2.2.2⟩⟩⟩)))⟩; have n4_ : Aside0 (w31.heap[gb149]? = some (.cells #[.int .u8 a1_0, .int .u8 a1_1, .int .u32 a1_2, .int .u32 a1_3, .int .u16 a1_4, .int .u16 a1_5, .slice A1_6 l1_6.length c1_6] 32 (0, 0))) := ⟨(by rw [hw]; exact (by (with_reducible repeat (first | refine blk_drewN ?_ _ | refine blk_drew ?_ | refine blk_alloc ?_ _)); refine blk_far ?_ NB149_152.out _; (with_reducible repeat (first | refine blk_drewN ?_ _ | refine blk_drew ?_ | refine blk_alloc ?_ _)); exact BK149.out))⟩; have n5_ : Aside0 (w31.heap[gb152]? = some (.cells #[.int .u8 a1_0, .int .u8 a1_1, .int .u32 a1_2, .int .u32 a1_3, .int .u16 (IntKind.u16.wrap (x28_1)), .int .u16 (IntKind.u16.wrap (t150)), .slice Ao28 y154.length co28] 32 (0, 0))) := ⟨(by rw [hw]; exact (by (with_reducible repeat (first | refine blk_drewN ?_ _ | refine blk_drew ?_ | refine blk_alloc ?_ _)); refine blk_put (cs := #[.int .u8 a1_0, .int .u8 a1_1, .int .u32 a1_2, .int .u32 a1_3, .int .u16 (IntKind.u16.wrap (x28_1)), .int .u16 (IntKind.u16.wrap (t150)), .slice A1_6 l1_6.length c1_6]) ?_ 6 _ rfl; (with_reducible repeat (first | refine blk_drewN ?_ _ | refine blk_drew ?_ | refine blk_alloc ?_ _)); exact BK152.out))⟩; have n6_ : Aside0 (Below w.heap.size w w31) := ⟨(by rw [hw]; exact (by repeat (first | (with_reducible first | exact HB.out | apply below_alloc | apply pw_below_drewN | apply below_drew1 | refine below_set ?_ GE149.out | refine below_set ?_ GE152.out) | exact HB.out)))⟩; clear hw; clear HO_8; clear HO_9; clear HO_150006; clear HO158; clear BK149; clear BK152; clear HB; have HO_8 := n0_; have HO_9 := n1_; have HO_150006 := n2_; have HO158 := n3_; have BK149 := n4_; have BK152 := n5_; have HB := n6_; clear n0_ n1_ n2_ n3_ n4_ n5_ n6_; have hcz32_0 : w31.cell? ⟨gb152, 0, none⟩ = some (.int .u8 a1_0) := (blk_cell BK152.out 0).trans rfl; have hcz32_1 : w31.cell? ⟨gb152, 1, none⟩ = some (.int .u8 a1_1) := (blk_cell BK152.out 1).trans rfl; have hcz32_2 : w31.cell? ⟨gb152, 2, none⟩ = some (.int .u32 a1_2) := (blk_cell BK152.out 2).trans rfl; have hcz32_3 : w31.cell? ⟨gb152, 3, none⟩ = some (.int .u32 a1_3) := (blk_cell BK152.out 3).trans rfl; have hcz32_4 : w31.cell? ⟨gb152, 4, none⟩ = some (.int .u16 (IntKind.u16.wrap (x28_1))) := (blk_cell BK152.out 4).trans rfl; have hcz32_5 : w31.cell? ⟨gb152, 5, none⟩ = some (.int .u16 (IntKind.u16.wrap (t150))) := (blk_cell BK152.out 5).trans rfl; have hcz32_6 : w31.cell? ⟨gb152, 6, none⟩ = some (.slice Ao28 y154.length co28) := (blk_cell BK152.out 6).trans rfl; have hfz32_0 := blk_frozen BK152.out 0; have hfz32_1 := blk_frozen BK152.out 1; have hfz32_2 := blk_frozen BK152.out 2; have hfz32_3 := blk_frozen BK152.out 3; have hfz32_4 := blk_frozen BK152.out 4; have hfz32_5 := blk_frozen BK152.out 5; have hfz32_6 := blk_frozen BK152.out 6; have q33 : ((y154.length : Int) : Int) ≤ ((x9_1.length : Int) : Int) := of_decide_eq_true (by first | (with_reducible assumption) | assumption); obtain ⟨i033, hi033, _, hsz33, _⟩ := info_parts info5; have hroom33 : x9_1.length ≤ co28 := (Kd.V_reads' HO_9.out).2.1; have hC33 : Kd.F (Kd.int .u8) _ _ Ao28 x9_1.length x9_1 := (Kd.V_at (base := w.heap.size) HO_9.out).2.2; have q033 : (0 : Int) ≤ ((y154.length : Int) : Int) := of_decide_eq_true (by first | (with_reducible assumption) | assumption); have hcut33 := cut_from (P := Try.prog) 30 5 .i64 Try.underlying30 hi033 1 hsz33 Ao28 x9_1.length co28 (y154.length : Int) q033 q33; have hr33 := Kd.F_cut (m := ((y154.length : Int) : Int).toNat) (c := co28) hC33 (by omega) hroom33; obtain ⟨A33, hA33⟩ : ∃ A1, A1 = (if co28 = ((y154.length : Int) : Int).toNat then Ao28 else (Ao28 : Option Addr).map (·.add (((y154.length : Int) : Int).toNat * 1))) := ⟨_, rfl⟩; obtain ⟨c33, hc33⟩ : ∃ c1, c1 = co28 - ((y154.length : Int) : Int).toNat := ⟨_, rfl⟩; have hy33 : y159.length = x9_1.length - ((y154.length : Int) : Int).toNat := (by rw [Ny159.out, List.length_drop] <;> omega); rw [show (x9_1).drop ((y154.length : Int) : Int).toNat = y159 from Ny159.out.symm] at hr33; replace hr33 : Kd.F (Kd.int .u8) _ _ A33 y159.length y159 := (by rw [hA33]; exact hr33); rw [← hy33, ← hA33, ← hc33] at hcut33; have HO163 := Aside0.mk (show Kd.V (Kd.int .u8) 5 _ w.heap.size _ (.slice A33 y159.length c33) y159 from Kd.V_mk (by rw [hy33, hc33]; exact Nat.sub_le_sub_right hroom33 _) hr33); have HC163 := Aside0.mk (show y159.length ≤ c33 from by rw [hy33, hc33]; exact Nat.sub_le_sub_right hroom33 _); clear hr33 hC33 hroom33 hi033 hsz33 hc33; have KY33 := Aside0.mk hy33; have KA33 := Aside0.mk hA33; clear hy33 hA33; replace q33 := eq_true q33) | ((with_reducible refine gate_callee (f := 15) rfl ?_); refine goesL_ (some 53) rfl rfl Try.func15 (by kernel_rfl) rfl #[.agg #[.int .u8 a1_0, .int .u8 a1_1, .int .u32 a1_2, .int .u32 a1_3, .int .u16 (IntKind.u16.wrap (x28_1)), .int .u16 (IntKind.u16.wrap (t150)), .slice Ao28 y154.length co28]] rfl (by (try simp only [List.map_toArray, List.map_cons, List.map_nil]); first | done | rfl | (simp only [List.length_drop, List.length_take]; rfl)) ?_; (with_reducible refine (gram_Put.calls k1 a1_0 a1_1 a1_2 a1_3 (IntKind.u16.wrap (x28_1)) (IntKind.u16.wrap (t150)) _ _ y154 t164 t167 _ ?side1 ?side2 A16.out).mono ?_); (case side1 => repeat (first | exact (Kd.V_reads' HO158.out).2.2 | (with_reducible refine Kd.C_alloc ?_ _) | (with_reducible refine Kd.C_drewN ?_ _) | (with_reducible refine Kd.C_drew ?_))); (case side2 => exact (Kd.V_reads' HO158.out).2.1); rintro e w34 ⟨v165, rfl, ho0, hb⟩; refine ⟨_, rfl, ?_⟩; have n0_ := Aside0.mk (Kd.S_elder' (by (with_reducible repeat (first | apply Kd.S_alloc | apply Kd.S_drewN | apply Kd.S_drew)); exact HO_8.out) (Kd.R_base ho0) hb); have n1_ := Aside0.mk (Kd.V_elder' (by (with_reducible repeat (first | apply Kd.V_alloc | apply Kd.V_drewN | apply Kd.V_drew)); exact HO_9.out) (Kd.R_base ho0) hb); have n2_ := Aside0.mk (Kd.V_elder' (by (with_reducible repeat (first | apply Kd.V_alloc | apply Kd.V_drewN | apply Kd.V_drew)); exact HO_150006.out) (Kd.R_base ho0) hb); have n3_ := Aside0.mk (Kd.V_elder' (by (with_reducible repeat (first | apply Kd.V_alloc | apply Kd.V_drewN | apply Kd.V_drew)); exact HO158.out) (Kd.R_base ho0) hb); have n4_ := Aside0.mk (Kd.V_elder' (by (with_reducible repeat (first | apply Kd.V_alloc | apply Kd.V_drewN | apply Kd.V_drew)); exact HO163.out) (Kd.R_base ho0) hb); have n5_ := Aside0.mk (Kd.R_lower (Kd.R_newM (M := fun k_ => (w.heap.size ≤ k_)) ho0 (below_size (by repeat (first | (with_reducible first | exact HB.out | apply below_alloc | apply pw_below_drewN | apply below_drew1 | refine below_set ?_ GE149.out | refine below_set ?_ GE152.out) | exact HB.out))) (fun k_ h_ => h_)) (below_size (by repeat (first | (with_reducible first | exact HB.out | apply below_alloc | apply pw_below_drewN | apply below_drew1 | refine below_set ?_ GE149.out | refine below_set ?_ GE152.out) | exact HB.out)))); have n6_ := Aside0.mk (blk_below (g := gb149) (o := .cells #[.int .u8 a1_0, .int .u8 a1_1, .int .u32 a1_2, .int .u32 a1_3, .int .u16 a1_4, .int .u16 a1_5, .slice A1_6 l1_6.length c1_6] 32 (0, 0)) (by (with_reducible repeat (first | refine blk_drewN ?_ _ | refine blk_drew ?_ | refine blk_alloc ?_ _)); exact BK149.out) hb); have n7_ := Aside0.mk (blk_below (g := gb152) (o := .cells #[.int .u8 a1_0, .int .u8 a1_1, .int .u32 a1_2, .int .u32 a1_3, .int .u16 (IntKind.u16.wrap (x28_1)), .int .u16 (IntKind.u16.wrap (t150)), .slice Ao28 y154.length co28] 32 (0, 0)) (by (with_reducible repeat (first | refine blk_drewN ?_ _ | refine blk_drew ?_ | refine blk_alloc ?_ _)); exact BK152.out) hb); have n8_ := Aside0.mk (below_step (by repeat (first | (with_reducible first | exact HB.out | apply below_alloc | apply pw_below_drewN | apply below_drew1 | refine below_set ?_ GE149.out | refine below_set ?_ GE152.out) | exact HB.out)) hb); clear HO_8; clear HO_9; clear HO_150006; clear HO158; clear HO163; clear BK149; clear BK152; clear HB; have HO_8 := n0_; have HO_9 := n1_; have HO_150006 := n2_; have HO158 := n3_; have HO163 := n4_; have HO166 := n5_; have BK149 := n6_; have BK152 := n7_; have HB := n8_; clear n0_ n1_ n2_ n3_ n4_ n5_ n6_ n7_ n8_; (try clear hb); (try clear hb2); (try clear hk); (try clear hi); (try clear ho0); obtain ⟨Ao36, co36, eo36⟩ := Kd.R_slice HO166.out; subst eo36) | ((with_reducible refine gate_builtin (b := .append) (xs := #[.tmp 59, .tmp 61]) rfl ?_); at_builtin; refine Kd.S_append (Kd.slice 5 (Kd.int .u8)) (w0 := w) w.heap.size rfl (.tmp 59) (.tmp 61) 33 30 (.slice none 0 0) 24 rfl Try.underlying33 info30 rfl (by decide) (by omega) u8 x8_1 t164 [.slice Ao36 t164.length co36] (fun k_ => (w.heap.size ≤ k_)) (fun k_ => some k_ = (.slice Ao36 t164.length co36 : Value).ownBlock) rfl rfl ?aP (fun k_ hk_ => ((Kd.R_mono (ok' := fun k_ => ((fun k_ => (w.heap.size ≤ k_))) k_ ∧ some k_ ≠ (u8 : Value).ownBlock) (Kd.R_apart' (HO166.out) (Kd.S_typed HO_8.out) (by decide)) (fun k_ hk => ⟨hk.1.1, hk.2⟩))).1 k_ hk_.symm) ?aF ?aO ?aB ?aS ?aL ?_; (case aP => exact Kd.M_row (Kd.R_mono (Kd.R_tight rfl (Kd.R_mono (ok' := fun k_ => ((fun k_ => (w.heap.size ≤ k_))) k_ ∧ some k_ ≠ (u8 : Value).ownBlock) (Kd.R_apart' (HO166.out) (Kd.S_typed HO_8.out) (by decide)) (fun k_ hk => ⟨hk.1.1, hk.2⟩))) (fun _ h_ => h_))); (case aB => exact (by repeat (first | (with_reducible first | exact HB.out | apply below_alloc | apply pw_below_drewN | apply below_drew1 | refine below_set ?_ GE149.out | refine below_set ?_ GE152.out) | exact HB.out))); (case aF => exact (fun k_ hk => (Nat.le_trans (below_size (by repeat (first | (with_reducible first | exact HB.out | apply below_alloc | apply pw_below_drewN | apply below_drew1 | refine below_set ?_ GE149.out | refine below_set ?_ GE152.out) | exact HB.out))) hk))); (case aO => exact (by (with_reducible repeat (first | apply Kd.S_alloc | apply Kd.S_drewN | apply Kd.S_drew)); exact Kd.S_mono HO_8.out (fun k_ hk => ⟨hk.1, fun e_ => hk.2 e_⟩))); (case aS => exact (below_size (by repeat (first | (with_reducible first | exact HB.out | apply below_alloc | apply pw_below_drewN | apply below_drew1 | refine below_set ?_ GE149.out | refine below_set ?_ GE152.out) | exact HB.out)))); (case aL => have := LMc18.out; omega); intro v169 w35 ho hb hg hat; rw [← Ny168.out] at ho; have n0_ := Aside0.mk (Kd.V_afterv (ok := (fun k_ => (P1_6_ k_ ∨ w.heap.size ≤ k_) ∧ some k_ ≠ (.slice Ao36 t164.length co36 : Value).ownBlock ∧ k_ ≠ gb149 ∧ k_ ≠ gb152)) (by (with_reducible repeat (first | apply Kd.V_alloc | apply Kd.V_drewN | apply Kd.V_drew)); exact Kd.V_mono HO_9.out (fun _ hk => ⟨⟨hk.1.1, ⟨hk.2, ⟨hk.1.2.2.1, hk.1.2.2.2⟩⟩⟩, hk.1.2.1⟩)) hg hat); have n1_ := Aside0.mk (Kd.V_afterv (ok := (fun k_ => (P1_6_ k_ ∨ w.heap.size ≤ k_) ∧ some k_ ≠ (.slice Ao36 t164.length co36 : Value).ownBlock ∧ k_ ≠ gb149 ∧ k_ ≠ gb152)) (by (with_reducible repeat (first | apply Kd.V_alloc | apply Kd.V_drewN | apply Kd.V_drew)); exact Kd.V_mono HO_150006.out (fun _ hk => ⟨⟨hk.1.1, ⟨hk.2, ⟨hk.1.2.2.1, hk.1.2.2.2⟩⟩⟩, hk.1.2.1⟩)) hg hat); have n2_ := Aside0.mk (blk_grown (g := gb149) (o := .cells #[.int .u8 a1_0, .int .u8 a1_1, .int .u32 a1_2, .int .u32 a1_3, .int .u16 a1_4, .int .u16 a1_5, .slice A1_6 l1_6.length c1_6] 32 (0, 0)) (by (with_reducible repeat (first | refine blk_drewN ?_ _ | refine blk_drew ?_ | refine blk_alloc ?_ _)); exact BK149.out) hg (Kd.S_ne HO_8.out BK149.out (by decide))); have n3_ := Aside0.mk (blk_grown (g := gb152) (o := .cells #[.int .u8 a1_0, .int .u8 a1_1, .int .u32 a1_2, .int .u32 a1_3, .int .u16 (IntKind.u16.wrap (x28_1)), .int .u16 (IntKind.u16.wrap (t150)), .slice Ao28 y154.length co28] 32 (0, 0)) (by (with_reducible repeat (first | refine blk_drewN ?_ _ | refine blk_drew ?_ | refine blk_alloc ?_ _)); exact BK152.out) hg (Kd.S_ne HO_8.out BK152.out (by decide))); have n4_ := Aside0.mk (Kd.V_afterv (ok := (fun k_ => (P1_6_ k_ ∨ w.heap.size ≤ k_) ∧ some k_ ≠ (.slice Ao36 t164.length co36 : Value).ownBlock ∧ k_ ≠ gb149 ∧ k_ ≠ gb152)) (by (with_reducible repeat (first | apply Kd.V_alloc | apply Kd.V_drewN | apply Kd.V_drew)); exact Kd.V_mono HO158.out (fun _ hk => ⟨⟨hk.1.1, ⟨hk.2, ⟨hk.1.2.2.1, hk.1.2.2.2⟩⟩⟩, hk.1.2.1⟩)) hg hat); have n5_ := Aside0.mk (Kd.V_afterv (ok := (fun k_ => (P1_6_ k_ ∨ w.heap.size ≤ k_) ∧ some k_ ≠ (.slice Ao36 t164.length co36 : Value).ownBlock ∧ k_ ≠ gb149 ∧ k_ ≠ gb152)) (by (with_reducible repeat (first | apply Kd.V_alloc | apply Kd.V_drewN | apply Kd.V_drew)); exact Kd.V_mono HO163.out (fun _ hk => ⟨⟨hk.1.1, ⟨hk.2, ⟨hk.1.2.2.1, hk.1.2.2.2⟩⟩⟩, hk.1.2.1⟩)) hg hat); have n6_ := Aside0.mk (hb); have n7_ := Aside0.mk (ho); clear HO_9; clear HO_150006; clear BK149; clear BK152; clear HO158; clear HO163; clear HB; clear HO_8; clear HO166; have HO_9 := n0_; have HO_150006 := n1_; have BK149 := n2_; have BK152 := n3_; have HO158 := n4_; have HO163 := n5_; have HB := n6_; have HO170 := n7_; clear n0_ n1_ n2_ n3_ n4_ n5_ n6_ n7_; clear ho hb hg hat))
                      go_roundg k1
                      case measure => have := HK1.out; omega
                      case rel => exact ⟨(y168), (y159), (wrap64 (x28_1 + 1)), (by first | rfl | (simp; done) | (simp [*]; done)), H', ⟨by have := HK1.out; omega⟩, ⟨by (with_reducible repeat (first | apply Kd.S_alloc | apply Kd.S_drewN | apply Kd.S_drew)); exact HO170.out⟩, ⟨by (with_reducible repeat (first | apply Kd.V_alloc | apply Kd.V_drewN | apply Kd.V_drew)); exact Kd.V_mono HO163.out (fun _ hk => ⟨hk.1.1, ⟨hk.2, hk.1.2.2.1⟩⟩)⟩, ⟨by (with_reducible repeat (first | apply Kd.V_alloc | apply Kd.V_drewN | apply Kd.V_drew)); exact Kd.V_mono HO_150006.out (fun _ hk => ⟨hk.1.1, ⟨hk.2, hk.1.2.2.1⟩⟩)⟩, ⟨by (with_reducible repeat (first | refine blk_drewN ?_ _ | refine blk_drew ?_ | refine blk_alloc ?_ _)); exact BK149.out⟩, ⟨by repeat (first | (with_reducible first | exact HB.out | apply below_alloc | apply pw_below_drewN | apply below_drew1 | refine below_set ?_ GE149.out | refine below_set ?_ GE152.out) | exact HB.out)⟩⟩
                    · rw [if_neg c18] at H
                      exact absurd H (by simp)
                  · rw [if_neg c17] at H
                    have c17b0 : (t167 == 0) = false := beq_eq_false_iff_ne.mpr c17
                    have c17b1 : (t167 != 0) = true := bne_iff_ne.mpr c17
                    simp only [Option.some.injEq, Prod.mk.injEq] at H
                    obtain ⟨rfl, rfl⟩ := H
                    have hcz37_0 : wr.cell? ⟨gb149, 0, none⟩ = some (.int .u8 a1_0) := (blk_cell BK149.out 0).trans rfl
                    have hcz37_1 : wr.cell? ⟨gb149, 1, none⟩ = some (.int .u8 a1_1) := (blk_cell BK149.out 1).trans rfl
                    have hcz37_2 : wr.cell? ⟨gb149, 2, none⟩ = some (.int .u32 a1_2) := (blk_cell BK149.out 2).trans rfl
                    have hcz37_3 : wr.cell? ⟨gb149, 3, none⟩ = some (.int .u32 a1_3) := (blk_cell BK149.out 3).trans rfl
                    have hcz37_4 : wr.cell? ⟨gb149, 4, none⟩ = some (.int .u16 a1_4) := (blk_cell BK149.out 4).trans rfl
                    have hcz37_5 : wr.cell? ⟨gb149, 5, none⟩ = some (.int .u16 a1_5) := (blk_cell BK149.out 5).trans rfl
                    have hcz37_6 : wr.cell? ⟨gb149, 6, none⟩ = some (.slice A1_6 l1_6.length c1_6) := (blk_cell BK149.out 6).trans rfl
                    have hfz37_0 := blk_frozen BK149.out 0
                    have hfz37_1 := blk_frozen BK149.out 1
                    have hfz37_2 := blk_frozen BK149.out 2
                    have hfz37_3 := blk_frozen BK149.out 3
                    have hfz37_4 := blk_frozen BK149.out 4
                    have hfz37_5 := blk_frozen BK149.out 5
                    have hfz37_6 := blk_frozen BK149.out 6
                    go_wp2_with (first | ((with_reducible refine gate_dst (N := 11) rfl ?_); refine box_event ?hg (N := 11) ?hd (cs := #[.int .u8 0, .int .u8 0, .int .u32 0, .int .u32 0, .int .u16 0, .int .u16 0, .slice none 0 0]) (t := 32) ?hr ?_; (case hd => rfl); (case hg => rfl); (case hr => first | (go_simp; done) | (go_simp; rfl)); intro gb152 hg w38 hbox hb; have n0_ := Aside0.mk (Kd.S_below (by (with_reducible repeat (first | apply Kd.S_alloc | apply Kd.S_drewN | apply Kd.S_drew)); exact HO_8.out) hb); have n1_ := Aside0.mk (Kd.V_below (Kd.V_elderB (by (with_reducible repeat (first | apply Kd.V_alloc | apply Kd.V_drewN | apply Kd.V_drew)); exact HO_9.out) gb152 (Nat.le_of_eq hg.symm)) hb); have n2_ := Aside0.mk (Kd.V_below (Kd.V_elderB (by (with_reducible repeat (first | apply Kd.V_alloc | apply Kd.V_drewN | apply Kd.V_drew)); exact HO_150006.out) gb152 (Nat.le_of_eq hg.symm)) hb); have n3_ := Aside0.mk (blk_below (g := gb149) (o := .cells #[.int .u8 a1_0, .int .u8 a1_1, .int .u32 a1_2, .int .u32 a1_3, .int .u16 a1_4, .int .u16 a1_5, .slice A1_6 l1_6.length c1_6] 32 (0, 0)) (by (with_reducible repeat (first | refine blk_drewN ?_ _ | refine blk_drew ?_ | refine blk_alloc ?_ _)); exact BK149.out) hb); have n4_ := Aside0.mk (below_step (by repeat (first | (with_reducible first | exact HB.out | apply below_alloc | apply pw_below_drewN | apply below_drew1 | refine below_set ?_ GE149.out) | exact HB.out)) hb); have n5_ := Aside0.mk (hbox); have n6_ := Aside0.mk ((by rw [hg]; exact (below_size (by repeat (first | (with_reducible first | exact HB.out | apply below_alloc | apply pw_below_drewN | apply below_drew1 | refine below_set ?_ GE149.out) | exact HB.out))) : w.heap.size ≤ gb152)); have n7_ := Aside0.mk ((by rw [hg]; exact (below_size (by repeat (first | (with_reducible first | exact HB.out | apply below_alloc | apply pw_below_drewN | apply below_drew1 | refine below_set ?_ GE149.out) | exact HB.out))) : w.heap.size ≤ gb152)); have n8_ := Aside0.mk ((by rw [hg]; exact Nat.ne_of_lt (blk_lt (g := gb149) (o := .cells #[.int .u8 a1_0, .int .u8 a1_1, .int .u32 a1_2, .int .u32 a1_3, .int .u16 a1_4, .int .u16 a1_5, .slice A1_6 l1_6.length c1_6] 32 (0, 0)) (by (with_reducible repeat (first | refine blk_drewN ?_ _ | refine blk_drew ?_ | refine blk_alloc ?_ _)); exact BK149.out)) : gb149 ≠ gb152)); have n9_ := Aside0.mk ((by rw [hg]; exact Nat.ne_of_gt (blk_lt (g := gb149) (o := .cells #[.int .u8 a1_0, .int .u8 a1_1, .int .u32 a1_2, .int .u32 a1_3, .int .u16 a1_4, .int .u16 a1_5, .slice A1_6 l1_6.length c1_6] 32 (0, 0)) (by (with_reducible repeat (first | refine blk_drewN ?_ _ | refine blk_drew ?_ | refine blk_alloc ?_ _)); exact BK149.out)) : gb152 ≠ gb149)); clear HO_8; clear HO_9; clear HO_150006; clear BK149; clear HB; have HO_8 := n0_; have HO_9 := n1_; have HO_150006 := n2_; have BK149 := n3_; have HB := n4_; have BK152 := n5_; have GW152 := n6_; have GE152 := n7_; have NB149_152 := n8_; have NB152_149 := n9_; clear n0_ n1_ n2_ n3_ n4_ n5_ n6_ n7_ n8_ n9_; clear hb hbox hg; have hnb39 := NB152_149.out; have hnc39 := NB149_152.out; have hcz40_0 : w38.cell? ⟨gb152, 0, none⟩ = some (.int .u8 0) := (blk_cell BK152.out 0).trans rfl; have hcz40_1 : w38.cell? ⟨gb152, 1, none⟩ = some (.int .u8 0) := (blk_cell BK152.out 1).trans rfl; have hcz40_2 : w38.cell? ⟨gb152, 2, none⟩ = some (.int .u32 0) := (blk_cell BK152.out 2).trans rfl; have hcz40_3 : w38.cell? ⟨gb152, 3, none⟩ = some (.int .u32 0) := (blk_cell BK152.out 3).trans rfl; have hcz40_4 : w38.cell? ⟨gb152, 4, none⟩ = some (.int .u16 0) := (blk_cell BK152.out 4).trans rfl; have hcz40_5 : w38.cell? ⟨gb152, 5, none⟩ = some (.int .u16 0) := (blk_cell BK152.out 5).trans rfl; have hcz40_6 : w38.cell? ⟨gb152, 6, none⟩ = some (.slice none 0 0) := (blk_cell BK152.out 6).trans rfl; have hfz40_0 := blk_frozen BK152.out 0; have hfz40_1 := blk_frozen BK152.out 1; have hfz40_2 := blk_frozen BK152.out 2; have hfz40_3 := blk_frozen BK152.out 3; have hfz40_4 := blk_frozen BK152.out 4; have hfz40_5 := blk_frozen BK152.out 5; have hfz40_6 := blk_frozen BK152.out 6) | ((with_reducible refine gate_store (t := 32) (p := 11) rfl ?_); refine store_event (t := 32) (p := 11) (v := ?vo_w41) (w1 := (((((((w38.setCell ⟨gb152, 0, none⟩ (.int .u8 a1_0)).setCell ⟨gb152, 1, none⟩ (.int .u8 a1_1)).setCell ⟨gb152, 2, none⟩ (.int .u32 a1_2)).setCell ⟨gb152, 3, none⟩ (.int .u32 a1_3)).setCell ⟨gb152, 4, none⟩ (.int .u16 a1_4)).setCell ⟨gb152, 5, none⟩ (.int .u16 a1_5)).setCell ⟨gb152, 6, none⟩ (.slice A1_6 l1_6.length c1_6))) ?hg ?ho ?hn ?hr ?_; (case ho => rfl); (case hg => rfl); (case hn => rfl); (case hr => first | (go_simp; done) | (go_simp; rfl)); intro w41 hw; have n0_ : Aside0 (Kd.S (Kd.slice 5 (Kd.int .u8)) 30 w41 w.heap.size (fun k_ => (w.heap.size ≤ k_)) u8 x8_1) := ⟨(by rw [hw]; exact (by (with_reducible repeat (first | apply Kd.S_alloc | apply Kd.S_drewN | apply Kd.S_drew)); exact Kd.S_mono (Kd.S_far (p := ⟨gb152, 6, none⟩) (Kd.S_far (p := ⟨gb152, 5, none⟩) (Kd.S_far (p := ⟨gb152, 4, none⟩) (Kd.S_far (p := ⟨gb152, 3, none⟩) (Kd.S_far (p := ⟨gb152, 2, none⟩) (Kd.S_far (p := ⟨gb152, 1, none⟩) (Kd.S_far (p := ⟨gb152, 0, none⟩) (Kd.S_types HO_8.out BK152.out (by decide)) (fun _ hk => hk.2) (.int .u8 a1_0)) (fun _ hk => hk.2) (.int .u8 a1_1)) (fun _ hk => hk.2) (.int .u32 a1_2)) (fun _ hk => hk.2) (.int .u32 a1_3)) (fun _ hk => hk.2) (.int .u16 a1_4)) (fun _ hk => hk.2) (.int .u16 a1_5)) (fun _ hk => hk.2) (.slice A1_6 l1_6.length c1_6)) (fun _ hk => hk.1)))⟩; have n1_ : Aside0 (Kd.V (Kd.int .u8) 5 w41 w.heap.size (fun k_ => (P1_6_ k_ ∨ w.heap.size ≤ k_) ∧ some k_ ≠ (u8 : Value).ownBlock ∧ k_ ≠ gb149 ∧ k_ ≠ gb152) u9 x9_1) := ⟨(by rw [hw]; exact (by (with_reducible repeat (first | apply Kd.V_alloc | apply Kd.V_drewN | apply Kd.V_drew)); exact Kd.V_mono (Kd.V_far (p := ⟨gb152, 6, none⟩) (Kd.V_far (p := ⟨gb152, 5, none⟩) (Kd.V_far (p := ⟨gb152, 4, none⟩) (Kd.V_far (p := ⟨gb152, 3, none⟩) (Kd.V_far (p := ⟨gb152, 2, none⟩) (Kd.V_far (p := ⟨gb152, 1, none⟩) (Kd.V_far (p := ⟨gb152, 0, none⟩) (Kd.V_mono HO_9.out (fun k_ hk => (⟨hk, hk.2⟩ : _ ∧ k_ ≠ gb152))) (fun _ hk => hk.2) (.int .u8 a1_0)) (fun _ hk => hk.2) (.int .u8 a1_1)) (fun _ hk => hk.2) (.int .u32 a1_2)) (fun _ hk => hk.2) (.int .u32 a1_3)) (fun _ hk => hk.2) (.int .u16 a1_4)) (fun _ hk => hk.2) (.int .u16 a1_5)) (fun _ hk => hk.2) (.slice A1_6 l1_6.length c1_6)) (fun _ hk => ⟨hk.1.1.1, ⟨hk.1.1.2.1, ⟨hk.1.1.2.2, hk.1.2⟩⟩⟩)))⟩; have n2_ : Aside0 (Kd.V (Kd.int .u8) 5 w41 w.heap.size (fun k_ => (P1_6_ k_ ∨ w.heap.size ≤ k_) ∧ some k_ ≠ (u8 : Value).ownBlock ∧ k_ ≠ gb149 ∧ k_ ≠ gb152) (.slice A1_6 l1_6.length c1_6) l1_6) := ⟨(by rw [hw]; exact (by (with_reducible repeat (first | apply Kd.V_alloc | apply Kd.V_drewN | apply Kd.V_drew)); exact Kd.V_mono (Kd.V_far (p := ⟨gb152, 6, none⟩) (Kd.V_far (p := ⟨gb152, 5, none⟩) (Kd.V_far (p := ⟨gb152, 4, none⟩) (Kd.V_far (p := ⟨gb152, 3, none⟩) (Kd.V_far (p := ⟨gb152, 2, none⟩) (Kd.V_far (p := ⟨gb152, 1, none⟩) (Kd.V_far (p := ⟨gb152, 0, none⟩) (Kd.V_mono HO_150006.out (fun k_ hk => (⟨hk, hk.2⟩ : _ ∧ k_ ≠ gb152))) (fun _ hk => hk.2) (.int .u8 a1_0)) (fun _ hk => hk.2) (.int .u8 a1_1)) (fun _ hk => hk.2) (.int .u32 a1_2)) (fun _ hk => hk.2) (.int .u32 a1_3)) (fun _ hk => hk.2) (.int .u16 a1_4)) (fun _ hk => hk.2) (.int .u16 a1_5)) (fun _ hk => hk.2) (.slice A1_6 l1_6.length c1_6)) (fun _ hk => ⟨hk.1.1.1, ⟨hk.1.1.2.1, ⟨hk.1.1.2.2, hk.1.2⟩⟩⟩)))⟩; have n3_ : Aside0 (w41.heap[gb149]? = some (.cells #[.int .u8 a1_0, .int .u8 a1_1, .int .u32 a1_2, .int .u32 a1_3, .int .u16 a1_4, .int .u16 a1_5, .slice A1_6 l1_6.length c1_6] 32 (0, 0))) := ⟨(by rw [hw]; exact (by (with_reducible repeat (first | refine blk_drewN ?_ _ | refine blk_drew ?_ | refine blk_alloc ?_ _)); refine blk_far ?_ NB149_152.out _; (with_reducible repeat (first | refine blk_drewN ?_ _ | refine blk_drew ?_ | refine blk_alloc ?_ _)); refine blk_far ?_ NB149_152.out _; (with_reducible repeat (first | refine blk_drewN ?_ _ | refine blk_drew ?_ | refine blk_alloc ?_ _)); refine blk_far ?_ NB149_152.out _; (with_reducible repeat (first | refine blk_drewN ?_ _ | refine blk_drew ?_ | refine blk_alloc ?_ _)); refine blk_far ?_ NB149_152.out _; (with_reducible repeat (first | refine blk_drewN ?_ _ | refine blk_drew ?_ | refine blk_alloc ?_ _)); refine blk_far ?_ NB149_152.out _; (with_reducible repeat (first | refine blk_drewN ?_ _ | refine blk_drew ?_ | refine blk_alloc ?_ _)); refine blk_far ?_ NB149_152.out _; (with_reducible repeat (first | refine blk_drewN ?_ _ | refine blk_drew ?_ | refine blk_alloc ?_ _)); refine blk_far ?_ NB149_152.out _; (with_reducible repeat (first | refine blk_drewN ?_ _ | refine blk_drew ?_ | refine blk_alloc ?_ _)); exact BK149.out))⟩; have n4_ : Aside0 (w41.heap[gb152]? = some (.cells #[.int .u8 a1_0, .int .u8 a1_1, .int .u32 a1_2, .int .u32 a1_3, .int .u16 a1_4, .int .u16 a1_5, .slice A1_6 l1_6.length c1_6] 32 (0, 0))) := ⟨(by rw [hw]; exact (by (with_reducible repeat (first | refine blk_drewN ?_ _ | refine blk_drew ?_ | refine blk_alloc ?_ _)); refine blk_put (cs := #[.int .u8 a1_0, .int .u8 a1_1, .int .u32 a1_2, .int .u32 a1_3, .int .u16 a1_4, .int .u16 a1_5, .slice none 0 0]) ?_ 6 _ rfl; (with_reducible repeat (first | refine blk_drewN ?_ _ | refine blk_drew ?_ | refine blk_alloc ?_ _)); refine blk_put (cs := #[.int .u8 a1_0, .int .u8 a1_1, .int .u32 a1_2, .int .u32 a1_3, .int .u16 a1_4, .int .u16 0, .slice none 0 0]) ?_ 5 _ rfl; (with_reducible repeat (first | refine blk_drewN ?_ _ | refine blk_drew ?_ | refine blk_alloc ?_ _)); refine blk_put (cs := #[.int .u8 a1_0, .int .u8 a1_1, .int .u32 a1_2, .int .u32 a1_3, .int .u16 0, .int .u16 0, .slice none 0 0]) ?_ 4 _ rfl; (with_reducible repeat (first | refine blk_drewN ?_ _ | refine blk_drew ?_ | refine blk_alloc ?_ _)); refine blk_put (cs := #[.int .u8 a1_0, .int .u8 a1_1, .int .u32 a1_2, .int .u32 0, .int .u16 0, .int .u16 0, .slice none 0 0]) ?_ 3 _ rfl; (with_reducible repeat (first | refine blk_drewN ?_ _ | refine blk_drew ?_ | refine blk_alloc ?_ _)); refine blk_put (cs := #[.int .u8 a1_0, .int .u8 a1_1, .int .u32 0, .int .u32 0, .int .u16 0, .int .u16 0, .slice none 0 0]) ?_ 2 _ rfl; (with_reducible repeat (first | refine blk_drewN ?_ _ | refine blk_drew ?_ | refine blk_alloc ?_ _)); refine blk_put (cs := #[.int .u8 a1_0, .int .u8 0, .int .u32 0, .int .u32 0, .int .u16 0, .int .u16 0, .slice none 0 0]) ?_ 1 _ rfl; (with_reducible repeat (first | refine blk_drewN ?_ _ | refine blk_drew ?_ | refine blk_alloc ?_ _)); refine blk_put (cs := #[.int .u8 0, .int .u8 0, .int .u32 0, .int .u32 0, .int .u16 0, .int .u16 0, .slice none 0 0]) ?_ 0 _ rfl; (with_reducible repeat (first | refine blk_drewN ?_ _ | refine blk_drew ?_ | refine blk_alloc ?_ _)); exact BK152.out))⟩; have n5_ : Aside0 (Below w.heap.size w w41) := ⟨(by rw [hw]; exact (by repeat (first | (with_reducible first | exact HB.out | apply below_alloc | apply pw_below_drewN | apply below_drew1 | refine below_set ?_ GE149.out | refine below_set ?_ GE152.out) | exact HB.out)))⟩; clear hw; clear HO_8; clear HO_9; clear HO_150006; clear BK149; clear BK152; clear HB; have HO_8 := n0_; have HO_9 := n1_; have HO_150006 := n2_; have BK149 := n3_; have BK152 := n4_; have HB := n5_; clear n0_ n1_ n2_ n3_ n4_ n5_; have hcz42_0 : w41.cell? ⟨gb152, 0, none⟩ = some (.int .u8 a1_0) := (blk_cell BK152.out 0).trans rfl; have hcz42_1 : w41.cell? ⟨gb152, 1, none⟩ = some (.int .u8 a1_1) := (blk_cell BK152.out 1).trans rfl; have hcz42_2 : w41.cell? ⟨gb152, 2, none⟩ = some (.int .u32 a1_2) := (blk_cell BK152.out 2).trans rfl; have hcz42_3 : w41.cell? ⟨gb152, 3, none⟩ = some (.int .u32 a1_3) := (blk_cell BK152.out 3).trans rfl; have hcz42_4 : w41.cell? ⟨gb152, 4, none⟩ = some (.int .u16 a1_4) := (blk_cell BK152.out 4).trans rfl; have hcz42_5 : w41.cell? ⟨gb152, 5, none⟩ = some (.int .u16 a1_5) := (blk_cell BK152.out 5).trans rfl; have hcz42_6 : w41.cell? ⟨gb152, 6, none⟩ = some (.slice A1_6 l1_6.length c1_6) := (blk_cell BK152.out 6).trans rfl; have hfz42_0 := blk_frozen BK152.out 0; have hfz42_1 := blk_frozen BK152.out 1; have hfz42_2 := blk_frozen BK152.out 2; have hfz42_3 := blk_frozen BK152.out 3; have hfz42_4 := blk_frozen BK152.out 4; have hfz42_5 := blk_frozen BK152.out 5; have hfz42_6 := blk_frozen BK152.out 6) | ((with_reducible refine gate_store (t := 29) (p := 36) rfl ?_); refine store_event (t := 29) (p := 36) (v := ?vo_w43) (w1 := (w41.setCell ⟨gb152, 4, none⟩ (.int .u16 (IntKind.u16.wrap (x28_1))))) ?hg ?ho ?hn ?hr ?_; (case ho => rfl); (case hg => rfl); (case hn => rfl); (case hr => first | (go_simp; done) | (go_simp; rfl)); intro w43 hw; have n0_ : Aside0 (Kd.S (Kd.slice 5 (Kd.int .u8)) 30 w43 w.heap.size (fun k_ => (w.heap.size ≤ k_)) u8 x8_1) := ⟨(by rw [hw]; exact (by (with_reducible repeat (first | apply Kd.S_alloc | apply Kd.S_drewN | apply Kd.S_drew)); exact Kd.S_mono (Kd.S_far (p := ⟨gb152, 4, none⟩) (Kd.S_types HO_8.out BK152.out (by decide)) (fun _ hk => hk.2) (.int .u16 (IntKind.u16.wrap (x28_1)))) (fun _ hk => hk.1)))⟩; have n1_ : Aside0 (Kd.V (Kd.int .u8) 5 w43 w.heap.size (fun k_ => (P1_6_ k_ ∨ w.heap.size ≤ k_) ∧ some k_ ≠ (u8 : Value).ownBlock ∧ k_ ≠ gb149 ∧ k_ ≠ gb152) u9 x9_1) := ⟨(by rw [hw]; exact (by (with_reducible repeat (first | apply Kd.V_alloc | apply Kd.V_drewN | apply Kd.V_drew)); exact Kd.V_mono (Kd.V_far (p := ⟨gb152, 4, none⟩) (Kd.V_mono HO_9.out (fun k_ hk => (⟨hk, hk.2.2.2⟩ : _ ∧ k_ ≠ gb152))) (fun _ hk => hk.2) (.int .u16 (IntKind.u16.wrap (x28_1)))) (fun _ hk => ⟨hk.1.1, ⟨hk.1.2.1, ⟨hk.1.2.2.1, hk.1.2.2.2⟩⟩⟩)))⟩; have n2_ : Aside0 (Kd.V (Kd.int .u8) 5 w43 w.heap.size (fun k_ => (P1_6_ k_ ∨ w.heap.size ≤ k_) ∧ some k_ ≠ (u8 : Value).ownBlock ∧ k_ ≠ gb149 ∧ k_ ≠ gb152) (.slice A1_6 l1_6.length c1_6) l1_6) := ⟨(by rw [hw]; exact (by (with_reducible repeat (first | apply Kd.V_alloc | apply Kd.V_drewN | apply Kd.V_drew)); exact Kd.V_mono (Kd.V_far (p := ⟨gb152, 4, none⟩) (Kd.V_mono HO_150006.out (fun k_ hk => (⟨hk, hk.2.2.2⟩ : _ ∧ k_ ≠ gb152))) (fun _ hk => hk.2) (.int .u16 (IntKind.u16.wrap (x28_1)))) (fun _ hk => ⟨hk.1.1, ⟨hk.1.2.1, ⟨hk.1.2.2.1, hk.1.2.2.2⟩⟩⟩)))⟩; have n3_ : Aside0 (w43.heap[gb149]? = some (.cells #[.int .u8 a1_0, .int .u8 a1_1, .int .u32 a1_2, .int .u32 a1_3, .int .u16 a1_4, .int .u16 a1_5, .slice A1_6 l1_6.length c1_6] 32 (0, 0))) := ⟨(by rw [hw]; exact (by (with_reducible repeat (first | refine blk_drewN ?_ _ | refine blk_drew ?_ | refine blk_alloc ?_ _)); refine blk_far ?_ NB149_152.out _; (with_reducible repeat (first | refine blk_drewN ?_ _ | refine blk_drew ?_ | refine blk_alloc ?_ _)); exact BK149.out))⟩; have n4_ : Aside0 (w43.heap[gb152]? = some (.cells #[.int .u8 a1_0, .int .u8 a1_1, .int .u32 a1_2, .int .u32 a1_3, .int .u16 (IntKind.u16.wrap (x28_1)), .int .u16 a1_5, .slice A1_6 l1_6.length c1_6] 32 (0, 0))) := ⟨(by rw [hw]; exact (by (with_reducible repeat (first | refine blk_drewN ?_ _ | refine blk_drew ?_ | refine blk_alloc ?_ _)); refine blk_put (cs := #[.int .u8 a1_0, .int .u8 a1_1, .int .u32 a1_2, .int .u32 a1_3, .int .u16 a1_4, .int .u16 a1_5, .slice A1_6 l1_6.length c1_6]) ?_ 4 _ rfl; (with_reducible repeat (first | refine blk_drewN ?_ _ | refine blk_drew ?_ | refine blk_alloc ?_ _)); exact BK152.out))⟩; have n5_ : Aside0 (Below w.heap.size w w43) := ⟨(by rw [hw]; exact (by repeat (first | (with_reducible first | exact HB.out | apply below_alloc | apply pw_below_drewN | apply below_drew1 | refine below_set ?_ GE149.out | refine below_set ?_ GE152.out) | exact HB.out)))⟩; clear hw; clear HO_8; clear HO_9; clear HO_150006; clear BK149; clear BK152; clear HB; have HO_8 := n0_; have HO_9 := n1_; have HO_150006 := n2_; have BK149 := n3_; have BK152 := n4_; have HB := n5_; clear n0_ n1_ n2_ n3_ n4_ n5_; have hcz44_0 : w43.cell? ⟨gb152, 0, none⟩ = some (.int .u8 a1_0) := (blk_cell BK152.out 0).trans rfl; have hcz44_1 : w43.cell? ⟨gb152, 1, none⟩ = some (.int .u8 a1_1) := (blk_cell BK152.out 1).trans rfl; have hcz44_2 : w43.cell? ⟨gb152, 2, none⟩ = some (.int .u32 a1_2) := (blk_cell BK152.out 2).trans rfl; have hcz44_3 : w43.cell? ⟨gb152, 3, none⟩ = some (.int .u32 a1_3) := (blk_cell BK152.out 3).trans rfl; have hcz44_4 : w43.cell? ⟨gb152, 4, none⟩ = some (.int .u16 (IntKind.u16.wrap (x28_1))) := (blk_cell BK152.out 4).trans rfl; have hcz44_5 : w43.cell? ⟨gb152, 5, none⟩ = some (.int .u16 a1_5) := (blk_cell BK152.out 5).trans rfl; have hcz44_6 : w43.cell? ⟨gb152, 6, none⟩ = some (.slice A1_6 l1_6.length c1_6) := (blk_cell BK152.out 6).trans rfl; have hfz44_0 := blk_frozen BK152.out 0; have hfz44_1 := blk_frozen BK152.out 1; have hfz44_2 := blk_frozen BK152.out 2; have hfz44_3 := blk_frozen BK152.out 3; have hfz44_4 := blk_frozen BK152.out 4; have hfz44_5 := blk_frozen BK152.out 5; have hfz44_6 := blk_frozen BK152.out 6) | ((with_reducible refine gate_store (t := 29) (p := 37) rfl ?_); refine store_event (t := 29) (p := 37) (v := ?vo_w45) (w1 := (w43.setCell ⟨gb152, 5, none⟩ (.int .u16 (IntKind.u16.wrap (t150))))) ?hg ?ho ?hn ?hr ?_; (case ho => rfl); (case hg => rfl); (case hn => rfl); (case hr => first | (go_simp; done) | (go_simp; rfl)); intro w45 hw; have n0_ : Aside0 (Kd.S (Kd.slice 5 (Kd.int .u8)) 30 w45 w.heap.size (fun k_ => (w.heap.size ≤ k_)) u8 x8_1) := ⟨(by rw [hw]; exact (by (with_reducible repeat (first | apply Kd.S_alloc | apply Kd.S_drewN | apply Kd.S_drew)); exact Kd.S_mono (Kd.S_far (p := ⟨gb152, 5, none⟩) (Kd.S_types HO_8.out BK152.out (by decide)) (fun _ hk => hk.2) (.int .u16 (IntKind.u16.wrap (t150)))) (fun _ hk => hk.1)))⟩; have n1_ : Aside0 (Kd.V (Kd.int .u8) 5 w45 w.heap.size (fun k_ => (P1_6_ k_ ∨ w.heap.size ≤ k_) ∧ some k_ ≠ (u8 : Value).ownBlock ∧ k_ ≠ gb149 ∧ k_ ≠ gb152) u9 x9_1) := ⟨(by rw [hw]; exact (by (with_reducible repeat (first | apply Kd.V_alloc | apply Kd.V_drewN | apply Kd.V_drew)); exact Kd.V_mono (Kd.V_far (p := ⟨gb152, 5, none⟩) (Kd.V_mono HO_9.out (fun k_ hk => (⟨hk, hk.2.2.2⟩ : _ ∧ k_ ≠ gb152))) (fun _ hk => hk.2) (.int .u16 (IntKind.u16.wrap (t150)))) (fun _ hk => ⟨hk.1.1, ⟨hk.1.2.1, ⟨hk.1.2.2.1, hk.1.2.2.2⟩⟩⟩)))⟩; have n2_ : Aside0 (Kd.V (Kd.int .u8) 5 w45 w.heap.size (fun k_ => (P1_6_ k_ ∨ w.heap.size ≤ k_) ∧ some k_ ≠ (u8 : Value).ownBlock ∧ k_ ≠ gb149 ∧ k_ ≠ gb152) (.slice A1_6 l1_6.length c1_6) l1_6) := ⟨(by rw [hw]; exact (by (with_reducible repeat (first | apply Kd.V_alloc | apply Kd.V_drewN | apply Kd.V_drew)); exact Kd.V_mono (Kd.V_far (p := ⟨gb152, 5, none⟩) (Kd.V_mono HO_150006.out (fun k_ hk => (⟨hk, hk.2.2.2⟩ : _ ∧ k_ ≠ gb152))) (fun _ hk => hk.2) (.int .u16 (IntKind.u16.wrap (t150)))) (fun _ hk => ⟨hk.1.1, ⟨hk.1.2.1, ⟨hk.1.2.2.1, hk.1.2.2.2⟩⟩⟩)))⟩; have n3_ : Aside0 (w45.heap[gb149]? = some (.cells #[.int .u8 a1_0, .int .u8 a1_1, .int .u32 a1_2, .int .u32 a1_3, .int .u16 a1_4, .int .u16 a1_5, .slice A1_6 l1_6.length c1_6] 32 (0, 0))) := ⟨(by rw [hw]; exact (by (with_reducible repeat (first | refine blk_drewN ?_ _ | refine blk_drew ?_ | refine blk_alloc ?_ _)); refine blk_far ?_ NB149_152.out _; (with_reducible repeat (first | refine blk_drewN ?_ _ | refine blk_drew ?_ | refine blk_alloc ?_ _)); exact BK149.out))⟩; have n4_ : Aside0 (w45.heap[gb152]? = some (.cells #[.int .u8 a1_0, .int .u8 a1_1, .int .u32 a1_2, .int .u32 a1_3, .int .u16 (IntKind.u16.wrap (x28_1)), .int .u16 (IntKind.u16.wrap (t150)), .slice A1_6 l1_6.length c1_6] 32 (0, 0))) := ⟨(by rw [hw]; exact (by (with_reducible repeat (first | refine blk_drewN ?_ _ | refine blk_drew ?_ | refine blk_alloc ?_ _)); refine blk_put (cs := #[.int .u8 a1_0, .int .u8 a1_1, .int .u32 a1_2, .int .u32 a1_3, .int .u16 (IntKind.u16.wrap (x28_1)), .int .u16 a1_5, .slice A1_6 l1_6.length c1_6]) ?_ 5 _ rfl; (with_reducible repeat (first | refine blk_drewN ?_ _ | refine blk_drew ?_ | refine blk_alloc ?_ _)); exact BK152.out))⟩; have n5_ : Aside0 (Below w.heap.size w w45) := ⟨(by rw [hw]; exact (by repeat (first | (with_reducible first | exact HB.out | apply below_alloc | apply pw_below_drewN | apply below_drew1 | refine below_set ?_ GE149.out | refine below_set ?_ GE152.out) | exact HB.out)))⟩; clear hw; clear HO_8; clear HO_9; clear HO_150006; clear BK149; clear BK152; clear HB; have HO_8 := n0_; have HO_9 := n1_; have HO_150006 := n2_; have BK149 := n3_; have BK152 := n4_; have HB := n5_; clear n0_ n1_ n2_ n3_ n4_ n5_) | ((with_reducible refine gate_callee (f := 8) rfl ?_); refine goesL_ (some 40) rfl rfl Try.func8 (by kernel_rfl) rfl #[.int .i64 a0] rfl (by (try simp only [List.map_toArray, List.map_cons, List.map_nil]); first | done | rfl | (simp only [List.length_drop, List.length_take]; rfl)) ?_; (with_reducible refine (split_Room.calls a0 t153 _ A10.out).mono ?_); rintro e w' ⟨rfl, ⟨nd, rfl⟩⟩; refine ⟨_, rfl, ?_⟩; (try (rw [drewN_self w45]; generalize hq_ : World.drewN w45 _ = w45; have n0_ := Aside0.mk (Kd.S_at hq_ HO_8.out); have n1_ := Aside0.mk (V_atq hq_ HO_9.out); have n2_ := Aside0.mk (V_atq hq_ HO_150006.out); have n3_ := Aside0.mk (blk_at hq_ BK149.out); have n4_ := Aside0.mk (blk_at hq_ BK152.out); have n5_ := Aside0.mk (below_at hq_ HB.out); clear hq_ HO_8 HO_9 HO_150006 BK149 BK152 HB; have HO_8 := n0_; have HO_9 := n1_; have HO_150006 := n2_; have BK149 := n3_; have BK152 := n4_; have HB := n5_; clear n0_ n1_ n2_ n3_ n4_ n5_)); obtain ⟨Ao46, co46, eo46⟩ := Kd.V_slice HO_9.out; subst eo46; have q47 : ((ji11) : Int) ≤ ((x9_1.length : Int) : Int) := of_decide_eq_true (by first | (with_reducible assumption) | assumption); obtain ⟨i047, hi047, _, hsz47, _⟩ := info_parts info5; have hroom47 : x9_1.length ≤ co46 := (Kd.V_reads' HO_9.out).2.1; have hC47 : Kd.F (Kd.int .u8) _ _ Ao46 x9_1.length x9_1 := (Kd.V_at (base := w.heap.size) HO_9.out).2.2; have hcut47 := cut_to (P := Try.prog) 30 5 .i64 Try.underlying30 hi047 Ao46 x9_1.length co46 (ji11) (of_decide_eq_true (by first | (with_reducible assumption) | assumption)) q47 hroom47; have hr47 := Kd.F_take (m := ((ji11) : Int).toNat) hC47 (by omega); have hy47 : y154.length = ((ji11) : Int).toNat := (by rw [Ny154.out, List.length_take]; omega); rw [← Ny154.out] at hr47; rw [← hy47] at hcut47; have HO158 := Aside0.mk (show Kd.V (Kd.int .u8) 5 _ w.heap.size _ (.slice Ao46 y154.length co46) y154 from Kd.V_mk (by omega) hr47); have HC158 := Aside0.mk (show y154.length ≤ co46 from by omega); clear hr47 hC47 hroom47 hi047 hsz47; have KY47 := Aside0.mk hy47; clear hy47; replace q47 := eq_true q47; have hcz48_0 : w45.cell? ⟨gb152, 0, none⟩ = some (.int .u8 a1_0) := (blk_cell BK152.out 0).trans rfl; have hcz48_1 : w45.cell? ⟨gb152, 1, none⟩ = some (.int .u8 a1_1) := (blk_cell BK152.out 1).trans rfl; have hcz48_2 : w45.cell? ⟨gb152, 2, none⟩ = some (.int .u32 a1_2) := (blk_cell BK152.out 2).trans rfl; have hcz48_3 : w45.cell? ⟨gb152, 3, none⟩ = some (.int .u32 a1_3) := (blk_cell BK152.out 3).trans rfl; have hcz48_4 : w45.cell? ⟨gb152, 4, none⟩ = some (.int .u16 (IntKind.u16.wrap (x28_1))) := (blk_cell BK152.out 4).trans rfl; have hcz48_5 : w45.cell? ⟨gb152, 5, none⟩ = some (.int .u16 (IntKind.u16.wrap (t150))) := (blk_cell BK152.out 5).trans rfl; have hcz48_6 : w45.cell? ⟨gb152, 6, none⟩ = some (.slice A1_6 l1_6.length c1_6) := (blk_cell BK152.out 6).trans rfl; have hfz48_0 := blk_frozen BK152.out 0; have hfz48_1 := blk_frozen BK152.out 1; have hfz48_2 := blk_frozen BK152.out 2; have hfz48_3 := blk_frozen BK152.out 3; have hfz48_4 := blk_frozen BK152.out 4; have hfz48_5 := blk_frozen BK152.out 5; have hfz48_6 := blk_frozen BK152.out 6) | ((with_reducible refine gate_store (t := 30) (p := 45) rfl ?_); refine store_event (t := 30) (p := 45) (v := ?vo_w49) (w1 := (w45.setCell ⟨gb152, 6, none⟩ (.slice Ao46 y154.length co46))) ?hg ?ho ?hn ?hr ?_; (case ho => rfl); (case hg => rfl); (case hn => rfl); (case hr => first | (go_simp; done) | (go_simp; rfl)); intro w49 hw; have n0_ : Aside0 (Kd.S (Kd.slice 5 (Kd.int .u8)) 30 w49 w.heap.size (fun k_ => (w.heap.size ≤ k_)) u8 x8_1) := ⟨(by rw [hw]; exact (by (with_reducible repeat (first | apply Kd.S_alloc | apply Kd.S_drewN | apply Kd.S_drew)); exact Kd.S_mono (Kd.S_far (p := ⟨gb152, 6, none⟩) (Kd.S_types HO_8.out BK152.out (by decide)) (fun _ hk => hk.2) (.slice Ao46 y154.length co46)) (fun _ hk => hk.1)))⟩; have n1_ : Aside0 (Kd.V (Kd.int .u8) 5 w49 w.heap.size (fun k_ => (P1_6_ k_ ∨ w.heap.size ≤ k_) ∧ some k_ ≠ (u8 : Value).ownBlock ∧ k_ ≠ gb149 ∧ k_ ≠ gb152) (.slice Ao46 x9_1.length co46) x9_1) := ⟨(by rw [hw]; exact (by (with_reducible repeat (first | apply Kd.V_alloc | apply Kd.V_drewN | apply Kd.V_drew)); exact Kd.V_mono (Kd.V_far (p := ⟨gb152, 6, none⟩) (Kd.V_mono HO_9.out (fun k_ hk => (⟨hk, hk.2.2.2⟩ : _ ∧ k_ ≠ gb152))) (fun _ hk => hk.2) (.slice Ao46 y154.length co46)) (fun _ hk => ⟨hk.1.1, ⟨hk.1.2.1, ⟨hk.1.2.2.1, hk.1.2.2.2⟩⟩⟩)))⟩; have n2_ : Aside0 (Kd.V (Kd.int .u8) 5 w49 w.heap.size (fun k_ => (P1_6_ k_ ∨ w.heap.size ≤ k_) ∧ some k_ ≠ (u8 : Value).ownBlock ∧ k_ ≠ gb149 ∧ k_ ≠ gb152) (.slice A1_6 l1_6.length c1_6) l1_6) := ⟨(by rw [hw]; exact (by (with_reducible repeat (first | apply Kd.V_alloc | apply Kd.V_drewN | apply Kd.V_drew)); exact Kd.V_mono (Kd.V_far (p := ⟨gb152, 6, none⟩) (Kd.V_mono HO_150006.out (fun k_ hk => (⟨hk, hk.2.2.2⟩ : _ ∧ k_ ≠ gb152))) (fun _ hk => hk.2) (.slice Ao46 y154.length co46)) (fun _ hk => ⟨hk.1.1, ⟨hk.1.2.1, ⟨hk.1.2.2.1, hk.1.2.2.2⟩⟩⟩)))⟩; have n3_ : Aside0 (Kd.V (Kd.int .u8) 5 w49 w.heap.size (fun k_ => (P1_6_ k_ ∨ w.heap.size ≤ k_) ∧ some k_ ≠ (u8 : Value).ownBlock ∧ k_ ≠ gb149 ∧ k_ ≠ gb152) (.slice Ao46 y154.length co46) y154) := ⟨(by rw [hw]; exact (by (with_reducible repeat (first | apply Kd.V_alloc | apply Kd.V_drewN | apply Kd.V_drew)); exact Kd.V_mono (Kd.V_far (p := ⟨gb152, 6, none⟩) (Kd.V_mono HO158.out (fun k_ hk => (⟨hk, hk.2.2.2⟩ : _ ∧ k_ ≠ gb152))) (fun _ hk => hk.2) (.slice Ao46 y154.length co46)) (fun _ hk => ⟨hk.1.1, ⟨hk.1.2.1, ⟨hk.1.2.2.1, hk.1.2.2.2⟩⟩⟩)))⟩; have n4_ : Aside0 (w49.heap[gb149]? = some (.cells #[.int .u8 a1_0, .int .u8 a1_1, .int .u32 a1_2, .int .u32 a1_3, .int .u16 a1_4, .int .u16 a1_5, .slice A1_6 l1_6.length c1_6] 32 (0, 0))) := ⟨(by rw [hw]; exact (by (with_reducible repeat (first | refine blk_drewN ?_ _ | refine blk_drew ?_ | refine blk_alloc ?_ _)); refine blk_far ?_ NB149_152.out _; (with_reducible repeat (first | refine blk_drewN ?_ _ | refine blk_drew ?_ | refine blk_alloc ?_ _)); exact BK149.out))⟩; have n5_ : Aside0 (w49.heap[gb152]? = some (.cells #[.int .u8 a1_0, .int .u8 a1_1, .int .u32 a1_2, .int .u32 a1_3, .int .u16 (IntKind.u16.wrap (x28_1)), .int .u16 (IntKind.u16.wrap (t150)), .slice Ao46 y154.length co46] 32 (0, 0))) := ⟨(by rw [hw]; exact (by (with_reducible repeat (first | refine blk_drewN ?_ _ | refine blk_drew ?_ | refine blk_alloc ?_ _)); refine blk_put (cs := #[.int .u8 a1_0, .int .u8 a1_1, .int .u32 a1_2, .int .u32 a1_3, .int .u16 (IntKind.u16.wrap (x28_1)), .int .u16 (IntKind.u16.wrap (t150)), .slice A1_6 l1_6.length c1_6]) ?_ 6 _ rfl; (with_reducible repeat (first | refine blk_drewN ?_ _ | refine blk_drew ?_ | refine blk_alloc ?_ _)); exact BK152.out))⟩; have n6_ : Aside0 (Below w.heap.size w w49) := ⟨(by rw [hw]; exact (by repeat (first | (with_reducible first | exact HB.out | apply below_alloc | apply pw_below_drewN | apply below_drew1 | refine below_set ?_ GE149.out | refine below_set ?_ GE152.out) | exact HB.out)))⟩; clear hw; clear HO_8; clear HO_9; clear HO_150006; clear HO158; clear BK149; clear BK152; clear HB; have HO_8 := n0_; have HO_9 := n1_; have HO_150006 := n2_; have HO158 := n3_; have BK149 := n4_; have BK152 := n5_; have HB := n6_; clear n0_ n1_ n2_ n3_ n4_ n5_ n6_; have hcz50_0 : w49.cell? ⟨gb152, 0, none⟩ = some (.int .u8 a1_0) := (blk_cell BK152.out 0).trans rfl; have hcz50_1 : w49.cell? ⟨gb152, 1, none⟩ = some (.int .u8 a1_1) := (blk_cell BK152.out 1).trans rfl; have hcz50_2 : w49.cell? ⟨gb152, 2, none⟩ = some (.int .u32 a1_2) := (blk_cell BK152.out 2).trans rfl; have hcz50_3 : w49.cell? ⟨gb152, 3, none⟩ = some (.int .u32 a1_3) := (blk_cell BK152.out 3).trans rfl; have hcz50_4 : w49.cell? ⟨gb152, 4, none⟩ = some (.int .u16 (IntKind.u16.wrap (x28_1))) := (blk_cell BK152.out 4).trans rfl; have hcz50_5 : w49.cell? ⟨gb152, 5, none⟩ = some (.int .u16 (IntKind.u16.wrap (t150))) := (blk_cell BK152.out 5).trans rfl; have hcz50_6 : w49.cell? ⟨gb152, 6, none⟩ = some (.slice Ao46 y154.length co46) := (blk_cell BK152.out 6).trans rfl; have hfz50_0 := blk_frozen BK152.out 0; have hfz50_1 := blk_frozen BK152.out 1; have hfz50_2 := blk_frozen BK152.out 2; have hfz50_3 := blk_frozen BK152.out 3; have hfz50_4 := blk_frozen BK152.out 4; have hfz50_5 := blk_frozen BK152.out 5; have hfz50_6 := blk_frozen BK152.out 6; have q51 : ((y154.length : Int) : Int) ≤ ((x9_1.length : Int) : Int) := of_decide_eq_true (by first | (with_reducible assumption) | assumption); obtain ⟨i051, hi051, _, hsz51, _⟩ := info_parts info5; have hroom51 : x9_1.length ≤ co46 := (Kd.V_reads' HO_9.out).2.1; have hC51 : Kd.F (Kd.int .u8) _ _ Ao46 x9_1.length x9_1 := (Kd.V_at (base := w.heap.size) HO_9.out).2.2; have q051 : (0 : Int) ≤ ((y154.length : Int) : Int) := of_decide_eq_true (by first | (with_reducible assumption) | assumption); have hcut51 := cut_from (P := Try.prog) 30 5 .i64 Try.underlying30 hi051 1 hsz51 Ao46 x9_1.length co46 (y154.length : Int) q051 q51; have hr51 := Kd.F_cut (m := ((y154.length : Int) : Int).toNat) (c := co46) hC51 (by omega) hroom51; obtain ⟨A51, hA51⟩ : ∃ A1, A1 = (if co46 = ((y154.length : Int) : Int).toNat then Ao46 else (Ao46 : Option Addr).map (·.add (((y154.length : Int) : Int).toNat * 1))) := ⟨_, rfl⟩; obtain ⟨c51, hc51⟩ : ∃ c1, c1 = co46 - ((y154.length : Int) : Int).toNat := ⟨_, rfl⟩; have hy51 : y159.length = x9_1.length - ((y154.length : Int) : Int).toNat := (by rw [Ny159.out, List.length_drop] <;> omega); rw [show (x9_1).drop ((y154.length : Int) : Int).toNat = y159 from Ny159.out.symm] at hr51; replace hr51 : Kd.F (Kd.int .u8) _ _ A51 y159.length y159 := (by rw [hA51]; exact hr51); rw [← hy51, ← hA51, ← hc51] at hcut51; have HO163 := Aside0.mk (show Kd.V (Kd.int .u8) 5 _ w.heap.size _ (.slice A51 y159.length c51) y159 from Kd.V_mk (by rw [hy51, hc51]; exact Nat.sub_le_sub_right hroom51 _) hr51); have HC163 := Aside0.mk (show y159.length ≤ c51 from by rw [hy51, hc51]; exact Nat.sub_le_sub_right hroom51 _); clear hr51 hC51 hroom51 hi051 hsz51 hc51; have KY51 := Aside0.mk hy51; have KA51 := Aside0.mk hA51; clear hy51 hA51; replace q51 := eq_true q51) | ((with_reducible refine gate_callee (f := 15) rfl ?_); refine goesL_ (some 53) rfl rfl Try.func15 (by kernel_rfl) rfl #[.agg #[.int .u8 a1_0, .int .u8 a1_1, .int .u32 a1_2, .int .u32 a1_3, .int .u16 (IntKind.u16.wrap (x28_1)), .int .u16 (IntKind.u16.wrap (t150)), .slice Ao46 y154.length co46]] rfl (by (try simp only [List.map_toArray, List.map_cons, List.map_nil]); first | done | rfl | (simp only [List.length_drop, List.length_take]; rfl)) ?_; (with_reducible refine (gram_Put.calls k1 a1_0 a1_1 a1_2 a1_3 (IntKind.u16.wrap (x28_1)) (IntKind.u16.wrap (t150)) _ _ y154 t164 t167 _ ?side1 ?side2 A16.out).mono ?_); (case side1 => repeat (first | exact (Kd.V_reads' HO158.out).2.2 | (with_reducible refine Kd.C_alloc ?_ _) | (with_reducible refine Kd.C_drewN ?_ _) | (with_reducible refine Kd.C_drew ?_))); (case side2 => exact (Kd.V_reads' HO158.out).2.1); rintro e w52 ⟨v165, rfl, ho0, hb⟩; refine ⟨_, rfl, ?_⟩; have n0_ := Aside0.mk (Kd.S_elder' (by (with_reducible repeat (first | apply Kd.S_alloc | apply Kd.S_drewN | apply Kd.S_drew)); exact HO_8.out) (Kd.R_base ho0) hb); have n1_ := Aside0.mk (Kd.V_elder' (by (with_reducible repeat (first | apply Kd.V_alloc | apply Kd.V_drewN | apply Kd.V_drew)); exact HO_9.out) (Kd.R_base ho0) hb); have n2_ := Aside0.mk (Kd.V_elder' (by (with_reducible repeat (first | apply Kd.V_alloc | apply Kd.V_drewN | apply Kd.V_drew)); exact HO_150006.out) (Kd.R_base ho0) hb); have n3_ := Aside0.mk (Kd.V_elder' (by (with_reducible repeat (first | apply Kd.V_alloc | apply Kd.V_drewN | apply Kd.V_drew)); exact HO158.out) (Kd.R_base ho0) hb); have n4_ := Aside0.mk (Kd.V_elder' (by (with_reducible repeat (first | apply Kd.V_alloc | apply Kd.V_drewN | apply Kd.V_drew)); exact HO163.out) (Kd.R_base ho0) hb); have n5_ := Aside0.mk (Kd.R_lower (Kd.R_newM (M := fun k_ => (w.heap.size ≤ k_)) ho0 (below_size (by repeat (first | (with_reducible first | exact HB.out | apply below_alloc | apply pw_below_drewN | apply below_drew1 | refine below_set ?_ GE149.out | refine below_set ?_ GE152.out) | exact HB.out))) (fun k_ h_ => h_)) (below_size (by repeat (first | (with_reducible first | exact HB.out | apply below_alloc | apply pw_below_drewN | apply below_drew1 | refine below_set ?_ GE149.out | refine below_set ?_ GE152.out) | exact HB.out)))); have n6_ := Aside0.mk (blk_below (g := gb149) (o := .cells #[.int .u8 a1_0, .int .u8 a1_1, .int .u32 a1_2, .int .u32 a1_3, .int .u16 a1_4, .int .u16 a1_5, .slice A1_6 l1_6.length c1_6] 32 (0, 0)) (by (with_reducible repeat (first | refine blk_drewN ?_ _ | refine blk_drew ?_ | refine blk_alloc ?_ _)); exact BK149.out) hb); have n7_ := Aside0.mk (blk_below (g := gb152) (o := .cells #[.int .u8 a1_0, .int .u8 a1_1, .int .u32 a1_2, .int .u32 a1_3, .int .u16 (IntKind.u16.wrap (x28_1)), .int .u16 (IntKind.u16.wrap (t150)), .slice Ao46 y154.length co46] 32 (0, 0)) (by (with_reducible repeat (first | refine blk_drewN ?_ _ | refine blk_drew ?_ | refine blk_alloc ?_ _)); exact BK152.out) hb); have n8_ := Aside0.mk (below_step (by repeat (first | (with_reducible first | exact HB.out | apply below_alloc | apply pw_below_drewN | apply below_drew1 | refine below_set ?_ GE149.out | refine below_set ?_ GE152.out) | exact HB.out)) hb); clear HO_8; clear HO_9; clear HO_150006; clear HO158; clear HO163; clear BK149; clear BK152; clear HB; have HO_8 := n0_; have HO_9 := n1_; have HO_150006 := n2_; have HO158 := n3_; have HO163 := n4_; have HO166 := n5_; have BK149 := n6_; have BK152 := n7_; have HB := n8_; clear n0_ n1_ n2_ n3_ n4_ n5_ n6_ n7_ n8_; (try clear hb); (try clear hb2); (try clear hk); (try clear hi); (try clear ho0)))
                    all_goals go_ret2
                    all_goals first | (exact ⟨_, by first | rfl | (simp [errW_none, errW_some] <;> rfl) | (simp only [← hji11]; first | rfl | (simp [errW_none, errW_some] <;> rfl)) | (simp [*, errW_none, errW_some] <;> rfl), by first | exact Kd.S_nil _ _ _ _ _ | exact Kd.N_nil _ _ _ _ _ | exact Kd.V_nil _ _ _ _ _ | exact Kd.Q_nil _ _ _ _ _ | exact Kd.R_nil _ _ _ _ _, by repeat (first | (with_reducible first | exact HB.out | apply below_alloc | apply pw_below_drewN | apply below_drew1 | refine below_set ?_ GE149.out | refine below_set ?_ GE152.out) | exact HB.out)⟩) | (exfalso; simp_all; done)
                · rw [if_neg c15] at H
                  exact absurd H (by simp)
              · rw [if_neg c14] at H
                exact absurd H (by simp)
            · rw [if_neg c13] at H
              exact absurd H (by simp)
          · rw [if_neg c12] at H
            exact absurd H (by simp)
        · rw [if_neg c9] at H
          have c9b0 : decide (x28_1 < t150) = false := decide_eq_false c9
          clear c9
          simp only [Option.some.injEq, Prod.mk.injEq] at H
          obtain ⟨rfl, rfl⟩ := H
          go_wp2
          all_goals go_ret2
          all_goals first | (exact ⟨_, by first | rfl | (simp [errW_none, errW_some] <;> rfl) | (simp [*, errW_none, errW_some] <;> rfl), by (with_reducible repeat (first | apply Kd.S_alloc | apply Kd.S_drewN | apply Kd.S_drew)); exact HO_8.out, by repeat (first | (with_reducible first | exact HB.out | apply below_alloc | apply pw_below_drewN | apply below_drew1 | refine below_set ?_ GE149.out) | exact HB.out)⟩) | (exfalso; simp_all; done)
  · rw [if_neg c4] at H
    have c4b0 : (t151 == 0) = false := beq_eq_false_iff_ne.mpr c4
    have c4b1 : (t151 != 0) = true := bne_iff_ne.mpr c4
    simp only [Option.some.injEq, Prod.mk.injEq] at H
    obtain ⟨rfl, rfl⟩ := H
    go_enter Try.func11, Try.ntmps11
    go_wp2_with (first | ((with_reducible refine gate_dst (N := 3) rfl ?_); refine box_event ?hg (N := 3) ?hd (cs := #[.int .u8 a1_0, .int .u8 a1_1, .int .u32 a1_2, .int .u32 a1_3, .int .u16 a1_4, .int .u16 a1_5, .slice A1_6 l1_6.length c1_6]) (t := 32) ?hr ?_; (case hd => rfl); (case hg => rfl); (case hr => first | (go_simp; done) | (go_simp; rfl)); intro gb149 hg w53 hbox hb; have n0_ := Aside0.mk (Kd.V_below (Kd.V_elderB (by (with_reducible repeat (first | apply Kd.V_alloc | apply Kd.V_drewN | apply Kd.V_drew)); exact HO1_6.out) gb149 (Nat.le_of_eq hg.symm)) hb); have n1_ := Aside0.mk (below_step (by repeat (first | (with_reducible first | exact HB.out | apply below_alloc | apply pw_below_drewN | apply below_drew1) | exact HB.out)) hb); have n2_ := Aside0.mk (hbox); have n3_ := Aside0.mk ((by rw [hg]; exact (below_size (by repeat (first | (with_reducible first | exact HB.out | apply below_alloc | apply pw_below_drewN | apply below_drew1) | exact HB.out))) : w.heap.size ≤ gb149)); have n4_ := Aside0.mk ((by rw [hg]; exact (below_size (by repeat (first | (with_reducible first | exact HB.out | apply below_alloc | apply pw_below_drewN | apply below_drew1) | exact HB.out))) : w.heap.size ≤ gb149)); clear HO1_6; clear HB; have HO1_6 := n0_; have HB := n1_; have BK149 := n2_; have GW149 := n3_; have GE149 := n4_; clear n0_ n1_ n2_ n3_ n4_; clear hb hbox hg; have hcz54_0 : w53.cell? ⟨gb149, 0, none⟩ = some (.int .u8 a1_0) := (blk_cell BK149.out 0).trans rfl; have hcz54_1 : w53.cell? ⟨gb149, 1, none⟩ = some (.int .u8 a1_1) := (blk_cell BK149.out 1).trans rfl; have hcz54_2 : w53.cell? ⟨gb149, 2, none⟩ = some (.int .u32 a1_2) := (blk_cell BK149.out 2).trans rfl; have hcz54_3 : w53.cell? ⟨gb149, 3, none⟩ = some (.int .u32 a1_3) := (blk_cell BK149.out 3).trans rfl; have hcz54_4 : w53.cell? ⟨gb149, 4, none⟩ = some (.int .u16 a1_4) := (blk_cell BK149.out 4).trans rfl; have hcz54_5 : w53.cell? ⟨gb149, 5, none⟩ = some (.int .u16 a1_5) := (blk_cell BK149.out 5).trans rfl; have hcz54_6 : w53.cell? ⟨gb149, 6, none⟩ = some (.slice A1_6 l1_6.length c1_6) := (blk_cell BK149.out 6).trans rfl; have hfz54_0 := blk_frozen BK149.out 0; have hfz54_1 := blk_frozen BK149.out 1; have hfz54_2 := blk_frozen BK149.out 2; have hfz54_3 := blk_frozen BK149.out 3; have hfz54_4 := blk_frozen BK149.out 4; have hfz54_5 := blk_frozen BK149.out 5; have hfz54_6 := blk_frozen BK149.out 6) | ((with_reducible refine gate_callee (f := 6) rfl ?_); refine goesL_ (some 19) rfl rfl Try.func6 (by kernel_rfl) rfl #[.int .i64 a0, .int .i64 (l1_6.length : Int)] rfl (by (try simp only [List.map_toArray, List.map_cons, List.map_nil]); first | done | rfl | (simp only [List.length_drop, List.length_take]; rfl)) ?_; (with_reducible refine (split_Count.calls k a0 (l1_6.length : Int) t150 t151 _ A3.out).mono ?_); rintro e w55 ⟨rfl, hb⟩; refine ⟨_, rfl, ?_⟩; have n0_ := Aside0.mk (Kd.V_below (by (with_reducible repeat (first | apply Kd.V_alloc | apply Kd.V_drewN | apply Kd.V_drew)); exact HO1_6.out) hb); have n1_ := Aside0.mk (blk_below (g := gb149) (o := .cells #[.int .u8 a1_0, .int .u8 a1_1, .int .u32 a1_2, .int .u32 a1_3, .int .u16 a1_4, .int .u16 a1_5, .slice A1_6 l1_6.length c1_6] 32 (0, 0)) (by (with_reducible repeat (first | refine blk_drewN ?_ _ | refine blk_drew ?_ | refine blk_alloc ?_ _)); exact BK149.out) hb); have n2_ := Aside0.mk (below_step (by repeat (first | (with_reducible first | exact HB.out | apply below_alloc | apply pw_below_drewN | apply below_drew1 | refine below_set ?_ GE149.out) | exact HB.out)) hb); clear HO1_6; clear BK149; clear HB; have HO1_6 := n0_; have BK149 := n1_; have HB := n2_; clear n0_ n1_ n2_; (try clear hb); (try clear hb2); (try clear hk); (try clear hi)))
    all_goals go_ret2
    all_goals first | (exact ⟨_, by first | rfl | (simp [errW_none, errW_some] <;> rfl) | (simp [*, errW_none, errW_some] <;> rfl), by first | exact Kd.S_nil _ _ _ _ _ | exact Kd.N_nil _ _ _ _ _ | exact Kd.V_nil _ _ _ _ _ | exact Kd.Q_nil _ _ _ _ _ | exact Kd.R_nil _ _ _ _ _, by repeat (first | (with_reducible first | exact HB.out | apply below_alloc | apply pw_below_drewN | apply below_drew1 | refine below_set ?_ GE149.out) | exact HB.out)⟩) | (exfalso; simp_all; done)

/-! ### annuletlaw19_awake: function 10 -/
def annuletlaw19_awake.f (k : Nat)  : Option (Bool) := (split_Count.f k 32 25).bind fun bt171 => ((split_Count.f k 32 786421).bind fun bt173 => ((split_Count.f k 32 786420).bind fun bt175 => ((split_Split.f k 32 1 0 0 0 0 0 (([97, 98, 99, 100, 101, 102, 103, 104, 105, 106, 107, 108, 109] : List Int))).bind fun bt181 => (if bt171.1 = 3 then (if bt171.2 = 0 then (if bt173.2 = 5 then (if bt175.1 = 65535 then (if bt175.2 = 0 then (if bt181.2 = 0 then (if (bt181.1.length : Int) = 2 then (if 0 < (bt181.1.length : Int) then (if ((rd_L1 bt181.1 0).length : Int) = 32 then (if 1 < (bt181.1.length : Int) then (if ((rd_L1 bt181.1 1).length : Int) = 21 then ((split_Room.f 31).bind fun t187 => (some (t187 == 0))) else (none)) else (none)) else (none)) else (none)) else (none)) else (none)) else (none)) else (none)) else (none)) else (none)) else (none)))))
theorem annuletlaw19_awake.mono : ∀ k, LeO (annuletlaw19_awake.f k ) (annuletlaw19_awake.f (k + 1) ) := by
  intro  k
  unfold annuletlaw19_awake.f
  repeat' first
      | (with_reducible exact split_Count.mono _ _ _)
      | (with_reducible exact split_Split.mono _ _ _ _ _ _ _ _ _)
      | (with_reducible exact LeO.refl _)
      | (with_reducible exact LeO.none _)
      | (with_reducible refine LeO.ite ?_ ?_)
      | (with_reducible refine LeO.bind ?_ (fun _ => ?_))
      | exact split_Count.mono _ _ _
      | exact split_Split.mono _ _ _ _ _ _ _ _ _
      | exact LeO.none _
      | refine LeO.ite ?_ ?_
      | refine LeO.bind ?_ (fun _ => ?_)
set_option maxHeartbeats 3000000 in
set_option maxRecDepth 100000 in
theorem annuletlaw19_awake.calls (k : Nat)  (r : Bool) (w : World) (h : annuletlaw19_awake.f k  = some r) :
    Calls Try.prog 10 #[] w fun e w' => e = .returned (.bool r) ∧ Below w.heap.size w w' := by
  have hu32 := Try.underlying32
  have HB := Aside0.mk (Below.refl w.heap.size w)
  have H : ((split_Count.f k 32 25).bind fun bt171 => ((split_Count.f k 32 786421).bind fun bt173 => ((split_Count.f k 32 786420).bind fun bt175 => ((split_Split.f k 32 1 0 0 0 0 0 (([97, 98, 99, 100, 101, 102, 103, 104, 105, 106, 107, 108, 109] : List Int))).bind fun bt181 => (if bt171.1 = 3 then (if bt171.2 = 0 then (if bt173.2 = 5 then (if bt175.1 = 65535 then (if bt175.2 = 0 then (if bt181.2 = 0 then (if (bt181.1.length : Int) = 2 then (if 0 < (bt181.1.length : Int) then (if ((rd_L1 bt181.1 0).length : Int) = 32 then (if 1 < (bt181.1.length : Int) then (if ((rd_L1 bt181.1 1).length : Int) = 21 then ((split_Room.f 31).bind fun t187 => (some (t187 == 0))) else (none)) else (none)) else (none)) else (none)) else (none)) else (none)) else (none)) else (none)) else (none)) else (none)) else (none)))))) = some r := h
  clear h
  replace H := Option.bind_eq_some_iff.mp H
  obtain ⟨⟨t171, t172⟩, A10, H⟩ := H
  replace H : ((split_Count.f k 32 786421).bind fun bt173 => ((split_Count.f k 32 786420).bind fun bt175 => ((split_Split.f k 32 1 0 0 0 0 0 (([97, 98, 99, 100, 101, 102, 103, 104, 105, 106, 107, 108, 109] : List Int))).bind fun bt181 => (if t171 = 3 then (if t172 = 0 then (if bt173.2 = 5 then (if bt175.1 = 65535 then (if bt175.2 = 0 then (if bt181.2 = 0 then (if (bt181.1.length : Int) = 2 then (if 0 < (bt181.1.length : Int) then (if ((rd_L1 bt181.1 0).length : Int) = 32 then (if 1 < (bt181.1.length : Int) then (if ((rd_L1 bt181.1 1).length : Int) = 21 then ((split_Room.f 31).bind fun t187 => (some (t187 == 0))) else (none)) else (none)) else (none)) else (none)) else (none)) else (none)) else (none)) else (none)) else (none)) else (none)) else (none))))) = some r := H
  have A1 := Aside0.mk A10
  clear A10
  replace H := Option.bind_eq_some_iff.mp H
  obtain ⟨⟨t173, t174⟩, A20, H⟩ := H
  replace H : ((split_Count.f k 32 786420).bind fun bt175 => ((split_Split.f k 32 1 0 0 0 0 0 (([97, 98, 99, 100, 101, 102, 103, 104, 105, 106, 107, 108, 109] : List Int))).bind fun bt181 => (if t171 = 3 then (if t172 = 0 then (if t174 = 5 then (if bt175.1 = 65535 then (if bt175.2 = 0 then (if bt181.2 = 0 then (if (bt181.1.length : Int) = 2 then (if 0 < (bt181.1.length : Int) then (if ((rd_L1 bt181.1 0).length : Int) = 32 then (if 1 < (bt181.1.length : Int) then (if ((rd_L1 bt181.1 1).length : Int) = 21 then ((split_Room.f 31).bind fun t187 => (some (t187 == 0))) else (none)) else (none)) else (none)) else (none)) else (none)) else (none)) else (none)) else (none)) else (none)) else (none)) else (none)))) = some r := H
  have A2 := Aside0.mk A20
  clear A20
  replace H := Option.bind_eq_some_iff.mp H
  obtain ⟨⟨t175, t176⟩, A30, H⟩ := H
  replace H : ((split_Split.f k 32 1 0 0 0 0 0 (([97, 98, 99, 100, 101, 102, 103, 104, 105, 106, 107, 108, 109] : List Int))).bind fun bt181 => (if t171 = 3 then (if t172 = 0 then (if t174 = 5 then (if t175 = 65535 then (if t176 = 0 then (if bt181.2 = 0 then (if (bt181.1.length : Int) = 2 then (if 0 < (bt181.1.length : Int) then (if ((rd_L1 bt181.1 0).length : Int) = 32 then (if 1 < (bt181.1.length : Int) then (if ((rd_L1 bt181.1 1).length : Int) = 21 then ((split_Room.f 31).bind fun t187 => (some (t187 == 0))) else (none)) else (none)) else (none)) else (none)) else (none)) else (none)) else (none)) else (none)) else (none)) else (none)) else (none))) = some r := H
  have A3 := Aside0.mk A30
  clear A30
  obtain ⟨y177, hy177⟩ : ∃ y_ : List Int, y_ = (([97, 98, 99, 100, 101, 102, 103, 104, 105, 106, 107, 108, 109] : List Int)) := ⟨_, rfl⟩
  replace H : ((split_Split.f k 32 1 0 0 0 0 0 y177).bind fun bt181 => (if t171 = 3 then (if t172 = 0 then (if t174 = 5 then (if t175 = 65535 then (if t176 = 0 then (if bt181.2 = 0 then (if (bt181.1.length : Int) = 2 then (if 0 < (bt181.1.length : Int) then (if ((rd_L1 bt181.1 0).length : Int) = 32 then (if 1 < (bt181.1.length : Int) then (if ((rd_L1 bt181.1 1).length : Int) = 21 then ((split_Room.f 31).bind fun t187 => (some (t187 == 0))) else (none)) else (none)) else (none)) else (none)) else (none)) else (none)) else (none)) else (none)) else (none)) else (none)) else (none))) = some r := by first | (rw [hy177]; with_reducible exact H) | (have H2_ := (Option.bind_some _ _).symm.trans H; rw [hy177]; with_reducible exact H2_) | (have H2_ := (Option.bind_some _ _).symm.trans H; with_reducible exact H2_) | with_reducible exact H | (rw [hy177]; exact H) | exact H
  have Ny177 := Aside0.mk hy177
  clear hy177
  replace H := Option.bind_eq_some_iff.mp H
  obtain ⟨⟨t181, t184⟩, A40, H⟩ := H
  replace H : (if t171 = 3 then (if t172 = 0 then (if t174 = 5 then (if t175 = 65535 then (if t176 = 0 then (if t184 = 0 then (if (t181.length : Int) = 2 then (if 0 < (t181.length : Int) then (if ((rd_L1 t181 0).length : Int) = 32 then (if 1 < (t181.length : Int) then (if ((rd_L1 t181 1).length : Int) = 21 then ((split_Room.f 31).bind fun t187 => (some (t187 == 0))) else (none)) else (none)) else (none)) else (none)) else (none)) else (none)) else (none)) else (none)) else (none)) else (none)) else (none)) = some r := H
  have A4 := Aside0.mk A40
  clear A40
  by_cases c5 : t171 = 3
  · rw [if_pos c5] at H
    have c5b0 : (t171 == 3) = true := beq_iff_eq.mpr c5
    have c5b1 : (t171 != 3) = false := bne_eq_false_iff_eq.mpr c5
    clear c5
    by_cases c6 : t172 = 0
    · rw [if_pos c6] at H
      have c6b0 : (t172 == 0) = true := beq_iff_eq.mpr c6
      have c6b1 : (t172 != 0) = false := bne_eq_false_iff_eq.mpr c6
      clear c6
      by_cases c7 : t174 = 5
      · rw [if_pos c7] at H
        have c7b0 : (t174 == 5) = true := beq_iff_eq.mpr c7
        have c7b1 : (t174 != 5) = false := bne_eq_false_iff_eq.mpr c7
        clear c7
        by_cases c8 : t175 = 65535
        · rw [if_pos c8] at H
          have c8b0 : (t175 == 65535) = true := beq_iff_eq.mpr c8
          have c8b1 : (t175 != 65535) = false := bne_eq_false_iff_eq.mpr c8
          clear c8
          by_cases c9 : t176 = 0
          · rw [if_pos c9] at H
            have c9b0 : (t176 == 0) = true := beq_iff_eq.mpr c9
            have c9b1 : (t176 != 0) = false := bne_eq_false_iff_eq.mpr c9
            clear c9
            by_cases c10 : t184 = 0
            · rw [if_pos c10] at H
              have c10b0 : (t184 == 0) = true := beq_iff_eq.mpr c10
              have c10b1 : (t184 != 0) = false := bne_eq_false_iff_eq.mpr c10
              clear c10
              by_cases c11 : (t181.length : Int) = 2
              · rw [if_pos c11] at H
                have c11b0 : ((t181.length : Int) == 2) = true := beq_iff_eq.mpr c11
                have c11b1 : ((t181.length : Int) != 2) = false := bne_eq_false_iff_eq.mpr c11
                clear c11
                by_cases c12 : 0 < (t181.length : Int)
                · rw [if_pos c12] at H
                  have c12b0 : decide (0 < (t181.length : Int)) = true := decide_eq_true c12
                  have c12b1 : decide (0 < t181.length) = true := decide_eq_true (by omega)
                  clear c12
                  by_cases c13 : ((rd_L1 t181 0).length : Int) = 32
                  · rw [if_pos c13] at H
                    have c13b0 : (((rd_L1 t181 0).length : Int) == 32) = true := beq_iff_eq.mpr c13
                    have c13b1 : (((rd_L1 t181 0).length : Int) != 32) = false := bne_eq_false_iff_eq.mpr c13
                    clear c13
                    by_cases c14 : 1 < (t181.length : Int)
                    · rw [if_pos c14] at H
                      have c14b0 : decide (1 < (t181.length : Int)) = true := decide_eq_true c14
                      have c14b1 : decide (1 < t181.length) = true := decide_eq_true (by omega)
                      clear c14
                      by_cases c15 : ((rd_L1 t181 1).length : Int) = 21
                      · rw [if_pos c15] at H
                        have c15b0 : (((rd_L1 t181 1).length : Int) == 21) = true := beq_iff_eq.mpr c15
                        have c15b1 : (((rd_L1 t181 1).length : Int) != 21) = false := bne_eq_false_iff_eq.mpr c15
                        clear c15
                        replace H := Option.bind_eq_some_iff.mp H
                        obtain ⟨t187, A160, H⟩ := H
                        replace H : (some (t187 == 0)) = some r := H
                        have A16 := Aside0.mk A160
                        clear A160
                        obtain rfl := Option.some.inj H
                        go_enter Try.func10, Try.ntmps10
                        go_wp2_with (first | ((with_reducible refine gate_callee (f := 6) rfl ?_); refine goesL_ (some 10) rfl rfl Try.func6 (by kernel_rfl) rfl #[.int .i64 32, .int .i64 25] rfl (by (try simp only [List.map_toArray, List.map_cons, List.map_nil]); first | done | rfl | (simp only [List.length_drop, List.length_take]; rfl)) ?_; (with_reducible refine (split_Count.calls k 32 25 t171 t172 _ A1.out).mono ?_); rintro e w17 ⟨rfl, hb⟩; refine ⟨_, rfl, ?_⟩; have n0_ := Aside0.mk (below_step (by repeat (first | (with_reducible first | exact HB.out | apply below_alloc | apply pw_below_drewN | apply below_drew1) | exact HB.out)) hb); clear HB; have HB := n0_; clear n0_; (try clear hb); (try clear hb2); (try clear hk); (try clear hi)) | ((with_reducible refine gate_callee (f := 6) rfl ?_); refine goesL_ (some 14) rfl rfl Try.func6 (by kernel_rfl) rfl #[.int .i64 32, .int .i64 786421] rfl (by (try simp only [List.map_toArray, List.map_cons, List.map_nil]); first | done | rfl | (simp only [List.length_drop, List.length_take]; rfl)) ?_; (with_reducible refine (split_Count.calls k 32 786421 t173 t174 _ A2.out).mono ?_); rintro e w18 ⟨rfl, hb⟩; refine ⟨_, rfl, ?_⟩; have n0_ := Aside0.mk (below_step (by repeat (first | (with_reducible first | exact HB.out | apply below_alloc | apply pw_below_drewN | apply below_drew1) | exact HB.out)) hb); clear HB; have HB := n0_; clear n0_; (try clear hb); (try clear hb2); (try clear hk); (try clear hi)) | ((with_reducible refine gate_callee (f := 6) rfl ?_); refine goesL_ (some 18) rfl rfl Try.func6 (by kernel_rfl) rfl #[.int .i64 32, .int .i64 786420] rfl (by (try simp only [List.map_toArray, List.map_cons, List.map_nil]); first | done | rfl | (simp only [List.length_drop, List.length_take]; rfl)) ?_; (with_reducible refine (split_Count.calls k 32 786420 t175 t176 _ A3.out).mono ?_); rintro e w19 ⟨rfl, hb⟩; refine ⟨_, rfl, ?_⟩; have n0_ := Aside0.mk (below_step (by repeat (first | (with_reducible first | exact HB.out | apply below_alloc | apply pw_below_drewN | apply below_drew1) | exact HB.out)) hb); clear HB; have HB := n0_; clear n0_; (try clear hb); (try clear hb2); (try clear hk); (try clear hi)) | ((with_reducible refine gate_dst (N := 22) rfl ?_); (try (refine gate_guard (by rfl) ?_; dsimp only)); refine bconst_event rfl rfl (N1 := 22) (N2 := 23) rfl rfl (l := y177) (t := 30) (e := 5) Try.underlying30 Try.underlying5 rfl (by simp) (by rw [Ny177.out]; simp) ?hr ?_; (case hr => (rw [Ny177.out]; first | (go_simp; done) | (go_simp; rfl))); intro Ab180 w20 hcb hb; have n0_ := Aside0.mk (below_step (by repeat (first | (with_reducible first | exact HB.out | apply below_alloc | apply pw_below_drewN | apply below_drew1) | exact HB.out)) hb); have n1_ := Aside0.mk (hcb); have n2_ := Aside0.mk (Nat.le_refl y177.length); clear HB; have HB := n0_; have HRb180 := n1_; have HCb180 := n2_; clear n0_ n1_ n2_; clear hb hcb) | ((with_reducible refine gate_callee (f := 11) rfl ?_); refine goesL_ (some 25) rfl rfl Try.func11 (by kernel_rfl) rfl #[.int .i64 32, .agg #[.int .u8 1, .int .u8 0, .int .u32 0, .int .u32 0, .int .u16 0, .int .u16 0, .slice Ab180 y177.length y177.length]] rfl (by (try simp only [List.map_toArray, List.map_cons, List.map_nil]); first | done | rfl | (simp only [List.length_drop, List.length_take]; rfl)) ?_; (with_reducible refine (split_Split.calls k 32 1 0 0 0 0 0 (fun k_ => True) _ _ y177 t181 t184 _ ?side1 A4.out).mono ?_); (case side1 => exact Kd.V_mk HCb180.out (Kd.F_mono (Kd.C_F (Kd.heap_int .u8) (by repeat (first | (with_reducible exact HRb180.out) | (with_reducible refine Kd.C_alloc ?_ _) | (with_reducible refine Kd.C_drewN ?_ _) | (with_reducible refine Kd.C_drew ?_) | exact HRb180.out))) (fun _ _ => trivial))); rintro e w21 ⟨v182, rfl, ho0, hb⟩; refine ⟨_, rfl, ?_⟩; have n0_ := Aside0.mk (Kd.S_lower (Kd.S_mono (ok' := fun k_ => True) ho0 (fun _ hk_ => trivial)) (below_size (by repeat (first | (with_reducible first | exact HB.out | apply below_alloc | apply pw_below_drewN | apply below_drew1) | exact HB.out)))); have n1_ := Aside0.mk (Kd.C_below (by repeat (first | (with_reducible exact HRb180.out) | (with_reducible refine Kd.C_alloc ?_ _) | (with_reducible refine Kd.C_drewN ?_ _) | (with_reducible refine Kd.C_drew ?_) | exact HRb180.out)) hb); have n2_ := Aside0.mk (below_step (by repeat (first | (with_reducible first | exact HB.out | apply below_alloc | apply pw_below_drewN | apply below_drew1) | exact HB.out)) hb); clear HRb180; clear HB; have HO183 := n0_; have HRb180 := n1_; have HB := n2_; clear n0_ n1_ n2_; (try clear hb); (try clear hb2); (try clear hk); (try clear hi); (try clear ho0); obtain ⟨Ao22, co22, eo22⟩ := Kd.S_slice HO183.out; subst eo22; have p185 : 0 ≤ (0 : Int) := (by omega); have q185 : 0 < (t181.length : Int) := of_decide_eq_true (by first | (with_reducible assumption) | assumption); obtain ⟨ad185, A185_0, c185_0, e185, hx185_0, hl185_0, hi185_0⟩ := at_L1 (Kd.S_reads' HO183.out).2.2 0 p185 q185; cases e185; obtain ⟨ce185, hce185, hMe185, hcc185⟩ := Kd.S_get HO183.out [] 0 p185 (by first | exact q185 | exact of_decide_eq_true (by first | (with_reducible assumption) | assumption) | (have e_ := (Kd.S_reads' HO183.out).1; omega)); obtain ⟨ve185_0, rfl, ge185_0⟩ := hMe185; have hv185_0 := hcc185 0 _ rfl; rw [Nat.add_zero, show ((Kd.slice 5 (Kd.int .u8))).sz = 1 from rfl, Nat.mul_one] at hv185_0; replace hv185_0 := Option.some.inj (hv185_0.symm.trans hx185_0); rw [hv185_0] at ge185_0; have HL185_0 := Aside0.mk (show Kd.R (Kd.int .u8) 5 _ _ _ _ (rd_L1 t181 0) from ge185_0); clear hv185_0 ge185_0; clear hcc185 hce185; have qi185 : (0 < t181.length) = True := eq_true (by omega); (try rw [show ((0 : Int)).toNat = 0 from rfl] at hx185_0); (try rw [Addr.add_zero'] at hx185_0); have HR185_0 := Aside0.mk hi185_0; have HC185_0 := Aside0.mk hl185_0; clear hi185_0 hl185_0; replace p185 := eq_true p185; replace q185 := eq_true q185; have p186 : 0 ≤ (1 : Int) := (by omega); have q186 : 1 < (t181.length : Int) := of_decide_eq_true (by first | (with_reducible assumption) | assumption); obtain ⟨ad186, A186_0, c186_0, e186, hx186_0, hl186_0, hi186_0⟩ := at_L1 (Kd.S_reads' HO183.out).2.2 1 p186 q186; obtain rfl : ad185 = ad186 := (by injection e186); obtain ⟨ce186, hce186, hMe186, hcc186⟩ := Kd.S_get HO183.out [] 1 p186 (by first | exact q186 | exact of_decide_eq_true (by first | (with_reducible assumption) | assumption) | (have e_ := (Kd.S_reads' HO183.out).1; omega)); obtain ⟨ve186_0, rfl, ge186_0⟩ := hMe186; have hv186_0 := hcc186 0 _ rfl; rw [Nat.add_zero, show ((Kd.slice 5 (Kd.int .u8))).sz = 1 from rfl, Nat.mul_one] at hv186_0; replace hv186_0 := Option.some.inj (hv186_0.symm.trans hx186_0); rw [hv186_0] at ge186_0; have HL186_0 := Aside0.mk (show Kd.R (Kd.int .u8) 5 _ _ _ _ (rd_L1 t181 1) from ge186_0); clear hv186_0 ge186_0; clear hcc186 hce186; (try simp only [show (1 : Int).toNat = 1 from rfl, Nat.reduceMul, Nat.reduceEqDiff, Go.Addr.add, ↓reduceIte] at hx186_0); have qi186 : (1 < t181.length) = True := eq_true (by omega); (try rw [show ((1 : Int)).toNat = 1 from rfl] at hx186_0); have HR186_0 := Aside0.mk hi186_0; have HC186_0 := Aside0.mk hl186_0; clear hi186_0 hl186_0; replace p186 := eq_true p186; replace q186 := eq_true q186) | (go_at_call 8; (with_reducible refine (split_Room.calls 31 t187 _ A16.out).mono ?_); rintro e w' ⟨rfl, ⟨nd, rfl⟩⟩))
                        all_goals go_ret
                        all_goals first | (exact ⟨by first | rfl | (simp [errW_none, errW_some] <;> rfl) | (simp [*, errW_none, errW_some] <;> rfl), by repeat (first | (with_reducible first | exact HB.out | apply below_alloc | apply pw_below_drewN | apply below_drew1) | exact HB.out)⟩) | (exfalso; simp_all; done)
                      · rw [if_neg c15] at H
                        exact absurd H (by simp)
                    · rw [if_neg c14] at H
                      exact absurd H (by simp)
                  · rw [if_neg c13] at H
                    exact absurd H (by simp)
                · rw [if_neg c12] at H
                  exact absurd H (by simp)
              · rw [if_neg c11] at H
                exact absurd H (by simp)
            · rw [if_neg c10] at H
              exact absurd H (by simp)
          · rw [if_neg c9] at H
            exact absurd H (by simp)
        · rw [if_neg c8] at H
          exact absurd H (by simp)
      · rw [if_neg c7] at H
        exact absurd H (by simp)
    · rw [if_neg c6] at H
      exact absurd H (by simp)
  · rw [if_neg c5] at H
    exact absurd H (by simp)

/-! ### annuletref02_step: function 32 -/
def annuletref02_step.f (a0 : Int) (a1 : Bool) : Option (Int) := if a1 = true then (if ((Int.tmod a0 2) = 1) then (some ((Int.tdiv a0 2) % 4294967296)) else (some (Go.bits .xor .u32 ((Int.tdiv a0 2) % 4294967296) 2197175160))) else (if (Int.tmod a0 2) = 1 then (some (Go.bits .xor .u32 ((Int.tdiv a0 2) % 4294967296) 2197175160)) else (some ((Int.tdiv a0 2) % 4294967296)))
set_option maxHeartbeats 3000000 in
set_option maxRecDepth 100000 in
theorem annuletref02_step.calls (a0 : Int) (a1 : Bool) (r : Int) (w : World) (h : annuletref02_step.f a0 a1 = some r) :
    Calls Try.prog 32 #[.int .u32 a0, .bool a1] w fun e w' => e = .returned (.int .u32 r) ∧ Drawn0 w w' := by
  have H : (if a1 = true then (if ((Int.tmod a0 2) = 1) then (some ((Int.tdiv a0 2) % 4294967296)) else (some (Go.bits .xor .u32 ((Int.tdiv a0 2) % 4294967296) 2197175160))) else (if (Int.tmod a0 2) = 1 then (some (Go.bits .xor .u32 ((Int.tdiv a0 2) % 4294967296) 2197175160)) else (some ((Int.tdiv a0 2) % 4294967296)))) = some r := h
  clear h
  by_cases c3 : a1 = true
  · subst c3
    have H1 : (if ((Int.tmod a0 2) = 1) then (some ((Int.tdiv a0 2) % 4294967296)) else (some (Go.bits .xor .u32 ((Int.tdiv a0 2) % 4294967296) 2197175160))) = some r := by rw [if_pos rfl] at H; exact H
    clear H
    have H := H1
    clear H1
    by_cases c4 : ((Int.tmod a0 2) = 1)
    · rw [if_pos c4] at H
      have c4b0 : ((Int.tmod a0 2) == 1) = true := beq_iff_eq.mpr c4
      have c4b1 : ((Int.tmod a0 2) != 1) = false := bne_eq_false_iff_eq.mpr c4
      clear c4
      obtain rfl := Option.some.inj H
      go_enter Try.func32, Try.ntmps32
      go_wp2
      all_goals go_ret
      all_goals first | (exact ⟨by first | rfl | (simp; done) | (simp [*]; done) | (refine congrArg Ending.returned ?_; show Value.string _ = Value.string _; (first | (congr 2 <;> omega) | (congr 3 <;> omega) | (congr 4 <;> omega))), by repeat (first | exact Drawn0.refl _ | apply Drawn0.step)⟩) | (exfalso; simp_all; done)
    · rw [if_neg c4] at H
      have c4b0 : ((Int.tmod a0 2) == 1) = false := beq_eq_false_iff_ne.mpr c4
      have c4b1 : ((Int.tmod a0 2) != 1) = true := bne_iff_ne.mpr c4
      obtain rfl := Option.some.inj H
      go_enter Try.func32, Try.ntmps32
      go_wp2
      all_goals go_ret
      all_goals first | (exact ⟨by first | rfl | (simp; done) | (simp [*]; done) | (refine congrArg Ending.returned ?_; show Value.string _ = Value.string _; (first | (congr 2 <;> omega) | (congr 3 <;> omega) | (congr 4 <;> omega))), by repeat (first | exact Drawn0.refl _ | apply Drawn0.step)⟩) | (exfalso; simp_all; done)
  · replace c3 := Bool.eq_false_iff.mpr c3
    subst c3
    have H1 : (if (Int.tmod a0 2) = 1 then (some (Go.bits .xor .u32 ((Int.tdiv a0 2) % 4294967296) 2197175160)) else (some ((Int.tdiv a0 2) % 4294967296))) = some r := by rw [if_neg (show ¬ (false = true) by decide)] at H; exact H
    clear H
    have H := H1
    clear H1
    by_cases c5 : (Int.tmod a0 2) = 1
    · rw [if_pos c5] at H
      have c5b0 : ((Int.tmod a0 2) == 1) = true := beq_iff_eq.mpr c5
      have c5b1 : ((Int.tmod a0 2) != 1) = false := bne_eq_false_iff_eq.mpr c5
      clear c5
      obtain rfl := Option.some.inj H
      go_enter Try.func32, Try.ntmps32
      go_wp2
      all_goals go_ret
      all_goals first | (exact ⟨by first | rfl | (simp; done) | (simp [*]; done) | (refine congrArg Ending.returned ?_; show Value.string _ = Value.string _; (first | (congr 2 <;> omega) | (congr 3 <;> omega) | (congr 4 <;> omega))), by repeat (first | exact Drawn0.refl _ | apply Drawn0.step)⟩) | (exfalso; simp_all; done)
    · rw [if_neg c5] at H
      have c5b0 : ((Int.tmod a0 2) == 1) = false := beq_eq_false_iff_ne.mpr c5
      have c5b1 : ((Int.tmod a0 2) != 1) = true := bne_iff_ne.mpr c5
      obtain rfl := Option.some.inj H
      go_enter Try.func32, Try.ntmps32
      go_wp2
      all_goals go_ret
      all_goals first | (exact ⟨by first | rfl | (simp; done) | (simp [*]; done) | (refine congrArg Ending.returned ?_; show Value.string _ = Value.string _; (first | (congr 2 <;> omega) | (congr 3 <;> omega) | (congr 4 <;> omega))), by repeat (first | exact Drawn0.refl _ | apply Drawn0.step)⟩) | (exfalso; simp_all; done)

/-! ### annuletref02_Step: function 30 -/
mutual
def annuletref02_Step.l0 : Nat → Int → List Int → Int → Option (Int)
  | 0, _, _, _ => none
  | k + 1, x0, x1, x5 => if x5 < (x1.length : Int) then (if 0 ≤ x5 then (annuletref02_Step.l1 k x0 x1 x5 (wrap64 (rd x1 x5)) 0) else (none)) else (some x0)
def annuletref02_Step.l1 : Nat → Int → List Int → Int → Int → Int → Option (Int)
  | 0, _, _, _, _, _ => none
  | k + 1, x0, x1, x5, x6, x7 => if x7 < 8 then ((annuletref02_step.f x0 ((Int.tmod x6 2) == 1)).bind fun t189 => (annuletref02_Step.l1 k t189 x1 x5 (wrap64 (Int.tdiv x6 2)) (wrap64 (x7 + 1)))) else (annuletref02_Step.l0 k x0 x1 (wrap64 (x5 + 1)))
end
def annuletref02_Step.f (k : Nat) (a0 : Int) (l1 : List Int) : Option (Int) := annuletref02_Step.l0 k a0 l1 0
theorem annuletref02_Step.mono_l : ∀ k, (∀ y0 y1 y2, LeO (annuletref02_Step.l0 k y0 y1 y2) (annuletref02_Step.l0 (k + 1) y0 y1 y2)) ∧ (∀ y0 y1 y2 y3 y4, LeO (annuletref02_Step.l1 k y0 y1 y2 y3 y4) (annuletref02_Step.l1 (k + 1) y0 y1 y2 y3 y4))
  | 0 => ⟨fun _ _ _ r h => by simp [annuletref02_Step.l0] at h, fun _ _ _ _ _ r h => by simp [annuletref02_Step.l1] at h⟩
  | k + 1 => by
    obtain ⟨ih0, ih1⟩ := annuletref02_Step.mono_l k
    refine ⟨?_, ?_⟩
    · intro y0 y1 y2
      unfold annuletref02_Step.l0
      repeat' first
      | (with_reducible exact ih0 _ _ _)
      | (with_reducible exact ih1 _ _ _ _ _)
      | (with_reducible exact LeO.refl _)
      | (with_reducible exact LeO.none _)
      | (with_reducible refine LeO.ite ?_ ?_)
      | (with_reducible refine LeO.bind ?_ (fun _ => ?_))
      | exact ih0 _ _ _
      | exact ih1 _ _ _ _ _
      | exact LeO.none _
      | refine LeO.ite ?_ ?_
      | refine LeO.bind ?_ (fun _ => ?_)
    · intro y0 y1 y2 y3 y4
      unfold annuletref02_Step.l1
      repeat' first
      | (with_reducible exact ih0 _ _ _)
      | (with_reducible exact ih1 _ _ _ _ _)
      | (with_reducible exact LeO.refl _)
      | (with_reducible exact LeO.none _)
      | (with_reducible refine LeO.ite ?_ ?_)
      | (with_reducible refine LeO.bind ?_ (fun _ => ?_))
      | exact ih0 _ _ _
      | exact ih1 _ _ _ _ _
      | exact LeO.none _
      | refine LeO.ite ?_ ?_
      | refine LeO.bind ?_ (fun _ => ?_)
theorem annuletref02_Step.mono : ∀ a0 a1 k, LeO (annuletref02_Step.f k a0 a1) (annuletref02_Step.f (k + 1) a0 a1) := by
  intro a0 a1 k
  obtain ⟨ih0, ih1⟩ := annuletref02_Step.mono_l k
  unfold annuletref02_Step.f
  repeat' first
      | (with_reducible exact ih0 _ _ _)
      | (with_reducible exact ih1 _ _ _ _ _)
      | (with_reducible exact LeO.refl _)
      | (with_reducible exact LeO.none _)
      | (with_reducible refine LeO.ite ?_ ?_)
      | (with_reducible refine LeO.bind ?_ (fun _ => ?_))
      | exact ih0 _ _ _
      | exact ih1 _ _ _ _ _
      | exact LeO.none _
      | refine LeO.ite ?_ ?_
      | refine LeO.bind ?_ (fun _ => ?_)
set_option maxHeartbeats 3000000 in
set_option maxRecDepth 100000 in
theorem annuletref02_Step.calls (k : Nat) (a0 : Int) (A1 : Option Addr) (c1 : Nat) (l1 : List Int) (r : Int) (w : World) (hr1 : Kd.C (Kd.int .u8) w A1 l1.length l1) (hc1 : l1.length ≤ c1) (h : annuletref02_Step.f k a0 l1 = some r) :
    Calls Try.prog 30 #[.int .u32 a0, .slice A1 l1.length c1] w fun e w' => e = .returned (.int .u32 r) ∧ Drawn0 w w' := by
  have HR1 := Aside0.mk hr1
  have HC1 := Aside0.mk hc1
  clear hr1 hc1
  have H : (annuletref02_Step.l0 k a0 l1 0) = some r := h
  clear h
  have H' := Aside0.mk H
  clear H
  go_enter Try.func30, Try.ntmps30
  go_wp2
  go_loopg [0, 5] k (fun kq v0 v5 w' => ∃ (x0_1 : Int) (x5_1 : Int), v0 = .int .u32 x0_1 ∧ v5 = .int .i64 x5_1 ∧ Aside0 (annuletref02_Step.l0 kq x0_1 l1 x5_1 = some r) ∧ Aside0 (kq ≤ k) ∧ Drawn0 w w')
  case atStart => exact ⟨(a0), (0), (by first | rfl | (simp; done) | (simp [*]; done)), (by first | rfl | (simp; done) | (simp [*]; done)), H', ⟨Nat.le_refl _⟩, by repeat (first | exact Drawn0.refl _ | apply Drawn0.step)⟩
  case round =>
    clear H'
    try clear c1
    try clear p2
    obtain ⟨x0_1, x5_1, rfl, rfl, HA, HK1, ⟨m1, rfl⟩⟩ := hrel
    cases gk with
    | zero => exact absurd HA.out (by simp [annuletref02_Step.l0])
    | succ k1 =>
      have H := HA.out
      clear HA
      simp only [annuletref02_Step.l0] at H
      by_cases c3 : x5_1 < (l1.length : Int)
      · rw [if_pos c3] at H
        have c3b0 : decide (x5_1 < (l1.length : Int)) = true := decide_eq_true c3
        clear c3
        by_cases c4 : 0 ≤ x5_1
        · rw [if_pos c4] at H
          have c4b0 : decide (0 ≤ x5_1) = true := decide_eq_true c4
          clear c4
          have H' := Aside0.mk H
          clear H
          have p188 : 0 ≤ (x5_1 : Int) := of_decide_eq_true (by first | (with_reducible assumption) | assumption)
          have q188 : x5_1 < (l1.length : Int) := of_decide_eq_true (by first | (with_reducible assumption) | assumption)
          obtain ⟨ad188, e188, hx188_0⟩ := Kd.at_int HR1.out x5_1 p188 q188
          cases e188
          replace p188 := eq_true p188
          replace q188 := eq_true q188
          go_wp2
          go_loopg [0, 6, 7] k1 (fun kq v0 v6 v7 w' => ∃ (x0_2 : Int) (x6_2 : Int) (x7_2 : Int), v0 = .int .u32 x0_2 ∧ v6 = .int .i64 x6_2 ∧ v7 = .int .i64 x7_2 ∧ Aside0 (annuletref02_Step.l1 kq x0_2 l1 x5_1 x6_2 x7_2 = some r) ∧ Aside0 (kq ≤ k1) ∧ Drawn0 w w')
          case atStart => exact ⟨(x0_1), (wrap64 (rd l1 x5_1)), (0), (by first | rfl | (simp; done) | (simp [*]; done)), (by first | rfl | (simp; done) | (simp [*]; done)), (by first | rfl | (simp; done) | (simp [*]; done)), H', ⟨Nat.le_refl _⟩, by repeat (first | exact Drawn0.refl _ | apply Drawn0.step)⟩
          case round =>
            clear H'
            try clear c1
            try clear p1
            try clear q1
            try clear hx1
            try clear p2
            try clear c3
            try clear c3b0
            try clear c4
            try clear c4b0
            try clear hx188_0
            try clear p188
            try clear p2
            try clear q188
            obtain ⟨x0_2, x6_2, x7_2, rfl, rfl, rfl, HA, HK2, ⟨m2, rfl⟩⟩ := hrel
            cases gk with
            | zero => exact absurd HA.out (by simp [annuletref02_Step.l1])
            | succ k2 =>
              have H := HA.out
              clear HA
              simp only [annuletref02_Step.l1] at H
              by_cases c5 : x7_2 < 8
              · rw [if_pos c5] at H
                have c5b0 : decide (x7_2 < 8) = true := decide_eq_true c5
                clear c5
                replace H := Option.bind_eq_some_iff.mp H
                obtain ⟨t189, A60, H⟩ := H
                replace H : (annuletref02_Step.l1 k2 t189 l1 x5_1 (wrap64 (Int.tdiv x6_2 2)) (wrap64 (x7_2 + 1))) = some r := H
                have A6 := Aside0.mk A60
                clear A60
                have H' := Aside0.mk H
                clear H
                go_wp2_with (first | ((with_reducible refine gate_callee (f := 32) rfl ?_); refine goesL_ (some 27) rfl rfl Try.func32 (by kernel_rfl) rfl #[.int .u32 x0_2, .bool ((Int.tmod x6_2 2) == 1)] rfl (by (try simp only [List.map_toArray, List.map_cons, List.map_nil]); first | done | rfl | (simp only [List.length_drop, List.length_take]; rfl)) ?_; (with_reducible refine (annuletref02_step.calls x0_2 ((Int.tmod x6_2 2) == 1) t189 _ A6.out).mono ?_); rintro e w' ⟨rfl, ⟨nd, rfl⟩⟩; refine ⟨_, rfl, ?_⟩))
                go_roundg k2
                case measure => have := HK1.out; have := HK2.out; omega
                case rel => exact ⟨(t189), (wrap64 (Int.tdiv x6_2 2)), (wrap64 (x7_2 + 1)), (by first | rfl | (simp; done) | (simp [*]; done)), (by first | rfl | (simp; done) | (simp [*]; done)), (by first | rfl | (simp; done) | (simp [*]; done)), H', ⟨by have := HK1.out; have := HK2.out; omega⟩, by repeat (first | exact Drawn0.refl _ | apply Drawn0.step)⟩
              · rw [if_neg c5] at H
                have c5b0 : decide (x7_2 < 8) = false := decide_eq_false c5
                clear c5
                have H' := Aside0.mk H
                clear H
                go_wp2
                go_roundg k2
                case measure => have := HK1.out; have := HK2.out; omega
                case rel => exact ⟨(x0_2), (wrap64 (x5_1 + 1)), (by first | rfl | (simp; done) | (simp [*]; done)), (by first | rfl | (simp; done) | (simp [*]; done)), H', ⟨by have := HK1.out; have := HK2.out; omega⟩, by repeat (first | exact Drawn0.refl _ | apply Drawn0.step)⟩
        · rw [if_neg c4] at H
          exact absurd H (by simp)
      · rw [if_neg c3] at H
        have c3b0 : decide (x5_1 < (l1.length : Int)) = false := decide_eq_false c3
        clear c3
        obtain rfl := Option.some.inj H
        go_wp2
        all_goals go_ret
        all_goals first | (exact ⟨by first | rfl | (simp; done) | (simp [*]; done) | (refine congrArg Ending.returned ?_; show Value.string _ = Value.string _; (first | (congr 2 <;> omega) | (congr 3 <;> omega) | (congr 4 <;> omega))), by repeat (first | exact Drawn0.refl _ | apply Drawn0.step)⟩) | (exfalso; simp_all; done)

/-! ### annuletref02_Sum: function 26 -/
def annuletref02_Sum.f (k : Nat) (l0 : List Int) : Option (Int) := (annuletref02_Step.f k 4294967295 l0).bind fun t190 => (some ((4294967295 - t190) % 4294967296))
theorem annuletref02_Sum.mono : ∀ a0 k, LeO (annuletref02_Sum.f k a0) (annuletref02_Sum.f (k + 1) a0) := by
  intro a0 k
  unfold annuletref02_Sum.f
  repeat' first
      | (with_reducible exact annuletref02_Step.mono _ _ _)
      | (with_reducible exact LeO.refl _)
      | (with_reducible exact LeO.none _)
      | (with_reducible refine LeO.ite ?_ ?_)
      | (with_reducible refine LeO.bind ?_ (fun _ => ?_))
      | exact annuletref02_Step.mono _ _ _
      | exact LeO.none _
      | refine LeO.ite ?_ ?_
      | refine LeO.bind ?_ (fun _ => ?_)
set_option maxHeartbeats 3000000 in
set_option maxRecDepth 100000 in
theorem annuletref02_Sum.calls (k : Nat) (A0 : Option Addr) (c0 : Nat) (l0 : List Int) (r : Int) (w : World) (hr0 : Kd.C (Kd.int .u8) w A0 l0.length l0) (hc0 : l0.length ≤ c0) (h : annuletref02_Sum.f k l0 = some r) :
    Calls Try.prog 26 #[.slice A0 l0.length c0] w fun e w' => e = .returned (.int .u32 r) ∧ Drawn0 w w' := by
  have HR0 := Aside0.mk hr0
  have HC0 := Aside0.mk hc0
  clear hr0 hc0
  have H : ((annuletref02_Step.f k 4294967295 l0).bind fun t190 => (some ((4294967295 - t190) % 4294967296))) = some r := h
  clear h
  replace H := Option.bind_eq_some_iff.mp H
  obtain ⟨t190, A20, H⟩ := H
  replace H : (some ((4294967295 - t190) % 4294967296)) = some r := H
  have A2 := Aside0.mk A20
  clear A20
  obtain rfl := Option.some.inj H
  go_enter Try.func26, Try.ntmps26
  go_wp2_with (first | ((with_reducible refine gate_callee (f := 30) rfl ?_); refine goesL_ (some 4) rfl rfl Try.func30 (by kernel_rfl) rfl #[.int .u32 4294967295, .slice A0 l0.length c0] rfl (by (try simp only [List.map_toArray, List.map_cons, List.map_nil]); first | done | rfl | (simp only [List.length_drop, List.length_take]; rfl)) ?_; (with_reducible refine (annuletref02_Step.calls k 4294967295 _ _ l0 t190 _ ?side1 ?side2 A2.out).mono ?_); (case side1 => repeat (first | exact HR0.out | (with_reducible refine Kd.C_alloc ?_ _) | (with_reducible refine Kd.C_drewN ?_ _) | (with_reducible refine Kd.C_drew ?_))); (case side2 => exact HC0.out); rintro e w' ⟨rfl, ⟨nd, rfl⟩⟩; refine ⟨_, rfl, ?_⟩))
  all_goals go_ret
  all_goals first | (exact ⟨by first | rfl | (simp; done) | (simp [*]; done) | (refine congrArg Ending.returned ?_; show Value.string _ = Value.string _; (first | (congr 2 <;> omega) | (congr 3 <;> omega) | (congr 4 <;> omega))), by repeat (first | exact Drawn0.refl _ | apply Drawn0.step)⟩) | (exfalso; simp_all; done)

/-! ### annuletref18_Sum: function 17 -/
def annuletref18_Sum.l0 : Nat → Int → List Int → Int → Option (List Int)
  | 0, _, _, _ => none
  | k + 1, x3, x4, x5 => if x5 < 4 then (if x4.length < 140737488355328 then (annuletref18_Sum.l0 k ((Int.tdiv x3 256) % 4294967296) (x4 ++ [(Int.tmod x3 256) % 256]) (wrap64 (x5 + 1))) else (none)) else (some x4)
def annuletref18_Sum.f (k : Nat) (l0 : List Int) : Option (List Int) := (annuletref02_Sum.f k l0).bind fun t191 => (annuletref18_Sum.l0 k t191 ([] : List Int) 0)
theorem annuletref18_Sum.mono_l : ∀ k, (∀ y0 y1 y2, LeO (annuletref18_Sum.l0 k y0 y1 y2) (annuletref18_Sum.l0 (k + 1) y0 y1 y2))
  | 0 => fun _ _ _ r h => by simp [annuletref18_Sum.l0] at h
  | k + 1 => by
    have ih0 := annuletref18_Sum.mono_l k
    · intro y0 y1 y2
      unfold annuletref18_Sum.l0
      repeat' first
      | (with_reducible exact ih0 _ _ _)
      | (with_reducible exact annuletref02_Sum.mono _ _)
      | (with_reducible exact LeO.refl _)
      | (with_reducible exact LeO.none _)
      | (with_reducible refine LeO.ite ?_ ?_)
      | (with_reducible refine LeO.bind ?_ (fun _ => ?_))
      | exact ih0 _ _ _
      | exact annuletref02_Sum.mono _ _
      | exact LeO.none _
      | refine LeO.ite ?_ ?_
      | refine LeO.bind ?_ (fun _ => ?_)
theorem annuletref18_Sum.mono : ∀ a0 k, LeO (annuletref18_Sum.f k a0) (annuletref18_Sum.f (k + 1) a0) := by
  intro a0 k
  have ih0 := annuletref18_Sum.mono_l k
  unfold annuletref18_Sum.f
  repeat' first
      | (with_reducible exact ih0 _ _ _)
      | (with_reducible exact annuletref02_Sum.mono _ _)
      | (with_reducible exact LeO.refl _)
      | (with_reducible exact LeO.none _)
      | (with_reducible refine LeO.ite ?_ ?_)
      | (with_reducible refine LeO.bind ?_ (fun _ => ?_))
      | exact ih0 _ _ _
      | exact annuletref02_Sum.mono _ _
      | exact LeO.none _
      | refine LeO.ite ?_ ?_
      | refine LeO.bind ?_ (fun _ => ?_)
set_option maxHeartbeats 3000000 in
set_option maxRecDepth 100000 in
theorem annuletref18_Sum.calls (k : Nat) (A0 : Option Addr) (c0 : Nat) (l0 : List Int) (r : List Int) (w : World) (hr0 : Kd.C (Kd.int .u8) w A0 l0.length l0) (hc0 : l0.length ≤ c0) (h : annuletref18_Sum.f k l0 = some r) :
    Calls Try.prog 17 #[.slice A0 l0.length c0] w fun e w' => ∃ v0_ : Value, e = .returned (v0_) ∧ Kd.R (Kd.int .u8) 5 w' w.heap.size (fun _ => True) v0_ r ∧ Below w.heap.size w w' := by
  have HR0 := Aside0.mk hr0
  have HC0 := Aside0.mk hc0
  clear hr0 hc0
  have HB := Aside0.mk (Below.refl w.heap.size w)
  have H : ((annuletref02_Sum.f k l0).bind fun t191 => (annuletref18_Sum.l0 k t191 ([] : List Int) 0)) = some r := h
  clear h
  replace H := Option.bind_eq_some_iff.mp H
  obtain ⟨t191, A20, H⟩ := H
  replace H : (annuletref18_Sum.l0 k t191 ([] : List Int) 0) = some r := H
  have A2 := Aside0.mk A20
  clear A20
  have H' := Aside0.mk H
  clear H
  go_enter Try.func17, Try.ntmps17
  go_wp2_with (first | ((with_reducible refine gate_callee (f := 26) rfl ?_); refine goesL_ (some 7) rfl rfl Try.func26 (by kernel_rfl) rfl #[.slice A0 l0.length c0] rfl (by (try simp only [List.map_toArray, List.map_cons, List.map_nil]); first | done | rfl | (simp only [List.length_drop, List.length_take]; rfl)) ?_; (with_reducible refine (annuletref02_Sum.calls k _ _ l0 t191 _ ?side1 ?side2 A2.out).mono ?_); (case side1 => repeat (first | exact HR0.out | (with_reducible refine Kd.C_alloc ?_ _) | (with_reducible refine Kd.C_drewN ?_ _) | (with_reducible refine Kd.C_drew ?_))); (case side2 => exact HC0.out); rintro e w' ⟨rfl, ⟨nd, rfl⟩⟩; refine ⟨_, rfl, ?_⟩))
  go_loopg [3, 4, 5] k (fun kq v3 v4 v5 w' => ∃ (x3_1 : Int) (x4_1 : List Int) (x5_1 : Int), v3 = .int .u32 x3_1 ∧ v5 = .int .i64 x5_1 ∧ Aside0 (annuletref18_Sum.l0 kq x3_1 x4_1 x5_1 = some r) ∧ Aside0 (kq ≤ k) ∧ Aside0 (Kd.R (Kd.int .u8) 5 w' w.heap.size (fun _ => True) v4 x4_1) ∧ Aside0 (Below w.heap.size w w'))
  case atStart => exact ⟨(t191), (([] : List Int)), (0), (by first | rfl | (simp; done) | (simp [*]; done)), (by first | rfl | (simp; done) | (simp [*]; done)), H', ⟨Nat.le_refl _⟩, ⟨by first | exact Kd.R_nil _ _ _ _ _ | exact Kd.N_nil _ _ _ _ _ | exact Kd.V_nil _ _ _ _ _ | exact Kd.Q_nil _ _ _ _ _ | exact Kd.S_nil _ _ _ _ _⟩, ⟨by repeat (first | (with_reducible first | exact HB.out | apply below_alloc | apply pw_below_drewN | apply below_drew1) | exact HB.out)⟩⟩
  case round =>
    clear H'
    try clear c1
    try clear c2
    try clear p2
    obtain ⟨x3_1, x4_1, x5_1, rfl, rfl, HA, HK1, HO_4, HB⟩ := hrel
    cases gk with
    | zero => exact absurd HA.out (by simp [annuletref18_Sum.l0])
    | succ k1 =>
      have H := HA.out
      clear HA
      simp only [annuletref18_Sum.l0] at H
      by_cases c3 : x5_1 < 4
      · rw [if_pos c3] at H
        have c3b0 : decide (x5_1 < 4) = true := decide_eq_true c3
        clear c3
        by_cases c4 : x4_1.length < 140737488355328
        · rw [if_pos c4] at H
          have LMc4 := Aside0.mk c4
          clear c4
          obtain ⟨y192, hy192⟩ : ∃ y_ : List Int, y_ = (x4_1 ++ [(Int.tmod x3_1 256) % 256]) := ⟨_, rfl⟩
          replace H : (annuletref18_Sum.l0 k1 ((Int.tdiv x3_1 256) % 4294967296) y192 (wrap64 (x5_1 + 1))) = some r := by first | (rw [hy192]; with_reducible exact H) | (have H2_ := (Option.bind_some _ _).symm.trans H; rw [hy192]; with_reducible exact H2_) | (have H2_ := (Option.bind_some _ _).symm.trans H; with_reducible exact H2_) | with_reducible exact H | (rw [hy192]; exact H) | exact H
          have Ny192 := Aside0.mk hy192
          clear hy192
          have H' := Aside0.mk H
          clear H
          go_wp2_with (first | ((with_reducible refine gate_builtin (b := .append) (xs := #[.tmp 12, .tmp 16]) rfl ?_); at_builtin; refine Kd.R_append (Kd.int .u8) (w0 := w) w.heap.size rfl (.tmp 12) (.tmp 16) 30 5 (.int .u8 0) 1 rfl Try.underlying30 info5 rfl (by decide) (by omega) u4 x4_1 ((Int.tmod x3_1 256) % 256) [.int .u8 ((Int.tmod x3_1 256) % 256)] (fun _ => True) (fun _ => False) rfl rfl ?aP (fun _ hk => hk.elim) ?aF ?aO ?aB ?aS ?aL ?_; (case aP => exact rfl); (case aB => exact (by repeat (first | (with_reducible first | exact HB.out | apply below_alloc | apply pw_below_drewN | apply below_drew1) | exact HB.out))); (case aF => exact (fun _ _ => trivial)); (case aO => exact (by (with_reducible repeat (first | apply Kd.R_alloc | apply Kd.R_drewN | apply Kd.R_drew)); exact HO_4.out)); (case aS => exact (below_size (by repeat (first | (with_reducible first | exact HB.out | apply below_alloc | apply pw_below_drewN | apply below_drew1) | exact HB.out)))); (case aL => have := LMc4.out; omega); intro v193 w5 ho hb hg hat; rw [← Ny192.out] at ho; have n0_ := Aside0.mk (hb); have n1_ := Aside0.mk (ho); clear HB; clear HO_4; have HB := n0_; have HO194 := n1_; clear n0_ n1_; clear ho hb hg hat))
          go_roundg k1
          case measure => have := HK1.out; omega
          case rel => exact ⟨((Int.tdiv x3_1 256) % 4294967296), (y192), (wrap64 (x5_1 + 1)), (by first | rfl | (simp; done) | (simp [*]; done)), (by first | rfl | (simp; done) | (simp [*]; done)), H', ⟨by have := HK1.out; omega⟩, ⟨by (with_reducible repeat (first | apply Kd.R_alloc | apply Kd.R_drewN | apply Kd.R_drew)); exact HO194.out⟩, ⟨by repeat (first | (with_reducible first | exact HB.out | apply below_alloc | apply pw_below_drewN | apply below_drew1) | exact HB.out)⟩⟩
        · rw [if_neg c4] at H
          exact absurd H (by simp)
      · rw [if_neg c3] at H
        have c3b0 : decide (x5_1 < 4) = false := decide_eq_false c3
        clear c3
        obtain rfl := Option.some.inj H
        go_wp2
        all_goals go_ret
        all_goals first | (exact ⟨_, by first | rfl | (simp [errW_none, errW_some] <;> rfl) | (simp [*, errW_none, errW_some] <;> rfl), by (with_reducible repeat (first | apply Kd.R_alloc | apply Kd.R_drewN | apply Kd.R_drew)); exact HO_4.out, by repeat (first | (with_reducible first | exact HB.out | apply below_alloc | apply pw_below_drewN | apply below_drew1) | exact HB.out)⟩) | (exfalso; simp_all; done)

/-- A state of type 46 at block g of W; what its slices lead to came in by w0. -/
def IsS46 (w0 W : World) (g : Nat) (f0 : List Int) (f1 : Int) (f2 : Int) : Prop := ∃ A0 c0, W.heap[g]? = some (.cells #[.slice A0 f0.length c0, .int .i64 f1, .int .i64 f2] 46 (0, 0)) ∧ w0.heap.size ≤ g ∧ (f0.length ≤ c0 ∧ Kd.C (Kd.int .u8) w0 A0 f0.length f0)
theorem IsS46.grown {w0 W : World} {g : Nat} {f0 : List Int} {f1 : Int} {f2 : Int} {W1 : World} {row : Option Nat} (h : IsS46 w0 W g f0 f1 f2) (hw : W.grownBy W1 row) (hne : some g ≠ row) : IsS46 w0 W1 g f0 f1 f2 := by
  obtain ⟨A0, c0, hb, hg, hr0⟩ := h
  exact ⟨A0, c0, blk_grown hb hw hne, hg, hr0⟩
theorem IsS46.own_neN {w0 W : World} {g : Nat} {f0 : List Int} {f1 : Int} {f2 : Int} {α : Type} {d : Kd α} {e : Nat} {base : Nat} {ok : Nat → Prop} {v : Value} {xs : List α} (h : IsS46 w0 W g f0 f1 f2) (ho : Kd.N d e W base ok v xs) (ht : e ≠ 46) : some g ≠ v.ownBlock := by
  obtain ⟨A0, c0, hb, hg, hr0⟩ := h
  exact Kd.N_ne ho hb ht
theorem IsS46.fresh {w0 W : World} {g : Nat} {f0 : List Int} {f1 : Int} {f2 : Int} (h : IsS46 w0 W g f0 f1 f2) : ∀ k, W.heap.size ≤ k → k ≠ g := by
  obtain ⟨A0, c0, hb, hg, hr0⟩ := h
  exact Kd.freshB hb
theorem IsS46.kept {w0 W : World} {g : Nat} {f0 : List Int} {f1 : Int} {f2 : Int} {W1 : World} {S : Nat → Prop} (h : IsS46 w0 W g f0 f1 f2) (hk : Kept W W1 S) (hne : ¬ S g) : IsS46 w0 W1 g f0 f1 f2 := by
  obtain ⟨A0, c0, hb, hg, hr0⟩ := h
  exact ⟨A0, c0, blk_kept hb hk hne, hg, hr0⟩
theorem IsS46.below {w0 W : World} {g : Nat} {f0 : List Int} {f1 : Int} {f2 : Int} {W1 : World} (h : IsS46 w0 W g f0 f1 f2) (hw : Below W.heap.size W W1) : IsS46 w0 W1 g f0 f1 f2 := h.grown (grown_of_below hw none) (by simp)
theorem IsS46.alloc {w0 W : World} {g : Nat} {f0 : List Int} {f1 : Int} {f2 : Int} (h : IsS46 w0 W g f0 f1 f2) (o : Obj) : IsS46 w0 (W.alloc o) g f0 f1 f2 := h.below (below_alloc (Below.refl _ _) o)
theorem IsS46.drewN {w0 W : World} {g : Nat} {f0 : List Int} {f1 : Int} {f2 : Int} (h : IsS46 w0 W g f0 f1 f2) (m : Nat) : IsS46 w0 (W.drewN m) g f0 f1 f2 := h
theorem IsS46.drew {w0 W : World} {g : Nat} {f0 : List Int} {f1 : Int} {f2 : Int} (h : IsS46 w0 W g f0 f1 f2) : IsS46 w0 W.drew g f0 f1 f2 := h
theorem IsS46.at_ {w0 W : World} {g : Nat} {f0 : List Int} {f1 : Int} {f2 : Int} {w' : World} {m : Nat} (hq : W.drewN m = w') (h : IsS46 w0 W g f0 f1 f2) : IsS46 w0 w' g f0 f1 f2 := by subst hq; exact IsS46.drewN h m
theorem IsS46.apart {w0 W : World} {g : Nat} {f0 : List Int} {f1 : Int} {f2 : Int} {α : Type} {d : Kd α} {e : Nat} {base : Nat} {ok : Nat → Prop} {v : Value} {xs : List α} (h : IsS46 w0 W g f0 f1 f2) (ho : d.R e W base ok v xs) (ht : ∀ q, q ∈ e :: d.E → q ≠ 46) : d.R e W base (fun k => ok k ∧ k ≠ g) v xs := by
  obtain ⟨A0, c0, hb, hg, hr0⟩ := h
  exact Kd.R_types ho hb ht
theorem IsS46.own_ne {w0 W : World} {g : Nat} {f0 : List Int} {f1 : Int} {f2 : Int} {α : Type} {d : Kd α} {e : Nat} {base : Nat} {ok : Nat → Prop} {v : Value} {xs : List α} (h : IsS46 w0 W g f0 f1 f2) (ho : d.R e W base ok v xs) (ht : e ≠ 46) : some g ≠ v.ownBlock := by
  obtain ⟨A0, c0, hb, hg, hr0⟩ := h
  exact Kd.R_ne ho hb ht
theorem IsS46.apartQ {w0 W : World} {g : Nat} {f0 : List Int} {f1 : Int} {f2 : Int} {α : Type} {d : Kd α} {e : Nat} {base : Nat} {ok : Nat → Prop} {v : Value} {xs : List α} (h : IsS46 w0 W g f0 f1 f2) (ho : d.Q e W base ok v xs) (ht : ∀ q, q ∈ e :: d.E → q ≠ 46) : d.Q e W base (fun k => ok k ∧ k ≠ g) v xs := by
  obtain ⟨A0, c0, hb, hg, hr0⟩ := h
  exact Kd.Q_types ho hb ht
theorem IsS46.own_neQ {w0 W : World} {g : Nat} {f0 : List Int} {f1 : Int} {f2 : Int} {α : Type} {d : Kd α} {e : Nat} {base : Nat} {ok : Nat → Prop} {v : Value} {xs : List α} (h : IsS46 w0 W g f0 f1 f2) (ho : d.Q e W base ok v xs) (ht : e ≠ 46) : some g ≠ v.ownBlock := by
  obtain ⟨A0, c0, hb, hg, hr0⟩ := h
  exact Kd.Q_ne ho hb ht
theorem IsS46.apartS {w0 W : World} {g : Nat} {f0 : List Int} {f1 : Int} {f2 : Int} {α : Type} {d : Kd α} {e : Nat} {base : Nat} {ok : Nat → Prop} {v : Value} {xs : List α} (h : IsS46 w0 W g f0 f1 f2) (ho : d.S e W base ok v xs) (ht : ∀ q, q ∈ e :: d.E → q ≠ 46) : d.S e W base (fun k => ok k ∧ k ≠ g) v xs := by
  obtain ⟨A0, c0, hb, hg, hr0⟩ := h
  exact Kd.S_types ho hb ht
theorem IsS46.own_neS {w0 W : World} {g : Nat} {f0 : List Int} {f1 : Int} {f2 : Int} {α : Type} {d : Kd α} {e : Nat} {base : Nat} {ok : Nat → Prop} {v : Value} {xs : List α} (h : IsS46 w0 W g f0 f1 f2) (ho : d.S e W base ok v xs) (ht : e ≠ 46) : some g ≠ v.ownBlock := by
  obtain ⟨A0, c0, hb, hg, hr0⟩ := h
  exact Kd.S_ne ho hb ht
theorem IsS46.lt {w0 W : World} {g : Nat} {f0 : List Int} {f1 : Int} {f2 : Int} (h : IsS46 w0 W g f0 f1 f2) : g < W.heap.size := by
  obtain ⟨A0, c0, hb, hg, hr0⟩ := h
  exact blk_lt hb
theorem IsS46.ge {w0 W : World} {g : Nat} {f0 : List Int} {f1 : Int} {f2 : Int} (h : IsS46 w0 W g f0 f1 f2) : w0.heap.size ≤ g := by
  obtain ⟨A0, c0, hb, hg, hr0⟩ := h
  exact hg
theorem IsS46.ne_blk {w0 W : World} {g : Nat} {f0 : List Int} {f1 : Int} {f2 : Int} {a : Nat} {cs : Array Value} {t : TypeId} {fr : Nat × Nat} (h : IsS46 w0 W g f0 f1 f2) (hb2 : W.heap[a]? = some (.cells cs t fr)) (ht : t ≠ 46) : g ≠ a := by
  obtain ⟨A0, c0, hb, hg, hr0⟩ := h
  rintro rfl
  rw [hb] at hb2
  injection hb2 with hb2
  injection hb2 with _ ht2
  exact ht ht2.symm
theorem IsS46.far {w0 W : World} {g : Nat} {f0 : List Int} {f1 : Int} {f2 : Int} {p : Addr} (h : IsS46 w0 W g f0 f1 f2) (hne : g ≠ p.block) (u : Value) : IsS46 w0 (W.setCell p u) g f0 f1 f2 := by
  obtain ⟨A0, c0, hb, hg, hr0⟩ := h
  exact ⟨A0, c0, blk_far hb hne u, hg, hr0⟩
theorem cellS46_0 {W : World} {g : Nat} {A0 : Option Addr} {c0 : Nat} {f0 : List Int} {f1 : Int} {f2 : Int} (h : W.heap[g]? = some (.cells #[.slice A0 f0.length c0, .int .i64 f1, .int .i64 f2] 46 (0, 0))) : W.cell? ⟨g, 0, none⟩ = some (.slice A0 f0.length c0) := (blk_cell h 0).trans rfl
theorem cellS46_1 {W : World} {g : Nat} {A0 : Option Addr} {c0 : Nat} {f0 : List Int} {f1 : Int} {f2 : Int} (h : W.heap[g]? = some (.cells #[.slice A0 f0.length c0, .int .i64 f1, .int .i64 f2] 46 (0, 0))) : W.cell? ⟨g, 1, none⟩ = some (.int .i64 f1) := (blk_cell h 1).trans rfl
theorem IsS46.set_1 {w0 W : World} {g : Nat} {f0 : List Int} {f1 : Int} {f2 : Int} (h : IsS46 w0 W g f0 f1 f2) (x : Int) : IsS46 w0 (W.setCell ⟨g, 1, none⟩ (.int .i64 x)) g f0 x f2 := by
  obtain ⟨A0, c0, hb, hg, hr0⟩ := h
  exact ⟨A0, c0, by simpa using blk_set hb 1 (.int .i64 x), hg, hr0⟩
theorem cellS46_2 {W : World} {g : Nat} {A0 : Option Addr} {c0 : Nat} {f0 : List Int} {f1 : Int} {f2 : Int} (h : W.heap[g]? = some (.cells #[.slice A0 f0.length c0, .int .i64 f1, .int .i64 f2] 46 (0, 0))) : W.cell? ⟨g, 2, none⟩ = some (.int .i64 f2) := (blk_cell h 2).trans rfl
theorem IsS46.set_2 {w0 W : World} {g : Nat} {f0 : List Int} {f1 : Int} {f2 : Int} (h : IsS46 w0 W g f0 f1 f2) (x : Int) : IsS46 w0 (W.setCell ⟨g, 2, none⟩ (.int .i64 x)) g f0 f1 x := by
  obtain ⟨A0, c0, hb, hg, hr0⟩ := h
  exact ⟨A0, c0, by simpa using blk_set hb 2 (.int .i64 x), hg, hr0⟩
theorem IsS46.new (w0 W : World) (A0 : Option Addr) (c0 : Nat) (f0 : List Int) (f1 : Int) (f2 : Int) (hB : Below w0.heap.size w0 W) (hr0 : f0.length ≤ c0 ∧ Kd.C (Kd.int .u8) w0 A0 f0.length f0) : IsS46 w0 (W.alloc (.cells #[.slice A0 f0.length c0, .int .i64 f1, .int .i64 f2] 46)) W.heap.size f0 f1 f2 := ⟨A0, c0, by simpa using heap_alloc_new W _, hB.size, hr0⟩

/-! ### annuletref06_Cur_left: function 27 -/
def annuletref06_Cur_left.f (s0_0 : List Int) (s0_1 : Int) (s0_2 : Int) : Option (Int × Int × Int) := some (wrap64 ((s0_0.length : Int) - s0_1), s0_1, s0_2)
set_option maxHeartbeats 3000000 in
set_option maxRecDepth 100000 in
theorem annuletref06_Cur_left.calls (g : Nat) (s0_0 : List Int) (s0_1 : Int) (s0_2 : Int) (r1 : Int) (r2 : Int) (r3 : Int) (w0 w : World) (hI : IsS46 w0 w g s0_0 s0_1 s0_2) (hB : Below w0.heap.size w0 w) (h : annuletref06_Cur_left.f s0_0 s0_1 s0_2 = some (r1, r2, r3)) :
    Calls Try.prog 27 #[.pointer (some ⟨g, 0, none⟩)] w fun e w' => e = .returned (.int .i64 r1) ∧ IsS46 w0 w' g s0_0 r2 r3 ∧ Below w0.heap.size w0 w' ∧ KeepBut w w' g none := by
  have HI0 := Aside0.mk hI
  have HK := Aside0.mk (KeepBut.refl w g none)
  have HL := Aside0.mk hB.size
  clear hI
  have HW0 := Aside0.mk hB.size
  have HB := Aside0.mk hB
  clear hB
  have H : (some (wrap64 ((s0_0.length : Int) - s0_1), s0_1, s0_2)) = some (r1, r2, r3) := h
  clear h
  simp only [Option.some.injEq, Prod.mk.injEq] at H
  obtain ⟨rfl, rfl, rfl⟩ := H
  obtain ⟨ASz2_0, cSz2_0, HGz2, hgz2, ⟨HLSz2_0, HSz2_0⟩⟩ := HI0.out
  have hcz2_0 := cellS46_0 HGz2
  have hcz2_1 := cellS46_1 HGz2
  have hcz2_2 := cellS46_2 HGz2
  have hfz2_1 := blk_frozen HGz2 1
  have hfz2_2 := blk_frozen HGz2 2
  clear HGz2 hgz2
  go_enter Try.func27, Try.ntmps27
  go_wp2
  repeat (go_quiet (fail); try go_wp2)
  all_goals go_ret
  all_goals first | (exact ⟨by first | rfl | (simp [errW_none, errW_some] <;> rfl) | (simp [*, errW_none, errW_some] <;> rfl), by repeat (first | (with_reducible first | exact HI0.out | apply IsS46.alloc | apply IsS46.drewN | apply IsS46.drew | apply IsS46.set_1 | apply IsS46.set_2) | exact HI0.out), by repeat (first | (with_reducible first | exact HB.out | apply below_alloc | apply pw_below_drewN | apply below_drew1 | refine below_set ?_ (IsS46.ge HI0.out)) | exact HB.out), by repeat (first | (with_reducible first | exact HK.out | apply KeepBut.set_ | apply keep_drewN | apply keep_drew | apply keep_alloc) | exact HK.out)⟩) | (exfalso; simp_all; done)

end Go.Proofs.Ytplloiinedbnlaa.PSplitBack
