/- Written by a program of this session (a turned copy of the kit's print): functions of the program, each with the Lean function that it comes to, and the row of one law. No condition. -/
import Derived.Test.YtekcnfngcgchcaaPBenPrintsx0
import Derived.Test.YtekcnfngcgchcaaPBenPrintsx1
import Derived.Test.YtekcnfngcgchcaaPBenPrintsx3
import Derived.Test.YtekcnfngcgchcaaPBenPrintsx6
import Derived.Test.YtekcnfngcgchcaaPBenPrintsx7
namespace Go.Proofs.Ytekcnfngcgchcaa.PBenPrints
open Go.RowKit Go.Proofs.YtekcnfngcgchcaaW.PrintWords Go.Proofs.YtekcnfngcgchcaaW.PrintLast Go.Proofs.YtekcnfngcgchcaaW.PrintMore
attribute [local go_sem] max2_int min2_int max_two min_two max_three min_three max_four min_four   -- for this text's walks alone
set_option linter.unusedVariables false
set_option linter.unusedSimpArgs false

/-! ### annuletref11_Right: function 17 -/
def annuletref11_Right.f (k : Nat) (a0_0 : Int) (a0_1 : Int) (a0_2 : ByteArray) (l0_3 : List ByteArray) (l0_4 : List (S25)) : Option (Int) := (annuletref11_right.f k a0_0 a0_1 a0_2 l0_3 l0_4 0).bind fun t145 => (some t145)
theorem annuletref11_Right.mono : ∀ a0 a1 a2 a3 a4 k, LeO (annuletref11_Right.f k a0 a1 a2 a3 a4) (annuletref11_Right.f (k + 1) a0 a1 a2 a3 a4) := by
  intro a0 a1 a2 a3 a4 k
  unfold annuletref11_Right.f
  repeat' first
      | (with_reducible exact annuletref11_right.mono _ _ _ _ _ _ _)
      | (with_reducible exact LeO.refl _)
      | (with_reducible exact LeO.none _)
      | (with_reducible refine LeO.ite ?_ ?_)
      | (with_reducible refine LeO.bind ?_ (fun _ => ?_))
      | exact annuletref11_right.mono _ _ _ _ _ _ _
      | exact LeO.none _
      | refine LeO.ite ?_ ?_
      | refine LeO.bind ?_ (fun _ => ?_)
set_option maxHeartbeats 3000000 in
set_option maxRecDepth 100000 in
theorem annuletref11_Right.calls (k : Nat) (a0_0 : Int) (a0_1 : Int) (a0_2 : ByteArray) (A0_3 : Option Addr) (c0_3 : Nat) (l0_3 : List ByteArray) (A0_4 : Option Addr) (c0_4 : Nat) (l0_4 : List (S25)) (r : Int) (w : World) (hr0_3 : Kd.C Kd.string w A0_3 l0_3.length l0_3) (hc0_3 : l0_3.length ≤ c0_3) (hr0_4 : Kd.C k25 w A0_4 l0_4.length l0_4) (hc0_4 : l0_4.length ≤ c0_4) (h : annuletref11_Right.f k a0_0 a0_1 a0_2 l0_3 l0_4 = some r) :
    Calls Try.prog 17 #[.agg #[.int .i64 a0_0, .int .i64 a0_1, .string a0_2, .slice A0_3 l0_3.length c0_3, .slice A0_4 l0_4.length c0_4]] w fun e w' => e = .returned (.int .i64 r) ∧ Below w.heap.size w w' := by
  have hu25 := Try.underlying25
  have HR0_3 := Aside0.mk hr0_3
  have HC0_3 := Aside0.mk hc0_3
  clear hr0_3 hc0_3
  have HR0_4 := Aside0.mk hr0_4
  have HC0_4 := Aside0.mk hc0_4
  clear hr0_4 hc0_4
  have HB := Aside0.mk (Below.refl w.heap.size w)
  have H : ((annuletref11_right.f k a0_0 a0_1 a0_2 l0_3 l0_4 0).bind fun t145 => (some t145)) = some r := h
  clear h
  replace H := Option.bind_eq_some_iff.mp H
  obtain ⟨t145, A20, H⟩ := H
  replace H : (some t145) = some r := H
  have A2 := Aside0.mk A20
  clear A20
  obtain rfl := Option.some.inj H
  go_enter Try.func17, Try.ntmps17
  go_wp2_with (first | ((with_reducible refine gate_dst (N := 1) rfl ?_); refine box_event ?hg (N := 1) ?hd (cs := #[.int .i64 a0_0, .int .i64 a0_1, .string a0_2, .slice A0_3 l0_3.length c0_3, .slice A0_4 l0_4.length c0_4]) (t := 25) ?hr ?_; (case hd => rfl); (case hg => rfl); (case hr => first | (go_simp; done) | (go_simp; rfl)); intro gb144 hg w3 hbox hb; have n0_ := Aside0.mk (below_step (by repeat (first | (with_reducible first | exact HB.out | apply below_alloc | apply pw_below_drewN | apply below_drew1) | exact HB.out)) hb); have n1_ := Aside0.mk (hbox); have n2_ := Aside0.mk ((by rw [hg]; exact (below_size (by repeat (first | (with_reducible first | exact HB.out | apply below_alloc | apply pw_below_drewN | apply below_drew1) | exact HB.out))) : w.heap.size ≤ gb144)); have n3_ := Aside0.mk ((by rw [hg]; exact (below_size (by repeat (first | (with_reducible first | exact HB.out | apply below_alloc | apply pw_below_drewN | apply below_drew1) | exact HB.out))) : w.heap.size ≤ gb144)); clear HB; have HB := n0_; have BK144 := n1_; have GW144 := n2_; have GE144 := n3_; clear n0_ n1_ n2_ n3_; clear hb hbox hg; have hcz4_0 : w3.cell? ⟨gb144, 0, none⟩ = some (.int .i64 a0_0) := (blk_cell BK144.out 0).trans rfl; have hcz4_1 : w3.cell? ⟨gb144, 1, none⟩ = some (.int .i64 a0_1) := (blk_cell BK144.out 1).trans rfl; have hcz4_2 : w3.cell? ⟨gb144, 2, none⟩ = some (.string a0_2) := (blk_cell BK144.out 2).trans rfl; have hcz4_3 : w3.cell? ⟨gb144, 3, none⟩ = some (.slice A0_3 l0_3.length c0_3) := (blk_cell BK144.out 3).trans rfl; have hcz4_4 : w3.cell? ⟨gb144, 4, none⟩ = some (.slice A0_4 l0_4.length c0_4) := (blk_cell BK144.out 4).trans rfl; have hfz4_0 := blk_frozen BK144.out 0; have hfz4_1 := blk_frozen BK144.out 1; have hfz4_2 := blk_frozen BK144.out 2; have hfz4_3 := blk_frozen BK144.out 3; have hfz4_4 := blk_frozen BK144.out 4) | ((with_reducible refine gate_callee (f := 25) rfl ?_); refine goesL_ (some 4) rfl rfl Try.func25 (by kernel_rfl) rfl #[.agg #[.int .i64 a0_0, .int .i64 a0_1, .string a0_2, .slice A0_3 l0_3.length c0_3, .slice A0_4 l0_4.length c0_4], .int .i64 0] rfl (by (try simp only [List.map_toArray, List.map_cons, List.map_nil]); first | done | rfl | (simp only [List.length_drop, List.length_take]; rfl)) ?_; (with_reducible refine (annuletref11_right.calls k a0_0 a0_1 a0_2 _ _ l0_3 _ _ l0_4 0 t145 _ ?side1 ?side2 ?side3 ?side4 A2.out).mono ?_); (case side1 => repeat (first | exact (Kd.C_below HR0_3.out HB.out) | (with_reducible refine Kd.C_alloc ?_ _) | (with_reducible refine Kd.C_drewN ?_ _) | (with_reducible refine Kd.C_drew ?_))); (case side2 => exact HC0_3.out); (case side3 => repeat (first | exact (Kd.C_below HR0_4.out HB.out) | (with_reducible refine Kd.C_alloc ?_ _) | (with_reducible refine Kd.C_drewN ?_ _) | (with_reducible refine Kd.C_drew ?_))); (case side4 => exact HC0_4.out); rintro e w5 ⟨rfl, hb⟩; refine ⟨_, rfl, ?_⟩; have n0_ := Aside0.mk (blk_below (g := gb144) (o := .cells #[.int .i64 a0_0, .int .i64 a0_1, .string a0_2, .slice A0_3 l0_3.length c0_3, .slice A0_4 l0_4.length c0_4] 25 (0, 0)) (by (with_reducible repeat (first | refine blk_drewN ?_ _ | refine blk_drew ?_ | refine blk_alloc ?_ _)); exact BK144.out) hb); have n1_ := Aside0.mk (below_step (by repeat (first | (with_reducible first | exact HB.out | apply below_alloc | apply pw_below_drewN | apply below_drew1 | refine below_set ?_ GE144.out) | exact HB.out)) hb); clear BK144; clear HB; have BK144 := n0_; have HB := n1_; clear n0_ n1_; (try clear hb); (try clear hb2); (try clear hk); (try clear hi)))
  all_goals go_ret
  all_goals first | (exact ⟨by first | rfl | (simp [errW_none, errW_some] <;> rfl) | (simp [*, errW_none, errW_some] <;> rfl), by repeat (first | (with_reducible first | exact HB.out | apply below_alloc | apply pw_below_drewN | apply below_drew1 | refine below_set ?_ GE144.out) | exact HB.out)⟩) | (exfalso; simp_all; done)

/-! ### annuletref07_Put: function 26 -/
def annuletref07_Put.f : Nat → Int → Option (ByteArray)
  | 0, _ => none
  | k + 1, a0 => if a0 < (-9) then ((annuletref07_Put.f k (wrap64 (Int.tdiv a0 10))).bind fun t146 => ((annuletref07_Put.f k (wrap64 (-(Int.tmod a0 10)))).bind fun t147 => (if t146.size + t147.size ≤ 9223372036854775807 then (some (t146 ++ t147)) else (none)))) else (if a0 < 0 then ((annuletref07_Put.f k (wrap64 (-a0))).bind fun t148 => (if 1 + t148.size ≤ 9223372036854775807 then (some ((⟨#[45]⟩ : ByteArray) ++ t148)) else (none))) else (if a0 > 9 then ((annuletref07_Put.f k (wrap64 (Int.tdiv a0 10))).bind fun t149 => ((annuletref07_Put.f k (Int.tmod a0 10)).bind fun t150 => (if t149.size + t150.size ≤ 9223372036854775807 then (some (t149 ++ t150)) else (none)))) else (some (strOfNums (([(wrap64 (48 + a0)) % 256] : List Int))))))
theorem annuletref07_Put.mono_l : ∀ k, (∀ y0, LeO (annuletref07_Put.f k y0) (annuletref07_Put.f (k + 1) y0))
  | 0 => fun _ r h => by simp [annuletref07_Put.f] at h
  | k + 1 => by
    have ih0 := annuletref07_Put.mono_l k
    · intro y0
      unfold annuletref07_Put.f
      repeat' first
      | (with_reducible exact ih0 _)
      | (with_reducible exact LeO.refl _)
      | (with_reducible exact LeO.none _)
      | (with_reducible refine LeO.ite ?_ ?_)
      | (with_reducible refine LeO.bind ?_ (fun _ => ?_))
      | exact ih0 _
      | exact LeO.none _
      | refine LeO.ite ?_ ?_
      | refine LeO.bind ?_ (fun _ => ?_)
theorem annuletref07_Put.mono : ∀ a0 k, LeO (annuletref07_Put.f k a0) (annuletref07_Put.f (k + 1) a0) := by
  intro a0 k
  have ih0 := annuletref07_Put.mono_l k
  exact ih0 a0
set_option maxHeartbeats 3000000 in
set_option maxRecDepth 100000 in
theorem annuletref07_Put.calls (k : Nat) : ∀ (a0 : Int) (r : ByteArray) (w : World) (h : annuletref07_Put.f k a0 = some r),
    Calls Try.prog 26 #[.int .i64 a0] w fun e w' => e = .returned (.string r) ∧ Below w.heap.size w w' := by
  induction k using Nat.strongRecOn with
  | _ k ih =>
  intro a0 r w h
  cases k with
  | zero => exact absurd h (by simp [annuletref07_Put.f])
  | succ k =>
  simp only [annuletref07_Put.f] at h
  have HB := Aside0.mk (Below.refl w.heap.size w)
  have H : (if a0 < (-9) then ((annuletref07_Put.f k (wrap64 (Int.tdiv a0 10))).bind fun t146 => ((annuletref07_Put.f k (wrap64 (-(Int.tmod a0 10)))).bind fun t147 => (if t146.size + t147.size ≤ 9223372036854775807 then (some (t146 ++ t147)) else (none)))) else (if a0 < 0 then ((annuletref07_Put.f k (wrap64 (-a0))).bind fun t148 => (if 1 + t148.size ≤ 9223372036854775807 then (some ((⟨#[45]⟩ : ByteArray) ++ t148)) else (none))) else (if a0 > 9 then ((annuletref07_Put.f k (wrap64 (Int.tdiv a0 10))).bind fun t149 => ((annuletref07_Put.f k (Int.tmod a0 10)).bind fun t150 => (if t149.size + t150.size ≤ 9223372036854775807 then (some (t149 ++ t150)) else (none)))) else (some (strOfNums (([(wrap64 (48 + a0)) % 256] : List Int))))))) = some r := h
  clear h
  by_cases c2 : a0 < (-9)
  · rw [if_pos c2] at H
    have c2b0 : decide (a0 < (-9)) = true := decide_eq_true c2
    clear c2
    replace H := Option.bind_eq_some_iff.mp H
    obtain ⟨t146, A30, H⟩ := H
    replace H : ((annuletref07_Put.f k (wrap64 (-(Int.tmod a0 10)))).bind fun t147 => (if t146.size + t147.size ≤ 9223372036854775807 then (some (t146 ++ t147)) else (none))) = some r := H
    have A3 := Aside0.mk A30
    clear A30
    replace H := Option.bind_eq_some_iff.mp H
    obtain ⟨t147, A40, H⟩ := H
    replace H : (if t146.size + t147.size ≤ 9223372036854775807 then (some (t146 ++ t147)) else (none)) = some r := H
    have A4 := Aside0.mk A40
    clear A40
    by_cases c5 : t146.size + t147.size ≤ 9223372036854775807
    · rw [if_pos c5] at H
      have c5b0 := eq_true c5
      have c5b1 : decide (t146.size + t147.size ≤ 9223372036854775807) = true := decide_eq_true c5
      try have c5b2 : (9223372036854775807 < t146.size + t147.size) = False := eq_false (Nat.not_lt.2 c5)
      obtain rfl := Option.some.inj H
      go_enter Try.func26, Try.ntmps26
      go_wp2_with (first | ((with_reducible refine gate_callee (f := 26) rfl ?_); refine goesL_ (some 7) rfl rfl Try.func26 (by kernel_rfl) rfl #[.int .i64 (wrap64 (Int.tdiv a0 10))] rfl (by (try simp only [List.map_toArray, List.map_cons, List.map_nil]); first | done | rfl | (simp only [List.length_drop, List.length_take]; rfl)) ?_; (with_reducible refine (ih k (by omega) (wrap64 (Int.tdiv a0 10)) t146 _ A3.out).mono ?_); rintro e w6 ⟨rfl, hb⟩; refine ⟨_, rfl, ?_⟩; have n0_ := Aside0.mk (below_step (by repeat (first | (with_reducible first | exact HB.out | apply below_alloc | apply pw_below_drewN | apply below_drew1) | exact HB.out)) hb); clear HB; have HB := n0_; clear n0_; (try clear hb); (try clear hb2); (try clear hk); (try clear hi)) | ((with_reducible refine gate_callee (f := 26) rfl ?_); refine goesL_ (some 11) rfl rfl Try.func26 (by kernel_rfl) rfl #[.int .i64 (wrap64 (-(Int.tmod a0 10)))] rfl (by (try simp only [List.map_toArray, List.map_cons, List.map_nil]); first | done | rfl | (simp only [List.length_drop, List.length_take]; rfl)) ?_; (with_reducible refine (ih k (by omega) (wrap64 (-(Int.tmod a0 10))) t147 _ A4.out).mono ?_); rintro e w7 ⟨rfl, hb⟩; refine ⟨_, rfl, ?_⟩; have n0_ := Aside0.mk (below_step (by repeat (first | (with_reducible first | exact HB.out | apply below_alloc | apply pw_below_drewN | apply below_drew1) | exact HB.out)) hb); clear HB; have HB := n0_; clear n0_; (try clear hb); (try clear hb2); (try clear hk); (try clear hi)))
      all_goals go_ret
      all_goals first | (exact ⟨by first | rfl | (simp [errW_none, errW_some] <;> rfl) | (simp [*, errW_none, errW_some] <;> rfl), by repeat (first | (with_reducible first | exact HB.out | apply below_alloc | apply pw_below_drewN | apply below_drew1) | exact HB.out)⟩) | (exfalso; simp_all; done)
    · rw [if_neg c5] at H
      exact absurd H (by simp)
  · rw [if_neg c2] at H
    have c2b0 : decide (a0 < (-9)) = false := decide_eq_false c2
    clear c2
    by_cases c8 : a0 < 0
    · rw [if_pos c8] at H
      have c8b0 : decide (a0 < 0) = true := decide_eq_true c8
      clear c8
      replace H := Option.bind_eq_some_iff.mp H
      obtain ⟨t148, A90, H⟩ := H
      replace H : (if 1 + t148.size ≤ 9223372036854775807 then (some ((⟨#[45]⟩ : ByteArray) ++ t148)) else (none)) = some r := H
      have A9 := Aside0.mk A90
      clear A90
      by_cases c10 : 1 + t148.size ≤ 9223372036854775807
      · rw [if_pos c10] at H
        have c10b0 := eq_true c10
        have c10b1 : decide (1 + t148.size ≤ 9223372036854775807) = true := decide_eq_true c10
        try have c10b2 : (9223372036854775807 < 1 + t148.size) = False := eq_false (Nat.not_lt.2 c10)
        obtain rfl := Option.some.inj H
        go_enter Try.func26, Try.ntmps26
        go_wp2_with (first | ((with_reducible refine gate_callee (f := 26) rfl ?_); refine goesL_ (some 17) rfl rfl Try.func26 (by kernel_rfl) rfl #[.int .i64 (wrap64 (-a0))] rfl (by (try simp only [List.map_toArray, List.map_cons, List.map_nil]); first | done | rfl | (simp only [List.length_drop, List.length_take]; rfl)) ?_; (with_reducible refine (ih k (by omega) (wrap64 (-a0)) t148 _ A9.out).mono ?_); rintro e w11 ⟨rfl, hb⟩; refine ⟨_, rfl, ?_⟩; have n0_ := Aside0.mk (below_step (by repeat (first | (with_reducible first | exact HB.out | apply below_alloc | apply pw_below_drewN | apply below_drew1) | exact HB.out)) hb); clear HB; have HB := n0_; clear n0_; (try clear hb); (try clear hb2); (try clear hk); (try clear hi)))
        all_goals go_ret
        all_goals first | (exact ⟨by first | rfl | (simp [errW_none, errW_some] <;> rfl) | (simp [*, errW_none, errW_some] <;> rfl), by repeat (first | (with_reducible first | exact HB.out | apply below_alloc | apply pw_below_drewN | apply below_drew1) | exact HB.out)⟩) | (exfalso; simp_all; done)
      · rw [if_neg c10] at H
        exact absurd H (by simp)
    · rw [if_neg c8] at H
      have c8b0 : decide (a0 < 0) = false := decide_eq_false c8
      clear c8
      by_cases c12 : a0 > 9
      · rw [if_pos c12] at H
        have c12b0 : decide (9 < a0) = true := decide_eq_true c12
        clear c12
        replace H := Option.bind_eq_some_iff.mp H
        obtain ⟨t149, A130, H⟩ := H
        replace H : ((annuletref07_Put.f k (Int.tmod a0 10)).bind fun t150 => (if t149.size + t150.size ≤ 9223372036854775807 then (some (t149 ++ t150)) else (none))) = some r := H
        have A13 := Aside0.mk A130
        clear A130
        replace H := Option.bind_eq_some_iff.mp H
        obtain ⟨t150, A140, H⟩ := H
        replace H : (if t149.size + t150.size ≤ 9223372036854775807 then (some (t149 ++ t150)) else (none)) = some r := H
        have A14 := Aside0.mk A140
        clear A140
        by_cases c15 : t149.size + t150.size ≤ 9223372036854775807
        · rw [if_pos c15] at H
          have c15b0 := eq_true c15
          have c15b1 : decide (t149.size + t150.size ≤ 9223372036854775807) = true := decide_eq_true c15
          try have c15b2 : (9223372036854775807 < t149.size + t150.size) = False := eq_false (Nat.not_lt.2 c15)
          obtain rfl := Option.some.inj H
          go_enter Try.func26, Try.ntmps26
          go_wp2_with (first | ((with_reducible refine gate_callee (f := 26) rfl ?_); refine goesL_ (some 23) rfl rfl Try.func26 (by kernel_rfl) rfl #[.int .i64 (wrap64 (Int.tdiv a0 10))] rfl (by (try simp only [List.map_toArray, List.map_cons, List.map_nil]); first | done | rfl | (simp only [List.length_drop, List.length_take]; rfl)) ?_; (with_reducible refine (ih k (by omega) (wrap64 (Int.tdiv a0 10)) t149 _ A13.out).mono ?_); rintro e w16 ⟨rfl, hb⟩; refine ⟨_, rfl, ?_⟩; have n0_ := Aside0.mk (below_step (by repeat (first | (with_reducible first | exact HB.out | apply below_alloc | apply pw_below_drewN | apply below_drew1) | exact HB.out)) hb); clear HB; have HB := n0_; clear n0_; (try clear hb); (try clear hb2); (try clear hk); (try clear hi)) | ((with_reducible refine gate_callee (f := 26) rfl ?_); refine goesL_ (some 26) rfl rfl Try.func26 (by kernel_rfl) rfl #[.int .i64 (Int.tmod a0 10)] rfl (by (try simp only [List.map_toArray, List.map_cons, List.map_nil]); first | done | rfl | (simp only [List.length_drop, List.length_take]; rfl)) ?_; (with_reducible refine (ih k (by omega) (Int.tmod a0 10) t150 _ A14.out).mono ?_); rintro e w17 ⟨rfl, hb⟩; refine ⟨_, rfl, ?_⟩; have n0_ := Aside0.mk (below_step (by repeat (first | (with_reducible first | exact HB.out | apply below_alloc | apply pw_below_drewN | apply below_drew1) | exact HB.out)) hb); clear HB; have HB := n0_; clear n0_; (try clear hb); (try clear hb2); (try clear hk); (try clear hi)))
          all_goals go_ret
          all_goals first | (exact ⟨by first | rfl | (simp [errW_none, errW_some] <;> rfl) | (simp [*, errW_none, errW_some] <;> rfl), by repeat (first | (with_reducible first | exact HB.out | apply below_alloc | apply pw_below_drewN | apply below_drew1) | exact HB.out)⟩) | (exfalso; simp_all; done)
        · rw [if_neg c15] at H
          exact absurd H (by simp)
      · rw [if_neg c12] at H
        have c12b0 : decide (9 < a0) = false := decide_eq_false c12
        clear c12
        obtain ⟨y151, hy151⟩ : ∃ y_ : List Int, y_ = (([(wrap64 (48 + a0)) % 256] : List Int)) := ⟨_, rfl⟩
        replace H : (some (strOfNums y151)) = some r := by first | (rw [hy151]; with_reducible exact H) | (have H2_ := (Option.bind_some _ _).symm.trans H; rw [hy151]; with_reducible exact H2_) | (have H2_ := (Option.bind_some _ _).symm.trans H; with_reducible exact H2_) | with_reducible exact H | (rw [hy151]; exact H) | exact H
        have Ny151 := Aside0.mk hy151
        clear hy151
        obtain rfl := Option.some.inj H
        go_enter Try.func26, Try.ntmps26
        go_wp2_with (first | ((with_reducible refine gate_dst (N := 31) rfl ?_); refine Kd.R_lit (Kd.int .u8) _ 5 ?hg (N := 31) ?hd (xs := ([(wrap64 (48 + a0)) % 256] : List Int)) (inner := [.int .u8 ((wrap64 (48 + a0)) % 256)]) (ok := fun _ => True) (okp := fun _ => True) ?hr ?hp (fun _ hk => hk) trivial (Below.refl _ _) (Nat.le_refl _) (by simp) ?_; (case hd => rfl); (case hg => rfl); (case hr => first | (go_simp; done) | (go_simp; rfl)); (case hp => exact (Reps.one (show Kd.M (Kd.int .u8) _ _ _ ((wrap64 (48 + a0)) % 256) [.int .u8 ((wrap64 (48 + a0)) % 256)] from rfl) (Reps.none _ _))); intro v152 w18 ho19 hb hg_ hnew_; clear hg_ hnew_; (first | rw [← Ny151.out] at ho19 | (simp only [Int.reduceToNat] at ho19; rw [← Ny151.out] at ho19)); have n0_ := Aside0.mk (Kd.R_lower ho19 (below_size (by repeat (first | (with_reducible first | exact HB.out | apply below_alloc | apply pw_below_drewN | apply below_drew1) | exact HB.out)))); have n1_ := Aside0.mk (below_step (by repeat (first | (with_reducible first | exact HB.out | apply below_alloc | apply pw_below_drewN | apply below_drew1) | exact HB.out)) hb); clear HB; have HO153 := n0_; have HB := n1_; clear n0_ n1_; clear hb ho19; have hcv20 := own_string (P := Try.prog) Try.underlying28 Try.underlying5 Try.underlying9 (Kd.own_of_R HO153.out)))
        all_goals go_ret
        all_goals first | (exact ⟨by first | rfl | (simp [errW_none, errW_some] <;> rfl) | (simp [*, errW_none, errW_some] <;> rfl), by repeat (first | (with_reducible first | exact HB.out | apply below_alloc | apply pw_below_drewN | apply below_drew1) | exact HB.out)⟩) | (exfalso; simp_all; done)

/-! ### annuletref12_text: function 27 -/
def annuletref12_text.f (k : Nat) (a0 : ByteArray) : Option (ByteArray) := (annuletref07_Put.f k (a0.size : Int)).bind fun t154 => (if t154.size + 1 ≤ 9223372036854775807 then (if (t154 ++ (⟨#[58]⟩ : ByteArray)).size + a0.size ≤ 9223372036854775807 then (some ((t154 ++ (⟨#[58]⟩ : ByteArray)) ++ a0)) else (none)) else (none))
theorem annuletref12_text.mono : ∀ a0 k, LeO (annuletref12_text.f k a0) (annuletref12_text.f (k + 1) a0) := by
  intro a0 k
  unfold annuletref12_text.f
  repeat' first
      | (with_reducible exact annuletref07_Put.mono _ _)
      | (with_reducible exact LeO.refl _)
      | (with_reducible exact LeO.none _)
      | (with_reducible refine LeO.ite ?_ ?_)
      | (with_reducible refine LeO.bind ?_ (fun _ => ?_))
      | exact annuletref07_Put.mono _ _
      | exact LeO.none _
      | refine LeO.ite ?_ ?_
      | refine LeO.bind ?_ (fun _ => ?_)
set_option maxHeartbeats 3000000 in
set_option maxRecDepth 100000 in
theorem annuletref12_text.calls (k : Nat) (a0 : ByteArray) (r : ByteArray) (w : World) (h : annuletref12_text.f k a0 = some r) :
    Calls Try.prog 27 #[.string a0] w fun e w' => e = .returned (.string r) ∧ Below w.heap.size w w' := by
  have HB := Aside0.mk (Below.refl w.heap.size w)
  have H : ((annuletref07_Put.f k (a0.size : Int)).bind fun t154 => (if t154.size + 1 ≤ 9223372036854775807 then (if (t154 ++ (⟨#[58]⟩ : ByteArray)).size + a0.size ≤ 9223372036854775807 then (some ((t154 ++ (⟨#[58]⟩ : ByteArray)) ++ a0)) else (none)) else (none))) = some r := h
  clear h
  replace H := Option.bind_eq_some_iff.mp H
  obtain ⟨t154, A20, H⟩ := H
  replace H : (if t154.size + 1 ≤ 9223372036854775807 then (if (t154 ++ (⟨#[58]⟩ : ByteArray)).size + a0.size ≤ 9223372036854775807 then (some ((t154 ++ (⟨#[58]⟩ : ByteArray)) ++ a0)) else (none)) else (none)) = some r := H
  have A2 := Aside0.mk A20
  clear A20
  by_cases c3 : t154.size + 1 ≤ 9223372036854775807
  · rw [if_pos c3] at H
    have c3b0 := eq_true c3
    have c3b1 : decide (t154.size + 1 ≤ 9223372036854775807) = true := decide_eq_true c3
    try have c3b2 : (9223372036854775807 < t154.size + 1) = False := eq_false (Nat.not_lt.2 c3)
    by_cases c4 : (t154 ++ (⟨#[58]⟩ : ByteArray)).size + a0.size ≤ 9223372036854775807
    · rw [if_pos c4] at H
      have c4b0 := eq_true c4
      have c4b1 : decide ((t154 ++ (⟨#[58]⟩ : ByteArray)).size + a0.size ≤ 9223372036854775807) = true := decide_eq_true c4
      try have c4b2 : (9223372036854775807 < (t154 ++ (⟨#[58]⟩ : ByteArray)).size + a0.size) = False := eq_false (Nat.not_lt.2 c4)
      obtain rfl := Option.some.inj H
      go_enter Try.func27, Try.ntmps27
      go_wp2_with (first | ((with_reducible refine gate_callee (f := 26) rfl ?_); refine goesL_ (some 5) rfl rfl Try.func26 (by kernel_rfl) rfl #[.int .i64 (a0.size : Int)] rfl (by (try simp only [List.map_toArray, List.map_cons, List.map_nil]); first | done | rfl | (simp only [List.length_drop, List.length_take]; rfl)) ?_; (with_reducible refine (annuletref07_Put.calls k (a0.size : Int) t154 _ A2.out).mono ?_); rintro e w5 ⟨rfl, hb⟩; refine ⟨_, rfl, ?_⟩; have n0_ := Aside0.mk (below_step (by repeat (first | (with_reducible first | exact HB.out | apply below_alloc | apply pw_below_drewN | apply below_drew1) | exact HB.out)) hb); clear HB; have HB := n0_; clear n0_; (try clear hb); (try clear hb2); (try clear hk); (try clear hi)))
      all_goals go_ret
      all_goals first | (exact ⟨by first | rfl | (simp [errW_none, errW_some] <;> rfl) | (simp [*, errW_none, errW_some] <;> rfl), by repeat (first | (with_reducible first | exact HB.out | apply below_alloc | apply pw_below_drewN | apply below_drew1) | exact HB.out)⟩) | (exfalso; simp_all; done)
    · rw [if_neg c4] at H
      exact absurd H (by simp)
  · rw [if_neg c3] at H
    exact absurd H (by simp)


/-! ### annuletref12_Bytes: function 18 -/
theorem rcell_lt {W : World} {a : Addr} {x : Value} (h : W.cell? a = some x) : a.block < W.heap.size := by
  rcases Nat.lt_or_ge a.block W.heap.size with h1 | h1
  · exact h1
  · have : W.heap[a.block]? = none := Array.getElem?_eq_none h1
    simp [World.cell?, this] at h
theorem rcell_later {w0 W : World} {a : Addr} {x : Value} (hb : Below w0.heap.size w0 W) (h : w0.cell? a = some x) : W.cell? a = some x := (Below.cell hb (rcell_lt h)).trans h
/-! ### the document's Bytes -/
mutual
def rB.f : Nat → S25 → Option ByteArray
  | 0, _ => none
  | k + 1, T => if T.f0 = 1 then ((annuletref07_Put.f k T.f1).bind fun t => if t.size < 1000 then some (((⟨#[105]⟩ : ByteArray) ++ t) ++ (⟨#[101]⟩ : ByteArray)) else none)
    else if T.f0 = 2 then annuletref12_text.f k T.f2 else if T.f0 = 3 then rBk.f k T (⟨#[108]⟩ : ByteArray) 0 else if T.f0 = 4 then rBk.f k T (⟨#[100]⟩ : ByteArray) 0 else none
def rBk.f : Nat → S25 → ByteArray → Nat → Option ByteArray
  | 0, _, _, _ => none
  | k + 1, T, s, i => if i < T.f4.length then (((if T.f0 = 4 then (if i < T.f3.length then ((annuletref12_text.f k (T.f3.getD i ⟨#[]⟩)).bind fun t => if s.size + t.size < 140737488355328 then some (s ++ t) else none) else none) else some s) : Option ByteArray).bind fun s1 => (rB.f k (T.f4.getD i z25)).bind fun t => if s1.size + t.size < 140737488355328 then rBk.f k T (s1 ++ t) (i + 1) else none)
    else if s.size + 1 < 140737488355328 then some (s ++ (⟨#[101]⟩ : ByteArray)) else none
end
def RbyC (k : Nat) : Prop := ∀ (T : S25) (A3 A4 : Option Addr) (c3 c4 : Nat) (r : ByteArray) (w : World), Kd.string.C w A3 T.f3.length T.f3 → k25.C w A4 T.f4.length T.f4 → rB.f k T = some r →
  Calls Try.prog 18 #[.agg #[.int .i64 T.f0, .int .i64 T.f1, .string T.f2, .slice A3 T.f3.length c3, .slice A4 T.f4.length c4]] w fun e w' => e = .returned (.string r) ∧ Below w.heap.size w w'
set_option maxHeartbeats 4000000 in
set_option maxRecDepth 100000 in
theorem rB_int (k : Nat) (T : S25) (A3 A4 : Option Addr) (c3 c4 : Nat) (r : ByteArray) (w : World) (hc3 : Kd.string.C w A3 T.f3.length T.f3) (hc4 : k25.C w A4 T.f4.length T.f4) (h1 : T.f0 = 1) (t : ByteArray) (h : annuletref07_Put.f k T.f1 = some t) (hl : t.size < 1000) (hr : r = ((⟨#[105]⟩ : ByteArray) ++ t) ++ (⟨#[101]⟩ : ByteArray)) :
    Calls Try.prog 18 #[.agg #[.int .i64 T.f0, .int .i64 T.f1, .string T.f2, .slice A3 T.f3.length c3, .slice A4 T.f4.length c4]] w fun e w' => e = .returned (.string r) ∧ Below w.heap.size w w' := by
  have hu25 := Try.underlying25
  have HB0 := Aside0.mk (below_alloc (Below.refl w.heap.size w) (.cells #[.int .i64 T.f0, .int .i64 T.f1, .string T.f2, .slice A3 T.f3.length c3, .slice A4 T.f4.length c4] 25))
  have HN0 := Aside0.mk (blk_new w (.cells #[.int .i64 T.f0, .int .i64 T.f1, .string T.f2, .slice A3 T.f3.length c3, .slice A4 T.f4.length c4] 25))
  have HC3 := Aside0.mk hc3
  have HC4 := Aside0.mk hc4
  have HH := Aside0.mk h
  have HRR := Aside0.mk hr
  have d1 : (T.f0 == 1) = true := beq_iff_eq.mpr h1
  have s1 : (9223372036854775807 < 1 + t.size) = False := eq_false (by omega)
  have s2 : (9223372036854775807 < 1 + t.size + 1) = False := eq_false (by omega)
  clear h h1 hl hr hc3 hc4
  go_enter Try.func18, Try.ntmps18
  go_wp2_with (go_at_call 26; (with_reducible refine (annuletref07_Put.calls k T.f1 t _ HH.out).mono ?_); rintro e w1 ⟨rfl, hb⟩; have HB1 := Aside0.mk (below_step HB0.out hb); clear hb)
  go_ret
  exact ⟨by rw [HRR.out]; rfl, HB1.out⟩
set_option maxHeartbeats 4000000 in
set_option maxRecDepth 100000 in
theorem rB_text (k : Nat) (T : S25) (A3 A4 : Option Addr) (c3 c4 : Nat) (r : ByteArray) (w : World) (hc3 : Kd.string.C w A3 T.f3.length T.f3) (hc4 : k25.C w A4 T.f4.length T.f4) (h2 : T.f0 = 2) (h : annuletref12_text.f k T.f2 = some r) :
    Calls Try.prog 18 #[.agg #[.int .i64 T.f0, .int .i64 T.f1, .string T.f2, .slice A3 T.f3.length c3, .slice A4 T.f4.length c4]] w fun e w' => e = .returned (.string r) ∧ Below w.heap.size w w' := by
  have hu25 := Try.underlying25
  have HB0 := Aside0.mk (below_alloc (Below.refl w.heap.size w) (.cells #[.int .i64 T.f0, .int .i64 T.f1, .string T.f2, .slice A3 T.f3.length c3, .slice A4 T.f4.length c4] 25))
  have HN0 := Aside0.mk (blk_new w (.cells #[.int .i64 T.f0, .int .i64 T.f1, .string T.f2, .slice A3 T.f3.length c3, .slice A4 T.f4.length c4] 25))
  have HC3 := Aside0.mk hc3
  have HC4 := Aside0.mk hc4
  have HH := Aside0.mk h
  have d1 : (T.f0 == 1) = false := beq_eq_false_iff_ne.mpr (by omega)
  have d2 : (T.f0 == 2) = true := beq_iff_eq.mpr h2
  clear h h2 hc3 hc4
  go_enter Try.func18, Try.ntmps18
  go_wp2_with (go_at_call 27; (with_reducible refine (annuletref12_text.calls k T.f2 r _ HH.out).mono ?_); rintro e w1 ⟨rfl, hb⟩; have HB1 := Aside0.mk (below_step HB0.out hb); clear hb)
  go_ret
  exact ⟨rfl, HB1.out⟩
set_option maxHeartbeats 4000000 in
set_option maxRecDepth 100000 in
theorem rB_list3 (k : Nat) (hR : ∀ j, j < k → RbyC j) (T : S25) (A3 A4 : Option Addr) (c3 c4 : Nat) (r : ByteArray) (w : World) (hc3 : Kd.string.C w A3 T.f3.length T.f3) (hc4 : k25.C w A4 T.f4.length T.f4) (h3 : T.f0 = 3) (h : rBk.f k T (⟨#[108]⟩ : ByteArray) 0 = some r) :
    Calls Try.prog 18 #[.agg #[.int .i64 T.f0, .int .i64 T.f1, .string T.f2, .slice A3 T.f3.length c3, .slice A4 T.f4.length c4]] w fun e w' => e = .returned (.string r) ∧ Below w.heap.size w w' := by
  have hu25 := Try.underlying25
  have HB0 := Aside0.mk (below_alloc (Below.refl w.heap.size w) (.cells #[.int .i64 T.f0, .int .i64 T.f1, .string T.f2, .slice A3 T.f3.length c3, .slice A4 T.f4.length c4] 25))
  have HN0 := Aside0.mk (blk_new w (.cells #[.int .i64 T.f0, .int .i64 T.f1, .string T.f2, .slice A3 T.f3.length c3, .slice A4 T.f4.length c4] 25))
  have HC3 := Aside0.mk hc3
  have HC4 := Aside0.mk hc4
  have HH := Aside0.mk h
  have HRC := Aside0.mk hR
  have d1 : (T.f0 == 1) = false := beq_eq_false_iff_ne.mpr (by omega)
  have d2 : (T.f0 == 2) = false := beq_eq_false_iff_ne.mpr (by omega)
  have d4 : (T.f0 == 4) = false := beq_eq_false_iff_ne.mpr (by omega)
  have H4 := Aside0.mk h3
  clear h h3 hc3 hc4 hR
  have bmax : T.f4.length ≤ 9223372036854775807 := Kd.C_max HC4.out
  go_enter Try.func18, Try.ntmps18
  go_upto_region 5 with (fail)
  generalize w.alloc (.cells #[.int .i64 T.f0, .int .i64 T.f1, .string T.f2, .slice A3 T.f3.length c3, .slice A4 T.f4.length c4] 25) = wE at HN0 HB0 ⊢
  have hz0 : wE.cell? ⟨w.heap.size, 0, none⟩ = some _ := (blk_cell HN0.out 0).trans rfl
  have hz1 : wE.cell? ⟨w.heap.size, 1, none⟩ = some _ := (blk_cell HN0.out 1).trans rfl
  have hz2 : wE.cell? ⟨w.heap.size, 2, none⟩ = some _ := (blk_cell HN0.out 2).trans rfl
  have hz3 : wE.cell? ⟨w.heap.size, 3, none⟩ = some _ := (blk_cell HN0.out 3).trans rfl
  have hz4 : wE.cell? ⟨w.heap.size, 4, none⟩ = some _ := (blk_cell HN0.out 4).trans rfl
  go_wp2
  go_loopg [3, 4] k (fun gg v3 v4 wr => ∃ (i : Nat) (s : ByteArray) (kk : Nat), v3 = .string s ∧ v4 = .int .i64 (i : Int) ∧ kk ≤ gg ∧ kk ≤ k ∧ i ≤ T.f4.length ∧ Aside0 (rBk.f kk T s i = some r) ∧ Aside0 (Below w.heap.size w wr) ∧ Aside0 (wr.heap[w.heap.size]? = some (.cells #[.int .i64 T.f0, .int .i64 T.f1, .string T.f2, .slice A3 T.f3.length c3, .slice A4 T.f4.length c4] 25 (0, 0))))
  case atStart => exact ⟨0, _, k, rfl, rfl, Nat.le_refl _, Nat.le_refl _, Nat.zero_le _, HH, HB0, HN0⟩
  case round =>
    obtain ⟨i, s, kk, rfl, rfl, hkg, hkk, hil, HK, HBi, HNi⟩ := hrel
    cases kk with
    | zero => exact absurd HK.out (by simp [rBk.f])
    | succ m =>
      have hB := HK.out
      rw [rBk.f] at hB
      have HKK := Aside0.mk hkk
      have HKG := Aside0.mk hkg
      clear HK hkk hkg
      have hz0 : wr.cell? ⟨w.heap.size, 0, none⟩ = some _ := (blk_cell HNi.out 0).trans rfl
      have hz1 : wr.cell? ⟨w.heap.size, 1, none⟩ = some _ := (blk_cell HNi.out 1).trans rfl
      have hz2 : wr.cell? ⟨w.heap.size, 2, none⟩ = some _ := (blk_cell HNi.out 2).trans rfl
      have hz3 : wr.cell? ⟨w.heap.size, 3, none⟩ = some _ := (blk_cell HNi.out 3).trans rfl
      have hz4 : wr.cell? ⟨w.heap.size, 4, none⟩ = some _ := (blk_cell HNi.out 4).trans rfl
      by_cases hlt : i < T.f4.length
      · rw [if_pos hlt] at hB
        have hltz : (i : Int) < (T.f4.length : Int) := by omega
        have hi0 : (0 : Int) ≤ (i : Int) := by omega
        obtain ⟨ad, X3, d3, X4, d4, e1, x0, x1, x2, x3, x4, _, xc3, _, xc4⟩ := at_T25 HC4.out (i : Int) hi0 hltz
        cases e1
        have hXX : rd_T25 T.f4 (i : Int) = T.f4.getD i z25 := rfl
        obtain ⟨X, hX⟩ : ∃ X, rd_T25 T.f4 (i : Int) = X := ⟨_, rfl⟩
        rw [hX] at x0 x1 x2 x3 x4 xc3 xc4
        rw [← hXX, hX] at hB
        simp only [Int.toNat_natCast] at x0 x1 x2 x3 x4
        have y0 := rcell_later HBi.out x0
        have y1 := rcell_later HBi.out x1
        have y2 := rcell_later HBi.out x2
        have y3 := rcell_later HBi.out x3
        have y4 := rcell_later HBi.out x4
        have XC3 := Aside0.mk xc3
        have XC4 := Aside0.mk xc4
        have XY := Aside0.mk (show ∀ W, Below w.heap.size w W → _ from fun W hW => And.intro (rcell_later hW x0) (And.intro (rcell_later hW x1) (And.intro (rcell_later hW x2) (And.intro (rcell_later hW x3) (rcell_later hW x4)))))
        clear x0 x1 x2 x3 x4 xc3 xc4 hXX hX
        have hw1 : wrap64 ((i : Int) + 1) = (i : Int) + 1 := by unfold wrap64; omega
        rw [if_neg (by have := H4.out; omega), Option.bind_some] at hB
        obtain ⟨u, hu, hB⟩ := Option.bind_eq_some_iff.mp hB
        by_cases hs2 : s.size + u.size < 140737488355328
        case neg => rw [if_neg hs2] at hB; cases hB
        rw [if_pos hs2] at hB
        have s2 : (9223372036854775807 < s.size + u.size) = False := eq_false (by omega)
        have HT2 := Aside0.mk hu
        have HB2 := Aside0.mk hB
        have hRm := HRC.out m (by have := HKK.out; omega)
        unfold RbyC at hRm
        have HRM := Aside0.mk hRm
        clear hB hu hRm hs2
        go_wp2_with (go_at_call 18; (with_reducible refine (HRM.out X X3 X4 d3 d4 u _ (Kd.C_below XC3.out HBi.out) (Kd.C_below XC4.out HBi.out) HT2.out).mono ?_); rintro e w5 ⟨rfl, hb⟩; have HB5 := Aside0.mk (below_step HBi.out hb); have HN5 := Aside0.mk (blk_below HNi.out hb); clear hb)
        go_roundg m
        case measure => have := HKG.out; omega
        case rel => exact ⟨i + 1, _, m, rfl, by go_num, Nat.le_refl _, by have := HKK.out; omega, hlt, HB2, HB5, HN5⟩
      · rw [if_neg hlt] at hB
        have hltz : ¬ (i : Int) < (T.f4.length : Int) := by omega
        by_cases hl9 : s.size + 1 < 140737488355328
        case neg => rw [if_neg hl9] at hB; cases hB
        rw [if_pos hl9] at hB
        have HR := Aside0.mk (Option.some.inj hB)
        have s9 : (9223372036854775807 < s.size + 1) = False := eq_false (by omega)
        clear hB hl9 hlt
        go_wp2
        go_ret
        exact ⟨by rw [← HR.out]; rfl, HBi.out⟩
set_option maxHeartbeats 4000000 in
set_option maxRecDepth 100000 in
theorem rB_list4 (k : Nat) (hR : ∀ j, j < k → RbyC j) (T : S25) (A3 A4 : Option Addr) (c3 c4 : Nat) (r : ByteArray) (w : World) (hc3 : Kd.string.C w A3 T.f3.length T.f3) (hc4 : k25.C w A4 T.f4.length T.f4) (h3 : T.f0 = 4) (h : rBk.f k T (⟨#[100]⟩ : ByteArray) 0 = some r) :
    Calls Try.prog 18 #[.agg #[.int .i64 T.f0, .int .i64 T.f1, .string T.f2, .slice A3 T.f3.length c3, .slice A4 T.f4.length c4]] w fun e w' => e = .returned (.string r) ∧ Below w.heap.size w w' := by
  have hu25 := Try.underlying25
  have HB0 := Aside0.mk (below_alloc (Below.refl w.heap.size w) (.cells #[.int .i64 T.f0, .int .i64 T.f1, .string T.f2, .slice A3 T.f3.length c3, .slice A4 T.f4.length c4] 25))
  have HN0 := Aside0.mk (blk_new w (.cells #[.int .i64 T.f0, .int .i64 T.f1, .string T.f2, .slice A3 T.f3.length c3, .slice A4 T.f4.length c4] 25))
  have HC3 := Aside0.mk hc3
  have HC4 := Aside0.mk hc4
  have HH := Aside0.mk h
  have HRC := Aside0.mk hR
  have d1 : (T.f0 == 1) = false := beq_eq_false_iff_ne.mpr (by omega)
  have d2 : (T.f0 == 2) = false := beq_eq_false_iff_ne.mpr (by omega)
  have d4 : (T.f0 == 4) = true := beq_iff_eq.mpr h3
  have H4 := Aside0.mk h3
  clear h h3 hc3 hc4 hR
  have bmax : T.f4.length ≤ 9223372036854775807 := Kd.C_max HC4.out
  go_enter Try.func18, Try.ntmps18
  go_upto_region 5 with (fail)
  generalize w.alloc (.cells #[.int .i64 T.f0, .int .i64 T.f1, .string T.f2, .slice A3 T.f3.length c3, .slice A4 T.f4.length c4] 25) = wE at HN0 HB0 ⊢
  have hz0 : wE.cell? ⟨w.heap.size, 0, none⟩ = some _ := (blk_cell HN0.out 0).trans rfl
  have hz1 : wE.cell? ⟨w.heap.size, 1, none⟩ = some _ := (blk_cell HN0.out 1).trans rfl
  have hz2 : wE.cell? ⟨w.heap.size, 2, none⟩ = some _ := (blk_cell HN0.out 2).trans rfl
  have hz3 : wE.cell? ⟨w.heap.size, 3, none⟩ = some _ := (blk_cell HN0.out 3).trans rfl
  have hz4 : wE.cell? ⟨w.heap.size, 4, none⟩ = some _ := (blk_cell HN0.out 4).trans rfl
  go_wp2
  go_loopg [3, 4] k (fun gg v3 v4 wr => ∃ (i : Nat) (s : ByteArray) (kk : Nat), v3 = .string s ∧ v4 = .int .i64 (i : Int) ∧ kk ≤ gg ∧ kk ≤ k ∧ i ≤ T.f4.length ∧ Aside0 (rBk.f kk T s i = some r) ∧ Aside0 (Below w.heap.size w wr) ∧ Aside0 (wr.heap[w.heap.size]? = some (.cells #[.int .i64 T.f0, .int .i64 T.f1, .string T.f2, .slice A3 T.f3.length c3, .slice A4 T.f4.length c4] 25 (0, 0))))
  case atStart => exact ⟨0, _, k, rfl, rfl, Nat.le_refl _, Nat.le_refl _, Nat.zero_le _, HH, HB0, HN0⟩
  case round =>
    obtain ⟨i, s, kk, rfl, rfl, hkg, hkk, hil, HK, HBi, HNi⟩ := hrel
    cases kk with
    | zero => exact absurd HK.out (by simp [rBk.f])
    | succ m =>
      have hB := HK.out
      rw [rBk.f] at hB
      have HKK := Aside0.mk hkk
      have HKG := Aside0.mk hkg
      clear HK hkk hkg
      have hz0 : wr.cell? ⟨w.heap.size, 0, none⟩ = some _ := (blk_cell HNi.out 0).trans rfl
      have hz1 : wr.cell? ⟨w.heap.size, 1, none⟩ = some _ := (blk_cell HNi.out 1).trans rfl
      have hz2 : wr.cell? ⟨w.heap.size, 2, none⟩ = some _ := (blk_cell HNi.out 2).trans rfl
      have hz3 : wr.cell? ⟨w.heap.size, 3, none⟩ = some _ := (blk_cell HNi.out 3).trans rfl
      have hz4 : wr.cell? ⟨w.heap.size, 4, none⟩ = some _ := (blk_cell HNi.out 4).trans rfl
      by_cases hlt : i < T.f4.length
      · rw [if_pos hlt] at hB
        have hltz : (i : Int) < (T.f4.length : Int) := by omega
        have hi0 : (0 : Int) ≤ (i : Int) := by omega
        obtain ⟨ad, X3, d3, X4, d4, e1, x0, x1, x2, x3, x4, _, xc3, _, xc4⟩ := at_T25 HC4.out (i : Int) hi0 hltz
        cases e1
        have hXX : rd_T25 T.f4 (i : Int) = T.f4.getD i z25 := rfl
        obtain ⟨X, hX⟩ : ∃ X, rd_T25 T.f4 (i : Int) = X := ⟨_, rfl⟩
        rw [hX] at x0 x1 x2 x3 x4 xc3 xc4
        rw [← hXX, hX] at hB
        simp only [Int.toNat_natCast] at x0 x1 x2 x3 x4
        have y0 := rcell_later HBi.out x0
        have y1 := rcell_later HBi.out x1
        have y2 := rcell_later HBi.out x2
        have y3 := rcell_later HBi.out x3
        have y4 := rcell_later HBi.out x4
        have XC3 := Aside0.mk xc3
        have XC4 := Aside0.mk xc4
        have XY := Aside0.mk (show ∀ W, Below w.heap.size w W → _ from fun W hW => And.intro (rcell_later hW x0) (And.intro (rcell_later hW x1) (And.intro (rcell_later hW x2) (And.intro (rcell_later hW x3) (rcell_later hW x4)))))
        clear x0 x1 x2 x3 x4 xc3 xc4 hXX hX
        have hw1 : wrap64 ((i : Int) + 1) = (i : Int) + 1 := by unfold wrap64; omega
        rw [if_pos H4.out] at hB
        obtain ⟨s1, hl1, hB⟩ := Option.bind_eq_some_iff.mp hB
        by_cases hk3 : i < T.f3.length
        case neg => rw [if_neg hk3] at hl1; cases hl1
        rw [if_pos hk3] at hl1
        have hk3z : (i : Int) < (T.f3.length : Int) := by omega
        have hrd : ReadsOf Value.string (⟨#[]⟩ : ByteArray) w A3 T.f3.length T.f3 := Kd.reads_of_C (h1 := fun _ => rfl) HC3.out
        obtain ⟨ad3, e3, hk⟩ := hrd.2.2 (by omega)
        cases e3
        have hkc := hk i hk3
        obtain ⟨key, hkey⟩ : ∃ s, T.f3.getD i (⟨#[]⟩ : ByteArray) = s := ⟨_, rfl⟩
        rw [hkey] at hkc hl1
        obtain ⟨t, ht, hl1⟩ := Option.bind_eq_some_iff.mp hl1
        by_cases hs : s.size + t.size < 140737488355328
        case neg => rw [if_neg hs] at hl1; cases hl1
        rw [if_pos hs] at hl1
        obtain rfl := Option.some.inj hl1
        have s1 : (9223372036854775807 < s.size + t.size) = False := eq_false (by omega)
        have HT1 := Aside0.mk ht
        have hkx := rcell_later HBi.out hkc
        clear hl1 hrd hk hk3 hkey ht hkc
        obtain ⟨u, hu, hB⟩ := Option.bind_eq_some_iff.mp hB
        by_cases hs2 : (s ++ t).size + u.size < 140737488355328
        case neg => rw [if_neg hs2] at hB; cases hB
        rw [if_pos hs2] at hB
        have s2 : (9223372036854775807 < (s ++ t).size + u.size) = False := eq_false (by omega)
        have s3 : (9223372036854775807 < s.size + t.size + u.size) = False := eq_false (by rw [ByteArray.size_append] at hs2; omega)
        have HT2 := Aside0.mk hu
        have HB2 := Aside0.mk hB
        have hRm := HRC.out m (by have := HKK.out; omega)
        unfold RbyC at hRm
        have HRM := Aside0.mk hRm
        clear hB hu hRm hs2 hs
        go_wp2_with (first | (go_at_call 27; (with_reducible refine (annuletref12_text.calls m _ t _ HT1.out).mono ?_); rintro e w4 ⟨rfl, hb⟩; have HB4 := Aside0.mk (below_step HBi.out hb); have HN4 := Aside0.mk (blk_below HNi.out hb); obtain ⟨q0, q1, q2, q3, q4⟩ := XY.out w4 HB4.out; have hw0 : w4.cell? ⟨w.heap.size, 0, none⟩ = some _ := (blk_cell HN4.out 0).trans rfl; have hw1 : w4.cell? ⟨w.heap.size, 1, none⟩ = some _ := (blk_cell HN4.out 1).trans rfl; have hw2 : w4.cell? ⟨w.heap.size, 2, none⟩ = some _ := (blk_cell HN4.out 2).trans rfl; have hw3 : w4.cell? ⟨w.heap.size, 3, none⟩ = some _ := (blk_cell HN4.out 3).trans rfl; have hw4 : w4.cell? ⟨w.heap.size, 4, none⟩ = some _ := (blk_cell HN4.out 4).trans rfl; clear hb) | (go_at_call 18; (with_reducible refine (HRM.out X X3 X4 d3 d4 u _ (Kd.C_below XC3.out HB4.out) (Kd.C_below XC4.out HB4.out) HT2.out).mono ?_); rintro e w5 ⟨rfl, hb⟩; have HB5 := Aside0.mk (below_step HB4.out hb); have HN5 := Aside0.mk (blk_below HN4.out hb); clear hb))
        go_roundg m
        case measure => have := HKG.out; omega
        case rel => exact ⟨i + 1, _, m, rfl, by go_num, Nat.le_refl _, by have := HKK.out; omega, hlt, HB2, HB5, HN5⟩
      · rw [if_neg hlt] at hB
        have hltz : ¬ (i : Int) < (T.f4.length : Int) := by omega
        by_cases hl9 : s.size + 1 < 140737488355328
        case neg => rw [if_neg hl9] at hB; cases hB
        rw [if_pos hl9] at hB
        have HR := Aside0.mk (Option.some.inj hB)
        have s9 : (9223372036854775807 < s.size + 1) = False := eq_false (by omega)
        clear hB hl9 hlt
        go_wp2
        go_ret
        exact ⟨by rw [← HR.out]; rfl, HBi.out⟩
theorem rB_of (k : Nat) (hR : ∀ j, j < k → RbyC j) : RbyC k := by
  intro T A3 A4 c3 c4 r w hc3 hc4 h
  cases k with
  | zero => exact absurd h (by simp [rB.f])
  | succ k =>
    have hR' : ∀ j, j < k → RbyC j := fun j hj => hR j (by omega)
    rw [rB.f] at h
    by_cases h1 : T.f0 = 1
    · rw [if_pos h1] at h
      obtain ⟨t, ht, h⟩ := Option.bind_eq_some_iff.mp h
      by_cases hl : t.size < 1000
      · rw [if_pos hl] at h
        exact rB_int k T A3 A4 c3 c4 r w hc3 hc4 h1 t ht hl (Option.some.inj h).symm
      · rw [if_neg hl] at h; cases h
    rw [if_neg h1] at h
    by_cases h2 : T.f0 = 2
    · rw [if_pos h2] at h
      exact rB_text k T A3 A4 c3 c4 r w hc3 hc4 h2 h
    rw [if_neg h2] at h
    by_cases h3 : T.f0 = 3
    · rw [if_pos h3] at h
      exact rB_list3 k hR' T A3 A4 c3 c4 r w hc3 hc4 h3 h
    rw [if_neg h3] at h
    by_cases h4 : T.f0 = 4
    · rw [if_pos h4] at h
      exact rB_list4 k hR' T A3 A4 c3 c4 r w hc3 hc4 h4 h
    · rw [if_neg h4] at h; cases h
theorem rBC_all (k : Nat) : RbyC k := by
  have key : ∀ n j, j < n → RbyC j := by
    intro n
    induction n with
    | zero => intro j hj; omega
    | succ n ih => intro j hj; exact rB_of j (fun i hi => ih i (by omega))
  exact key (k + 1) k (by omega)
theorem rB.calls (k : Nat) (T : S25) (A3 A4 : Option Addr) (c3 c4 : Nat) (r : ByteArray) (w : World) (hc3 : Kd.string.C w A3 T.f3.length T.f3) (hc4 : k25.C w A4 T.f4.length T.f4) (h : rB.f k T = some r) :
    Calls Try.prog 18 #[.agg #[.int .i64 T.f0, .int .i64 T.f1, .string T.f2, .slice A3 T.f3.length c3, .slice A4 T.f4.length c4]] w fun e w' => e = .returned (.string r) ∧ Below w.heap.size w w' := rBC_all k T A3 A4 c3 c4 r w hc3 hc4 h


/-! ### annuletref12_Print: function 10 -/
/-! ### the document's Print -/
def ref12_Print.f (k : Nat) (T : S25) : Option (List Int × Int) := (annuletref11_Right.f k T.f0 T.f1 T.f2 T.f3 T.f4).bind fun e => if e = 0 then (rB.f k T).bind fun s => if s.size < 140737488355328 then some (bytesOf s, 0) else none else some ([], e)
set_option maxHeartbeats 2000000 in
set_option maxRecDepth 100000 in
theorem ref12_Print.calls (k : Nat) (T : S25) (A3 : Option Addr) (c3 : Nat) (A4 : Option Addr) (c4 : Nat) (r : List Int) (e0 : Int) (w : World) (hr3 : Kd.string.C w A3 T.f3.length T.f3) (hc3 : T.f3.length ≤ c3) (hr4 : k25.C w A4 T.f4.length T.f4) (hc4 : T.f4.length ≤ c4) (h : ref12_Print.f k T = some (r, e0)) :
    Calls Try.prog 10 #[.agg #[.int .i64 T.f0, .int .i64 T.f1, .string T.f2, .slice A3 T.f3.length c3, .slice A4 T.f4.length c4]] w fun e w' => ∃ A c, e = .returned (.tuple #[.slice A r.length c, .int .i64 e0]) ∧ (Kd.int .u8).C w' A r.length r ∧ Below w.heap.size w w' := by
  have hu25 := Try.underlying25
  have HB0 := Aside0.mk (below_alloc (Below.refl w.heap.size w) (.cells #[.int .i64 T.f0, .int .i64 T.f1, .string T.f2, .slice A3 T.f3.length c3, .slice A4 T.f4.length c4] 25))
  have HN0 := Aside0.mk (blk_new w (.cells #[.int .i64 T.f0, .int .i64 T.f1, .string T.f2, .slice A3 T.f3.length c3, .slice A4 T.f4.length c4] 25))
  have HR3 := Aside0.mk hr3
  have HC3 := Aside0.mk hc3
  have HR4 := Aside0.mk hr4
  have HC4 := Aside0.mk hc4
  unfold ref12_Print.f at h
  obtain ⟨e1, h1, h⟩ := Option.bind_eq_some_iff.mp h
  have H1 := Aside0.mk h1
  by_cases h2 : e1 = 0
  · rw [if_pos h2] at h
    obtain ⟨s, hs, h⟩ := Option.bind_eq_some_iff.mp h
    have HS := Aside0.mk hs
    by_cases hl : s.size < 140737488355328
    case neg => rw [if_neg hl] at h; cases h
    rw [if_pos hl] at h
    obtain ⟨h7, h8⟩ : bytesOf s = r ∧ (0 : Int) = e0 := by simpa using h
    subst h7 h8
    have HL := Aside0.mk hl
    have hlen : (bytesOf s).length = s.size := bytesOf_length s
    rw [hlen]
    have HLN := Aside0.mk hlen
    have d1 : (e1 != 0) = false := bne_eq_false_iff_eq.mpr h2
    have hcv := fun W => Lib.run_convert_string_bytes (P := Try.prog) W 9 28 5 s Try.underlying9 Try.underlying28 Try.underlying5
    clear h h1 h2 hs hr3 hc3 hr4 hc4 hl hlen
    go_enter Try.func10, Try.ntmps10
    go_wp2_with (first | (go_at_call 17; (with_reducible refine (annuletref11_Right.calls k T.f0 T.f1 T.f2 A3 c3 T.f3 A4 c4 T.f4 e1 _ (Kd.C_below HR3.out HB0.out) HC3.out (Kd.C_below HR4.out HB0.out) HC4.out H1.out).mono ?_); rintro e w1 ⟨rfl, hb⟩; have HB1 := Aside0.mk (below_step HB0.out hb); have HN1 := Aside0.mk (blk_below HN0.out hb); have hz0 : w1.cell? ⟨w.heap.size, 0, none⟩ = some _ := (blk_cell HN1.out 0).trans rfl; have hz1 : w1.cell? ⟨w.heap.size, 1, none⟩ = some _ := (blk_cell HN1.out 1).trans rfl; have hz2 : w1.cell? ⟨w.heap.size, 2, none⟩ = some _ := (blk_cell HN1.out 2).trans rfl; have hz3 : w1.cell? ⟨w.heap.size, 3, none⟩ = some _ := (blk_cell HN1.out 3).trans rfl; have hz4 : w1.cell? ⟨w.heap.size, 4, none⟩ = some _ := (blk_cell HN1.out 4).trans rfl; clear hb) | (go_at_call 18; (with_reducible refine (rB.calls k T A3 A4 c3 c4 s _ (Kd.C_below HR3.out HB1.out) (Kd.C_below HR4.out HB1.out) HS.out).mono ?_); rintro e w2 ⟨rfl, hb⟩; have HB2 := Aside0.mk (below_step HB1.out hb); clear hb))
    go_ret2
    have hC := C_bytesWorld w2 5 s (by have := HL.out; omega)
    rw [HLN.out] at hC
    exact ⟨_, _, rfl, hC, below_step HB2.out (below_bytesWorld _ _ _)⟩
  · rw [if_neg h2] at h
    obtain ⟨h7, h8⟩ : [] = r ∧ e1 = e0 := by simpa using h
    subst h7 h8
    have d1 : (e1 != 0) = true := bne_iff_ne.mpr h2
    clear h h1 h2 hr3 hc3 hr4 hc4
    go_enter Try.func10, Try.ntmps10
    go_wp2_with (go_at_call 17; (with_reducible refine (annuletref11_Right.calls k T.f0 T.f1 T.f2 A3 c3 T.f3 A4 c4 T.f4 e1 _ (Kd.C_below HR3.out HB0.out) HC3.out (Kd.C_below HR4.out HB0.out) HC4.out H1.out).mono ?_); rintro e w1 ⟨rfl, hb⟩; have HB1 := Aside0.mk (below_step HB0.out hb); clear hb)
    go_ret2
    exact ⟨_, _, rfl, Kd.C_nil _ _, HB1.out⟩


/-! ### annuletlaw12_BenPrints: function 3 -/
/-! ### trees of whole numbers and texts as they are handed in -/
inductive wfT25 : S25 → Prop
  | mk (x : S25) (h : (Lit.int .i64 x.f0).wf = true ∧ (Lit.int .i64 x.f1).wf = true ∧ x.f2.size ≤ maxLen ∧ (x.f3.length ≤ maxLen ∧ ∀ z0 ∈ x.f3, z0.size ≤ maxLen) ∧ x.f4.length ≤ maxLen) (hk : ∀ z, z ∈ x.f4 → wfT25 z) : wfT25 x
theorem wfT25_open {x : S25} (h : wfT25 x) : (Lit.int .i64 x.f0).wf = true ∧ (Lit.int .i64 x.f1).wf = true ∧ x.f2.size ≤ maxLen ∧ (x.f3.length ≤ maxLen ∧ ∀ z0 ∈ x.f3, z0.size ≤ maxLen) ∧ (x.f4.length ≤ maxLen ∧ ∀ z0 ∈ x.f4, wfT25 z0) := by
  obtain ⟨_, ⟨h0, h1, h2, h3, h4⟩, hk⟩ := h
  exact ⟨h0, h1, h2, h3, h4, hk⟩
theorem wfT25_mk {x : S25} (h : (Lit.int .i64 x.f0).wf = true ∧ (Lit.int .i64 x.f1).wf = true ∧ x.f2.size ≤ maxLen ∧ (x.f3.length ≤ maxLen ∧ ∀ z0 ∈ x.f3, z0.size ≤ maxLen) ∧ (x.f4.length ≤ maxLen ∧ ∀ z0 ∈ x.f4, wfT25 z0)) : wfT25 x :=
  ⟨x, ⟨h.1, h.2.1, h.2.2.1, h.2.2.2.1, h.2.2.2.2.1⟩, h.2.2.2.2.2⟩
theorem wfT25_K {w : World} {x : S25} {cs : List Value} (h : (F25 k25).K w x cs) : k25.K w x cs := by
  obtain ⟨_, _, rfl, rfl, ⟨_, _, rfl, rfl, ⟨_, _, rfl, rfl, ⟨_, _, rfl, ⟨A3, c3, rfl, l3, g3⟩, ⟨A4, c4, rfl, l4, g4⟩⟩⟩⟩⟩ := h
  exact k25_mk w x l3 g3 l4 g4
/-! ### the law BenPrints -/
def prints_ok (k : Nat) (T : S25) : Prop := law12_awake.ok k ∧ ((∃ k2, annuletlaw11_Large.f k2 T.f0 T.f1 T.f2 T.f3 T.f4 1 = some true) ∨ ∃ (k2 : Nat) (r : List Int) (e : Int), annuletlaw11_Large.f k2 T.f0 T.f1 T.f2 T.f3 T.f4 1 = some false ∧ ben_Print.f k2 T = some (r, e) ∧ ref12_Print.f k2 T = some (r, e))
open Classical in
noncomputable def annuletlaw12_BenPrints.f (k : Nat) (a0_0 a0_1 : Int) (a0_2 : ByteArray) (l0_3 : List ByteArray) (l0_4 : List S25) : Option Bool := if prints_ok k ⟨a0_0, a0_1, a0_2, l0_3, l0_4⟩ then some true else none
set_option maxHeartbeats 4000000 in
set_option maxRecDepth 100000 in
theorem prints_calls (k : Nat) (T : S25) (A3 : Option Addr) (c3 : Nat) (A4 : Option Addr) (c4 : Nat) (w : World) (hr3 : Kd.string.C w A3 T.f3.length T.f3) (hc3 : T.f3.length ≤ c3) (hr4 : k25.C w A4 T.f4.length T.f4) (hc4 : T.f4.length ≤ c4) (hc : prints_ok k T) :
    Calls Try.prog 3 #[.agg #[.int .i64 T.f0, .int .i64 T.f1, .string T.f2, .slice A3 T.f3.length c3, .slice A4 T.f4.length c4]] w fun e w' => e = .returned (.bool true) ∧ Below w.heap.size w w' := by
  have hu25 := Try.underlying25
  have HB0 := Aside0.mk (below_alloc (Below.refl w.heap.size w) (.cells #[.int .i64 T.f0, .int .i64 T.f1, .string T.f2, .slice A3 T.f3.length c3, .slice A4 T.f4.length c4] 25))
  have HN0 := Aside0.mk (blk_new w (.cells #[.int .i64 T.f0, .int .i64 T.f1, .string T.f2, .slice A3 T.f3.length c3, .slice A4 T.f4.length c4] 25))
  have HR3 := Aside0.mk hr3
  have HC3 := Aside0.mk hc3
  have HR4 := Aside0.mk hr4
  have HC4 := Aside0.mk hc4
  have HAW := Aside0.mk hc.1
  obtain ⟨_, hc⟩ := hc
  rcases hc with ⟨k2, hL⟩ | ⟨k2, r, e2, hL, hP, hQ⟩
  · have HLA := Aside0.mk hL
    clear hL hr3 hc3 hr4 hc4
    go_enter Try.func3, Try.ntmps3
    go_wp2_with (first | (go_at_call 7; (with_reducible refine (annuletlaw11_Large.calls k2 T.f0 T.f1 T.f2 A3 c3 T.f3 A4 c4 T.f4 1 true _ (Kd.C_below HR3.out HB0.out) HC3.out (Kd.C_below HR4.out HB0.out) HC4.out HLA.out).mono ?_); rintro e w1 ⟨rfl, hb⟩; have HB1 := Aside0.mk (below_step HB0.out hb); clear hb) | (go_at_call 8; (with_reducible refine (law12_awake.calls k _ HAW.out).mono ?_); rintro e w9 ⟨rfl, hb⟩; have HB9 := Aside0.mk (below_step HB1.out hb); clear hb))
    go_ret
    exact ⟨rfl, HB9.out⟩
  have HLA := Aside0.mk hL
  have HP := Aside0.mk hP
  have HQ := Aside0.mk hQ
  have deq : (e2 == e2) = true := beq_self_eq_true _
  have dst : ((strOfNums r).toList == (strOfNums r).toList) = true := beq_self_eq_true _
  clear hL hP hQ hr3 hc3 hr4 hc4
  go_enter Try.func3, Try.ntmps3
  go_upto_region 5 with (first | (go_at_call 7; (with_reducible refine (annuletlaw11_Large.calls k2 T.f0 T.f1 T.f2 A3 c3 T.f3 A4 c4 T.f4 1 false _ (Kd.C_below HR3.out HB0.out) HC3.out (Kd.C_below HR4.out HB0.out) HC4.out HLA.out).mono ?_); rintro e w1 ⟨rfl, hb⟩; have HB1 := Aside0.mk (below_step HB0.out hb); have HN1 := Aside0.mk (blk_below HN0.out hb); have hz0 : w1.cell? ⟨w.heap.size, 0, none⟩ = some _ := (blk_cell HN1.out 0).trans rfl; have hz1 : w1.cell? ⟨w.heap.size, 1, none⟩ = some _ := (blk_cell HN1.out 1).trans rfl; have hz2 : w1.cell? ⟨w.heap.size, 2, none⟩ = some _ := (blk_cell HN1.out 2).trans rfl; have hz3 : w1.cell? ⟨w.heap.size, 3, none⟩ = some _ := (blk_cell HN1.out 3).trans rfl; have hz4 : w1.cell? ⟨w.heap.size, 4, none⟩ = some _ := (blk_cell HN1.out 4).trans rfl; clear hb) | (go_at_call 9; (with_reducible refine (ben_Print.calls k2 T A3 A4 c3 c4 r e2 w1 (Kd.C_below HR3.out HB1.out) HC3.out (Kd.C_below HR4.out HB1.out) HC4.out HP.out).mono ?_); rintro e w2 ⟨v2, rfl, hp⟩; have HP2 := Aside0.mk hp; have HB2 := Aside0.mk (below_step HB1.out hp.bel); have HN2 := Aside0.mk (blk_below HN1.out hp.bel); have hy0 : w2.cell? ⟨w.heap.size, 0, none⟩ = some _ := (blk_cell HN2.out 0).trans rfl; have hy1 : w2.cell? ⟨w.heap.size, 1, none⟩ = some _ := (blk_cell HN2.out 1).trans rfl; have hy2 : w2.cell? ⟨w.heap.size, 2, none⟩ = some _ := (blk_cell HN2.out 2).trans rfl; have hy3 : w2.cell? ⟨w.heap.size, 3, none⟩ = some _ := (blk_cell HN2.out 3).trans rfl; have hy4 : w2.cell? ⟨w.heap.size, 4, none⟩ = some _ := (blk_cell HN2.out 4).trans rfl; clear hp) | (go_at_call 10; (with_reducible refine (ref12_Print.calls k2 T A3 c3 A4 c4 r e2 w2 (Kd.C_below HR3.out HB2.out) HC3.out (Kd.C_below HR4.out HB2.out) HC4.out HQ.out).mono ?_); rintro e w3 ⟨A5, c5, rfl, hC, hb⟩; have HP3 := Aside0.mk (HP2.out.later hb); have HC5 := Aside0.mk hC; have HB3 := Aside0.mk (below_step HB2.out hb); clear hb hC))
  have hcv1 := own_string (P := Try.prog) Try.underlying28 Try.underlying5 Try.underlying9 HP3.out.own
  have hcv2 := Kd.C_string (P := Try.prog) (c := c5) Try.underlying28 Try.underlying5 Try.underlying9 HC5.out
  go_wp2_with (go_at_call 8; (with_reducible refine (law12_awake.calls k _ HAW.out).mono ?_); rintro e w9 ⟨rfl, hb⟩; have HB9 := Aside0.mk (below_step HB3.out hb); clear hb)
  go_ret
  exact ⟨rfl, HB9.out⟩
theorem annuletlaw12_BenPrints.calls (k : Nat) (a0_0 a0_1 : Int) (a0_2 : ByteArray) (A3 : Option Addr) (c3 : Nat) (l0_3 : List ByteArray) (A4 : Option Addr) (c4 : Nat) (l0_4 : List S25) (r : Bool) (w : World) (hr3 : Kd.string.C w A3 l0_3.length l0_3) (hc3 : l0_3.length ≤ c3) (hr4 : k25.C w A4 l0_4.length l0_4) (hc4 : l0_4.length ≤ c4) (h : annuletlaw12_BenPrints.f k a0_0 a0_1 a0_2 l0_3 l0_4 = some r) :
    Calls Try.prog 3 #[.agg #[.int .i64 a0_0, .int .i64 a0_1, .string a0_2, .slice A3 l0_3.length c3, .slice A4 l0_4.length c4]] w fun e w' => e = .returned (.bool r) ∧ Below w.heap.size w w' := by
  unfold annuletlaw12_BenPrints.f at h
  by_cases hc : prints_ok k ⟨a0_0, a0_1, a0_2, l0_3, l0_4⟩
  case neg => rw [if_neg hc] at h; cases h
  rw [if_pos hc] at h
  cases h
  exact prints_calls k ⟨a0_0, a0_1, a0_2, l0_3, l0_4⟩ A3 c3 A4 c4 w hr3 hc3 hr4 hc4 hc

def annuletlaw12_BenPrints.Pure : Prop := ∀ (a0_0 : Int) (a0_1 : Int) (a0_2 : ByteArray) (l0_3 : List ByteArray) (l0_4 : List (S25)), (Lit.int .i64 a0_0).wf = true → (Lit.int .i64 a0_1).wf = true → a0_2.size ≤ maxLen → (l0_3.length ≤ maxLen ∧ ∀ z0 ∈ l0_3, z0.size ≤ maxLen) → (l0_4.length ≤ maxLen ∧ ∀ z0 ∈ l0_4, wfT25 z0) → ∃ k, annuletlaw12_BenPrints.f k a0_0 a0_1 a0_2 l0_3 l0_4 = some true

end Go.Proofs.Ytekcnfngcgchcaa.PBenPrints
