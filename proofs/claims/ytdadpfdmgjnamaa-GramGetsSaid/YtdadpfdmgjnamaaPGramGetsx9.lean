/- Written by a program of this session (a turned copy of the kit's print): functions of the program, each with the Lean function that it comes to, and the row of one law. No condition. -/
import Derived.Test.YtdadpfdmgjnamaaPGramGetsx0
import Derived.Test.YtdadpfdmgjnamaaPGramGetsx4
import Derived.Test.YtdadpfdmgjnamaaPGramGetsx5
import Derived.Test.YtdadpfdmgjnamaaPGramGetsx8
namespace Go.Proofs.Ytdadpfdmgjnamaa.PGramGets
open Go.RowKit Go.Proofs.YtdadpfdmgjnamaaW.PrintWords Go.Proofs.YtdadpfdmgjnamaaW.PrintLast Go.Proofs.YtdadpfdmgjnamaaW.PrintMore
attribute [local go_sem] max2_int min2_int max_two min_two max_three min_three max_four min_four   -- for this text's walks alone
set_option linter.unusedVariables false
set_option linter.unusedSimpArgs false

/-! ### annuletlaw18_GramGets: function 4 -/
def annuletlaw18_GramGets.j0 : Nat → List Int → Bool → Option (Bool)
 | 0, _, _ => none
 | k + 1, x0, x19 => if x19 = true then ((annuletlaw18_awake.f k).bind fun t322 => (some t322)) else ((gram_Get.f k x0).bind fun bt323 => ((annuletref18_Get.f k x0).bind fun bt334 => ((annuletref18_Same.f bt323.1 bt323.2.1 bt323.2.2.1 bt323.2.2.2.1 bt323.2.2.2.2.1 bt323.2.2.2.2.2.1 bt323.2.2.2.2.2.2.1 bt334.1 bt334.2.1 bt334.2.2.1 bt334.2.2.2.1 bt334.2.2.2.2.1 bt334.2.2.2.2.2.1 bt334.2.2.2.2.2.2.1).bind fun t345 => (if t345 = true then (if bt323.2.2.2.2.2.2.2 = bt334.2.2.2.2.2.2.2 then ((annuletlaw18_awake.f k).bind fun t346 => (some t346)) else (none)) else (none)))))
def annuletlaw18_GramGets.f (k : Nat) (l0 : List Int) : Option (Bool) := if (l0.length : Int) > 1500 then (if (l0.length : Int) ≤ 65507 then (annuletlaw18_GramGets.j0 k l0 true) else (annuletlaw18_GramGets.j0 k l0 (decide ((l0.length : Int) > 70000)))) else (annuletlaw18_GramGets.j0 k l0 (decide ((l0.length : Int) > 70000)))
theorem annuletlaw18_GramGets.mono_l : ∀ k, (∀ y0 y1, LeO (annuletlaw18_GramGets.j0 k y0 y1) (annuletlaw18_GramGets.j0 (k + 1) y0 y1))
 | 0 => fun _ _ r h => by simp [annuletlaw18_GramGets.j0] at h
 | k + 1 => by
  have ih0 := annuletlaw18_GramGets.mono_l k
  ·intro y0 y1
   unfold annuletlaw18_GramGets.j0
   repeat' first
   | (with_reducible exact ih0 _ _)
   | (with_reducible exact annuletlaw18_awake.mono _)
   | (with_reducible exact annuletref18_Get.mono _ _)
   | (with_reducible exact gram_Get.mono _ _)
   | (with_reducible exact LeO.refl _)
   | (with_reducible exact LeO.none _)
   | (with_reducible refine LeO.ite ?_ ?_)
   | (with_reducible refine LeO.bind ?_ (fun _ => ?_))
   | exact ih0 _ _
   | exact annuletlaw18_awake.mono _
   | exact annuletref18_Get.mono _ _
   | exact gram_Get.mono _ _
   | exact LeO.none _
   | refine LeO.ite ?_ ?_
   | refine LeO.bind ?_ (fun _ => ?_)
theorem annuletlaw18_GramGets.mono : ∀ a0 k, LeO (annuletlaw18_GramGets.f k a0) (annuletlaw18_GramGets.f (k + 1) a0) := by
 intro a0 k
 have ih0 := annuletlaw18_GramGets.mono_l k
 unfold annuletlaw18_GramGets.f
 repeat' first
   | (with_reducible exact ih0 _ _)
   | (with_reducible exact annuletlaw18_awake.mono _)
   | (with_reducible exact annuletref18_Get.mono _ _)
   | (with_reducible exact gram_Get.mono _ _)
   | (with_reducible exact LeO.refl _)
   | (with_reducible exact LeO.none _)
   | (with_reducible refine LeO.ite ?_ ?_)
   | (with_reducible refine LeO.bind ?_ (fun _ => ?_))
   | exact ih0 _ _
   | exact annuletlaw18_awake.mono _
   | exact annuletref18_Get.mono _ _
   | exact gram_Get.mono _ _
   | exact LeO.none _
   | refine LeO.ite ?_ ?_
   | refine LeO.bind ?_ (fun _ => ?_)
set_option maxHeartbeats 3000000 in
set_option maxRecDepth 100000 in
theorem annuletlaw18_GramGets.calls (k : Nat) (A0 : Option Addr) (c0 : Nat) (l0 : List Int) (r : Bool) (w : World) (hr0 : Kd.C (Kd.int .u8) w A0 l0.length l0) (hc0 : l0.length ≤ c0) (h : annuletlaw18_GramGets.f k l0 = some r) :
  Calls Try.prog 4 #[.slice A0 l0.length c0] w fun e w' => e = .returned (.bool r) ∧ Below w.heap.size w w' := by
 have hu26 := Try.underlying26
 have HR0 := Aside0.mk hr0
 have HC0 := Aside0.mk hc0
 clear hr0 hc0
 have HB := Aside0.mk (Below.refl w.heap.size w)
 have H : (if (l0.length : Int) > 1500 then (if (l0.length : Int) ≤ 65507 then (annuletlaw18_GramGets.j0 k l0 true) else (annuletlaw18_GramGets.j0 k l0 (decide ((l0.length : Int) > 70000)))) else (annuletlaw18_GramGets.j0 k l0 (decide ((l0.length : Int) > 70000)))) = some r := h
 clear h
 have HC2 := Aside0.mk H
 clear H
 go_enter Try.func4, Try.ntmps4
 go_upto_region 1 with (fail)
 go_cut [19] (fun v19 wc => ∃ (kq : Nat) (x19_1 : Bool), v19 = .bool x19_1 ∧ Aside0 (annuletlaw18_GramGets.j0 kq l0 x19_1 = some r) ∧ Aside0 (kq ≤ k) ∧ Aside0 (Below w.heap.size w wc))
 case first =>
  have H := HC2.out
  clear HC2
  by_cases c3 : (l0.length : Int) > 1500
  ·rw [if_pos c3] at H
   have c3b0 : decide (1500 < (l0.length : Int)) = true := decide_eq_true c3
   have c3b1 : decide (1500 < l0.length) = true := decide_eq_true (by omega)
   clear c3
   (first | rw [c3b0] | (simp only [i64_w, i32_w]; rw [c3b0]) | skip)
   by_cases c4 : (l0.length : Int) ≤ 65507
   ·rw [if_pos c4] at H
    have c4b0 : decide ((l0.length : Int) ≤ 65507) = true := decide_eq_true c4
    have c4b1 : decide (l0.length ≤ 65507) = true := decide_eq_true (by omega)
    clear c4
    have H' := Aside0.mk H
    clear H
    go_wp2
    go_meet
    case rel => exact ⟨_, (true), (by first | rfl | (simp; done) | (simp [*]; done)), H', ⟨by first | omega | exact Nat.le_refl _⟩, ⟨by repeat (first | (with_reducible first | exact HB.out | apply below_alloc | apply pw_below_drewN | apply below_drew1) | exact HB.out)⟩⟩
   ·rw [if_neg c4] at H
    have c4b0 : decide ((l0.length : Int) ≤ 65507) = false := decide_eq_false c4
    have c4b1 : decide (l0.length ≤ 65507) = false := decide_eq_false (by omega)
    clear c4
    have H' := Aside0.mk H
    clear H
    go_wp2
    go_meet
    case rel => exact ⟨_, (decide ((l0.length : Int) > 70000)), (by first | rfl | (simp; done) | (simp [*]; done)), H', ⟨by first | omega | exact Nat.le_refl _⟩, ⟨by repeat (first | (with_reducible first | exact HB.out | apply below_alloc | apply pw_below_drewN | apply below_drew1) | exact HB.out)⟩⟩
  ·rw [if_neg c3] at H
   have c3b0 : decide (1500 < (l0.length : Int)) = false := decide_eq_false c3
   have c3b1 : decide (1500 < l0.length) = false := decide_eq_false (by omega)
   clear c3
   (first | rw [c3b0] | (simp only [i64_w, i32_w]; rw [c3b0]) | skip)
   have H' := Aside0.mk H
   clear H
   go_wp2
   go_meet
   case rel => exact ⟨_, (decide ((l0.length : Int) > 70000)), (by first | rfl | (simp; done) | (simp [*]; done)), H', ⟨by first | omega | exact Nat.le_refl _⟩, ⟨by repeat (first | (with_reducible first | exact HB.out | apply below_alloc | apply pw_below_drewN | apply below_drew1) | exact HB.out)⟩⟩
 case rest =>
  clear HC2
  try clear p2
  try clear c3
  try clear c3b0
  try clear c3b1
  try clear c4
  try clear c4b0
  try clear c4b1
  obtain ⟨kq, x19_1, rfl, HA, HJ1, HB⟩ := hcut
  cases kq with
  | zero => exact absurd HA.out (by simp [annuletlaw18_GramGets.j0])
  | succ kj1 =>
   have H := HA.out
   clear HA
   simp only [annuletlaw18_GramGets.j0] at H
   by_cases c5 : x19_1 = true
   ·subst c5
    have H1 : ((annuletlaw18_awake.f kj1).bind fun t322 => (some t322)) = some r := by rw [if_pos rfl] at H; exact H
    clear H
    have H := H1
    clear H1
    replace H := Option.bind_eq_some_iff.mp H
    obtain ⟨t322, A60, H⟩ := H
    replace H : (some t322) = some r := H
    have A6 := Aside0.mk A60
    clear A60
    obtain rfl := Option.some.inj H
    go_wp2_with (first | ((with_reducible refine gate_callee (f := 7) rfl ?_); refine goesL_ (some 20) rfl rfl Try.func7 (by kernel_rfl) rfl #[] rfl (by (try simp only [List.map_toArray, List.map_cons, List.map_nil]); first | done | rfl | (simp only [List.length_drop, List.length_take]; rfl)) ?_; (with_reducible refine (annuletlaw18_awake.calls kj1  t322 _ A6.out).mono ?_); rintro e w7 ⟨rfl, hb⟩; refine ⟨_, rfl, ?_⟩; have n0_ := Aside0.mk (below_step (by repeat (first | (with_reducible first | exact HB.out | apply below_alloc | apply pw_below_drewN | apply below_drew1) | exact HB.out)) hb); clear HB; have HB := n0_; clear n0_; (try clear hb); (try clear hb2); (try clear hk); (try clear hi)))
    all_goals go_ret
    all_goals first | (exact ⟨by first | rfl | (simp [errW_none, errW_some] <;> rfl) | (simp [*, errW_none, errW_some] <;> rfl), by repeat (first | (with_reducible first | exact HB.out | apply below_alloc | apply pw_below_drewN | apply below_drew1) | exact HB.out)⟩) | (exfalso; simp_all; done)
   ·replace c5 := Bool.eq_false_iff.mpr c5
    subst c5
    have H1 : ((gram_Get.f kj1 l0).bind fun bt323 => ((annuletref18_Get.f kj1 l0).bind fun bt334 => ((annuletref18_Same.f bt323.1 bt323.2.1 bt323.2.2.1 bt323.2.2.2.1 bt323.2.2.2.2.1 bt323.2.2.2.2.2.1 bt323.2.2.2.2.2.2.1 bt334.1 bt334.2.1 bt334.2.2.1 bt334.2.2.2.1 bt334.2.2.2.2.1 bt334.2.2.2.2.2.1 bt334.2.2.2.2.2.2.1).bind fun t345 => (if t345 = true then (if bt323.2.2.2.2.2.2.2 = bt334.2.2.2.2.2.2.2 then ((annuletlaw18_awake.f kj1).bind fun t346 => (some t346)) else (none)) else (none))))) = some r := by rw [if_neg (show ¬ (false = true) by decide)] at H; exact H
    clear H
    have H := H1
    clear H1
    replace H := Option.bind_eq_some_iff.mp H
    obtain ⟨⟨t323, t324, t325, t326, t327, t328, t329, t332⟩, A80, H⟩ := H
    replace H : ((annuletref18_Get.f kj1 l0).bind fun bt334 => ((annuletref18_Same.f t323 t324 t325 t326 t327 t328 t329 bt334.1 bt334.2.1 bt334.2.2.1 bt334.2.2.2.1 bt334.2.2.2.2.1 bt334.2.2.2.2.2.1 bt334.2.2.2.2.2.2.1).bind fun t345 => (if t345 = true then (if t332 = bt334.2.2.2.2.2.2.2 then ((annuletlaw18_awake.f kj1).bind fun t346 => (some t346)) else (none)) else (none)))) = some r := H
    have A8 := Aside0.mk A80
    clear A80
    replace H := Option.bind_eq_some_iff.mp H
    obtain ⟨⟨t334, t335, t336, t337, t338, t339, t340, t343⟩, A90, H⟩ := H
    replace H : ((annuletref18_Same.f t323 t324 t325 t326 t327 t328 t329 t334 t335 t336 t337 t338 t339 t340).bind fun t345 => (if t345 = true then (if t332 = t343 then ((annuletlaw18_awake.f kj1).bind fun t346 => (some t346)) else (none)) else (none))) = some r := H
    have A9 := Aside0.mk A90
    clear A90
    replace H := Option.bind_eq_some_iff.mp H
    obtain ⟨t345, A100, H⟩ := H
    replace H : (if t345 = true then (if t332 = t343 then ((annuletlaw18_awake.f kj1).bind fun t346 => (some t346)) else (none)) else (none)) = some r := H
    have A10 := Aside0.mk A100
    clear A100
    by_cases c11 : t345 = true
    ·subst c11
     have H1 : (if t332 = t343 then ((annuletlaw18_awake.f kj1).bind fun t346 => (some t346)) else (none)) = some r := by rw [if_pos rfl] at H; exact H
     clear H
     have H := H1
     clear H1
     by_cases c12 : t332 = t343
     ·rw [if_pos c12] at H
      have c12b0 : (t332 == t343) = true := beq_iff_eq.mpr c12
      have c12b1 : (t332 != t343) = false := bne_eq_false_iff_eq.mpr c12
      clear c12
      replace H := Option.bind_eq_some_iff.mp H
      obtain ⟨t346, A130, H⟩ := H
      replace H : (some t346) = some r := H
      have A13 := Aside0.mk A130
      clear A130
      obtain rfl := Option.some.inj H
      go_wp2_with (first | ((with_reducible refine gate_callee (f := 14) rfl ?_); refine goesL_ (some 23) rfl rfl Try.func14 (by kernel_rfl) rfl #[.slice A0 l0.length c0] rfl (by (try simp only [List.map_toArray, List.map_cons, List.map_nil]); first | done | rfl | (simp only [List.length_drop, List.length_take]; rfl)) ?_; (with_reducible refine (gram_Get.calls kj1 _ _ l0 t323 t324 t325 t326 t327 t328 t329 t332 _ ?side1 ?side2 A8.out).mono ?_); (case side1 => repeat (first | exact (Kd.C_below HR0.out HB.out) | (with_reducible refine Kd.C_alloc ?_ _) | (with_reducible refine Kd.C_drewN ?_ _) | (with_reducible refine Kd.C_drew ?_))); (case side2 => exact HC0.out); rintro e w14 ⟨v330, rfl, ho0, hb⟩; refine ⟨_, rfl, ?_⟩; have n0_ := Aside0.mk (Kd.R_lower ho0 (below_size (by repeat (first | (with_reducible first | exact HB.out | apply below_alloc | apply pw_below_drewN | apply below_drew1) | exact HB.out)))); have n1_ := Aside0.mk (below_step (by repeat (first | (with_reducible first | exact HB.out | apply below_alloc | apply pw_below_drewN | apply below_drew1) | exact HB.out)) hb); clear HB; have HO331 := n0_; have HB := n1_; clear n0_ n1_; (try clear hb); (try clear hb2); (try clear hk); (try clear hi); (try clear ho0)) | ((with_reducible refine gate_dst (N := 3) rfl ?_); (try (refine gate_guard (by rfl) ?_; dsimp only)); refine box_event ?hg (N := 3) ?hd (cs := #[.int .u8 0, .int .u8 0, .int .u32 0, .int .u32 0, .int .u16 0, .int .u16 0, .slice none 0 0]) (t := 26) ?hr ?_; (case hd => rfl); (case hg => rfl); (case hr => first | (go_simp; done) | (go_simp; rfl)); intro gb333 hg w15 hbox hb; have n0_ := Aside0.mk (Kd.R_below (by (with_reducible repeat (first | apply Kd.R_alloc | apply Kd.R_drewN | apply Kd.R_drew)); exact HO331.out) hb); have n1_ := Aside0.mk (below_step (by repeat (first | (with_reducible first | exact HB.out | apply below_alloc | apply pw_below_drewN | apply below_drew1) | exact HB.out)) hb); have n2_ := Aside0.mk (hbox); have n3_ := Aside0.mk ((by rw [hg]; exact (below_size (by repeat (first | (with_reducible first | exact HB.out | apply below_alloc | apply pw_below_drewN | apply below_drew1) | exact HB.out))) : w.heap.size ≤ gb333)); have n4_ := Aside0.mk ((by rw [hg]; exact (below_size (by repeat (first | (with_reducible first | exact HB.out | apply below_alloc | apply pw_below_drewN | apply below_drew1) | exact HB.out))) : w.heap.size ≤ gb333)); clear HO331; clear HB; have HO331 := n0_; have HB := n1_; have BK333 := n2_; have GW333 := n3_; have GE333 := n4_; clear n0_ n1_ n2_ n3_ n4_; clear hb hbox hg; have hcz16_0 : w15.cell? ⟨gb333, 0, none⟩ = some (.int .u8 0) := (blk_cell BK333.out 0).trans rfl; have hcz16_1 : w15.cell? ⟨gb333, 1, none⟩ = some (.int .u8 0) := (blk_cell BK333.out 1).trans rfl; have hcz16_2 : w15.cell? ⟨gb333, 2, none⟩ = some (.int .u32 0) := (blk_cell BK333.out 2).trans rfl; have hcz16_3 : w15.cell? ⟨gb333, 3, none⟩ = some (.int .u32 0) := (blk_cell BK333.out 3).trans rfl; have hcz16_4 : w15.cell? ⟨gb333, 4, none⟩ = some (.int .u16 0) := (blk_cell BK333.out 4).trans rfl; have hcz16_5 : w15.cell? ⟨gb333, 5, none⟩ = some (.int .u16 0) := (blk_cell BK333.out 5).trans rfl; have hcz16_6 : w15.cell? ⟨gb333, 6, none⟩ = some (.slice none 0 0) := (blk_cell BK333.out 6).trans rfl; have hfz16_0 := blk_frozen BK333.out 0; have hfz16_1 := blk_frozen BK333.out 1; have hfz16_2 := blk_frozen BK333.out 2; have hfz16_3 := blk_frozen BK333.out 3; have hfz16_4 := blk_frozen BK333.out 4; have hfz16_5 := blk_frozen BK333.out 5; have hfz16_6 := blk_frozen BK333.out 6; obtain ⟨Ao17, co17, eo17⟩ := Kd.R_slice HO331.out; subst eo17) | ((with_reducible refine gate_callee (f := 15) rfl ?_); refine goesL_ (some 28) rfl rfl Try.func15 (by kernel_rfl) rfl #[.slice A0 l0.length c0] rfl (by (try simp only [List.map_toArray, List.map_cons, List.map_nil]); first | done | rfl | (simp only [List.length_drop, List.length_take]; rfl)) ?_; (with_reducible refine (annuletref18_Get.calls kj1 _ _ l0 t334 t335 t336 t337 t338 t339 t340 t343 _ ?side1 ?side2 A9.out).mono ?_); (case side1 => exact Kd.C_below HR0.out (by repeat (first | (with_reducible first | exact HB.out | apply below_alloc | apply pw_below_drewN | apply below_drew1 | refine below_set ?_ GE333.out) | exact HB.out))); (case side2 => exact HC0.out); rintro e w18 ⟨v341, rfl, ho0, hb⟩; refine ⟨_, rfl, ?_⟩; have n0_ := Aside0.mk (Kd.R_elder' (by (with_reducible repeat (first | apply Kd.R_alloc | apply Kd.R_drewN | apply Kd.R_drew)); exact (Kd.R_mono (Kd.R_far (p := ⟨gb333, 6, none⟩) (Kd.R_far (p := ⟨gb333, 5, none⟩) (Kd.R_far (p := ⟨gb333, 4, none⟩) (Kd.R_far (p := ⟨gb333, 3, none⟩) (Kd.R_far (p := ⟨gb333, 2, none⟩) (Kd.R_far (p := ⟨gb333, 1, none⟩) (Kd.R_far (p := ⟨gb333, 0, none⟩) (Kd.R_types HO331.out BK333.out (by decide)) (fun _ hk => hk.2) (.int .u8 t323)) (fun _ hk => hk.2) (.int .u8 t324)) (fun _ hk => hk.2) (.int .u32 t325)) (fun _ hk => hk.2) (.int .u32 t326)) (fun _ hk => hk.2) (.int .u16 t327)) (fun _ hk => hk.2) (.int .u16 t328)) (fun _ hk => hk.2) (.slice Ao17 t329.length co17)) (fun _ h_ => h_.1))) (Kd.R_base ho0) hb); have n1_ := Aside0.mk (Kd.R_lower (Kd.R_new' ho0 (Kd.R_lt (by (with_reducible repeat (first | apply Kd.R_alloc | apply Kd.R_drewN | apply Kd.R_drew)); exact (Kd.R_mono (Kd.R_far (p := ⟨gb333, 6, none⟩) (Kd.R_far (p := ⟨gb333, 5, none⟩) (Kd.R_far (p := ⟨gb333, 4, none⟩) (Kd.R_far (p := ⟨gb333, 3, none⟩) (Kd.R_far (p := ⟨gb333, 2, none⟩) (Kd.R_far (p := ⟨gb333, 1, none⟩) (Kd.R_far (p := ⟨gb333, 0, none⟩) (Kd.R_types HO331.out BK333.out (by decide)) (fun _ hk => hk.2) (.int .u8 t323)) (fun _ hk => hk.2) (.int .u8 t324)) (fun _ hk => hk.2) (.int .u32 t325)) (fun _ hk => hk.2) (.int .u32 t326)) (fun _ hk => hk.2) (.int .u16 t327)) (fun _ hk => hk.2) (.int .u16 t328)) (fun _ hk => hk.2) (.slice Ao17 t329.length co17)) (fun _ h_ => h_.1))))) (below_size (by repeat (first | (with_reducible first | exact HB.out | apply below_alloc | apply pw_below_drewN | apply below_drew1 | refine below_set ?_ GE333.out) | exact HB.out)))); have n2_ := Aside0.mk (blk_below (g := gb333) (o := .cells #[.int .u8 t323, .int .u8 t324, .int .u32 t325, .int .u32 t326, .int .u16 t327, .int .u16 t328, .slice Ao17 t329.length co17] 26 (0, 0)) (by (with_reducible repeat (first | refine blk_drewN ?_ _ | refine blk_drew ?_ | refine blk_alloc ?_ _)); refine blk_put (cs := #[.int .u8 t323, .int .u8 t324, .int .u32 t325, .int .u32 t326, .int .u16 t327, .int .u16 t328, .slice none 0 0]) ?_ 6 _ rfl; (with_reducible repeat (first | refine blk_drewN ?_ _ | refine blk_drew ?_ | refine blk_alloc ?_ _)); refine blk_put (cs := #[.int .u8 t323, .int .u8 t324, .int .u32 t325, .int .u32 t326, .int .u16 t327, .int .u16 0, .slice none 0 0]) ?_ 5 _ rfl; (with_reducible repeat (first | refine blk_drewN ?_ _ | refine blk_drew ?_ | refine blk_alloc ?_ _)); refine blk_put (cs := #[.int .u8 t323, .int .u8 t324, .int .u32 t325, .int .u32 t326, .int .u16 0, .int .u16 0, .slice none 0 0]) ?_ 4 _ rfl; (with_reducible repeat (first | refine blk_drewN ?_ _ | refine blk_drew ?_ | refine blk_alloc ?_ _)); refine blk_put (cs := #[.int .u8 t323, .int .u8 t324, .int .u32 t325, .int .u32 0, .int .u16 0, .int .u16 0, .slice none 0 0]) ?_ 3 _ rfl; (with_reducible repeat (first | refine blk_drewN ?_ _ | refine blk_drew ?_ | refine blk_alloc ?_ _)); refine blk_put (cs := #[.int .u8 t323, .int .u8 t324, .int .u32 0, .int .u32 0, .int .u16 0, .int .u16 0, .slice none 0 0]) ?_ 2 _ rfl; (with_reducible repeat (first | refine blk_drewN ?_ _ | refine blk_drew ?_ | refine blk_alloc ?_ _)); refine blk_put (cs := #[.int .u8 t323, .int .u8 0, .int .u32 0, .int .u32 0, .int .u16 0, .int .u16 0, .slice none 0 0]) ?_ 1 _ rfl; (with_reducible repeat (first | refine blk_drewN ?_ _ | refine blk_drew ?_ | refine blk_alloc ?_ _)); refine blk_put (cs := #[.int .u8 0, .int .u8 0, .int .u32 0, .int .u32 0, .int .u16 0, .int .u16 0, .slice none 0 0]) ?_ 0 _ rfl; (with_reducible repeat (first | refine blk_drewN ?_ _ | refine blk_drew ?_ | refine blk_alloc ?_ _)); exact BK333.out) hb); have n3_ := Aside0.mk (below_step (by repeat (first | (with_reducible first | exact HB.out | apply below_alloc | apply pw_below_drewN | apply below_drew1 | refine below_set ?_ GE333.out) | exact HB.out)) hb); clear HO331; clear BK333; clear HB; have HO331 := n0_; have HO342 := n1_; have BK333 := n2_; have HB := n3_; clear n0_ n1_ n2_ n3_; (try clear hb); (try clear hb2); (try clear hk); (try clear hi); (try clear ho0)) | ((with_reducible refine gate_dst (N := 5) rfl ?_); (try (refine gate_guard (by rfl) ?_; dsimp only)); refine box_event ?hg (N := 5) ?hd (cs := #[.int .u8 0, .int .u8 0, .int .u32 0, .int .u32 0, .int .u16 0, .int .u16 0, .slice none 0 0]) (t := 26) ?hr ?_; (case hd => rfl); (case hg => rfl); (case hr => first | (go_simp; done) | (go_simp; rfl)); intro gb344 hg w19 hbox hb; have n0_ := Aside0.mk (Kd.R_below (by (with_reducible repeat (first | apply Kd.R_alloc | apply Kd.R_drewN | apply Kd.R_drew)); exact HO331.out) hb); have n1_ := Aside0.mk (Kd.R_below (by (with_reducible repeat (first | apply Kd.R_alloc | apply Kd.R_drewN | apply Kd.R_drew)); exact HO342.out) hb); have n2_ := Aside0.mk (blk_below (g := gb333) (o := .cells #[.int .u8 t323, .int .u8 t324, .int .u32 t325, .int .u32 t326, .int .u16 t327, .int .u16 t328, .slice Ao17 t329.length co17] 26 (0, 0)) (by (with_reducible repeat (first | refine blk_drewN ?_ _ | refine blk_drew ?_ | refine blk_alloc ?_ _)); exact BK333.out) hb); have n3_ := Aside0.mk (below_step (by repeat (first | (with_reducible first | exact HB.out | apply below_alloc | apply pw_below_drewN | apply below_drew1 | refine below_set ?_ GE333.out) | exact HB.out)) hb); have n4_ := Aside0.mk (hbox); have n5_ := Aside0.mk ((by rw [hg]; exact (below_size (by repeat (first | (with_reducible first | exact HB.out | apply below_alloc | apply pw_below_drewN | apply below_drew1 | refine below_set ?_ GE333.out) | exact HB.out))) : w.heap.size ≤ gb344)); have n6_ := Aside0.mk ((by rw [hg]; exact (below_size (by repeat (first | (with_reducible first | exact HB.out | apply below_alloc | apply pw_below_drewN | apply below_drew1 | refine below_set ?_ GE333.out) | exact HB.out))) : w.heap.size ≤ gb344)); have n7_ := Aside0.mk ((by rw [hg]; exact Nat.ne_of_lt (blk_lt (g := gb333) (o := .cells #[.int .u8 t323, .int .u8 t324, .int .u32 t325, .int .u32 t326, .int .u16 t327, .int .u16 t328, .slice Ao17 t329.length co17] 26 (0, 0)) (by (with_reducible repeat (first | refine blk_drewN ?_ _ | refine blk_drew ?_ | refine blk_alloc ?_ _)); exact BK333.out)) : gb333 ≠ gb344)); have n8_ := Aside0.mk ((by rw [hg]; exact Nat.ne_of_gt (blk_lt (g := gb333) (o := .cells #[.int .u8 t323, .int .u8 t324, .int .u32 t325, .int .u32 t326, .int .u16 t327, .int .u16 t328, .slice Ao17 t329.length co17] 26 (0, 0)) (by (with_reducible repeat (first | refine blk_drewN ?_ _ | refine blk_drew ?_ | refine blk_alloc ?_ _)); exact BK333.out)) : gb344 ≠ gb333)); clear HO331; clear HO342; clear BK333; clear HB; have HO331 := n0_; have HO342 := n1_; have BK333 := n2_; have HB := n3_; have BK344 := n4_; have GW344 := n5_; have GE344 := n6_; have NB333_344 := n7_; have NB344_333 := n8_; clear n0_ n1_ n2_ n3_ n4_ n5_ n6_ n7_ n8_; clear hb hbox hg; have hnb20 := NB344_333.out; have hnc20 := NB333_344.out; have hcz21_0 : w19.cell? ⟨gb344, 0, none⟩ = some (.int .u8 0) := (blk_cell BK344.out 0).trans rfl; have hcz21_1 : w19.cell? ⟨gb344, 1, none⟩ = some (.int .u8 0) := (blk_cell BK344.out 1).trans rfl; have hcz21_2 : w19.cell? ⟨gb344, 2, none⟩ = some (.int .u32 0) := (blk_cell BK344.out 2).trans rfl; have hcz21_3 : w19.cell? ⟨gb344, 3, none⟩ = some (.int .u32 0) := (blk_cell BK344.out 3).trans rfl; have hcz21_4 : w19.cell? ⟨gb344, 4, none⟩ = some (.int .u16 0) := (blk_cell BK344.out 4).trans rfl; have hcz21_5 : w19.cell? ⟨gb344, 5, none⟩ = some (.int .u16 0) := (blk_cell BK344.out 5).trans rfl; have hcz21_6 : w19.cell? ⟨gb344, 6, none⟩ = some (.slice none 0 0) := (blk_cell BK344.out 6).trans rfl; have hfz21_0 := blk_frozen BK344.out 0; have hfz21_1 := blk_frozen BK344.out 1; have hfz21_2 := blk_frozen BK344.out 2; have hfz21_3 := blk_frozen BK344.out 3; have hfz21_4 := blk_frozen BK344.out 4; have hfz21_5 := blk_frozen BK344.out 5; have hfz21_6 := blk_frozen BK344.out 6; obtain ⟨Ao22, co22, eo22⟩ := Kd.R_slice HO342.out; subst eo22; have hcz23_0 : w19.cell? ⟨gb333, 0, none⟩ = some (.int .u8 t323) := (blk_cell BK333.out 0).trans rfl; have hcz23_1 : w19.cell? ⟨gb333, 1, none⟩ = some (.int .u8 t324) := (blk_cell BK333.out 1).trans rfl; have hcz23_2 : w19.cell? ⟨gb333, 2, none⟩ = some (.int .u32 t325) := (blk_cell BK333.out 2).trans rfl; have hcz23_3 : w19.cell? ⟨gb333, 3, none⟩ = some (.int .u32 t326) := (blk_cell BK333.out 3).trans rfl; have hcz23_4 : w19.cell? ⟨gb333, 4, none⟩ = some (.int .u16 t327) := (blk_cell BK333.out 4).trans rfl; have hcz23_5 : w19.cell? ⟨gb333, 5, none⟩ = some (.int .u16 t328) := (blk_cell BK333.out 5).trans rfl; have hcz23_6 : w19.cell? ⟨gb333, 6, none⟩ = some (.slice Ao17 t329.length co17) := (blk_cell BK333.out 6).trans rfl; have hfz23_0 := blk_frozen BK333.out 0; have hfz23_1 := blk_frozen BK333.out 1; have hfz23_2 := blk_frozen BK333.out 2; have hfz23_3 := blk_frozen BK333.out 3; have hfz23_4 := blk_frozen BK333.out 4; have hfz23_5 := blk_frozen BK333.out 5; have hfz23_6 := blk_frozen BK333.out 6) | ((with_reducible refine gate_callee (f := 13) rfl ?_); refine goesL_ (some 33) rfl rfl Try.func13 (by kernel_rfl) rfl #[.agg #[.int .u8 t323, .int .u8 t324, .int .u32 t325, .int .u32 t326, .int .u16 t327, .int .u16 t328, .slice Ao17 t329.length co17], .agg #[.int .u8 t334, .int .u8 t335, .int .u32 t336, .int .u32 t337, .int .u16 t338, .int .u16 t339, .slice Ao22 t340.length co22]] rfl (by (try simp only [List.map_toArray, List.map_cons, List.map_nil]); first | done | rfl | (simp only [List.length_drop, List.length_take]; rfl)) ?_; (with_reducible refine (annuletref18_Same.calls t323 t324 t325 t326 t327 t328 _ _ t329 t334 t335 t336 t337 t338 t339 _ _ t340 true _ ?side1 ?side2 ?side3 ?side4 A10.out).mono ?_); (case side1 => refine (Kd.R_reads' (e := 5) (base := w.heap.size) (ok := fun k_ => (True ∧ some k_ ≠ (.slice Ao22 t340.length co22 : Value).ownBlock)) (n := t329.length) (c := co17) ?_).2.2; exact (by (with_reducible repeat (first | apply Kd.R_alloc | apply Kd.R_drewN | apply Kd.R_drew)); exact (Kd.R_mono (Kd.R_far (p := ⟨gb344, 6, none⟩) (Kd.R_far (p := ⟨gb344, 5, none⟩) (Kd.R_far (p := ⟨gb344, 4, none⟩) (Kd.R_far (p := ⟨gb344, 3, none⟩) (Kd.R_far (p := ⟨gb344, 2, none⟩) (Kd.R_far (p := ⟨gb344, 1, none⟩) (Kd.R_far (p := ⟨gb344, 0, none⟩) (Kd.R_types HO331.out BK344.out (by decide)) (fun _ hk => hk.2) (.int .u8 t334)) (fun _ hk => hk.2) (.int .u8 t335)) (fun _ hk => hk.2) (.int .u32 t336)) (fun _ hk => hk.2) (.int .u32 t337)) (fun _ hk => hk.2) (.int .u16 t338)) (fun _ hk => hk.2) (.int .u16 t339)) (fun _ hk => hk.2) (.slice Ao22 t340.length co22)) (fun _ h_ => h_.1)))); (case side2 => exact (Kd.R_reads' HO331.out).2.1); (case side3 => refine (Kd.R_reads' (e := 5) (base := w.heap.size) (ok := fun k_ => (True ∧ some k_ ≠ (.slice Ao17 t329.length co17 : Value).ownBlock)) (n := t340.length) (c := co22) ?_).2.2; exact (by (with_reducible repeat (first | apply Kd.R_alloc | apply Kd.R_drewN | apply Kd.R_drew)); exact (Kd.R_mono (Kd.R_far (p := ⟨gb344, 6, none⟩) (Kd.R_far (p := ⟨gb344, 5, none⟩) (Kd.R_far (p := ⟨gb344, 4, none⟩) (Kd.R_far (p := ⟨gb344, 3, none⟩) (Kd.R_far (p := ⟨gb344, 2, none⟩) (Kd.R_far (p := ⟨gb344, 1, none⟩) (Kd.R_far (p := ⟨gb344, 0, none⟩) (Kd.R_types HO342.out BK344.out (by decide)) (fun _ hk => hk.2) (.int .u8 t334)) (fun _ hk => hk.2) (.int .u8 t335)) (fun _ hk => hk.2) (.int .u32 t336)) (fun _ hk => hk.2) (.int .u32 t337)) (fun _ hk => hk.2) (.int .u16 t338)) (fun _ hk => hk.2) (.int .u16 t339)) (fun _ hk => hk.2) (.slice Ao22 t340.length co22)) (fun _ h_ => h_.1)))); (case side4 => exact (Kd.R_reads' HO342.out).2.1); rintro e w24 ⟨rfl, hb⟩; refine ⟨_, rfl, ?_⟩; have n0_ := Aside0.mk (Kd.R_below (by (with_reducible repeat (first | apply Kd.R_alloc | apply Kd.R_drewN | apply Kd.R_drew)); exact (Kd.R_mono (Kd.R_far (p := ⟨gb344, 6, none⟩) (Kd.R_far (p := ⟨gb344, 5, none⟩) (Kd.R_far (p := ⟨gb344, 4, none⟩) (Kd.R_far (p := ⟨gb344, 3, none⟩) (Kd.R_far (p := ⟨gb344, 2, none⟩) (Kd.R_far (p := ⟨gb344, 1, none⟩) (Kd.R_far (p := ⟨gb344, 0, none⟩) (Kd.R_types HO331.out BK344.out (by decide)) (fun _ hk => hk.2) (.int .u8 t334)) (fun _ hk => hk.2) (.int .u8 t335)) (fun _ hk => hk.2) (.int .u32 t336)) (fun _ hk => hk.2) (.int .u32 t337)) (fun _ hk => hk.2) (.int .u16 t338)) (fun _ hk => hk.2) (.int .u16 t339)) (fun _ hk => hk.2) (.slice Ao22 t340.length co22)) (fun _ h_ => h_.1))) hb); have n1_ := Aside0.mk (Kd.R_below (by (with_reducible repeat (first | apply Kd.R_alloc | apply Kd.R_drewN | apply Kd.R_drew)); exact (Kd.R_mono (Kd.R_far (p := ⟨gb344, 6, none⟩) (Kd.R_far (p := ⟨gb344, 5, none⟩) (Kd.R_far (p := ⟨gb344, 4, none⟩) (Kd.R_far (p := ⟨gb344, 3, none⟩) (Kd.R_far (p := ⟨gb344, 2, none⟩) (Kd.R_far (p := ⟨gb344, 1, none⟩) (Kd.R_far (p := ⟨gb344, 0, none⟩) (Kd.R_types HO342.out BK344.out (by decide)) (fun _ hk => hk.2) (.int .u8 t334)) (fun _ hk => hk.2) (.int .u8 t335)) (fun _ hk => hk.2) (.int .u32 t336)) (fun _ hk => hk.2) (.int .u32 t337)) (fun _ hk => hk.2) (.int .u16 t338)) (fun _ hk => hk.2) (.int .u16 t339)) (fun _ hk => hk.2) (.slice Ao22 t340.length co22)) (fun _ h_ => h_.1))) hb); have n2_ := Aside0.mk (blk_below (g := gb333) (o := .cells #[.int .u8 t323, .int .u8 t324, .int .u32 t325, .int .u32 t326, .int .u16 t327, .int .u16 t328, .slice Ao17 t329.length co17] 26 (0, 0)) (by (with_reducible repeat (first | refine blk_drewN ?_ _ | refine blk_drew ?_ | refine blk_alloc ?_ _)); refine blk_far ?_ NB333_344.out _; (with_reducible repeat (first | refine blk_drewN ?_ _ | refine blk_drew ?_ | refine blk_alloc ?_ _)); refine blk_far ?_ NB333_344.out _; (with_reducible repeat (first | refine blk_drewN ?_ _ | refine blk_drew ?_ | refine blk_alloc ?_ _)); refine blk_far ?_ NB333_344.out _; (with_reducible repeat (first | refine blk_drewN ?_ _ | refine blk_drew ?_ | refine blk_alloc ?_ _)); refine blk_far ?_ NB333_344.out _; (with_reducible repeat (first | refine blk_drewN ?_ _ | refine blk_drew ?_ | refine blk_alloc ?_ _)); refine blk_far ?_ NB333_344.out _; (with_reducible repeat (first | refine blk_drewN ?_ _ | refine blk_drew ?_ | refine blk_alloc ?_ _)); refine blk_far ?_ NB333_344.out _; (with_reducible repeat (first | refine blk_drewN ?_ _ | refine blk_drew ?_ | refine blk_alloc ?_ _)); refine blk_far ?_ NB333_344.out _; (with_reducible repeat (first | refine blk_drewN ?_ _ | refine blk_drew ?_ | refine blk_alloc ?_ _)); exact BK333.out) hb); have n3_ := Aside0.mk (blk_below (g := gb344) (o := .cells #[.int .u8 t334, .int .u8 t335, .int .u32 t336, .int .u32 t337, .int .u16 t338, .int .u16 t339, .slice Ao22 t340.length co22] 26 (0, 0)) (by (with_reducible repeat (first | refine blk_drewN ?_ _ | refine blk_drew ?_ | refine blk_alloc ?_ _)); refine blk_put (cs := #[.int .u8 t334, .int .u8 t335, .int .u32 t336, .int .u32 t337, .int .u16 t338, .int .u16 t339, .slice none 0 0]) ?_ 6 _ rfl; (with_reducible repeat (first | refine blk_drewN ?_ _ | refine blk_drew ?_ | refine blk_alloc ?_ _)); refine blk_put (cs := #[.int .u8 t334, .int .u8 t335, .int .u32 t336, .int .u32 t337, .int .u16 t338, .int .u16 0, .slice none 0 0]) ?_ 5 _ rfl; (with_reducible repeat (first | refine blk_drewN ?_ _ | refine blk_drew ?_ | refine blk_alloc ?_ _)); refine blk_put (cs := #[.int .u8 t334, .int .u8 t335, .int .u32 t336, .int .u32 t337, .int .u16 0, .int .u16 0, .slice none 0 0]) ?_ 4 _ rfl; (with_reducible repeat (first | refine blk_drewN ?_ _ | refine blk_drew ?_ | refine blk_alloc ?_ _)); refine blk_put (cs := #[.int .u8 t334, .int .u8 t335, .int .u32 t336, .int .u32 0, .int .u16 0, .int .u16 0, .slice none 0 0]) ?_ 3 _ rfl; (with_reducible repeat (first | refine blk_drewN ?_ _ | refine blk_drew ?_ | refine blk_alloc ?_ _)); refine blk_put (cs := #[.int .u8 t334, .int .u8 t335, .int .u32 0, .int .u32 0, .int .u16 0, .int .u16 0, .slice none 0 0]) ?_ 2 _ rfl; (with_reducible repeat (first | refine blk_drewN ?_ _ | refine blk_drew ?_ | refine blk_alloc ?_ _)); refine blk_put (cs := #[.int .u8 t334, .int .u8 0, .int .u32 0, .int .u32 0, .int .u16 0, .int .u16 0, .slice none 0 0]) ?_ 1 _ rfl; (with_reducible repeat (first | refine blk_drewN ?_ _ | refine blk_drew ?_ | refine blk_alloc ?_ _)); refine blk_put (cs := #[.int .u8 0, .int .u8 0, .int .u32 0, .int .u32 0, .int .u16 0, .int .u16 0, .slice none 0 0]) ?_ 0 _ rfl; (with_reducible repeat (first | refine blk_drewN ?_ _ | refine blk_drew ?_ | refine blk_alloc ?_ _)); exact BK344.out) hb); have n4_ := Aside0.mk (below_step (by repeat (first | (with_reducible first | exact HB.out | apply below_alloc | apply pw_below_drewN | apply below_drew1 | refine below_set ?_ GE333.out | refine below_set ?_ GE344.out) | exact HB.out)) hb); clear HO331; clear HO342; clear BK333; clear BK344; clear HB; have HO331 := n0_; have HO342 := n1_; have BK333 := n2_; have BK344 := n3_; have HB := n4_; clear n0_ n1_ n2_ n3_ n4_; (try clear hb); (try clear hb2); (try clear hk); (try clear hi)) | (go_at_call 7; (with_reducible refine (annuletlaw18_awake.calls kj1  t346 _ A13.out).mono ?_); rintro e w25 ⟨rfl, hb⟩; have n0_ := Aside0.mk (Kd.R_below (by (with_reducible repeat (first | apply Kd.R_alloc | apply Kd.R_drewN | apply Kd.R_drew)); exact HO331.out) hb); have n1_ := Aside0.mk (Kd.R_below (by (with_reducible repeat (first | apply Kd.R_alloc | apply Kd.R_drewN | apply Kd.R_drew)); exact HO342.out) hb); have n2_ := Aside0.mk (blk_below (g := gb333) (o := .cells #[.int .u8 t323, .int .u8 t324, .int .u32 t325, .int .u32 t326, .int .u16 t327, .int .u16 t328, .slice Ao17 t329.length co17] 26 (0, 0)) (by (with_reducible repeat (first | refine blk_drewN ?_ _ | refine blk_drew ?_ | refine blk_alloc ?_ _)); exact BK333.out) hb); have n3_ := Aside0.mk (blk_below (g := gb344) (o := .cells #[.int .u8 t334, .int .u8 t335, .int .u32 t336, .int .u32 t337, .int .u16 t338, .int .u16 t339, .slice Ao22 t340.length co22] 26 (0, 0)) (by (with_reducible repeat (first | refine blk_drewN ?_ _ | refine blk_drew ?_ | refine blk_alloc ?_ _)); exact BK344.out) hb); have n4_ := Aside0.mk (below_step (by repeat (first | (with_reducible first | exact HB.out | apply below_alloc | apply pw_below_drewN | apply below_drew1 | refine below_set ?_ GE333.out | refine below_set ?_ GE344.out) | exact HB.out)) hb); clear HO331; clear HO342; clear BK333; clear BK344; clear HB; have HO331 := n0_; have HO342 := n1_; have BK333 := n2_; have BK344 := n3_; have HB := n4_; clear n0_ n1_ n2_ n3_ n4_; (try clear hb); (try clear hb2); (try clear hk); (try clear hi)))
      all_goals go_ret
      all_goals first | (exact ⟨by first | rfl | (simp [errW_none, errW_some] <;> rfl) | (simp [*, errW_none, errW_some] <;> rfl), by repeat (first | (with_reducible first | exact HB.out | apply below_alloc | apply pw_below_drewN | apply below_drew1 | refine below_set ?_ GE333.out | refine below_set ?_ GE344.out) | exact HB.out)⟩) | (exfalso; simp_all; done)
     ·rw [if_neg c12] at H
      exact absurd H (by simp)
    ·replace c11 := Bool.eq_false_iff.mpr c11
     subst c11
     have H1 : (none) = some r := by rw [if_neg (show ¬ (false = true) by decide)] at H; exact H
     clear H
     have H := H1
     clear H1
     exact absurd H (by simp)

/-- THE ONE PURE STATEMENT of annuletlaw18_GramGets: yours. -/
def annuletlaw18_GramGets.Pure : Prop := ∀ (l0 : List Int), l0.length ≤ maxLen → l0.length * 1 ≤ 140737488351232 → (∀ x ∈ l0, (Lit.int .u8 x).wf = true) → ∃ k, annuletlaw18_GramGets.f k l0 = some true
theorem annuletlaw18_GramGets.walk (P : annuletlaw18_GramGets.Pure) (a0 : Option Addr) (len0 cap0 : Nat) (z0 : List Int) (w : World) (w0 : (a0 = none ∧ len0 = 0 ∧ cap0 = 0 ∧ z0 = []) ∨ ∃ x, a0 = some x ∧ len0 ≤ cap0 ∧ cap0 ≤ maxLen ∧ z0.length = cap0 ∧ (∀ i, i < z0.length → w.cell? (x.add i) = some (.int .u8 (z0.getD i 0))) ∧ ∀ n ∈ z0, (Lit.int .u8 n).wf = true) (y0 : len0 * 1 ≤ 140737488351232) :
  Calls Try.prog 4 #[.slice a0 len0 cap0] w fun e w' => e = .returned (.bool true) ∧ Below w.heap.size w w' := by
 obtain ⟨l0, rfl, hr0, hm0, hw0, hc0⟩ := ReadsInt.ofRowC w0
 obtain ⟨k, h⟩ := P l0 hm0 y0 hw0
 refine (annuletlaw18_GramGets.calls k _ _ l0 true w (Kd.C_of_reads (d := (0 : Int)) (h1 := fun _ => rfl) hr0) hc0 h).mono ?_
 rintro e w' ⟨rfl, hd⟩
 exact ⟨rfl, hd⟩

end Go.Proofs.Ytdadpfdmgjnamaa.PGramGets
