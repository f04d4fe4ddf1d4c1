/- Written by a program of this session (a turned copy of the kit's print): functions of the program, each with the Lean function that it comes to, and the row of one law. No condition. -/
import Derived.Test.YtlgmhblmdjanfaaPCrcJoinsx0
namespace Go.Proofs.Ytlgmhblmdjanfaa.PCrcJoins
open Go.RowKit Go.Proofs.YtlgmhblmdjanfaaW.PrintWords Go.Proofs.YtlgmhblmdjanfaaW.PrintLast Go.Proofs.YtlgmhblmdjanfaaW.PrintMore
attribute [local go_sem] max2_int min2_int max_two min_two max_three min_three max_four min_four   -- for this text's walks alone
set_option linter.unusedVariables false
set_option linter.unusedSimpArgs false

/-! ### crc_bit: function 23 -/
def crc_bit.f (a0 : Int) : Option (Int) := some (Go.bits .xor .u32 (a0 / 2) (Go.bits .and .u32 2197175160 ((-(Go.bits .and .u32 a0 1)) % 4294967296)))
set_option maxHeartbeats 3000000 in
set_option maxRecDepth 100000 in
theorem crc_bit.calls (a0 : Int) (r : Int) (w : World) (h : crc_bit.f a0 = some r) :
    Calls Try.prog 23 #[.int .u32 a0] w fun e w' => e = .returned (.int .u32 r) ∧ Drawn0 w w' := by
  have H : (some (Go.bits .xor .u32 (a0 / 2) (Go.bits .and .u32 2197175160 ((-(Go.bits .and .u32 a0 1)) % 4294967296)))) = some r := h
  clear h
  obtain rfl := Option.some.inj H
  go_enter Try.func23, Try.ntmps23
  go_wp2
  all_goals go_ret
  all_goals first | (exact ⟨by first | rfl | (simp; done) | (simp [*]; done) | (refine congrArg Ending.returned ?_; show Value.string _ = Value.string _; (first | (congr 2 <;> omega) | (congr 3 <;> omega) | (congr 4 <;> omega))), by repeat (first | exact Drawn0.refl _ | apply Drawn0.step)⟩) | (exfalso; simp_all; done)

/-! ### crc_eight: function 17 -/
def crc_eight.l0 : Nat → Int → Int → Option (Int)
  | 0, _, _ => none
  | k + 1, x0, x3 => if x3 < 8 then ((crc_bit.f x0).bind fun t101 => (crc_eight.l0 k t101 (wrap64 (x3 + 1)))) else (some x0)
def crc_eight.f (k : Nat) (a0 : Int) : Option (Int) := crc_eight.l0 k a0 0
theorem crc_eight.mono_l : ∀ k, (∀ y0 y1, LeO (crc_eight.l0 k y0 y1) (crc_eight.l0 (k + 1) y0 y1))
  | 0 => fun _ _ r h => by simp [crc_eight.l0] at h
  | k + 1 => by
    have ih0 := crc_eight.mono_l k
    · intro y0 y1
      unfold crc_eight.l0
      repeat' first
      | (with_reducible exact ih0 _ _)
      | (with_reducible exact LeO.refl _)
      | (with_reducible exact LeO.none _)
      | (with_reducible refine LeO.ite ?_ ?_)
      | (with_reducible refine LeO.bind ?_ (fun _ => ?_))
      | exact ih0 _ _
      | exact LeO.none _
      | refine LeO.ite ?_ ?_
      | refine LeO.bind ?_ (fun _ => ?_)
theorem crc_eight.mono : ∀ a0 k, LeO (crc_eight.f k a0) (crc_eight.f (k + 1) a0) := by
  intro a0 k
  have ih0 := crc_eight.mono_l k
  unfold crc_eight.f
  repeat' first
      | (with_reducible exact ih0 _ _)
      | (with_reducible exact LeO.refl _)
      | (with_reducible exact LeO.none _)
      | (with_reducible refine LeO.ite ?_ ?_)
      | (with_reducible refine LeO.bind ?_ (fun _ => ?_))
      | exact ih0 _ _
      | exact LeO.none _
      | refine LeO.ite ?_ ?_
      | refine LeO.bind ?_ (fun _ => ?_)
set_option maxHeartbeats 3000000 in
set_option maxRecDepth 100000 in
theorem crc_eight.calls (k : Nat) (a0 : Int) (r : Int) (w : World) (h : crc_eight.f k a0 = some r) :
    Calls Try.prog 17 #[.int .u32 a0] w fun e w' => e = .returned (.int .u32 r) ∧ Drawn0 w w' := by
  have H : (crc_eight.l0 k a0 0) = some r := h
  clear h
  have H' := Aside0.mk H
  clear H
  go_enter Try.func17, Try.ntmps17
  go_wp2
  go_loopg [0, 3] k (fun kq v0 v3 w' => ∃ (x0_1 : Int) (x3_1 : Int), v0 = .int .u32 x0_1 ∧ v3 = .int .i64 x3_1 ∧ Aside0 (crc_eight.l0 kq x0_1 x3_1 = some r) ∧ Aside0 (kq ≤ k) ∧ Drawn0 w w')
  case atStart => exact ⟨(a0), (0), (by first | rfl | (simp; done) | (simp [*]; done)), (by first | rfl | (simp; done) | (simp [*]; done)), H', ⟨Nat.le_refl _⟩, by repeat (first | exact Drawn0.refl _ | apply Drawn0.step)⟩
  case round =>
    clear H'
    try clear c1
    obtain ⟨x0_1, x3_1, rfl, rfl, HA, HK1, ⟨m1, rfl⟩⟩ := hrel
    cases gk with
    | zero => exact absurd HA.out (by simp [crc_eight.l0])
    | succ k1 =>
      have H := HA.out
      clear HA
      simp only [crc_eight.l0] at H
      by_cases c2 : x3_1 < 8
      · rw [if_pos c2] at H
        have c2b0 : decide (x3_1 < 8) = true := decide_eq_true c2
        clear c2
        replace H := Option.bind_eq_some_iff.mp H
        obtain ⟨t101, A30, H⟩ := H
        replace H : (crc_eight.l0 k1 t101 (wrap64 (x3_1 + 1))) = some r := H
        have A3 := Aside0.mk A30
        clear A30
        have H' := Aside0.mk H
        clear H
        go_wp2_with (first | ((with_reducible refine gate_callee (f := 23) rfl ?_); refine goesL_ (some 6) rfl rfl Try.func23 (by kernel_rfl) rfl #[.int .u32 x0_1] rfl (by (try simp only [List.map_toArray, List.map_cons, List.map_nil]); first | done | rfl | (simp only [List.length_drop, List.length_take]; rfl)) ?_; (with_reducible refine (crc_bit.calls x0_1 t101 _ A3.out).mono ?_); rintro e w' ⟨rfl, ⟨nd, rfl⟩⟩; refine ⟨_, rfl, ?_⟩))
        go_roundg k1
        case measure => have := HK1.out; omega
        case rel => exact ⟨(t101), (wrap64 (x3_1 + 1)), (by first | rfl | (simp; done) | (simp [*]; done)), (by first | rfl | (simp; done) | (simp [*]; done)), H', ⟨by have := HK1.out; omega⟩, by repeat (first | exact Drawn0.refl _ | apply Drawn0.step)⟩
      · rw [if_neg c2] at H
        have c2b0 : decide (x3_1 < 8) = false := decide_eq_false c2
        clear c2
        obtain rfl := Option.some.inj H
        go_wp2
        all_goals go_ret
        all_goals first | (exact ⟨by first | rfl | (simp; done) | (simp [*]; done) | (refine congrArg Ending.returned ?_; show Value.string _ = Value.string _; (first | (congr 2 <;> omega) | (congr 3 <;> omega) | (congr 4 <;> omega))), by repeat (first | exact Drawn0.refl _ | apply Drawn0.step)⟩) | (exfalso; simp_all; done)

-- NOT PRINTED: function 18 (crc_table)


/-! ### crc_Step -/
theorem eight_f (x : Int) : crc_eight.f 9 x = some (eightI x) := by
  simp [crc_eight.f, crc_eight.l0, crc_bit.f, wrap64, eightI, bitI]
theorem eight_calls (x : Int) (w : World) : Calls Try.prog 17 #[.int .u32 x] w fun e w' => e = .returned (.int .u32 (eightI x)) ∧ Drawn0 w w' := crc_eight.calls 9 x _ w (eight_f x)
set_option maxHeartbeats 3000000 in
set_option maxRecDepth 100000 in
theorem table_calls (w : World) : Calls Try.prog 18 #[] w fun e w' => e = .returned (.agg (nums .u32 (fillL 256 (fun i => eightI i) 256)).toArray) ∧ Below w.heap.size w w' := by
  obtain ⟨Z, hZ⟩ : ∃ Z : List Int, Z = List.replicate 256 0 := ⟨_, rfl⟩
  have hz : ∀ w, (zeroValue 37).run Try.prog w = .ok (.agg (nums .u32 Z).toArray) w := hZ ▸ (zero_of_info (n := 256) (by kernel_rfl)).1
  have hs : (Try.prog.info? 37).map (·.size) = some 256 := by kernel_rfl
  have HF := Aside0.mk (FillW.first 37 256 (fun i => eightI i) w Z hZ)
  clear hZ
  have HS := Aside0.mk hs
  clear hs
  go_enter Try.func18, Try.ntmps18
  go_wp2
  go_loopw [3] (fun v3 wr => ∃ i : Nat, i ≤ 256 ∧ v3 = .int .i64 (i : Int) ∧ FillW 37 256 (fun i => eightI i) w wr i) (fun v3 _ => 256 - (intOf v3).toNat)
  case atStart => exact ⟨0, by omega, rfl, HF.out⟩
  case round =>
    obtain ⟨i, hi, rfl, hW⟩ := hrel
    by_cases hlt : i < 256
    · have hc1 : (i : Int) < 256 := by omega
      have HW := Aside0.mk hW
      clear hW
      have hw8 : wrap64 (i : Int) % 4294967296 = i := by unfold wrap64; omega
      go_wp2_with (first | ((with_reducible refine gate_callee (f := 17) rfl ?_); refine goesL_ (some 9) rfl rfl Try.func17 (by kernel_rfl) rfl #[.int .u32 (i : Int)] rfl (by (try simp only [List.map_toArray, List.map_cons, List.map_nil]); first | done | rfl | (simp only [List.length_drop, List.length_take]; rfl)) ?_; (with_reducible refine (eight_calls (i : Int) _).mono ?_); rintro e w' ⟨rfl, hd⟩; have HW2 := Aside0.mk (HW.out.drawn hd); have hcell := HW2.out.cell hlt; have hfro := blk_frozen HW2.out.blk i; clear hd HW; refine ⟨_, rfl, ?_⟩))
      exact ⟨⟨i + 1, by omega, by congr 1, HW2.out.next hlt⟩, by simp [intOf]; omega⟩
    · obtain rfl : i = 256 := by omega
      obtain ⟨C, hC⟩ : ∃ C, C = (nums .u32 (fillL 256 (fun i => eightI i) 256)).toArray := ⟨_, rfl⟩
      have hCs : C.size = 256 := by rw [hC]; simp [nums, fillL_len]
      have hCo : C.all (·.oneCell') = true := by
        rw [hC, Array.all_eq_true_iff_forall_mem]
        intro x hx
        simp only [nums, List.mem_toArray, List.mem_map] at hx
        obtain ⟨y, _, rfl⟩ := hx
        rfl
      have hW1 := hW.res
      have hW2 := hW.blk
      have hW3 := hW.below
      rw [← hC] at hW2
      have HE := Aside0.mk hC
      have HR := Aside0.mk hW1
      have HK := Aside0.mk hW2
      have HB := Aside0.mk hW3
      have HC := Aside0.mk hCs
      have HO := Aside0.mk hCo
      clear hW hC hW1 hW2 hW3 hCs hCo
      go_wp2
      refine wp_load_row 37 (.tmp 1) rfl (w.heap.size + 1) rfl 37 C (0, 0) _ HK.out (by kernel_rfl : Try.prog.underlying 37 = some (.array 256 23)) rfl (by rw [HC.out]; exact HS.out) ?_
      have hcs := HC.out
      have hsc := run_storeCells_row (P := Try.prog) wr w.heap.size 37 37 _ C HR.out (by rw [HC.out]; exact HS.out) (by rw [HC.out]; simp [nums]) HO.out
      go_wp2
      have hrow := setRow_heap wr w.heap.size _ C 37 (0, 0) HR.out
      refine bodyPost_ret (v := .agg C) (results_cell_row (p := 0) rfl _ _ w.heap.size 37 C (0, 0) _ rfl hrow (by kernel_rfl : Try.prog.underlying 37 = some (.array 256 23)) rfl (by rw [HC.out]; exact HS.out)) rfl ⟨by rw [HE.out], below_setRow2 HB.out (Nat.le_refl _) _⟩
set_option maxHeartbeats 3000000 in
set_option maxRecDepth 100000 in
theorem Step_small (a0 : Int) (A1 : Option Addr) (c1 : Nat) (l1 : List Int) (w : World) (hr1 : Kd.C (Kd.int .u8) w A1 l1.length l1) (hc1 : l1.length ≤ c1) (hl : l1.length < 64) :
    Calls Try.prog 11 #[.int .u32 a0, .slice A1 l1.length c1] w fun e w' => e = .returned (.int .u32 (stepSmall a0 l1)) ∧ Drawn0 w w' := by
  have HR1 := Aside0.mk hr1
  have HC1 := Aside0.mk hc1
  clear hr1 hc1
  have h64 : (l1.length : Int) < 64 := by omega
  go_enter Try.func11, Try.ntmps11
  go_wp2
  go_loopw [0, 15] (fun v0 v15 wr => ∃ i : Nat, i ≤ l1.length ∧ v0 = .int .u32 (stepSmall a0 (l1.take i)) ∧ v15 = .int .i64 (i : Int) ∧ Drawn0 w wr) (fun _ v15 _ => l1.length - (intOf v15).toNat)
  case atStart => exact ⟨0, by omega, rfl, rfl, Drawn0.refl _⟩
  case round =>
    obtain ⟨i, hi, rfl, rfl, ⟨m1, rfl⟩⟩ := hrel
    by_cases hlt : i < l1.length
    · have p0 : (0 : Int) ≤ (i : Int) := by omega
      have q0 : (i : Int) < (l1.length : Int) := by omega
      obtain ⟨ad, e, hx⟩ := Kd.at_int (Kd.C_drewN HR1.out m1) (i : Int) p0 q0
      cases e
      simp only [Int.toNat_natCast] at hx
      have hn := stepSmall_next a0 l1 i hlt
      generalize stepSmall a0 (l1.take i) = s at *
      go_wp2_with (first | ((with_reducible refine gate_callee (f := 17) rfl ?_); refine goesL_ (some 23) rfl rfl Try.func17 (by kernel_rfl) rfl #[.int .u32 (Go.bits .xor .u32 s (rd l1 (i : Int) % 4294967296))] rfl (by (try simp only [List.map_toArray, List.map_cons, List.map_nil]); first | done | rfl | (simp only [List.length_drop, List.length_take]; rfl)) ?_; (with_reducible refine (eight_calls _ _).mono ?_); rintro e w' ⟨rfl, ⟨nd, rfl⟩⟩; refine ⟨_, rfl, ?_⟩))
      exact ⟨⟨i + 1, by omega, by rw [hn], by congr 1, by repeat (first | exact Drawn0.refl _ | apply Drawn0.step)⟩, by simp [intOf]; omega⟩
    · obtain rfl : i = l1.length := by omega
      rw [List.take_of_length_le (Nat.le_refl _)]
      go_wp2
      go_ret
      exact ⟨by simp, by repeat (first | exact Drawn0.refl _ | apply Drawn0.step)⟩
set_option maxHeartbeats 3000000 in
set_option maxRecDepth 100000 in
theorem Step_tab (a0 : Int) (A1 : Option Addr) (c1 : Nat) (l1 : List Int) (w : World) (hr1 : Kd.C (Kd.int .u8) w A1 l1.length l1) (hc1 : l1.length ≤ c1) (hl : ¬ l1.length < 64) :
    Calls Try.prog 11 #[.int .u32 a0, .slice A1 l1.length c1] w fun e w' => e = .returned (.int .u32 (stepTab a0 l1)) ∧ Below w.heap.size w w' := by
  have HR1 := Aside0.mk hr1
  have HC1 := Aside0.mk hc1
  clear hr1 hc1
  have h64 : ¬ (l1.length : Int) < 64 := by omega
  obtain ⟨Z, hZ⟩ : ∃ Z : List Int, Z = List.replicate 256 0 := ⟨_, rfl⟩
  have hz : ∀ w, (zeroValue 37).run Try.prog w = .ok (.agg (nums .u32 Z).toArray) w := hZ ▸ (zero_of_info (n := 256) (by kernel_rfl)).1
  have hs : (Try.prog.info? 37).map (·.size) = some 256 := by kernel_rfl
  obtain ⟨C, hC⟩ : ∃ C, C = (nums .u32 (fillL 256 (fun i => eightI i) 256)).toArray := ⟨_, rfl⟩
  have hCs : C.size = 256 := by rw [hC]; simp [nums, fillL_len]
  have hZs : Z.length = 256 := by rw [hZ]; simp
  have hCo : C.all (·.oneCell') = true := by
    rw [hC, Array.all_eq_true_iff_forall_mem]
    intro x hx
    simp only [nums, List.mem_toArray, List.mem_map] at hx
    obtain ⟨y, _, rfl⟩ := hx
    rfl
  have hT : ∀ w, Calls Try.prog 18 #[] w fun e w' => e = .returned (.agg C) ∧ Below w.heap.size w w' := hC ▸ table_calls
  have hsc : ∀ w1 : World, (storeCells ⟨w1.heap.size, 0, none⟩ C.toList 0).run Try.prog (w1.alloc (.cells (nums .u32 Z).toArray 37)) = .ok () (w1.alloc (.cells C 37)) := fun w1 => run_storeCells_new (P := Try.prog) w1 37 _ C (by rw [hCs]; exact hs) (by rw [hCs]; simp [nums, hZs]) hCo
  have HC := Aside0.mk hC
  have HT := Aside0.mk hT
  clear hZ hs hC hCo hT hZs
  go_enter Try.func11, Try.ntmps11
  go_wp2_with (first | ((with_reducible refine gate_callee (f := 18) rfl ?_); refine goesL_ (some 26) rfl rfl Try.func18 (by kernel_rfl) rfl #[] rfl (by (try simp only [List.map_toArray, List.map_cons, List.map_nil]); first | done | rfl | (simp only [List.length_drop, List.length_take]; rfl)) ?_; (with_reducible refine (HT.out _).mono ?_); rintro e w1 ⟨rfl, hb1⟩; have HB1 := Aside0.mk hb1; clear hb1; have hsc1 := hsc w1; clear hsc; refine ⟨_, rfl, ?_⟩))
  go_loopw [0, 29] (fun v0 v29 wr => ∃ i : Nat, i ≤ l1.length ∧ v0 = .int .u32 (stepTab a0 (l1.take i)) ∧ v29 = .int .i64 (i : Int) ∧ TabW 37 w1.heap.size C w wr) (fun _ v29 _ => l1.length - (intOf v29).toNat)
  case atStart => exact ⟨0, by omega, rfl, rfl, ⟨heap_alloc_new w1 _, HB1.out.alloc HB1.out.size _⟩⟩
  case round =>
    obtain ⟨i, hi, rfl, rfl, hW⟩ := hrel
    clear hsc1 hz hCs
    by_cases hlt : i < l1.length
    · have p0 : (0 : Int) ≤ (i : Int) := by omega
      have q0 : (i : Int) < (l1.length : Int) := by omega
      obtain ⟨ad, e, hx⟩ := Kd.at_int (Kd.C_below HR1.out hW.below) (i : Int) p0 q0
      cases e
      simp only [Int.toNat_natCast] at hx
      have hn := stepTab_next a0 l1 i hlt
      have HN := Aside0.mk hn
      clear hn
      obtain ⟨s, hs⟩ : ∃ s, s = stepTab a0 (l1.take i) := ⟨_, rfl⟩
      rw [← hs]
      have hr := xor_u8_range (s % 256) (rd l1 (i : Int))
      have hr0 := hr.1
      have hr1 := hr.2
      have hcell := tab_cell HC.out hW _ hr0 hr1
      have HS := Aside0.mk hs
      have HW := Aside0.mk hW
      clear hr hs hW
      go_wp2
      have hw1 : wrap64 ((i : Int) + 1) = (i : Int) + 1 := by have := HR1.out.2.1; unfold wrap64; omega
      exact ⟨⟨i + 1, by omega, by rw [HN.out, HS.out], by rw [hw1]; congr 1, HW.out⟩, by rw [hw1]; simp [intOf]; omega⟩
    · obtain rfl : i = l1.length := by omega
      rw [List.take_of_length_le (Nat.le_refl _)]
      have HW := Aside0.mk hW
      clear hW
      go_wp2
      go_ret
      exact ⟨by simp, HW.out.below⟩
def crc_Step.f (a0 : Int) (l1 : List Int) : Option (Int) := some (if l1.length < 64 then stepSmall a0 l1 else stepTab a0 l1)
theorem crc_Step.calls (a0 : Int) (A1 : Option Addr) (c1 : Nat) (l1 : List Int) (r : Int) (w : World) (hr1 : Kd.C (Kd.int .u8) w A1 l1.length l1) (hc1 : l1.length ≤ c1) (h : crc_Step.f a0 l1 = some r) :
    Calls Try.prog 11 #[.int .u32 a0, .slice A1 l1.length c1] w fun e w' => e = .returned (.int .u32 r) ∧ Below w.heap.size w w' := by
  obtain rfl := Option.some.inj h
  by_cases hl : l1.length < 64
  · rw [if_pos hl]
    exact (Step_small a0 A1 c1 l1 w hr1 hc1 hl).mono fun e w' ⟨he, hw⟩ => ⟨he, hw.below⟩
  · rw [if_neg hl]
    exact Step_tab a0 A1 c1 l1 w hr1 hc1 hl

/-! ### crc_Sum: function 9 -/
def crc_Sum.f (l0 : List Int) : Option (Int) := (crc_Step.f 4294967295 l0).bind fun t102 => (some (Go.bits .xor .u32 4294967295 t102))
set_option maxHeartbeats 3000000 in
set_option maxRecDepth 100000 in
theorem crc_Sum.calls (A0 : Option Addr) (c0 : Nat) (l0 : List Int) (r : Int) (w : World) (hr0 : Kd.C (Kd.int .u8) w A0 l0.length l0) (hc0 : l0.length ≤ c0) (h : crc_Sum.f l0 = some r) :
    Calls Try.prog 9 #[.slice A0 l0.length c0] w fun e w' => e = .returned (.int .u32 r) ∧ Below w.heap.size w w' := by
  have HR0 := Aside0.mk hr0
  have HC0 := Aside0.mk hc0
  clear hr0 hc0
  have HB := Aside0.mk (Below.refl w.heap.size w)
  have H : ((crc_Step.f 4294967295 l0).bind fun t102 => (some (Go.bits .xor .u32 4294967295 t102))) = some r := h
  clear h
  replace H := Option.bind_eq_some_iff.mp H
  obtain ⟨t102, A20, H⟩ := H
  replace H : (some (Go.bits .xor .u32 4294967295 t102)) = some r := H
  have A2 := Aside0.mk A20
  clear A20
  obtain rfl := Option.some.inj H
  go_enter Try.func9, Try.ntmps9
  go_wp2_with (first | ((with_reducible refine gate_callee (f := 11) rfl ?_); refine goesL_ (some 4) rfl rfl Try.func11 (by kernel_rfl) rfl #[.int .u32 4294967295, .slice A0 l0.length c0] rfl (by (try simp only [List.map_toArray, List.map_cons, List.map_nil]); first | done | rfl | (simp only [List.length_drop, List.length_take]; rfl)) ?_; (with_reducible refine (crc_Step.calls 4294967295 _ _ l0 t102 _ ?side1 ?side2 A2.out).mono ?_); (case side1 => repeat (first | exact HR0.out | (with_reducible refine Kd.C_alloc ?_ _) | (with_reducible refine Kd.C_drewN ?_ _) | (with_reducible refine Kd.C_drew ?_))); (case side2 => exact HC0.out); rintro e w3 ⟨rfl, hb⟩; refine ⟨_, rfl, ?_⟩; have n0_ := Aside0.mk (below_step (by repeat (first | (with_reducible first | exact HB.out | apply below_alloc | apply pw_below_drewN | apply below_drew1) | exact HB.out)) hb); clear HB; have HB := n0_; clear n0_; (try clear hb); (try clear hb2); (try clear hk); (try clear hi)))
  all_goals go_ret
  all_goals first | (exact ⟨by first | rfl | (simp [errW_none, errW_some] <;> rfl) | (simp [*, errW_none, errW_some] <;> rfl), by repeat (first | (with_reducible first | exact HB.out | apply below_alloc | apply pw_below_drewN | apply below_drew1) | exact HB.out)⟩) | (exfalso; simp_all; done)

-- NOT PRINTED: function 20 (crc_byteless)

-- NOT PRINTED: function 21 (crc_matrix_times)

-- NOT PRINTED: function 22 (crc_matrix_squared)


/-! ### crc_Join -/
set_option maxHeartbeats 3000000 in
set_option maxRecDepth 100000 in
theorem times_calls (m : List Int) (x : Int) (hm : m.length = 32) (w : World) :
    Calls Try.prog 21 #[.agg (nums .u32 m).toArray, .int .u32 x] w fun e w' => e = .returned (.int .u32 (timesI m x 32)) ∧ Below w.heap.size w w' := by
  obtain ⟨C, hC⟩ : ∃ C, C = (nums .u32 m).toArray := ⟨_, rfl⟩
  rw [← hC]
  have hs : (Try.prog.info? 42).map (·.size) = some 32 := by kernel_rfl
  have hCs : C.size = 32 := by rw [hC]; simp [nums, hm]
  have HC := Aside0.mk hC
  have HM := Aside0.mk hm
  clear hC hm
  go_enter Try.func21, Try.ntmps21
  go_wp2
  go_loopw [5, 7] (fun v5 v7 wr => ∃ i : Nat, i ≤ 32 ∧ v5 = .int .u32 (timesI m x i) ∧ v7 = .int .i64 (i : Int) ∧ ArrW 42 w.heap.size C w wr) (fun _ v7 _ => 32 - (intOf v7).toNat)
  case atStart => exact ⟨0, by omega, rfl, rfl, ⟨heap_alloc_new w _, below_alloc (Below.refl _ _) _⟩⟩
  case round =>
    obtain ⟨i, hi, rfl, rfl, hW⟩ := hrel
    clear hs hCs
    by_cases hlt : i < 32
    · have hc1 : (i : Int) < 32 := by omega
      have hc0 : (0 : Int) ≤ (i : Int) := by omega
      have hcell := nums_cell HC.out hW.drew i (by rw [HM.out]; exact hlt)
      have HW := Aside0.mk hW.drew
      clear hW
      obtain ⟨y, hy⟩ : ∃ y, y = timesI m x i := ⟨_, rfl⟩
      rw [← hy]
      have HY := Aside0.mk hy
      clear hy
      go_wp2
      refine start_ (n := 12) (S := fun w' => w'.cell? ⟨w.heap.size, i, none⟩ = some (.int .u32 (m.getD i 0))) (ds := []) #[false, false, false, false, false, false, false, false, false, false, false, false] (by kernel_rfl) rfl rfl (hcell) (fun hHeld => ?_)
      refine pure_ (i := 0) (N := some 10) (v := ?_) (a' := ?_) #[true, false, false, false, false, false, false, false, false, false, false, false] rfl rfl (by kernel_rfl) (fun _ _ _ h => h) (Or.inl ⟨by rfl, ?_⟩) ?_ ?_
      rotate_left
      · intro w'
        go_simp
        with_reducible rfl
      rotate_left
      · simp only [Act.put, List.setIfInBounds_toArray, List.set_cons_zero, List.set_cons_succ, i64_w, i32_w]
        rfl
      refine pure_ (i := 1) (N := some 11) (v := ?_) (a' := ?_) #[true, true, false, false, false, false, false, false, false, false, false, false] rfl rfl (by kernel_rfl) (fun _ _ _ h => h) (Or.inl ⟨by rfl, ?_⟩) ?_ ?_
      rotate_left
      · intro w'
        go_simp
        with_reducible rfl
      rotate_left
      · simp only [Act.put, List.setIfInBounds_toArray, List.set_cons_zero, List.set_cons_succ, i64_w, i32_w]
        rfl
      refine pure_ (i := 2) (N := some 12) (v := ?_) (a' := ?_) #[true, true, true, false, false, false, false, false, false, false, false, false] rfl rfl (by kernel_rfl) (fun _ _ _ h => h) (Or.inl ⟨by rfl, ?_⟩) ?_ ?_
      rotate_left
      · intro w'
        go_simp
        with_reducible rfl
      rotate_left
      · simp only [Act.put, List.setIfInBounds_toArray, List.set_cons_zero, List.set_cons_succ, i64_w, i32_w]
        rfl
      refine pure_ (i := 4) (N := some 14) (v := ?_) (a' := ?_) #[true, true, true, false, true, false, false, false, false, false, false, false] rfl rfl (by kernel_rfl) (fun _ _ _ h => h) (Or.inl ⟨by rfl, ?_⟩) ?_ ?_
      rotate_left
      · intro w'
        go_simp
        with_reducible rfl
      rotate_left
      · simp only [Act.put, List.setIfInBounds_toArray, List.set_cons_zero, List.set_cons_succ, i64_w, i32_w]
        rfl
      refine pure_ (i := 5) (N := some 15) (v := ?_) (a' := ?_) #[true, true, true, false, true, true, false, false, false, false, false, false] rfl rfl (by kernel_rfl) (fun _ _ _ h => h) (Or.inl ⟨by rfl, ?_⟩) ?_ ?_
      rotate_left
      · intro w'
        go_simp
        with_reducible rfl
      rotate_left
      · simp only [Act.put, List.setIfInBounds_toArray, List.set_cons_zero, List.set_cons_succ, i64_w, i32_w]
        rfl
      refine pure_ (i := 6) (N := some 16) (v := ?_) (a' := ?_) #[true, true, true, false, true, true, true, false, false, false, false, false] rfl rfl (by kernel_rfl) (fun _ _ _ h => h) (Or.inl ⟨by rfl, ?_⟩) ?_ ?_
      rotate_left
      · intro w'
        go_simp
        with_reducible rfl
      rotate_left
      · simp only [Act.put, List.setIfInBounds_toArray, List.set_cons_zero, List.set_cons_succ, i64_w, i32_w]
        rfl
      refine pure_ (i := 7) (N := some 17) (v := ?_) (a' := ?_) #[true, true, true, false, true, true, true, true, false, false, false, false] rfl rfl (by kernel_rfl) (fun _ _ _ h => h) (Or.inl ⟨by rfl, ?_⟩) ?_ ?_
      rotate_left
      · intro w'
        go_simp
        with_reducible rfl
      rotate_left
      · simp only [Act.put, List.setIfInBounds_toArray, List.set_cons_zero, List.set_cons_succ, i64_w, i32_w]
        rfl
      refine pure_ (i := 8) (N := some 18) (v := ?_) (a' := ?_) #[true, true, true, false, true, true, true, true, true, false, false, false] rfl rfl (by kernel_rfl) (fun _ _ _ h => h) (Or.inl ⟨by rfl, ?_⟩) ?_ ?_
      rotate_left
      · intro w'
        go_simp
        with_reducible rfl
      rotate_left
      · simp only [Act.put, List.setIfInBounds_toArray, List.set_cons_zero, List.set_cons_succ, i64_w, i32_w]
        rfl
      refine take_ (i := 3) (N := some 13) (v := ?_) (a' := ?_) #[true, true, true, true, true, true, true, true, true, false, false, false] rfl rfl (by kernel_rfl) (fun _ _ _ h => h) (Or.inl ⟨by rfl, ?_⟩) hHeld ?_ ?_
      rotate_left
      · intro w' s0
        go_simp
        with_reducible rfl
      rotate_left
      · simp only [Act.put, List.setIfInBounds_toArray, List.set_cons_zero, List.set_cons_succ, i64_w, i32_w]
        rfl
      refine pure_ (i := 9) (N := some 19) (v := ?_) (a' := ?_) #[true, true, true, true, true, true, true, true, true, true, false, false] rfl rfl (by kernel_rfl) (fun _ _ _ h => h) (Or.inl ⟨by rfl, ?_⟩) ?_ ?_
      rotate_left
      · intro w'
        go_simp
        with_reducible rfl
      rotate_left
      · simp only [Act.put, List.setIfInBounds_toArray, List.set_cons_zero, List.set_cons_succ, i64_w, i32_w]
        rfl
      refine pure_ (i := 10) (N := some 20) (v := ?_) (a' := ?_) #[true, true, true, true, true, true, true, true, true, true, true, false] rfl rfl (by kernel_rfl) (fun _ _ _ h => h) (Or.inl ⟨by rfl, ?_⟩) ?_ ?_
      rotate_left
      · intro w'
        go_simp
        with_reducible rfl
      rotate_left
      · simp only [Act.put, List.setIfInBounds_toArray, List.set_cons_zero, List.set_cons_succ, i64_w, i32_w]
        rfl
      refine pure_ (i := 11) (N := some 5) (v := ?_) (a' := ?_) #[true, true, true, true, true, true, true, true, true, true, true, true] rfl rfl (by kernel_rfl) (fun _ _ _ h => h) (Or.inl ⟨by rfl, ?_⟩) ?_ ?_
      rotate_left
      · intro w'
        go_simp
        with_reducible rfl
      rotate_left
      · simp only [Act.put, List.setIfInBounds_toArray, List.set_cons_zero, List.set_cons_succ, i64_w, i32_w]
        rfl
      refine done_ (by kernel_rfl) ?_
      go_wp2
      exact ⟨⟨i + 1, by omega, by rw [timesI, ← HY.out], by congr 1, HW.out⟩, by simp [intOf]; omega⟩
    · obtain rfl : i = 32 := by omega
      have HW := Aside0.mk hW
      clear hW
      go_wp2
      go_ret
      exact ⟨by simp, HW.out.below⟩
set_option maxHeartbeats 3000000 in
set_option maxRecDepth 100000 in
theorem byteless_calls (w : World) : Calls Try.prog 20 #[] w fun e w' => e = .returned (.agg (nums .u32 (fillL 32 (fun i => eightI (shl1 i)) 32)).toArray) ∧ Below w.heap.size w w' := by
  obtain ⟨Z, hZ⟩ : ∃ Z : List Int, Z = List.replicate 32 0 := ⟨_, rfl⟩
  have hz : ∀ w, (zeroValue 42).run Try.prog w = .ok (.agg (nums .u32 Z).toArray) w := hZ ▸ (zero_of_info (n := 32) (by kernel_rfl)).1
  have hs : (Try.prog.info? 42).map (·.size) = some 32 := by kernel_rfl
  have HF := Aside0.mk (FillW.first 42 32 (fun i => eightI (shl1 i)) w Z hZ)
  clear hZ
  have HS := Aside0.mk hs
  clear hs
  go_enter Try.func20, Try.ntmps20
  go_wp2
  go_loopw [3] (fun v3 wr => ∃ i : Nat, i ≤ 32 ∧ v3 = .int .i64 (i : Int) ∧ FillW 42 32 (fun i => eightI (shl1 i)) w wr i) (fun v3 _ => 32 - (intOf v3).toNat)
  case atStart => exact ⟨0, by omega, rfl, HF.out⟩
  case round =>
    obtain ⟨i, hi, rfl, hW⟩ := hrel
    by_cases hlt : i < 32
    · have hc1 : (i : Int) < 32 := by omega
      have HW := Aside0.mk hW
      clear hW
      have hc0 : (0 : Int) ≤ (i : Int) := by omega
      go_wp2_with (first | ((with_reducible refine gate_callee (f := 17) rfl ?_); refine goesL_ (some 9) rfl rfl Try.func17 (by kernel_rfl) rfl #[.int .u32 (shl1 i)] rfl (by (try simp only [List.map_toArray, List.map_cons, List.map_nil]); first | done | rfl | (simp only [List.length_drop, List.length_take]; rfl)) ?_; (with_reducible refine (eight_calls (shl1 i) _).mono ?_); rintro e w' ⟨rfl, hd⟩; have HW2 := Aside0.mk (HW.out.drawn hd); have hcell := HW2.out.cell hlt; have hfro := blk_frozen HW2.out.blk i; clear hd HW; refine ⟨_, rfl, ?_⟩))
      exact ⟨⟨i + 1, by omega, by congr 1, HW2.out.next hlt⟩, by simp [intOf]; omega⟩
    · obtain rfl : i = 32 := by omega
      obtain ⟨C, hC⟩ : ∃ C, C = (nums .u32 (fillL 32 (fun i => eightI (shl1 i)) 32)).toArray := ⟨_, rfl⟩
      have hCs : C.size = 32 := by rw [hC]; simp [nums, fillL_len]
      have hCo : C.all (·.oneCell') = true := by
        rw [hC, Array.all_eq_true_iff_forall_mem]
        intro x hx
        simp only [nums, List.mem_toArray, List.mem_map] at hx
        obtain ⟨y, _, rfl⟩ := hx
        rfl
      have hW1 := hW.res
      have hW2 := hW.blk
      have hW3 := hW.below
      rw [← hC] at hW2
      have HE := Aside0.mk hC
      have HR := Aside0.mk hW1
      have HK := Aside0.mk hW2
      have HB := Aside0.mk hW3
      have HC := Aside0.mk hCs
      have HO := Aside0.mk hCo
      clear hW hC hW1 hW2 hW3 hCs hCo
      go_wp2_with (first | ((with_reducible refine gate_dst (N := 12) rfl ?_); refine wpList_load_row rfl 42 (.tmp 1) rfl (w.heap.size + 1) rfl 42 C (0, 0) _ HK.out (by kernel_rfl : Try.prog.underlying 42 = some (.array 32 23)) rfl (by rw [HC.out]; exact HS.out) ?_) | (refine wpList_store_row rfl 42 (.tmp 0) (.tmp 12) rfl w.heap.size C rfl rfl 42 _ HR.out (by rw [HC.out]; exact HS.out) (by rw [HC.out]; simp [nums]) HO.out ?_))
      have hrow := setRow_heap wr w.heap.size _ C 42 (0, 0) HR.out
      refine bodyPost_ret (v := .agg C) (results_cell_row (p := 0) rfl _ _ w.heap.size 42 C (0, 0) _ rfl hrow (by kernel_rfl : Try.prog.underlying 42 = some (.array 32 23)) rfl (by rw [HC.out]; exact HS.out)) rfl ⟨by rw [HE.out], below_setRow2 HB.out (Nat.le_refl _) _⟩
set_option maxHeartbeats 3000000 in
set_option maxRecDepth 100000 in
theorem squared_calls (m : List Int) (hm : m.length = 32) (w : World) :
    Calls Try.prog 22 #[.agg (nums .u32 m).toArray] w fun e w' => e = .returned (.agg (nums .u32 (fillL 32 (fun i => timesI m (m[i]?.getD 0) 32) 32)).toArray) ∧ Below w.heap.size w w' := by
  obtain ⟨C, hC⟩ : ∃ C, C = (nums .u32 m).toArray := ⟨_, rfl⟩
  rw [← hC]
  have hT : ∀ x w, Calls Try.prog 21 #[.agg C, .int .u32 x] w fun e w' => e = .returned (.int .u32 (timesI m x 32)) ∧ Below w.heap.size w w' := fun x w => hC ▸ times_calls m x hm w
  obtain ⟨Z, hZ⟩ : ∃ Z : List Int, Z = List.replicate 32 0 := ⟨_, rfl⟩
  have hz : ∀ w, (zeroValue 42).run Try.prog w = .ok (.agg (nums .u32 Z).toArray) w := hZ ▸ (zero_of_info (n := 32) (by kernel_rfl)).1
  have hs : (Try.prog.info? 42).map (·.size) = some 32 := by kernel_rfl
  have hCS : C.size = 32 := by rw [hC]; simp [nums, hm]
  have HF := Aside0.mk (SqW.first C 42 32 (fun i => timesI m (m[i]?.getD 0) 32) w Z hZ)
  have HT := Aside0.mk hT
  have HC := Aside0.mk hC
  have HS := Aside0.mk hs
  have HM := Aside0.mk hm
  clear hZ hs hm hC hT
  go_enter Try.func22, Try.ntmps22
  go_wp2
  have HCS := Aside0.mk hCS
  clear hCS
  go_loopw [5] (fun v5 wr => ∃ i : Nat, i ≤ 32 ∧ v5 = .int .i64 (i : Int) ∧ SqW C 42 32 (fun i => timesI m (m[i]?.getD 0) 32) w wr i) (fun v5 _ => 32 - (intOf v5).toNat)
  case atStart => exact ⟨0, by omega, rfl, HF.out⟩
  case round =>
    obtain ⟨i, hi, rfl, hW⟩ := hrel
    clear HF
    by_cases hlt : i < 32
    · have hc1 : (i : Int) < 32 := by omega
      have hc0 : (0 : Int) ≤ (i : Int) := by omega
      have HW := Aside0.mk hW.drew
      clear hW
      go_wp2
      refine start_ (n := 8) (S := fun w' => SqW C 42 32 (fun i => timesI m (m[i]?.getD 0) 32) w w' i) (ds := [7]) #[false, false, false, false, false, false, false, false] (by kernel_rfl) rfl rfl (HW.out) (fun hHeld => ?_)
      refine pure_ (i := 0) (N := some 8) (v := ?_) (a' := ?_) #[true, false, false, false, false, false, false, false] rfl rfl (by kernel_rfl) (fun _ _ _ h => h) (Or.inl ⟨by rfl, ?_⟩) ?_ ?_
      rotate_left
      · intro w'
        go_simp
        with_reducible rfl
      rotate_left
      · simp only [Act.put, List.setIfInBounds_toArray, List.set_cons_zero, List.set_cons_succ, i64_w, i32_w]
        rfl
      refine pure_ (i := 2) (N := some 10) (v := ?_) (a' := ?_) #[true, false, true, false, false, false, false, false] rfl rfl (by kernel_rfl) (fun _ _ _ h => h) (Or.inl ⟨by rfl, ?_⟩) ?_ ?_
      rotate_left
      · intro w'
        go_simp
        with_reducible rfl
      rotate_left
      · simp only [Act.put, List.setIfInBounds_toArray, List.set_cons_zero, List.set_cons_succ, i64_w, i32_w]
        rfl
      refine pure_ (i := 3) (N := some 11) (v := ?_) (a' := ?_) #[true, false, true, true, false, false, false, false] rfl rfl (by kernel_rfl) (fun _ _ _ h => h) (Or.inl ⟨by rfl, ?_⟩) ?_ ?_
      rotate_left
      · intro w'
        go_simp
        with_reducible rfl
      rotate_left
      · simp only [Act.put, List.setIfInBounds_toArray, List.set_cons_zero, List.set_cons_succ, i64_w, i32_w]
        rfl
      refine take_ (i := 1) (N := some 9) (v := ?_) (a' := ?_) #[true, true, true, true, false, false, false, false] rfl rfl (by kernel_rfl) (fun _ _ _ h => h) (Or.inl ⟨by rfl, ?_⟩) hHeld ?_ ?_
      rotate_left
      · intro w' s0
        rw [exec_load_row (P := Try.prog) 42 (.tmp 1) ?ho w.heap.size ?hx 42 C (0, 0) (.array 32 23) s0.arg (by kernel_rfl) rfl (by rw [HCS.out]; exact HS.out)]
        all_goals rfl
      rotate_left
      · simp only [Act.put, List.setIfInBounds_toArray, List.set_cons_zero, List.set_cons_succ, i64_w, i32_w]
        rfl
      refine take_ (i := 4) (N := some 12) (v := ?_) (a' := ?_) #[true, true, true, true, true, false, false, false] rfl rfl (by kernel_rfl) (fun _ _ _ h => h) (Or.inl ⟨by rfl, ?_⟩) hHeld ?_ ?_
      rotate_left
      · intro w' s0
        have hcell := s0.argCell HC.out i (by rw [HM.out]; exact hlt)
        go_simp
        with_reducible rfl
      rotate_left
      · simp only [Act.put, List.setIfInBounds_toArray, List.set_cons_zero, List.set_cons_succ, i64_w, i32_w]
        rfl
      refine one_ (i := 5) (N := some 13) #[true, true, true, true, true, true, false, false] rfl rfl (by kernel_rfl) (by decide) (fun K hK => ?_)
      refine goes_ Try.func21 (by kernel_rfl) rfl #[.agg C, .int .u32 (m[i]?.getD 0)] (by rfl) rfl rfl (by simp only [List.map_toArray, List.map_cons, List.map_nil]; rfl) ?_
      with_reducible refine (HT.out (m[i]?.getD 0) _).mono ?_
      rintro e w3 ⟨rfl, hb⟩
      refine ⟨_, rfl, ?_⟩
      refine hK.out _ _ (hHeld.after hb) (fun hHeld => ?_)
      clear hK K
      refine norm_ (a' := ?_) ?_ ?_
      rotate_left
      · show Act.put _ (some 13) _ = _
        simp only [Act.put, List.setIfInBounds_toArray, List.set_cons_zero, List.set_cons_succ, i64_w, i32_w]
        rfl
      refine pure_ (i := 6) (N := some 14) (v := ?_) (a' := ?_) #[true, true, true, true, true, true, true, false] rfl rfl (by kernel_rfl) (fun _ _ _ h => h) (Or.inl ⟨by rfl, ?_⟩) ?_ ?_
      rotate_left
      · intro w'
        go_simp
        with_reducible rfl
      rotate_left
      · simp only [Act.put, List.setIfInBounds_toArray, List.set_cons_zero, List.set_cons_succ, i64_w, i32_w]
        rfl
      refine last_ (i := 7) (N := none) #[true, true, true, true, true, true, true, true] rfl rfl (by kernel_rfl) (by decide) (fun K hK => ?_)
      have hcell := hHeld.cell hlt
      have hfro := blk_frozen hHeld.blk i
      refine skip_ (w1 := ?_) (by rfl) rfl ?_ ?_
      rotate_left
      · go_simp
        rfl
      refine hK.out _ _ ?_
      clear hK K
      refine done_ (by kernel_rfl) ?_

      have HN := Aside0.mk (hHeld.next hlt)
      clear hHeld hcell hfro
      go_wp2
      exact ⟨⟨i + 1, by omega, by congr 1, HN.out⟩, by simp [intOf]; omega⟩
    · obtain rfl : i = 32 := by omega
      obtain ⟨D, hD⟩ : ∃ D, D = (nums .u32 (fillL 32 (fun i => timesI m (m[i]?.getD 0) 32) 32)).toArray := ⟨_, rfl⟩
      have hDs : D.size = 32 := by rw [hD]; simp [nums, fillL_len]
      have hDo : D.all (·.oneCell') = true := by
        rw [hD, Array.all_eq_true_iff_forall_mem]
        intro x hx
        simp only [nums, List.mem_toArray, List.mem_map] at hx
        obtain ⟨y, _, rfl⟩ := hx
        rfl
      have hW1 := hW.res
      have hW2 := hW.blk
      have hW3 := hW.below
      rw [← hD] at hW2
      have HE := Aside0.mk hD
      have HR := Aside0.mk hW1
      have HK := Aside0.mk hW2
      have HB := Aside0.mk hW3
      have HD := Aside0.mk hDs
      have HO := Aside0.mk hDo
      clear hW hD hW1 hW2 hW3 hDs hDo
      go_wp2_with (first | ((with_reducible refine gate_dst (N := 16) rfl ?_); refine wpList_load_row rfl 42 (.tmp 3) rfl (w.heap.size + 1 + 1) rfl 42 D (0, 0) _ HK.out (by kernel_rfl : Try.prog.underlying 42 = some (.array 32 23)) rfl (by rw [HD.out]; exact HS.out) ?_) | (refine wpList_store_row rfl 42 (.tmp 2) (.tmp 16) rfl (w.heap.size + 1) D rfl rfl 42 _ HR.out (by rw [HD.out]; exact HS.out) (by rw [HD.out]; simp [nums]) HO.out ?_))
      have hrow := setRow_heap wr (w.heap.size + 1) _ D 42 (0, 0) HR.out
      refine bodyPost_ret (v := .agg D) (results_cell_row (p := 2) rfl _ _ (w.heap.size + 1) 42 D (0, 0) _ rfl hrow (by kernel_rfl : Try.prog.underlying 42 = some (.array 32 23)) rfl (by rw [HD.out]; exact HS.out)) rfl ⟨by rw [HE.out], below_setRow2 HB.out (by omega) _⟩
set_option maxHeartbeats 3000000 in
set_option maxRecDepth 100000 in
theorem Join_calls (a b n : Int) (w : World) (hn : n < 9223372036854775808) :
    Calls Try.prog 13 #[.int .u32 a, .int .u32 b, .int .i64 n] w fun e w' => e = .returned (.int .u32 (Go.bits .xor .u32 (joinL byteL a n.toNat) b)) ∧ Below w.heap.size w w' := by
  obtain ⟨Z, hZ⟩ : ∃ Z : List Int, Z = List.replicate 32 0 := ⟨_, rfl⟩
  have hz : ∀ w, (zeroValue 42).run Try.prog w = .ok (.agg (nums .u32 Z).toArray) w := hZ ▸ (zero_of_info (n := 32) (by kernel_rfl)).1
  have hs : (Try.prog.info? 42).map (·.size) = some 32 := by kernel_rfl
  have hZs : Z.length = 32 := by rw [hZ]; simp
  have HZ := Aside0.mk hZs
  have HS := Aside0.mk hs
  have HN := Aside0.mk hn
  clear hZ hs hZs hn
  obtain ⟨m0, hm0⟩ : ∃ m0, m0 = byteL := ⟨_, rfl⟩
  have hB : ∀ w, Calls Try.prog 20 #[] w fun e w' => e = .returned (.agg (nums .u32 m0).toArray) ∧ Below w.heap.size w w' := hm0 ▸ byteless_calls
  have hml : m0.length = 32 := by rw [hm0, byteL_len]
  rw [← hm0]
  have HB := Aside0.mk hB
  have HL := Aside0.mk hml
  clear hm0 hB hml
  go_enter Try.func13, Try.ntmps13
  go_wp2_with (first | ((with_reducible refine gate_callee (f := 20) rfl ?_); refine goesL_ (some 8) rfl rfl Try.func20 (by kernel_rfl) rfl #[] rfl (by (try simp only [List.map_toArray, List.map_cons, List.map_nil]); first | done | rfl | (simp only [List.length_drop, List.length_take]; rfl)) ?_; (with_reducible refine (HB.out _).mono ?_); rintro e w1 ⟨rfl, hb1⟩; have HB1 := Aside0.mk hb1; clear hb1; refine ⟨_, rfl, ?_⟩) | (refine wpList_store_row rfl 42 (.tmp 7) (.tmp 8) rfl _ (nums .u32 m0).toArray rfl rfl 42 _ (heap_alloc_new _ _) (by rw [nums_size _ HL.out]; exact HS.out) (by rw [nums_size _ HL.out, nums_size _ HZ.out]) (nums_one _) ?_))
  all_goals
    obtain ⟨g, hg⟩ : ∃ g, g = w1.heap.size := ⟨_, rfl⟩
    have hW0 : JoinW 42 g w (((w1.alloc (.cells (nums .u32 Z).toArray 42))).setRow g (nums .u32 m0).toArray) m0 (joinL m0 a n.toNat) a n.toNat := by
      subst hg
      exact ⟨HL.out, by have := HN.out; omega, ⟨setRow_heap _ _ _ _ _ _ (heap_alloc_new _ _), below_setRow2 (HB1.out.alloc HB1.out.size _) HB1.out.size _⟩, rfl⟩
    have HG : Aside0 (w.heap.size ≤ g) := ⟨by have := HB1.out.size; omega⟩
    have HW0 := Aside0.mk hW0
    rw [← hg]
    clear hW0 hg HB1 HB HL HN hz HZ
    generalize hr : joinL m0 a n.toNat = r at *
    go_loopw [0, 2] (fun v0 v2 wr => ∃ (x : Int) (k : Nat) (m : List Int), v0 = .int .u32 x ∧ v2 = .int .i64 (k : Int) ∧ JoinW 42 g w wr m r x k) (fun _ v2 _ => (intOf v2).toNat)
    case atStart => exact ⟨a, n.toNat, m0, rfl, by congr 1; omega, HW0.out⟩
    case round =>
      obtain ⟨x, k, m, rfl, rfl, hW⟩ := hrel
      clear HW0
      have HL := Aside0.mk hW.len
      have HK := Aside0.mk hW.lt
      have HE := Aside0.mk hW.eq
      have HW := Aside0.mk hW.arr
      clear hW
      by_cases h0 : k = 0
      · subst h0
        have hE := HE.out
        rw [joinL, if_pos rfl] at hE
        have HE2 := Aside0.mk hE
        clear hE HE
        go_wp2
        go_ret
        exact ⟨by simp [HE2.out, hr], HW.out.below⟩
      · have h1 : (0 : Int) < (k : Int) := by omega
        have hnext := joinL_step m x k h0
        by_cases h2 : k % 2 = 1
        · have hbit : (Go.bits .and .i64 (k : Int) 1 == 1) = true := by rw [and1_i64 k HK.out, beq_iff_eq]; omega
          rw [if_pos h2] at hnext
          have HN := Aside0.mk hnext
          clear hnext h2
          go_wp2_with (first | ((with_reducible refine gate_dst (N := 18) rfl ?_); refine wpList_load_row rfl 42 (.tmp 7) rfl g rfl 42 (nums .u32 m).toArray (0, 0) _ HW.out.blk (by kernel_rfl : Try.prog.underlying 42 = some (.array 32 23)) rfl (by rw [nums_size _ HL.out]; exact HS.out) ?_) | ((with_reducible refine gate_callee (f := 21) rfl ?_); refine goesL_ (some 20) rfl rfl Try.func21 (by kernel_rfl) rfl #[.agg (nums .u32 m).toArray, .int .u32 x] rfl (by (try simp only [List.map_toArray, List.map_cons, List.map_nil]); first | done | rfl | (simp only [List.length_drop, List.length_take]; rfl)) ?_; (with_reducible refine (times_calls m x HL.out _).mono ?_); rintro e w3 ⟨rfl, hb⟩; have HW3 := Aside0.mk (HW.out.after hb); clear HW hb; have HW := HW3; clear HW3; refine ⟨_, rfl, ?_⟩) | ((with_reducible refine gate_dst (N := 21) rfl ?_); refine wpList_load_row rfl 42 (.tmp 7) rfl g rfl 42 (nums .u32 m).toArray (0, 0) _ HW.out.blk (by kernel_rfl : Try.prog.underlying 42 = some (.array 32 23)) rfl (by rw [nums_size _ HL.out]; exact HS.out) ?_) | ((with_reducible refine gate_callee (f := 22) rfl ?_); refine goesL_ (some 22) rfl rfl Try.func22 (by kernel_rfl) rfl #[.agg (nums .u32 m).toArray] rfl (by (try simp only [List.map_toArray, List.map_cons, List.map_nil]); first | done | rfl | (simp only [List.length_drop, List.length_take]; rfl)) ?_; (with_reducible refine (squared_calls m HL.out _).mono ?_); rintro e w4 ⟨rfl, hb⟩; have HW3 := Aside0.mk (HW.out.after hb); clear HW hb; have HW := HW3; clear HW3; refine ⟨_, rfl, ?_⟩) | (refine wpList_store_row rfl 42 (.tmp 7) (.tmp 22) rfl g (nums .u32 (sqL m)).toArray rfl rfl 42 _ HW.out.blk (by rw [nums_size _ (sqL_len m)]; exact HS.out) (by rw [nums_size _ HL.out, nums_size _ (sqL_len m)]) (nums_one _) ?_))
          exact ⟨⟨_, k / 2, sqL m, rfl, by congr 1, ⟨sqL_len m, by have := HK.out; omega, HW.out.row HG.out, by rw [← HN.out, HE.out]⟩⟩, by simp [intOf]; omega⟩
        · have hbit : (Go.bits .and .i64 (k : Int) 1 == 1) = false := by rw [and1_i64 k HK.out, beq_eq_false_iff_ne]; omega
          rw [if_neg h2] at hnext
          have HN := Aside0.mk hnext
          clear hnext h2
          go_wp2_with (first | ((with_reducible refine gate_dst (N := 18) rfl ?_); refine wpList_load_row rfl 42 (.tmp 7) rfl g rfl 42 (nums .u32 m).toArray (0, 0) _ HW.out.blk (by kernel_rfl : Try.prog.underlying 42 = some (.array 32 23)) rfl (by rw [nums_size _ HL.out]; exact HS.out) ?_) | ((with_reducible refine gate_callee (f := 21) rfl ?_); refine goesL_ (some 20) rfl rfl Try.func21 (by kernel_rfl) rfl #[.agg (nums .u32 m).toArray, .int .u32 x] rfl (by (try simp only [List.map_toArray, List.map_cons, List.map_nil]); first | done | rfl | (simp only [List.length_drop, List.length_take]; rfl)) ?_; (with_reducible refine (times_calls m x HL.out _).mono ?_); rintro e w3 ⟨rfl, hb⟩; have HW3 := Aside0.mk (HW.out.after hb); clear HW hb; have HW := HW3; clear HW3; refine ⟨_, rfl, ?_⟩) | ((with_reducible refine gate_dst (N := 21) rfl ?_); refine wpList_load_row rfl 42 (.tmp 7) rfl g rfl 42 (nums .u32 m).toArray (0, 0) _ HW.out.blk (by kernel_rfl : Try.prog.underlying 42 = some (.array 32 23)) rfl (by rw [nums_size _ HL.out]; exact HS.out) ?_) | ((with_reducible refine gate_callee (f := 22) rfl ?_); refine goesL_ (some 22) rfl rfl Try.func22 (by kernel_rfl) rfl #[.agg (nums .u32 m).toArray] rfl (by (try simp only [List.map_toArray, List.map_cons, List.map_nil]); first | done | rfl | (simp only [List.length_drop, List.length_take]; rfl)) ?_; (with_reducible refine (squared_calls m HL.out _).mono ?_); rintro e w4 ⟨rfl, hb⟩; have HW3 := Aside0.mk (HW.out.after hb); clear HW hb; have HW := HW3; clear HW3; refine ⟨_, rfl, ?_⟩) | (refine wpList_store_row rfl 42 (.tmp 7) (.tmp 22) rfl g (nums .u32 (sqL m)).toArray rfl rfl 42 _ HW.out.blk (by rw [nums_size _ (sqL_len m)]; exact HS.out) (by rw [nums_size _ HL.out, nums_size _ (sqL_len m)]) (nums_one _) ?_))
          exact ⟨⟨_, k / 2, sqL m, rfl, by congr 1, ⟨sqL_len m, by have := HK.out; omega, HW.out.row HG.out, by rw [← HN.out, HE.out]⟩⟩, by simp [intOf]; omega⟩
def crc_Join.f (a0 a1 a2 : Int) : Option (Int) := if a2 < 9223372036854775808 then (some (Go.bits .xor .u32 (joinL byteL a0 a2.toNat) a1)) else (none)
theorem crc_Join.calls (a0 a1 a2 : Int) (r : Int) (w : World) (h : crc_Join.f a0 a1 a2 = some r) :
    Calls Try.prog 13 #[.int .u32 a0, .int .u32 a1, .int .i64 a2] w fun e w' => e = .returned (.int .u32 r) ∧ Below w.heap.size w w' := by
  unfold crc_Join.f at h
  by_cases h0 : a2 < 9223372036854775808
  · rw [if_pos h0] at h
    obtain rfl := Option.some.inj h
    exact Join_calls a0 a1 a2 w h0
  · rw [if_neg h0] at h
    exact absurd h (by simp)


/-! ### crc_Flip -/
set_option maxHeartbeats 3000000 in
set_option maxRecDepth 100000 in
theorem Flip_calls (A0 : Option Addr) (c0 : Nat) (l0 : List Int) (a1 a2 : Int) (w : World) (hr0 : Kd.C (Kd.int .u8) w A0 l0.length l0) (hc0 : l0.length ≤ c0) (hl : l0.length ≤ 281474976710656) (h1 : -9223372036854775808 ≤ a1) (h2 : a1 < 9223372036854775808) :
    Calls Try.prog 16 #[.slice A0 l0.length c0, .int .i64 a1, .int .u32 a2] w fun e w' => ∃ v0_ : Value, e = .returned v0_ ∧ (Kd.int .u8).R 5 w' w.heap.size (fun _ => True) v0_ (flipL l0.length a1 a2 l0 32) ∧ Below w.heap.size w w' := by
  have HR0 := Aside0.mk hr0
  have HC0 := Aside0.mk hc0
  have HL := Aside0.mk hl
  have H1 := Aside0.mk h1
  have H2 := Aside0.mk h2
  obtain ⟨Z, hZ⟩ : ∃ Z : List Int, Z = List.replicate l0.length 0 := ⟨_, rfl⟩
  have HZ := Aside0.mk hZ
  clear hr0 hc0 hl h1 h2 hZ
  have hb8 : wrap64 (8 * (l0.length : Int)) = 8 * (l0.length : Int) := by have := HL.out; unfold wrap64; omega
  go_enter Try.func16, Try.ntmps16
  go_wp2_with (first | ((with_reducible refine gate_dst (N := 12) rfl ?_); refine Kd.R_make (Kd.int .u8) (w0 := w) w.heap.size 5 rfl (N := 12) rfl 22 _ _ rfl (l0.length : Int) rfl rfl Try.underlying22 (.int .u8 0) 1 (by kernel_rfl) rfl (by decide) (by omega) 0 (ok := fun _ => True) (okp := fun _ => True) rfl (fun _ hk => hk) trivial (by omega) (by have := HL.out; omega) (Below.refl _ _) (Nat.le_refl _) ?_; intro v1 w3 ho hb hg_ hnew_; clear hg_ hnew_; rw [Int.toNat_natCast, ← HZ.out] at ho; have HO := Aside0.mk ho; have HB := Aside0.mk hb; clear ho hb) | ((with_reducible refine gate_dst (N := 15) rfl ?_); refine Kd.R_copy (0 : Int) (w0 := w) w.heap.size rfl (.tmp 13) (.tmp 14) 22 22 5 rfl Try.underlying22 (by kernel_rfl) v1 Z l0 A0 l0.length c0 (fun _ => True) rfl rfl HO.out (Kd.C_below HR0.out HB.out) HB.out HB.out.size ?_; intro w4 ho hb hg_; clear hg_ HO HB; have HO := Aside0.mk ho; have HB := Aside0.mk hb; clear ho hb))
  have hmin : min l0.length Z.length = l0.length := by rw [HZ.out]; simp
  have ho := HO.out
  rw [hmin, List.take_of_length_le (Nat.le_refl _), List.drop_eq_nil_of_le (by rw [HZ.out]; simp), List.append_nil] at ho
  obtain ⟨Ao, co, eo⟩ := Kd.R_slice ho
  subst eo
  have HO2 := Aside0.mk ho
  clear ho HO hmin HZ
  (try simp only [hb8])
  go_loopw [19] (fun v19 wr => ∃ (i : Nat) (L : List Int), i ≤ 32 ∧ v19 = .int .i64 (i : Int) ∧ L = flipL l0.length a1 a2 l0 i ∧ FlipW 5 l0.length (.slice Ao l0.length co) w wr L) (fun v19 _ => 32 - (intOf v19).toNat)
  case atStart => exact ⟨0, l0, by omega, rfl, rfl, ⟨HO2.out, HB.out, rfl⟩⟩
  case round =>
    obtain ⟨i, L, hi, rfl, hL, hW⟩ := hrel
    clear HO2 HB
    have HL2 := Aside0.mk hL
    have HW := Aside0.mk hW
    clear hL hW
    by_cases hlt : i < 32
    · have hc1 : (i : Int) < 32 := by omega
      have hc0 : (0 : Int) ≤ (i : Int) := by omega
      have hni : wrap64 (-(i : Int)) = -(i : Int) := by unfold wrap64; omega
      have hbi : wrap64 (8 * (l0.length : Int) - (i : Int)) = 8 * (l0.length : Int) - (i : Int) := by have := HL.out; unfold wrap64; omega
      by_cases c1 : Go.bits .and .u32 (a2 / 2 ^ i) 1 = 0
      · have hn : L = flipL l0.length a1 a2 l0 (i + 1) := by rw [flipL, flipS, if_pos (Or.inl c1)]; exact HL2.out
        have HN := Aside0.mk hn
        have c1b : (Go.bits .and .u32 (a2 / 2 ^ i) 1 == 0) = true := by rw [beq_iff_eq]; exact c1
        clear hn c1
        go_wp2
        exact ⟨⟨i + 1, L, by omega, by congr 1, HN.out, HW.out⟩, by simp [intOf]; omega⟩
      by_cases c2 : a1 < -(i : Int)
      · have hn : L = flipL l0.length a1 a2 l0 (i + 1) := by rw [flipL, flipS, if_pos (Or.inr (Or.inl c2))]; exact HL2.out
        have HN := Aside0.mk hn
        have c1b : (Go.bits .and .u32 (a2 / 2 ^ i) 1 == 0) = false := by rw [beq_eq_false_iff_ne]; exact c1
        clear hn c1
        go_wp2
        exact ⟨⟨i + 1, L, by omega, by congr 1, HN.out, HW.out⟩, by simp [intOf]; omega⟩
      by_cases c3 : a1 ≥ 8 * (l0.length : Int) - (i : Int)
      · have hn : L = flipL l0.length a1 a2 l0 (i + 1) := by rw [flipL, flipS, if_pos (Or.inr (Or.inr c3))]; exact HL2.out
        have HN := Aside0.mk hn
        have c1b : (Go.bits .and .u32 (a2 / 2 ^ i) 1 == 0) = false := by rw [beq_eq_false_iff_ne]; exact c1
        clear hn c1
        go_wp2
        exact ⟨⟨i + 1, L, by omega, by congr 1, HN.out, HW.out⟩, by simp [intOf]; omega⟩
      have c1b : (Go.bits .and .u32 (a2 / 2 ^ i) 1 == 0) = false := by rw [beq_eq_false_iff_ne]; exact c1
      have hp : wrap64 (a1 + (i : Int)) = a1 + (i : Int) := by have := HL.out; have := H1.out; have := H2.out; unfold wrap64; omega
      have hn : L.set ((a1 + i) / 8).toNat (Go.bits .xor .u8 (rd L ((a1 + i) / 8)) (IntKind.u8.wrap (2 ^ ((a1 + i) % 8).toNat))) = flipL l0.length a1 a2 l0 (i + 1) := by
        rw [flipL, flipS, if_neg (by rintro (h | h | h) <;> contradiction), ← HL2.out]
      have HN := Aside0.mk hn
      clear hn c1
      have hlen := HW.out.len
      have hHL_ : 0 < l0.length := by omega
      rcases (Kd.own_of_R HW.out.row).2 with ⟨_, hx0⟩ | ⟨g, cap, cur, hv, hgb, _⟩
      · exfalso; have h1_ := hHL_; omega
      simp only [Value.slice.injEq] at hv
      obtain ⟨rfl, -, rfl⟩ := hv
      have HGB := Aside0.mk hgb
      clear hgb hlen
      have hd0 : 0 ≤ a1 + (i : Int) := by omega
      have hq : Int.tdiv (a1 + (i : Int)) 8 = (a1 + (i : Int)) / 8 := Int.tdiv_eq_ediv_of_nonneg hd0
      have hqr : Int.tmod (a1 + (i : Int)) 8 = (a1 + (i : Int)) % 8 := Int.tmod_eq_emod_of_nonneg hd0
      have p0 : 0 ≤ (a1 + (i : Int)) / 8 := by omega
      have p1 : (a1 + (i : Int)) / 8 < (l0.length : Int) := by omega
      have hqw : wrap64 ((a1 + (i : Int)) / 8) = (a1 + (i : Int)) / 8 := by have := HL.out; unfold wrap64; omega
      have r0 : 0 ≤ (a1 + (i : Int)) % 8 := by omega
      go_wp2
      refine start_ (n := 15) (S := fun w' => FlipW 5 l0.length (.slice (some ⟨g, 0, none⟩) l0.length co) w w' L) (ds := [14]) #[false, false, false, false, false, false, false, false, false, false, false, false, false, false, false] (by kernel_rfl) rfl rfl (HW.out.drew) (fun hHeld => ?_)
      refine pure_ (i := 0) (N := some 40) (v := ?_) (a' := ?_) #[true, false, false, false, false, false, false, false, false, false, false, false, false, false, false] rfl rfl (by kernel_rfl) (fun _ _ _ h => h) (Or.inl ⟨by rfl, ?_⟩) ?_ ?_
      rotate_left
      · intro w'
        go_simp
        with_reducible rfl
      rotate_left
      · simp only [Act.put, List.setIfInBounds_toArray, List.set_cons_zero, List.set_cons_succ, i64_w, i32_w]
        rfl
      refine pure_ (i := 1) (N := some 41) (v := ?_) (a' := ?_) #[true, true, false, false, false, false, false, false, false, false, false, false, false, false, false] rfl rfl (by kernel_rfl) (fun _ _ _ h => h) (Or.inl ⟨by rfl, ?_⟩) ?_ ?_
      rotate_left
      · intro w'
        go_simp
        with_reducible rfl
      rotate_left
      · simp only [Act.put, List.setIfInBounds_toArray, List.set_cons_zero, List.set_cons_succ, i64_w, i32_w]
        rfl
      refine pure_ (i := 2) (N := some 42) (v := ?_) (a' := ?_) #[true, true, true, false, false, false, false, false, false, false, false, false, false, false, false] rfl rfl (by kernel_rfl) (fun _ _ _ h => h) (Or.inl ⟨by rfl, ?_⟩) ?_ ?_
      rotate_left
      · intro w'
        go_simp
        with_reducible rfl
      rotate_left
      · simp only [Act.put, List.setIfInBounds_toArray, List.set_cons_zero, List.set_cons_succ, i64_w, i32_w]
        rfl
      refine pure_ (i := 3) (N := some 43) (v := ?_) (a' := ?_) #[true, true, true, true, false, false, false, false, false, false, false, false, false, false, false] rfl rfl (by kernel_rfl) (fun _ _ _ h => h) (Or.inl ⟨by rfl, ?_⟩) ?_ ?_
      rotate_left
      · intro w'
        go_simp
        with_reducible rfl
      rotate_left
      · simp only [Act.put, List.setIfInBounds_toArray, List.set_cons_zero, List.set_cons_succ, i64_w, i32_w]
        rfl
      refine pure_ (i := 4) (N := some 44) (v := ?_) (a' := ?_) #[true, true, true, true, true, false, false, false, false, false, false, false, false, false, false] rfl rfl (by kernel_rfl) (fun _ _ _ h => h) (Or.inl ⟨by rfl, ?_⟩) ?_ ?_
      rotate_left
      · intro w'
        go_simp
        with_reducible rfl
      rotate_left
      · simp only [Act.put, List.setIfInBounds_toArray, List.set_cons_zero, List.set_cons_succ, i64_w, i32_w]
        rfl
      refine pure_ (i := 5) (N := some 45) (v := ?_) (a' := ?_) #[true, true, true, true, true, true, false, false, false, false, false, false, false, false, false] rfl rfl (by kernel_rfl) (fun _ _ _ h => h) (Or.inl ⟨by rfl, ?_⟩) ?_ ?_
      rotate_left
      · intro w'
        go_simp
        with_reducible rfl
      rotate_left
      · simp only [Act.put, List.setIfInBounds_toArray, List.set_cons_zero, List.set_cons_succ, i64_w, i32_w]
        rfl
      refine pure_ (i := 7) (N := some 47) (v := ?_) (a' := ?_) #[true, true, true, true, true, true, false, true, false, false, false, false, false, false, false] rfl rfl (by kernel_rfl) (fun _ _ _ h => h) (Or.inl ⟨by rfl, ?_⟩) ?_ ?_
      rotate_left
      · intro w'
        go_simp
        with_reducible rfl
      rotate_left
      · simp only [Act.put, List.setIfInBounds_toArray, List.set_cons_zero, List.set_cons_succ, i64_w, i32_w]
        rfl
      refine pure_ (i := 8) (N := some 48) (v := ?_) (a' := ?_) #[true, true, true, true, true, true, false, true, true, false, false, false, false, false, false] rfl rfl (by kernel_rfl) (fun _ _ _ h => h) (Or.inl ⟨by rfl, ?_⟩) ?_ ?_
      rotate_left
      · intro w'
        go_simp
        with_reducible rfl
      rotate_left
      · simp only [Act.put, List.setIfInBounds_toArray, List.set_cons_zero, List.set_cons_succ, i64_w, i32_w]
        rfl
      refine pure_ (i := 9) (N := some 49) (v := ?_) (a' := ?_) #[true, true, true, true, true, true, false, true, true, true, false, false, false, false, false] rfl rfl (by kernel_rfl) (fun _ _ _ h => h) (Or.inl ⟨by rfl, ?_⟩) ?_ ?_
      rotate_left
      · intro w'
        go_simp
        with_reducible rfl
      rotate_left
      · simp only [Act.put, List.setIfInBounds_toArray, List.set_cons_zero, List.set_cons_succ, i64_w, i32_w]
        rfl
      refine pure_ (i := 10) (N := some 50) (v := ?_) (a' := ?_) #[true, true, true, true, true, true, false, true, true, true, true, false, false, false, false] rfl rfl (by kernel_rfl) (fun _ _ _ h => h) (Or.inl ⟨by rfl, ?_⟩) ?_ ?_
      rotate_left
      · intro w'
        go_simp
        with_reducible rfl
      rotate_left
      · simp only [Act.put, List.setIfInBounds_toArray, List.set_cons_zero, List.set_cons_succ, i64_w, i32_w]
        rfl
      refine pure_ (i := 11) (N := some 51) (v := ?_) (a' := ?_) #[true, true, true, true, true, true, false, true, true, true, true, true, false, false, false] rfl rfl (by kernel_rfl) (fun _ _ _ h => h) (Or.inl ⟨by rfl, ?_⟩) ?_ ?_
      rotate_left
      · intro w'
        go_simp
        with_reducible rfl
      rotate_left
      · simp only [Act.put, List.setIfInBounds_toArray, List.set_cons_zero, List.set_cons_succ, i64_w, i32_w]
        rfl
      refine take_ (i := 6) (N := some 46) (v := ?_) (a' := ?_) #[true, true, true, true, true, true, true, true, true, true, true, true, false, false, false] rfl rfl (by kernel_rfl) (fun _ _ _ h => h) (Or.inl ⟨by rfl, ?_⟩) hHeld ?_ ?_
      rotate_left
      · intro w' s0
        have hcell := (Kd.R_celln (0 : Int) s0.row ((a1 + (i : Int)) / 8) p0 p1).1
        go_simp
        with_reducible rfl
      rotate_left
      · simp only [Act.put, List.setIfInBounds_toArray, List.set_cons_zero, List.set_cons_succ, i64_w, i32_w]
        rfl
      refine pure_ (i := 12) (N := some 52) (v := ?_) (a' := ?_) #[true, true, true, true, true, true, true, true, true, true, true, true, true, false, false] rfl rfl (by kernel_rfl) (fun _ _ _ h => h) (Or.inl ⟨by rfl, ?_⟩) ?_ ?_
      rotate_left
      · intro w'
        go_simp
        with_reducible rfl
      rotate_left
      · simp only [Act.put, List.setIfInBounds_toArray, List.set_cons_zero, List.set_cons_succ, i64_w, i32_w]
        rfl
      refine pure_ (i := 13) (N := some 53) (v := ?_) (a' := ?_) #[true, true, true, true, true, true, true, true, true, true, true, true, true, true, false] rfl rfl (by kernel_rfl) (fun _ _ _ h => h) (Or.inl ⟨by rfl, ?_⟩) ?_ ?_
      rotate_left
      · intro w'
        go_simp
        with_reducible rfl
      rotate_left
      · simp only [Act.put, List.setIfInBounds_toArray, List.set_cons_zero, List.set_cons_succ, i64_w, i32_w]
        rfl
      refine last_ (i := 14) (N := none) #[true, true, true, true, true, true, true, true, true, true, true, true, true, true, true] rfl rfl (by kernel_rfl) (by decide) (fun K hK => ?_)
      have hcell := (Kd.R_celln (0 : Int) hHeld.row ((a1 + (i : Int)) / 8) p0 p1).1
      have hfro := (Kd.R_celln (0 : Int) hHeld.row ((a1 + (i : Int)) / 8) p0 p1).2
      refine skip_ (w1 := ?_) (by rfl) rfl ?_ ?_
      rotate_left
      · go_simp
        rfl
      refine hK.out _ _ ?_
      clear hK K
      refine done_ (by kernel_rfl) ?_

      have HX := Aside0.mk (FlipW.put HW.out HGB.out ((a1 + (i : Int)) / 8) (Go.bits .xor .u8 (rdOf 0 L ((a1 + (i : Int)) / 8)) (IntKind.u8.wrap (2 ^ ((a1 + (i : Int)) % 8).toNat))))
      go_wp2
      exact ⟨⟨i + 1, _, by omega, by congr 1, HN.out, HX.out⟩, by simp [intOf]; omega⟩
    · obtain rfl : i = 32 := by omega
      go_wp2
      go_ret
      exact ⟨_, rfl, by rw [← HL2.out]; exact HW.out.row, HW.out.below⟩
def crc_Flip.f (l0 : List Int) (a1 a2 : Int) : Option (List Int) := if l0.length ≤ 281474976710656 then (if -9223372036854775808 ≤ a1 then (if a1 < 9223372036854775808 then (some (flipL l0.length a1 a2 l0 32)) else (none)) else (none)) else (none)
theorem crc_Flip.calls (A0 : Option Addr) (c0 : Nat) (l0 : List Int) (a1 a2 : Int) (r : List Int) (w : World) (hr0 : Kd.C (Kd.int .u8) w A0 l0.length l0) (hc0 : l0.length ≤ c0) (h : crc_Flip.f l0 a1 a2 = some r) :
    Calls Try.prog 16 #[.slice A0 l0.length c0, .int .i64 a1, .int .u32 a2] w fun e w' => ∃ v0_ : Value, e = .returned (v0_) ∧ Kd.R (Kd.int .u8) 5 w' w.heap.size (fun _ => True) v0_ r ∧ Below w.heap.size w w' := by
  unfold crc_Flip.f at h
  by_cases c1 : l0.length ≤ 281474976710656
  · rw [if_pos c1] at h
    by_cases c2 : -9223372036854775808 ≤ a1
    · rw [if_pos c2] at h
      by_cases c3 : a1 < 9223372036854775808
      · rw [if_pos c3] at h
        obtain rfl := Option.some.inj h
        exact Flip_calls A0 c0 l0 a1 a2 w hr0 hc0 c1 c2 c3
      · rw [if_neg c3] at h
        exact absurd h (by simp)
    · rw [if_neg c2] at h
      exact absurd h (by simp)
  · rw [if_neg c1] at h
    exact absurd h (by simp)

end Go.Proofs.Ytlgmhblmdjanfaa.PCrcJoins
