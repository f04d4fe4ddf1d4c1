/- Written by a program of this session (a turned copy of the kit's print): functions of the program, each with the Lean function that it comes to, and the row of one law. No condition. -/
import Derived.Test.YtekcnfngcgchcaaPBenBackx0
import Derived.Test.YtekcnfngcgchcaaPBenBackx1
import Derived.Test.YtekcnfngcgchcaaPBenBackx3
import Derived.Test.YtekcnfngcgchcaaPBenBackx5
import Derived.Test.YtekcnfngcgchcaaPBenBackx6
import Derived.Test.YtekcnfngcgchcaaPBenBackx7
namespace Go.Proofs.Ytekcnfngcgchcaa.PBenBack
open Go.RowKit Go.Proofs.YtekcnfngcgchcaaW.PrintWords Go.Proofs.YtekcnfngcgchcaaW.PrintLast Go.Proofs.YtekcnfngcgchcaaW.PrintMore
attribute [local go_sem] max2_int min2_int max_two min_two max_three min_three max_four min_four   -- for this text's walks alone
set_option linter.unusedVariables false
set_option linter.unusedSimpArgs false


/-! ### annuletlaw12_BenBack: function 5 -/
/-! ### trees of whole numbers and texts as they are handed in -/
inductive wfT25 : S25 → Prop
  | mk (x : S25) (h : (Lit.int .i64 x.f0).wf = true ∧ (Lit.int .i64 x.f1).wf = true ∧ x.f2.size ≤ maxLen ∧ (x.f3.length ≤ maxLen ∧ ∀ z0 ∈ x.f3, z0.size ≤ maxLen) ∧ x.f4.length ≤ maxLen) (hk : ∀ z, z ∈ x.f4 → wfT25 z) : wfT25 x
theorem wfT25_open {x : S25} (h : wfT25 x) : (Lit.int .i64 x.f0).wf = true ∧ (Lit.int .i64 x.f1).wf = true ∧ x.f2.size ≤ maxLen ∧ (x.f3.length ≤ maxLen ∧ ∀ z0 ∈ x.f3, z0.size ≤ maxLen) ∧ (x.f4.length ≤ maxLen ∧ ∀ z0 ∈ x.f4, wfT25 z0) := by
  obtain ⟨_, ⟨h0, h1, h2, h3, h4⟩, hk⟩ := h
  exact ⟨h0, h1, h2, h3, h4, hk⟩
theorem wfT25_mk {x : S25} (h : (Lit.int .i64 x.f0).wf = true ∧ (Lit.int .i64 x.f1).wf = true ∧ x.f2.size ≤ maxLen ∧ (x.f3.length ≤ maxLen ∧ ∀ z0 ∈ x.f3, z0.size ≤ maxLen) ∧ (x.f4.length ≤ maxLen ∧ ∀ z0 ∈ x.f4, wfT25 z0)) : wfT25 x :=
  ⟨x, ⟨h.1, h.2.1, h.2.2.1, h.2.2.2.1, h.2.2.2.2.1⟩, h.2.2.2.2.2⟩
theorem wfT25_K {w : World} {x : S25} {cs : List Value} (h : (F25 k25).K w x cs) : k25.K w x cs := by
  obtain ⟨_, _, rfl, rfl, ⟨_, _, rfl, rfl, ⟨_, _, rfl, rfl, ⟨_, _, rfl, ⟨A3, c3, rfl, l3, g3⟩, ⟨A4, c4, rfl, l4, g4⟩⟩⟩⟩⟩ := h
  exact k25_mk w x l3 g3 l4 g4
/-! ### the law BenBack -/
def back_ok (k : Nat) (T : S25) (b : List Int) : Prop := law12_awake.ok k ∧ ((∃ k2, annuletlaw11_Large.f k2 T.f0 T.f1 T.f2 T.f3 T.f4 1 = some true) ∨ ∃ k2, annuletlaw11_Large.f k2 T.f0 T.f1 T.f2 T.f3 T.f4 1 = some false ∧ (b.length > 2000 ∨
  ∃ (a : List Int) (e1 : Int) (X : S25) (f1 : Int) (Y : S25) (g1 : Int) (C : List Int) (h1 : Int), ben_Print.f k2 T = some (a, e1) ∧ a.length < 140737488355328 ∧ ben_Parse.f k2 a = some (X, f1) ∧ (e1 = 0 → f1 = 0 ∧ annuletref11_Same.f k2 X.f0 X.f1 X.f2 X.f3 X.f4 T.f0 T.f1 T.f2 T.f3 T.f4 = some true) ∧ ben_Parse.f k2 b = some (Y, g1) ∧ ben_Print.f k2 Y = some (C, h1) ∧ (g1 = 0 → h1 = 0 ∧ C = b)))
open Classical in
noncomputable def annuletlaw12_BenBack.f (k : Nat) (a0_0 a0_1 : Int) (a0_2 : ByteArray) (l0_3 : List ByteArray) (l0_4 : List S25) (l1 : List Int) : Option Bool := if back_ok k ⟨a0_0, a0_1, a0_2, l0_3, l0_4⟩ l1 then some true else none
set_option maxHeartbeats 8000000 in
set_option maxRecDepth 100000 in
theorem back_calls (k : Nat) (T : S25) (A3 : Option Addr) (c3 : Nat) (A4 : Option Addr) (c4 : Nat) (A1 : Option Addr) (c1 : Nat) (b : List Int) (w : World) (hr3 : Kd.string.C w A3 T.f3.length T.f3) (hc3 : T.f3.length ≤ c3) (hr4 : k25.C w A4 T.f4.length T.f4) (hc4 : T.f4.length ≤ c4) (hr1 : (Kd.int .u8).C w A1 b.length b) (hc1 : b.length ≤ c1) (hc : back_ok k T b) :
    Calls Try.prog 5 #[.agg #[.int .i64 T.f0, .int .i64 T.f1, .string T.f2, .slice A3 T.f3.length c3, .slice A4 T.f4.length c4], .slice A1 b.length c1] w fun e w' => e = .returned (.bool true) ∧ Below w.heap.size w w' := by
  have hu25 := Try.underlying25
  have HB0 := Aside0.mk (below_alloc (Below.refl w.heap.size w) (.cells #[.int .i64 T.f0, .int .i64 T.f1, .string T.f2, .slice A3 T.f3.length c3, .slice A4 T.f4.length c4] 25))
  have HN0 := Aside0.mk (blk_new w (.cells #[.int .i64 T.f0, .int .i64 T.f1, .string T.f2, .slice A3 T.f3.length c3, .slice A4 T.f4.length c4] 25))
  have HR3 := Aside0.mk hr3
  have HC3 := Aside0.mk hc3
  have HR4 := Aside0.mk hr4
  have HC4 := Aside0.mk hc4
  have HR1 := Aside0.mk hr1
  have HC1 := Aside0.mk hc1
  have HAW := Aside0.mk hc.1
  obtain ⟨_, hc⟩ := hc
  clear hr3 hc3 hr4 hc4 hr1 hc1
  rcases hc with ⟨k2, hL⟩ | ⟨k2, hL, hc⟩
  · have HLA := Aside0.mk hL
    clear hL
    go_enter Try.func5, Try.ntmps5
    go_wp2_with (first | (go_at_call 7; (with_reducible refine (annuletlaw11_Large.calls k2 T.f0 T.f1 T.f2 A3 c3 T.f3 A4 c4 T.f4 1 true _ (Kd.C_below HR3.out HB0.out) HC3.out (Kd.C_below HR4.out HB0.out) HC4.out HLA.out).mono ?_); rintro e w1 ⟨rfl, hb⟩; have HB1 := Aside0.mk (below_step HB0.out hb); have HN1 := Aside0.mk (blk_below HN0.out hb); have hz0 : w1.cell? ⟨w.heap.size, 0, none⟩ = some _ := (blk_cell HN1.out 0).trans rfl; have hz1 : w1.cell? ⟨w.heap.size, 1, none⟩ = some _ := (blk_cell HN1.out 1).trans rfl; have hz2 : w1.cell? ⟨w.heap.size, 2, none⟩ = some _ := (blk_cell HN1.out 2).trans rfl; have hz3 : w1.cell? ⟨w.heap.size, 3, none⟩ = some _ := (blk_cell HN1.out 3).trans rfl; have hz4 : w1.cell? ⟨w.heap.size, 4, none⟩ = some _ := (blk_cell HN1.out 4).trans rfl; clear hb) | (go_at_call 8; (with_reducible refine (law12_awake.calls k _ HAW.out).mono ?_); rintro e w9 ⟨rfl, hb⟩; have HB9 := Aside0.mk (below_step HB1.out hb); clear hb))
    go_ret
    exact ⟨rfl, HB9.out⟩
  have HLA := Aside0.mk hL
  clear hL
  by_cases c1' : b.length > 2000
  · have d1 : decide (2000 < (b.length : Int)) = true := decide_eq_true (by omega)
    have d2 : decide (2000 < b.length) = true := decide_eq_true c1'
    clear c1' hc
    go_enter Try.func5, Try.ntmps5
    go_wp2_with (first | (go_at_call 7; (with_reducible refine (annuletlaw11_Large.calls k2 T.f0 T.f1 T.f2 A3 c3 T.f3 A4 c4 T.f4 1 false _ (Kd.C_below HR3.out HB0.out) HC3.out (Kd.C_below HR4.out HB0.out) HC4.out HLA.out).mono ?_); rintro e w1 ⟨rfl, hb⟩; have HB1 := Aside0.mk (below_step HB0.out hb); have HN1 := Aside0.mk (blk_below HN0.out hb); have hz0 : w1.cell? ⟨w.heap.size, 0, none⟩ = some _ := (blk_cell HN1.out 0).trans rfl; have hz1 : w1.cell? ⟨w.heap.size, 1, none⟩ = some _ := (blk_cell HN1.out 1).trans rfl; have hz2 : w1.cell? ⟨w.heap.size, 2, none⟩ = some _ := (blk_cell HN1.out 2).trans rfl; have hz3 : w1.cell? ⟨w.heap.size, 3, none⟩ = some _ := (blk_cell HN1.out 3).trans rfl; have hz4 : w1.cell? ⟨w.heap.size, 4, none⟩ = some _ := (blk_cell HN1.out 4).trans rfl; clear hb) | (go_at_call 8; (with_reducible refine (law12_awake.calls k _ HAW.out).mono ?_); rintro e w9 ⟨rfl, hb⟩; have HB9 := Aside0.mk (below_step HB1.out hb); clear hb))
    go_ret
    exact ⟨rfl, HB9.out⟩
  have d1 : decide (2000 < (b.length : Int)) = false := decide_eq_false (by omega)
  have d2 : decide (2000 < b.length) = false := decide_eq_false c1'
  have HBL := Aside0.mk (show b.length < 140737488355328 by omega)
  obtain ⟨a, e1, X, f1, Y, g1, C, h1, hP1, hal, hQ1, hS, hQ2, hP3, hCB⟩ := hc.resolve_left c1'
  have HP1 := Aside0.mk hP1
  have HAL := Aside0.mk hal
  have HQ1 := Aside0.mk hQ1
  have HQ2 := Aside0.mk hQ2
  have HP3 := Aside0.mk hP3
  clear c1' hc hP1 hal hQ1 hQ2 hP3
  by_cases ce : e1 = 0
  · obtain ⟨rfl, hsa⟩ := hS ce
    have HSA := Aside0.mk hsa
    have de : (e1 == 0) = true := beq_iff_eq.mpr ce
    clear hS hsa
    subst ce
    by_cases cg : g1 = 0
    · obtain ⟨rfl, rfl⟩ := hCB cg
      have dg : (g1 != 0) = false := bne_eq_false_iff_eq.mpr cg
      have dst : ((strOfNums C).toList == (strOfNums C).toList) = true := beq_self_eq_true _
      clear hCB cg
      go_enter Try.func5, Try.ntmps5
      go_upto_region 5 with (first | (go_at_call 7; (with_reducible refine (annuletlaw11_Large.calls k2 T.f0 T.f1 T.f2 A3 c3 T.f3 A4 c4 T.f4 1 false _ (Kd.C_below HR3.out HB0.out) HC3.out (Kd.C_below HR4.out HB0.out) HC4.out HLA.out).mono ?_); rintro e w1 ⟨rfl, hb⟩; have HB1 := Aside0.mk (below_step HB0.out hb); have HN1 := Aside0.mk (blk_below HN0.out hb); have hz0 : w1.cell? ⟨w.heap.size, 0, none⟩ = some _ := (blk_cell HN1.out 0).trans rfl; have hz1 : w1.cell? ⟨w.heap.size, 1, none⟩ = some _ := (blk_cell HN1.out 1).trans rfl; have hz2 : w1.cell? ⟨w.heap.size, 2, none⟩ = some _ := (blk_cell HN1.out 2).trans rfl; have hz3 : w1.cell? ⟨w.heap.size, 3, none⟩ = some _ := (blk_cell HN1.out 3).trans rfl; have hz4 : w1.cell? ⟨w.heap.size, 4, none⟩ = some _ := (blk_cell HN1.out 4).trans rfl; clear hb) | (go_at_call 9; (with_reducible refine (ben_Print.calls k2 T A3 A4 c3 c4 a _ w1 (Kd.C_below HR3.out HB1.out) HC3.out (Kd.C_below HR4.out HB1.out) HC4.out HP1.out).mono ?_); rintro e w2 ⟨v2, rfl, hp⟩; obtain ⟨A5, c5, rfl⟩ := own_slice hp.own; have HP2 := Aside0.mk hp; have HCA := Aside0.mk (show (Kd.int .u8).C w2 A5 a.length a from Kd.C_of_reads (enc := Value.int .u8) (d := (0 : Int)) (h1 := fun _ => rfl) (own_reads' hp.own)); have HB2 := Aside0.mk (below_step HB1.out hp.bel); have HN2 := Aside0.mk (blk_below HN1.out hp.bel); clear hp) | (go_at_call 11; (with_reducible refine (ben_Parse.calls k2 A5 c5 a X _ w2 HCA.out (own_le HP2.out.own) HAL.out HQ1.out).mono ?_); rintro e w3 ⟨v3, v4, rfl, hR3, hR4, hb⟩; obtain ⟨X3a, d3a, rfl, hl3, hC3⟩ := Kd.R_reads hR3; obtain ⟨X4a, d4a, rfl, hl4, hC4⟩ := Kd.R_reads hR4; have HNB := Aside0.mk (blk_new w3 (.cells #[.int .i64 X.f0, .int .i64 X.f1, .string X.f2, .slice X3a X.f3.length d3a, .slice X4a X.f4.length d4a] 25)); have CX3 := Aside0.mk (Kd.C_alloc hC3 (.cells #[.int .i64 X.f0, .int .i64 X.f1, .string X.f2, .slice X3a X.f3.length d3a, .slice X4a X.f4.length d4a] 25)); have CX4 := Aside0.mk (Kd.C_alloc hC4 (.cells #[.int .i64 X.f0, .int .i64 X.f1, .string X.f2, .slice X3a X.f3.length d3a, .slice X4a X.f4.length d4a] 25)); have LX3 := Aside0.mk hl3; have LX4 := Aside0.mk hl4; have HN4 := Aside0.mk (blk_alloc (blk_below HN2.out hb) (.cells #[.int .i64 X.f0, .int .i64 X.f1, .string X.f2, .slice X3a X.f3.length d3a, .slice X4a X.f4.length d4a] 25)); have HL4 := Aside0.mk (Nat.lt_of_lt_of_le (blk_lt HN2.out) hb.size); have HB4 := Aside0.mk (below_alloc (below_step HB2.out hb) (.cells #[.int .i64 X.f0, .int .i64 X.f1, .string X.f2, .slice X3a X.f3.length d3a, .slice X4a X.f4.length d4a] 25)); clear hb hR3 hR4 hl3 hl4 hC3 hC4))
      generalize (w3.alloc (.cells #[.int .i64 X.f0, .int .i64 X.f1, .string X.f2, .slice X3a X.f3.length d3a, .slice X4a X.f4.length d4a] 25)) = w4 at HNB HN4 CX3 CX4 HB4 ⊢
      have hp0 : w4.cell? ⟨w.heap.size, 0, none⟩ = some _ := (blk_cell HN4.out 0).trans rfl
      have hp1 : w4.cell? ⟨w.heap.size, 1, none⟩ = some _ := (blk_cell HN4.out 1).trans rfl
      have hp2 : w4.cell? ⟨w.heap.size, 2, none⟩ = some _ := (blk_cell HN4.out 2).trans rfl
      have hp3 : w4.cell? ⟨w.heap.size, 3, none⟩ = some _ := (blk_cell HN4.out 3).trans rfl
      have hp4 : w4.cell? ⟨w.heap.size, 4, none⟩ = some _ := (blk_cell HN4.out 4).trans rfl
      have hx0 : w4.cell? ⟨w3.heap.size, 0, none⟩ = some _ := (blk_cell HNB.out 0).trans rfl
      have hx1 : w4.cell? ⟨w3.heap.size, 1, none⟩ = some _ := (blk_cell HNB.out 1).trans rfl
      have hx2 : w4.cell? ⟨w3.heap.size, 2, none⟩ = some _ := (blk_cell HNB.out 2).trans rfl
      have hx3 : w4.cell? ⟨w3.heap.size, 3, none⟩ = some _ := (blk_cell HNB.out 3).trans rfl
      have hx4 : w4.cell? ⟨w3.heap.size, 4, none⟩ = some _ := (blk_cell HNB.out 4).trans rfl
      have hne : ¬ w.heap.size = w3.heap.size := by have := HL4.out; omega
      have hne2 : ¬ w3.heap.size = w.heap.size := by have := HL4.out; omega
      go_upto_region 8 with (first | (go_at_call 13; (with_reducible refine (annuletref11_Same.calls k2 X.f0 X.f1 X.f2 X3a d3a X.f3 X4a d4a X.f4 T.f0 T.f1 T.f2 A3 c3 T.f3 A4 c4 T.f4 true w4 CX3.out LX3.out CX4.out LX4.out (Kd.C_below HR3.out HB4.out) HC3.out (Kd.C_below HR4.out HB4.out) HC4.out HSA.out).mono ?_); rintro e w5 ⟨rfl, hb⟩; have HB5 := Aside0.mk (below_step HB4.out hb); clear hb) | (go_at_call 11; (with_reducible refine (ben_Parse.calls k2 A1 c1 _ Y _ _ (Kd.C_below HR1.out HB5.out) HC1.out HBL.out HQ2.out).mono ?_); rintro e w6 ⟨v3, v4, rfl, hR3, hR4, hb⟩; obtain ⟨X3b, d3b, rfl, hl3, hC3⟩ := Kd.R_reads hR3; obtain ⟨X4b, d4b, rfl, hl4, hC4⟩ := Kd.R_reads hR4; have HNC := Aside0.mk (blk_new w6 (.cells #[.int .i64 Y.f0, .int .i64 Y.f1, .string Y.f2, .slice X3b Y.f3.length d3b, .slice X4b Y.f4.length d4b] 25)); have CY3 := Aside0.mk (Kd.C_alloc hC3 (.cells #[.int .i64 Y.f0, .int .i64 Y.f1, .string Y.f2, .slice X3b Y.f3.length d3b, .slice X4b Y.f4.length d4b] 25)); have CY4 := Aside0.mk (Kd.C_alloc hC4 (.cells #[.int .i64 Y.f0, .int .i64 Y.f1, .string Y.f2, .slice X3b Y.f3.length d3b, .slice X4b Y.f4.length d4b] 25)); have LY3 := Aside0.mk hl3; have LY4 := Aside0.mk hl4; have HB7 := Aside0.mk (below_alloc (below_step HB5.out hb) (.cells #[.int .i64 Y.f0, .int .i64 Y.f1, .string Y.f2, .slice X3b Y.f3.length d3b, .slice X4b Y.f4.length d4b] 25)); clear hb hR3 hR4 hl3 hl4 hC3 hC4))
      generalize (w6.alloc (.cells #[.int .i64 Y.f0, .int .i64 Y.f1, .string Y.f2, .slice X3b Y.f3.length d3b, .slice X4b Y.f4.length d4b] 25)) = w7 at HNC CY3 CY4 HB7 ⊢
      have hy0 : w7.cell? ⟨w6.heap.size, 0, none⟩ = some _ := (blk_cell HNC.out 0).trans rfl
      have hy1 : w7.cell? ⟨w6.heap.size, 1, none⟩ = some _ := (blk_cell HNC.out 1).trans rfl
      have hy2 : w7.cell? ⟨w6.heap.size, 2, none⟩ = some _ := (blk_cell HNC.out 2).trans rfl
      have hy3 : w7.cell? ⟨w6.heap.size, 3, none⟩ = some _ := (blk_cell HNC.out 3).trans rfl
      have hy4 : w7.cell? ⟨w6.heap.size, 4, none⟩ = some _ := (blk_cell HNC.out 4).trans rfl
      go_upto_region 9 with (go_at_call 9; (with_reducible refine (ben_Print.calls k2 Y X3b X4b d3b d4b _ _ w7 CY3.out LY3.out CY4.out LY4.out HP3.out).mono ?_); rintro e w8 ⟨v8, rfl, hp⟩; have HP8 := Aside0.mk hp; have HB8 := Aside0.mk (below_step HB7.out hp.bel); clear hp)
      have hcv1 := own_string (P := Try.prog) Try.underlying28 Try.underlying5 Try.underlying9 HP8.out.own
      have hcv2 := Kd.C_string (P := Try.prog) (c := c1) Try.underlying28 Try.underlying5 Try.underlying9 (Kd.C_below HR1.out HB8.out)
      go_wp2_with (go_at_call 8; (with_reducible refine (law12_awake.calls k _ HAW.out).mono ?_); rintro e w9 ⟨rfl, hb⟩; have HB9 := Aside0.mk (below_step HB8.out hb); clear hb)
      go_ret
      exact ⟨rfl, HB9.out⟩
    · have dg : (g1 != 0) = true := bne_iff_ne.mpr cg
      clear hCB cg
      go_enter Try.func5, Try.ntmps5
      go_upto_region 5 with (first | (go_at_call 7; (with_reducible refine (annuletlaw11_Large.calls k2 T.f0 T.f1 T.f2 A3 c3 T.f3 A4 c4 T.f4 1 false _ (Kd.C_below HR3.out HB0.out) HC3.out (Kd.C_below HR4.out HB0.out) HC4.out HLA.out).mono ?_); rintro e w1 ⟨rfl, hb⟩; have HB1 := Aside0.mk (below_step HB0.out hb); have HN1 := Aside0.mk (blk_below HN0.out hb); have hz0 : w1.cell? ⟨w.heap.size, 0, none⟩ = some _ := (blk_cell HN1.out 0).trans rfl; have hz1 : w1.cell? ⟨w.heap.size, 1, none⟩ = some _ := (blk_cell HN1.out 1).trans rfl; have hz2 : w1.cell? ⟨w.heap.size, 2, none⟩ = some _ := (blk_cell HN1.out 2).trans rfl; have hz3 : w1.cell? ⟨w.heap.size, 3, none⟩ = some _ := (blk_cell HN1.out 3).trans rfl; have hz4 : w1.cell? ⟨w.heap.size, 4, none⟩ = some _ := (blk_cell HN1.out 4).trans rfl; clear hb) | (go_at_call 9; (with_reducible refine (ben_Print.calls k2 T A3 A4 c3 c4 a _ w1 (Kd.C_below HR3.out HB1.out) HC3.out (Kd.C_below HR4.out HB1.out) HC4.out HP1.out).mono ?_); rintro e w2 ⟨v2, rfl, hp⟩; obtain ⟨A5, c5, rfl⟩ := own_slice hp.own; have HP2 := Aside0.mk hp; have HCA := Aside0.mk (show (Kd.int .u8).C w2 A5 a.length a from Kd.C_of_reads (enc := Value.int .u8) (d := (0 : Int)) (h1 := fun _ => rfl) (own_reads' hp.own)); have HB2 := Aside0.mk (below_step HB1.out hp.bel); have HN2 := Aside0.mk (blk_below HN1.out hp.bel); clear hp) | (go_at_call 11; (with_reducible refine (ben_Parse.calls k2 A5 c5 a X _ w2 HCA.out (own_le HP2.out.own) HAL.out HQ1.out).mono ?_); rintro e w3 ⟨v3, v4, rfl, hR3, hR4, hb⟩; obtain ⟨X3a, d3a, rfl, hl3, hC3⟩ := Kd.R_reads hR3; obtain ⟨X4a, d4a, rfl, hl4, hC4⟩ := Kd.R_reads hR4; have HNB := Aside0.mk (blk_new w3 (.cells #[.int .i64 X.f0, .int .i64 X.f1, .string X.f2, .slice X3a X.f3.length d3a, .slice X4a X.f4.length d4a] 25)); have CX3 := Aside0.mk (Kd.C_alloc hC3 (.cells #[.int .i64 X.f0, .int .i64 X.f1, .string X.f2, .slice X3a X.f3.length d3a, .slice X4a X.f4.length d4a] 25)); have CX4 := Aside0.mk (Kd.C_alloc hC4 (.cells #[.int .i64 X.f0, .int .i64 X.f1, .string X.f2, .slice X3a X.f3.length d3a, .slice X4a X.f4.length d4a] 25)); have LX3 := Aside0.mk hl3; have LX4 := Aside0.mk hl4; have HN4 := Aside0.mk (blk_alloc (blk_below HN2.out hb) (.cells #[.int .i64 X.f0, .int .i64 X.f1, .string X.f2, .slice X3a X.f3.length d3a, .slice X4a X.f4.length d4a] 25)); have HL4 := Aside0.mk (Nat.lt_of_lt_of_le (blk_lt HN2.out) hb.size); have HB4 := Aside0.mk (below_alloc (below_step HB2.out hb) (.cells #[.int .i64 X.f0, .int .i64 X.f1, .string X.f2, .slice X3a X.f3.length d3a, .slice X4a X.f4.length d4a] 25)); clear hb hR3 hR4 hl3 hl4 hC3 hC4))
      generalize (w3.alloc (.cells #[.int .i64 X.f0, .int .i64 X.f1, .string X.f2, .slice X3a X.f3.length d3a, .slice X4a X.f4.length d4a] 25)) = w4 at HNB HN4 CX3 CX4 HB4 ⊢
      have hp0 : w4.cell? ⟨w.heap.size, 0, none⟩ = some _ := (blk_cell HN4.out 0).trans rfl
      have hp1 : w4.cell? ⟨w.heap.size, 1, none⟩ = some _ := (blk_cell HN4.out 1).trans rfl
      have hp2 : w4.cell? ⟨w.heap.size, 2, none⟩ = some _ := (blk_cell HN4.out 2).trans rfl
      have hp3 : w4.cell? ⟨w.heap.size, 3, none⟩ = some _ := (blk_cell HN4.out 3).trans rfl
      have hp4 : w4.cell? ⟨w.heap.size, 4, none⟩ = some _ := (blk_cell HN4.out 4).trans rfl
      have hx0 : w4.cell? ⟨w3.heap.size, 0, none⟩ = some _ := (blk_cell HNB.out 0).trans rfl
      have hx1 : w4.cell? ⟨w3.heap.size, 1, none⟩ = some _ := (blk_cell HNB.out 1).trans rfl
      have hx2 : w4.cell? ⟨w3.heap.size, 2, none⟩ = some _ := (blk_cell HNB.out 2).trans rfl
      have hx3 : w4.cell? ⟨w3.heap.size, 3, none⟩ = some _ := (blk_cell HNB.out 3).trans rfl
      have hx4 : w4.cell? ⟨w3.heap.size, 4, none⟩ = some _ := (blk_cell HNB.out 4).trans rfl
      have hne : ¬ w.heap.size = w3.heap.size := by have := HL4.out; omega
      have hne2 : ¬ w3.heap.size = w.heap.size := by have := HL4.out; omega
      go_upto_region 8 with (first | (go_at_call 13; (with_reducible refine (annuletref11_Same.calls k2 X.f0 X.f1 X.f2 X3a d3a X.f3 X4a d4a X.f4 T.f0 T.f1 T.f2 A3 c3 T.f3 A4 c4 T.f4 true w4 CX3.out LX3.out CX4.out LX4.out (Kd.C_below HR3.out HB4.out) HC3.out (Kd.C_below HR4.out HB4.out) HC4.out HSA.out).mono ?_); rintro e w5 ⟨rfl, hb⟩; have HB5 := Aside0.mk (below_step HB4.out hb); clear hb) | (go_at_call 11; (with_reducible refine (ben_Parse.calls k2 A1 c1 _ Y _ _ (Kd.C_below HR1.out HB5.out) HC1.out HBL.out HQ2.out).mono ?_); rintro e w6 ⟨v3, v4, rfl, hR3, hR4, hb⟩; obtain ⟨X3b, d3b, rfl, hl3, hC3⟩ := Kd.R_reads hR3; obtain ⟨X4b, d4b, rfl, hl4, hC4⟩ := Kd.R_reads hR4; have HNC := Aside0.mk (blk_new w6 (.cells #[.int .i64 Y.f0, .int .i64 Y.f1, .string Y.f2, .slice X3b Y.f3.length d3b, .slice X4b Y.f4.length d4b] 25)); have CY3 := Aside0.mk (Kd.C_alloc hC3 (.cells #[.int .i64 Y.f0, .int .i64 Y.f1, .string Y.f2, .slice X3b Y.f3.length d3b, .slice X4b Y.f4.length d4b] 25)); have CY4 := Aside0.mk (Kd.C_alloc hC4 (.cells #[.int .i64 Y.f0, .int .i64 Y.f1, .string Y.f2, .slice X3b Y.f3.length d3b, .slice X4b Y.f4.length d4b] 25)); have LY3 := Aside0.mk hl3; have LY4 := Aside0.mk hl4; have HB7 := Aside0.mk (below_alloc (below_step HB5.out hb) (.cells #[.int .i64 Y.f0, .int .i64 Y.f1, .string Y.f2, .slice X3b Y.f3.length d3b, .slice X4b Y.f4.length d4b] 25)); clear hb hR3 hR4 hl3 hl4 hC3 hC4))
      generalize (w6.alloc (.cells #[.int .i64 Y.f0, .int .i64 Y.f1, .string Y.f2, .slice X3b Y.f3.length d3b, .slice X4b Y.f4.length d4b] 25)) = w7 at HNC CY3 CY4 HB7 ⊢
      have hy0 : w7.cell? ⟨w6.heap.size, 0, none⟩ = some _ := (blk_cell HNC.out 0).trans rfl
      have hy1 : w7.cell? ⟨w6.heap.size, 1, none⟩ = some _ := (blk_cell HNC.out 1).trans rfl
      have hy2 : w7.cell? ⟨w6.heap.size, 2, none⟩ = some _ := (blk_cell HNC.out 2).trans rfl
      have hy3 : w7.cell? ⟨w6.heap.size, 3, none⟩ = some _ := (blk_cell HNC.out 3).trans rfl
      have hy4 : w7.cell? ⟨w6.heap.size, 4, none⟩ = some _ := (blk_cell HNC.out 4).trans rfl
      go_wp2_with (first | (go_at_call 9; (with_reducible refine (ben_Print.calls k2 Y X3b X4b d3b d4b _ _ w7 CY3.out LY3.out CY4.out LY4.out HP3.out).mono ?_); rintro e w8 ⟨v8, rfl, hp⟩; have HP8 := Aside0.mk hp; have HB8 := Aside0.mk (below_step HB7.out hp.bel); clear hp) | (go_at_call 8; (with_reducible refine (law12_awake.calls k _ HAW.out).mono ?_); rintro e w9 ⟨rfl, hb⟩; have HB9 := Aside0.mk (below_step HB8.out hb); clear hb))
      go_ret
      exact ⟨rfl, HB9.out⟩
  · have de : (e1 == 0) = false := beq_eq_false_iff_ne.mpr ce
    clear hS ce
    by_cases cg : g1 = 0
    · obtain ⟨rfl, rfl⟩ := hCB cg
      have dg : (g1 != 0) = false := bne_eq_false_iff_eq.mpr cg
      have dst : ((strOfNums C).toList == (strOfNums C).toList) = true := beq_self_eq_true _
      clear hCB cg
      go_enter Try.func5, Try.ntmps5
      go_upto_region 5 with (first | (go_at_call 7; (with_reducible refine (annuletlaw11_Large.calls k2 T.f0 T.f1 T.f2 A3 c3 T.f3 A4 c4 T.f4 1 false _ (Kd.C_below HR3.out HB0.out) HC3.out (Kd.C_below HR4.out HB0.out) HC4.out HLA.out).mono ?_); rintro e w1 ⟨rfl, hb⟩; have HB1 := Aside0.mk (below_step HB0.out hb); have HN1 := Aside0.mk (blk_below HN0.out hb); have hz0 : w1.cell? ⟨w.heap.size, 0, none⟩ = some _ := (blk_cell HN1.out 0).trans rfl; have hz1 : w1.cell? ⟨w.heap.size, 1, none⟩ = some _ := (blk_cell HN1.out 1).trans rfl; have hz2 : w1.cell? ⟨w.heap.size, 2, none⟩ = some _ := (blk_cell HN1.out 2).trans rfl; have hz3 : w1.cell? ⟨w.heap.size, 3, none⟩ = some _ := (blk_cell HN1.out 3).trans rfl; have hz4 : w1.cell? ⟨w.heap.size, 4, none⟩ = some _ := (blk_cell HN1.out 4).trans rfl; clear hb) | (go_at_call 9; (with_reducible refine (ben_Print.calls k2 T A3 A4 c3 c4 a _ w1 (Kd.C_below HR3.out HB1.out) HC3.out (Kd.C_below HR4.out HB1.out) HC4.out HP1.out).mono ?_); rintro e w2 ⟨v2, rfl, hp⟩; obtain ⟨A5, c5, rfl⟩ := own_slice hp.own; have HP2 := Aside0.mk hp; have HCA := Aside0.mk (show (Kd.int .u8).C w2 A5 a.length a from Kd.C_of_reads (enc := Value.int .u8) (d := (0 : Int)) (h1 := fun _ => rfl) (own_reads' hp.own)); have HB2 := Aside0.mk (below_step HB1.out hp.bel); have HN2 := Aside0.mk (blk_below HN1.out hp.bel); clear hp) | (go_at_call 11; (with_reducible refine (ben_Parse.calls k2 A5 c5 a X _ w2 HCA.out (own_le HP2.out.own) HAL.out HQ1.out).mono ?_); rintro e w3 ⟨v3, v4, rfl, hR3, hR4, hb⟩; obtain ⟨X3a, d3a, rfl, hl3, hC3⟩ := Kd.R_reads hR3; obtain ⟨X4a, d4a, rfl, hl4, hC4⟩ := Kd.R_reads hR4; have HNB := Aside0.mk (blk_new w3 (.cells #[.int .i64 X.f0, .int .i64 X.f1, .string X.f2, .slice X3a X.f3.length d3a, .slice X4a X.f4.length d4a] 25)); have CX3 := Aside0.mk (Kd.C_alloc hC3 (.cells #[.int .i64 X.f0, .int .i64 X.f1, .string X.f2, .slice X3a X.f3.length d3a, .slice X4a X.f4.length d4a] 25)); have CX4 := Aside0.mk (Kd.C_alloc hC4 (.cells #[.int .i64 X.f0, .int .i64 X.f1, .string X.f2, .slice X3a X.f3.length d3a, .slice X4a X.f4.length d4a] 25)); have LX3 := Aside0.mk hl3; have LX4 := Aside0.mk hl4; have HN4 := Aside0.mk (blk_alloc (blk_below HN2.out hb) (.cells #[.int .i64 X.f0, .int .i64 X.f1, .string X.f2, .slice X3a X.f3.length d3a, .slice X4a X.f4.length d4a] 25)); have HL4 := Aside0.mk (Nat.lt_of_lt_of_le (blk_lt HN2.out) hb.size); have HB4 := Aside0.mk (below_alloc (below_step HB2.out hb) (.cells #[.int .i64 X.f0, .int .i64 X.f1, .string X.f2, .slice X3a X.f3.length d3a, .slice X4a X.f4.length d4a] 25)); clear hb hR3 hR4 hl3 hl4 hC3 hC4))
      generalize (w3.alloc (.cells #[.int .i64 X.f0, .int .i64 X.f1, .string X.f2, .slice X3a X.f3.length d3a, .slice X4a X.f4.length d4a] 25)) = w4 at HNB HN4 CX3 CX4 HB4 ⊢
      go_upto_region 8 with ((go_at_call 11; (with_reducible refine (ben_Parse.calls k2 A1 c1 _ Y _ _ (Kd.C_below HR1.out HB4.out) HC1.out HBL.out HQ2.out).mono ?_); rintro e w6 ⟨v3, v4, rfl, hR3, hR4, hb⟩; obtain ⟨X3b, d3b, rfl, hl3, hC3⟩ := Kd.R_reads hR3; obtain ⟨X4b, d4b, rfl, hl4, hC4⟩ := Kd.R_reads hR4; have HNC := Aside0.mk (blk_new w6 (.cells #[.int .i64 Y.f0, .int .i64 Y.f1, .string Y.f2, .slice X3b Y.f3.length d3b, .slice X4b Y.f4.length d4b] 25)); have CY3 := Aside0.mk (Kd.C_alloc hC3 (.cells #[.int .i64 Y.f0, .int .i64 Y.f1, .string Y.f2, .slice X3b Y.f3.length d3b, .slice X4b Y.f4.length d4b] 25)); have CY4 := Aside0.mk (Kd.C_alloc hC4 (.cells #[.int .i64 Y.f0, .int .i64 Y.f1, .string Y.f2, .slice X3b Y.f3.length d3b, .slice X4b Y.f4.length d4b] 25)); have LY3 := Aside0.mk hl3; have LY4 := Aside0.mk hl4; have HB7 := Aside0.mk (below_alloc (below_step HB4.out hb) (.cells #[.int .i64 Y.f0, .int .i64 Y.f1, .string Y.f2, .slice X3b Y.f3.length d3b, .slice X4b Y.f4.length d4b] 25)); clear hb hR3 hR4 hl3 hl4 hC3 hC4))
      generalize (w6.alloc (.cells #[.int .i64 Y.f0, .int .i64 Y.f1, .string Y.f2, .slice X3b Y.f3.length d3b, .slice X4b Y.f4.length d4b] 25)) = w7 at HNC CY3 CY4 HB7 ⊢
      have hy0 : w7.cell? ⟨w6.heap.size, 0, none⟩ = some _ := (blk_cell HNC.out 0).trans rfl
      have hy1 : w7.cell? ⟨w6.heap.size, 1, none⟩ = some _ := (blk_cell HNC.out 1).trans rfl
      have hy2 : w7.cell? ⟨w6.heap.size, 2, none⟩ = some _ := (blk_cell HNC.out 2).trans rfl
      have hy3 : w7.cell? ⟨w6.heap.size, 3, none⟩ = some _ := (blk_cell HNC.out 3).trans rfl
      have hy4 : w7.cell? ⟨w6.heap.size, 4, none⟩ = some _ := (blk_cell HNC.out 4).trans rfl
      go_upto_region 9 with (go_at_call 9; (with_reducible refine (ben_Print.calls k2 Y X3b X4b d3b d4b _ _ w7 CY3.out LY3.out CY4.out LY4.out HP3.out).mono ?_); rintro e w8 ⟨v8, rfl, hp⟩; have HP8 := Aside0.mk hp; have HB8 := Aside0.mk (below_step HB7.out hp.bel); clear hp)
      have hcv1 := own_string (P := Try.prog) Try.underlying28 Try.underlying5 Try.underlying9 HP8.out.own
      have hcv2 := Kd.C_string (P := Try.prog) (c := c1) Try.underlying28 Try.underlying5 Try.underlying9 (Kd.C_below HR1.out HB8.out)
      go_wp2_with (go_at_call 8; (with_reducible refine (law12_awake.calls k _ HAW.out).mono ?_); rintro e w9 ⟨rfl, hb⟩; have HB9 := Aside0.mk (below_step HB8.out hb); clear hb)
      go_ret
      exact ⟨rfl, HB9.out⟩
    · have dg : (g1 != 0) = true := bne_iff_ne.mpr cg
      clear hCB cg
      go_enter Try.func5, Try.ntmps5
      go_upto_region 5 with (first | (go_at_call 7; (with_reducible refine (annuletlaw11_Large.calls k2 T.f0 T.f1 T.f2 A3 c3 T.f3 A4 c4 T.f4 1 false _ (Kd.C_below HR3.out HB0.out) HC3.out (Kd.C_below HR4.out HB0.out) HC4.out HLA.out).mono ?_); rintro e w1 ⟨rfl, hb⟩; have HB1 := Aside0.mk (below_step HB0.out hb); have HN1 := Aside0.mk (blk_below HN0.out hb); have hz0 : w1.cell? ⟨w.heap.size, 0, none⟩ = some _ := (blk_cell HN1.out 0).trans rfl; have hz1 : w1.cell? ⟨w.heap.size, 1, none⟩ = some _ := (blk_cell HN1.out 1).trans rfl; have hz2 : w1.cell? ⟨w.heap.size, 2, none⟩ = some _ := (blk_cell HN1.out 2).trans rfl; have hz3 : w1.cell? ⟨w.heap.size, 3, none⟩ = some _ := (blk_cell HN1.out 3).trans rfl; have hz4 : w1.cell? ⟨w.heap.size, 4, none⟩ = some _ := (blk_cell HN1.out 4).trans rfl; clear hb) | (go_at_call 9; (with_reducible refine (ben_Print.calls k2 T A3 A4 c3 c4 a _ w1 (Kd.C_below HR3.out HB1.out) HC3.out (Kd.C_below HR4.out HB1.out) HC4.out HP1.out).mono ?_); rintro e w2 ⟨v2, rfl, hp⟩; obtain ⟨A5, c5, rfl⟩ := own_slice hp.own; have HP2 := Aside0.mk hp; have HCA := Aside0.mk (show (Kd.int .u8).C w2 A5 a.length a from Kd.C_of_reads (enc := Value.int .u8) (d := (0 : Int)) (h1 := fun _ => rfl) (own_reads' hp.own)); have HB2 := Aside0.mk (below_step HB1.out hp.bel); have HN2 := Aside0.mk (blk_below HN1.out hp.bel); clear hp) | (go_at_call 11; (with_reducible refine (ben_Parse.calls k2 A5 c5 a X _ w2 HCA.out (own_le HP2.out.own) HAL.out HQ1.out).mono ?_); rintro e w3 ⟨v3, v4, rfl, hR3, hR4, hb⟩; obtain ⟨X3a, d3a, rfl, hl3, hC3⟩ := Kd.R_reads hR3; obtain ⟨X4a, d4a, rfl, hl4, hC4⟩ := Kd.R_reads hR4; have HNB := Aside0.mk (blk_new w3 (.cells #[.int .i64 X.f0, .int .i64 X.f1, .string X.f2, .slice X3a X.f3.length d3a, .slice X4a X.f4.length d4a] 25)); have CX3 := Aside0.mk (Kd.C_alloc hC3 (.cells #[.int .i64 X.f0, .int .i64 X.f1, .string X.f2, .slice X3a X.f3.length d3a, .slice X4a X.f4.length d4a] 25)); have CX4 := Aside0.mk (Kd.C_alloc hC4 (.cells #[.int .i64 X.f0, .int .i64 X.f1, .string X.f2, .slice X3a X.f3.length d3a, .slice X4a X.f4.length d4a] 25)); have LX3 := Aside0.mk hl3; have LX4 := Aside0.mk hl4; have HN4 := Aside0.mk (blk_alloc (blk_below HN2.out hb) (.cells #[.int .i64 X.f0, .int .i64 X.f1, .string X.f2, .slice X3a X.f3.length d3a, .slice X4a X.f4.length d4a] 25)); have HL4 := Aside0.mk (Nat.lt_of_lt_of_le (blk_lt HN2.out) hb.size); have HB4 := Aside0.mk (below_alloc (below_step HB2.out hb) (.cells #[.int .i64 X.f0, .int .i64 X.f1, .string X.f2, .slice X3a X.f3.length d3a, .slice X4a X.f4.length d4a] 25)); clear hb hR3 hR4 hl3 hl4 hC3 hC4))
      generalize (w3.alloc (.cells #[.int .i64 X.f0, .int .i64 X.f1, .string X.f2, .slice X3a X.f3.length d3a, .slice X4a X.f4.length d4a] 25)) = w4 at HNB HN4 CX3 CX4 HB4 ⊢
      go_upto_region 8 with ((go_at_call 11; (with_reducible refine (ben_Parse.calls k2 A1 c1 _ Y _ _ (Kd.C_below HR1.out HB4.out) HC1.out HBL.out HQ2.out).mono ?_); rintro e w6 ⟨v3, v4, rfl, hR3, hR4, hb⟩; obtain ⟨X3b, d3b, rfl, hl3, hC3⟩ := Kd.R_reads hR3; obtain ⟨X4b, d4b, rfl, hl4, hC4⟩ := Kd.R_reads hR4; have HNC := Aside0.mk (blk_new w6 (.cells #[.int .i64 Y.f0, .int .i64 Y.f1, .string Y.f2, .slice X3b Y.f3.length d3b, .slice X4b Y.f4.length d4b] 25)); have CY3 := Aside0.mk (Kd.C_alloc hC3 (.cells #[.int .i64 Y.f0, .int .i64 Y.f1, .string Y.f2, .slice X3b Y.f3.length d3b, .slice X4b Y.f4.length d4b] 25)); have CY4 := Aside0.mk (Kd.C_alloc hC4 (.cells #[.int .i64 Y.f0, .int .i64 Y.f1, .string Y.f2, .slice X3b Y.f3.length d3b, .slice X4b Y.f4.length d4b] 25)); have LY3 := Aside0.mk hl3; have LY4 := Aside0.mk hl4; have HB7 := Aside0.mk (below_alloc (below_step HB4.out hb) (.cells #[.int .i64 Y.f0, .int .i64 Y.f1, .string Y.f2, .slice X3b Y.f3.length d3b, .slice X4b Y.f4.length d4b] 25)); clear hb hR3 hR4 hl3 hl4 hC3 hC4))
      generalize (w6.alloc (.cells #[.int .i64 Y.f0, .int .i64 Y.f1, .string Y.f2, .slice X3b Y.f3.length d3b, .slice X4b Y.f4.length d4b] 25)) = w7 at HNC CY3 CY4 HB7 ⊢
      have hy0 : w7.cell? ⟨w6.heap.size, 0, none⟩ = some _ := (blk_cell HNC.out 0).trans rfl
      have hy1 : w7.cell? ⟨w6.heap.size, 1, none⟩ = some _ := (blk_cell HNC.out 1).trans rfl
      have hy2 : w7.cell? ⟨w6.heap.size, 2, none⟩ = some _ := (blk_cell HNC.out 2).trans rfl
      have hy3 : w7.cell? ⟨w6.heap.size, 3, none⟩ = some _ := (blk_cell HNC.out 3).trans rfl
      have hy4 : w7.cell? ⟨w6.heap.size, 4, none⟩ = some _ := (blk_cell HNC.out 4).trans rfl
      go_wp2_with (first | (go_at_call 9; (with_reducible refine (ben_Print.calls k2 Y X3b X4b d3b d4b _ _ w7 CY3.out LY3.out CY4.out LY4.out HP3.out).mono ?_); rintro e w8 ⟨v8, rfl, hp⟩; have HP8 := Aside0.mk hp; have HB8 := Aside0.mk (below_step HB7.out hp.bel); clear hp) | (go_at_call 8; (with_reducible refine (law12_awake.calls k _ HAW.out).mono ?_); rintro e w9 ⟨rfl, hb⟩; have HB9 := Aside0.mk (below_step HB8.out hb); clear hb))
      go_ret
      exact ⟨rfl, HB9.out⟩
theorem annuletlaw12_BenBack.calls (k : Nat) (a0_0 a0_1 : Int) (a0_2 : ByteArray) (A3 : Option Addr) (c3 : Nat) (l0_3 : List ByteArray) (A4 : Option Addr) (c4 : Nat) (l0_4 : List S25) (A1 : Option Addr) (c1 : Nat) (l1 : List Int) (r : Bool) (w : World) (hr3 : Kd.string.C w A3 l0_3.length l0_3) (hc3 : l0_3.length ≤ c3) (hr4 : k25.C w A4 l0_4.length l0_4) (hc4 : l0_4.length ≤ c4) (hr1 : (Kd.int .u8).C w A1 l1.length l1) (hc1 : l1.length ≤ c1) (h : annuletlaw12_BenBack.f k a0_0 a0_1 a0_2 l0_3 l0_4 l1 = some r) :
    Calls Try.prog 5 #[.agg #[.int .i64 a0_0, .int .i64 a0_1, .string a0_2, .slice A3 l0_3.length c3, .slice A4 l0_4.length c4], .slice A1 l1.length c1] w fun e w' => e = .returned (.bool r) ∧ Below w.heap.size w w' := by
  unfold annuletlaw12_BenBack.f at h
  by_cases hc : back_ok k ⟨a0_0, a0_1, a0_2, l0_3, l0_4⟩ l1
  case neg => rw [if_neg hc] at h; cases h
  rw [if_pos hc] at h
  cases h
  exact back_calls k ⟨a0_0, a0_1, a0_2, l0_3, l0_4⟩ A3 c3 A4 c4 A1 c1 l1 w hr3 hc3 hr4 hc4 hr1 hc1 hc

def annuletlaw12_BenBack.Pure : Prop := ∀ (a0_0 : Int) (a0_1 : Int) (a0_2 : ByteArray) (l0_3 : List ByteArray) (l0_4 : List (S25)) (l1 : List Int), (Lit.int .i64 a0_0).wf = true → (Lit.int .i64 a0_1).wf = true → a0_2.size ≤ maxLen → (l0_3.length ≤ maxLen ∧ ∀ z0 ∈ l0_3, z0.size ≤ maxLen) → (l0_4.length ≤ maxLen ∧ ∀ z0 ∈ l0_4, wfT25 z0) → (l1.length ≤ maxLen ∧ ∀ z0 ∈ l1, (Lit.int .u8 z0).wf = true) → ∃ k, annuletlaw12_BenBack.f k a0_0 a0_1 a0_2 l0_3 l0_4 l1 = some true

end Go.Proofs.Ytekcnfngcgchcaa.PBenBack
