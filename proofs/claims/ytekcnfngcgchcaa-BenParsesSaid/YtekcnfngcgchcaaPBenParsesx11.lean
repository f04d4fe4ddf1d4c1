/- Written by a program of this session (a turned copy of the kit's print): functions of the program, each with the Lean function that it comes to, and the row of one law. No condition. -/
import Derived.Test.YtekcnfngcgchcaaPBenParsesx0
import Derived.Test.YtekcnfngcgchcaaPBenParsesx5
import Derived.Test.YtekcnfngcgchcaaPBenParsesx6
import Derived.Test.YtekcnfngcgchcaaPBenParsesx8
import Derived.Test.YtekcnfngcgchcaaPBenParsesx10
namespace Go.Proofs.Ytekcnfngcgchcaa.PBenParses
open Go.RowKit Go.Proofs.YtekcnfngcgchcaaW.PrintWords Go.Proofs.YtekcnfngcgchcaaW.PrintLast Go.Proofs.YtekcnfngcgchcaaW.PrintMore
attribute [local go_sem] max2_int min2_int max_two min_two max_three min_three max_four min_four   -- for this text's walks alone
set_option linter.unusedVariables false
set_option linter.unusedSimpArgs false


/-! ### annuletlaw12_BenParses: function 4 -/
/-! ### the law BenParses -/
open Classical in
noncomputable def annuletlaw12_BenParses.f (k : Nat) (l0 : List Int) : Option Bool := if law12_awake.ok k ∧ (l0.length > 2000 ∨ ∃ (k2 : Nat) (T : S25) (e : Int), ben_Parse.f k2 l0 = some (T, e) ∧ ref12_Parse.f k2 l0 = some (T, e) ∧ annuletref11_Same.f k2 T.f0 T.f1 T.f2 T.f3 T.f4 T.f0 T.f1 T.f2 T.f3 T.f4 = some true) then some true else none
set_option maxHeartbeats 4000000 in
set_option maxRecDepth 100000 in
theorem annuletlaw12_BenParses.calls (k : Nat) (A0 : Option Addr) (c0 : Nat) (l0 : List Int) (r : Bool) (w : World) (hr0 : Kd.C (Kd.int .u8) w A0 l0.length l0) (hc0 : l0.length ≤ c0) (h : annuletlaw12_BenParses.f k l0 = some r) :
    Calls Try.prog 4 #[.slice A0 l0.length c0] w fun e w' => e = .returned (.bool r) ∧ Below w.heap.size w w' := by
  have hu25 := Try.underlying25
  unfold annuletlaw12_BenParses.f at h
  by_cases hc : law12_awake.ok k ∧ (l0.length > 2000 ∨ ∃ (k2 : Nat) (T : S25) (e : Int), ben_Parse.f k2 l0 = some (T, e) ∧ ref12_Parse.f k2 l0 = some (T, e) ∧ annuletref11_Same.f k2 T.f0 T.f1 T.f2 T.f3 T.f4 T.f0 T.f1 T.f2 T.f3 T.f4 = some true)
  case neg => rw [if_neg hc] at h; cases h
  rw [if_pos hc] at h
  cases h
  have HAW := Aside0.mk hc.1
  obtain ⟨_, hc⟩ := hc
  by_cases c1 : l0.length > 2000
  · have d1 : decide (2000 < (l0.length : Int)) = true := decide_eq_true (by omega)
    have d2 : decide (2000 < l0.length) = true := decide_eq_true c1
    clear c1 hc hr0 hc0
    go_enter Try.func4, Try.ntmps4
    go_wp2_with (go_at_call 8; (with_reducible refine (law12_awake.calls k _ HAW.out).mono ?_); rintro e w1 ⟨rfl, hb⟩)
    go_ret
    exact ⟨rfl, hb⟩
  have d1 : decide (2000 < (l0.length : Int)) = false := decide_eq_false (by omega)
  have d2 : decide (2000 < l0.length) = false := decide_eq_false c1
  obtain ⟨k2, T, e2, hP, hQ, hS⟩ := hc.resolve_left c1
  have HP := Aside0.mk (show _ from ben_Parse.calls k2 A0 c0 l0 T e2 w hr0 hc0 (by omega) hP)
  have HQ := Aside0.mk (show ∀ W, Below w.heap.size w W → _ from fun W hW => ref12_Parse.calls k2 A0 c0 l0 T e2 W (Kd.C_below hr0 hW) hQ)
  have HS := Aside0.mk hS
  clear c1 hc hr0 hc0 hP hQ hS
  go_enter Try.func4, Try.ntmps4
  go_upto_region 4 with ((go_at_call 11; (with_reducible refine HP.out.mono ?_); rintro e w4 ⟨v3, v4, rfl, hR3, hR4, hb⟩; obtain ⟨X3a, d3a, rfl, hl3, hC3⟩ := Kd.R_reads hR3; obtain ⟨X4a, d4a, rfl, hl4, hC4⟩ := Kd.R_reads hR4; have HNB := Aside0.mk (blk_new w4 (.cells #[.int .i64 T.f0, .int .i64 T.f1, .string T.f2, .slice X3a T.f3.length d3a, .slice X4a T.f4.length d4a] 25)); have CX3 := Aside0.mk (Kd.C_alloc hC3 (.cells #[.int .i64 T.f0, .int .i64 T.f1, .string T.f2, .slice X3a T.f3.length d3a, .slice X4a T.f4.length d4a] 25)); have CX4 := Aside0.mk (Kd.C_alloc hC4 (.cells #[.int .i64 T.f0, .int .i64 T.f1, .string T.f2, .slice X3a T.f3.length d3a, .slice X4a T.f4.length d4a] 25)); have LX3 := Aside0.mk hl3; have LX4 := Aside0.mk hl4; have HB5 := Aside0.mk (below_alloc hb (.cells #[.int .i64 T.f0, .int .i64 T.f1, .string T.f2, .slice X3a T.f3.length d3a, .slice X4a T.f4.length d4a] 25)); clear hb hR3 hR4 hl3 hl4 hC3 hC4))
  generalize (w4.alloc (.cells #[.int .i64 T.f0, .int .i64 T.f1, .string T.f2, .slice X3a T.f3.length d3a, .slice X4a T.f4.length d4a] 25)) = w5 at HNB CX3 CX4 HB5 ⊢
  go_upto_region 5 with ((go_at_call 12; (with_reducible refine (HQ.out w5 HB5.out).mono ?_); rintro e w6 ⟨v3, v4, rfl, hR3, hR4, hb⟩; obtain ⟨X3b, d3b, rfl, hl3, hC3⟩ := Kd.R_reads hR3; obtain ⟨X4b, d4b, rfl, hl4, hC4⟩ := Kd.R_reads hR4; have HNC := Aside0.mk (blk_new w6 (.cells #[.int .i64 T.f0, .int .i64 T.f1, .string T.f2, .slice X3b T.f3.length d3b, .slice X4b T.f4.length d4b] 25)); have CY3 := Aside0.mk (Kd.C_alloc hC3 (.cells #[.int .i64 T.f0, .int .i64 T.f1, .string T.f2, .slice X3b T.f3.length d3b, .slice X4b T.f4.length d4b] 25)); have CY4 := Aside0.mk (Kd.C_alloc hC4 (.cells #[.int .i64 T.f0, .int .i64 T.f1, .string T.f2, .slice X3b T.f3.length d3b, .slice X4b T.f4.length d4b] 25)); have LY3 := Aside0.mk hl3; have LY4 := Aside0.mk hl4; have HND := Aside0.mk (blk_alloc (blk_below HNB.out hb) (.cells #[.int .i64 T.f0, .int .i64 T.f1, .string T.f2, .slice X3b T.f3.length d3b, .slice X4b T.f4.length d4b] 25)); have CX5 := Aside0.mk (Kd.C_alloc (Kd.C_below CX3.out hb) (.cells #[.int .i64 T.f0, .int .i64 T.f1, .string T.f2, .slice X3b T.f3.length d3b, .slice X4b T.f4.length d4b] 25)); have CX6 := Aside0.mk (Kd.C_alloc (Kd.C_below CX4.out hb) (.cells #[.int .i64 T.f0, .int .i64 T.f1, .string T.f2, .slice X3b T.f3.length d3b, .slice X4b T.f4.length d4b] 25)); have HL6 := Aside0.mk (Nat.lt_of_lt_of_le (blk_lt HNB.out) hb.size); have HB7 := Aside0.mk (below_alloc (below_step HB5.out hb) (.cells #[.int .i64 T.f0, .int .i64 T.f1, .string T.f2, .slice X3b T.f3.length d3b, .slice X4b T.f4.length d4b] 25)); clear hb hR3 hR4 hl3 hl4 hC3 hC4))
  generalize (w6.alloc (.cells #[.int .i64 T.f0, .int .i64 T.f1, .string T.f2, .slice X3b T.f3.length d3b, .slice X4b T.f4.length d4b] 25)) = w7 at HNC HND CY3 CY4 CX5 CX6 HB7 ⊢
  have hx0 : w7.cell? ⟨w4.heap.size, 0, none⟩ = some _ := (blk_cell HND.out 0).trans rfl
  have hx1 : w7.cell? ⟨w4.heap.size, 1, none⟩ = some _ := (blk_cell HND.out 1).trans rfl
  have hx2 : w7.cell? ⟨w4.heap.size, 2, none⟩ = some _ := (blk_cell HND.out 2).trans rfl
  have hx3 : w7.cell? ⟨w4.heap.size, 3, none⟩ = some _ := (blk_cell HND.out 3).trans rfl
  have hx4 : w7.cell? ⟨w4.heap.size, 4, none⟩ = some _ := (blk_cell HND.out 4).trans rfl
  have fx0 := blk_frozen HND.out 0
  have fx1 := blk_frozen HND.out 1
  have fx2 := blk_frozen HND.out 2
  have fx3 := blk_frozen HND.out 3
  have fx4 := blk_frozen HND.out 4
  have hy0 : w7.cell? ⟨w6.heap.size, 0, none⟩ = some _ := (blk_cell HNC.out 0).trans rfl
  have hy1 : w7.cell? ⟨w6.heap.size, 1, none⟩ = some _ := (blk_cell HNC.out 1).trans rfl
  have hy2 : w7.cell? ⟨w6.heap.size, 2, none⟩ = some _ := (blk_cell HNC.out 2).trans rfl
  have hy3 : w7.cell? ⟨w6.heap.size, 3, none⟩ = some _ := (blk_cell HNC.out 3).trans rfl
  have hy4 : w7.cell? ⟨w6.heap.size, 4, none⟩ = some _ := (blk_cell HNC.out 4).trans rfl
  have fy0 := blk_frozen HNC.out 0
  have fy1 := blk_frozen HNC.out 1
  have fy2 := blk_frozen HNC.out 2
  have fy3 := blk_frozen HNC.out 3
  have fy4 := blk_frozen HNC.out 4
  have hne : ¬ w6.heap.size = w4.heap.size := by have := HL6.out; omega
  have hne2 : ¬ w4.heap.size = w6.heap.size := by have := HL6.out; omega
  have HSC := Aside0.mk (show _ from annuletref11_Same.calls k2 T.f0 T.f1 T.f2 X3a d3a T.f3 X4a d4a T.f4 T.f0 T.f1 T.f2 X3b d3b T.f3 X4b d4b T.f4 true w7 CX5.out LX3.out CX6.out LX4.out CY3.out LY3.out CY4.out LY4.out HS.out)
  have deq : (e2 == e2) = true := beq_self_eq_true _
  go_wp2_with (first | (go_at_call 13; (with_reducible refine HSC.out.mono ?_); rintro e w8 ⟨rfl, hb⟩; have HB8 := Aside0.mk (below_step HB7.out hb); clear hb) | (go_at_call 8; (with_reducible refine (law12_awake.calls k _ HAW.out).mono ?_); rintro e w9 ⟨rfl, hb⟩; have HB9 := Aside0.mk (below_step HB8.out hb); clear hb))
  go_ret
  exact ⟨rfl, HB9.out⟩

def annuletlaw12_BenParses.Pure : Prop := ∀ (l0 : List Int), (l0.length ≤ maxLen ∧ ∀ z0 ∈ l0, (Lit.int .u8 z0).wf = true) → ∃ k, annuletlaw12_BenParses.f k l0 = some true

end Go.Proofs.Ytekcnfngcgchcaa.PBenParses
