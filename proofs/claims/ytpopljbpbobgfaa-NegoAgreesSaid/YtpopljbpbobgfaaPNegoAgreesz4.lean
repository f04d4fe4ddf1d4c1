/- Branches of that walk. No condition. -/
import Derived.Test.YtpopljbpbobgfaaPNegoAgreesz0
namespace Go.Proofs.Ytpopljbpbobgfaa.PNegoAgrees
open Go.RowKit Go.Proofs.YtpopljbpbobgfaaW.PrintWords Go.Proofs.YtpopljbpbobgfaaW.PrintLast Go.Proofs.YtpopljbpbobgfaaW.PrintMore
attribute [local go_sem] max2_int min2_int max_two min_two max_three min_three max_four min_four   -- for this text's walks alone
set_option linter.unusedVariables false
set_option linter.unusedSimpArgs false
set_option maxHeartbeats 60000000 in
set_option maxRecDepth 100000 in
theorem agreesXB5 : agreesX.2.2.2.2.2.1 := by
  intro k a0 a1 _ l2 w hu33 HA best _ h HBS HV0 HV1 _ _ LM _ nd _ _ N0 wr u6 u12 u13 u14 u15 u16 u17 u18 u29 u30 u31 u32 u33 u34 u35 u36 u37 u38 u39 u40 u41 u42 u43 u44 u45 u46 u47 u48 u49 u50 u51 u52 u53 u54 u55 u56 u57 u58 u59 u60 u61 u62 u63 u64 u65 u66 u67 u68 u69 u70 u71 u72 u73 u74 u75 u76 u77 u78 u79 u80 u81 u82 u83 u84 u85 u86 u87 u88 u89 u90 u91 u92 u93 u94 u95 u96 u97 u98 u99 u100 u101 u102 u103 u104 u105 u106 u107 u108 u109 u110 u111 u112 u113 u114 u115 u116 u117 u118 u119 u120 u121 u122 u123 u124 u125 u126 u127 u128 u129 u130 u131 u132 u133 u134 u135 u136 u137 u138 u139 u140 u141 u142 u143 u144 u145 u146 u147 u148 u149 u150 u151 u152 u153 u154 u155 u156 u157 u158 u159 u160 u161 u162 u163 u164 u165 u166 u167 u168 u169 u170 u171 u172 u173 u174 u175 u176 u177 u178 u179 u180 u181 u182 u183 u184 u185 u186 u187 u188 u189 u190 u191 u192 u193 u194 i ways P Q hwl hl1 hl0 ad HR2 HLT hi30 HI _ nq wq _ _ _ _ cap9 m hx1q e1 e2 e3 g9 _ _ HN _ HNK HM hx0q c0 d0 c1 d1 c2 d2 c3 d3 _ hm0 hm1 xr xt t2 t1 hTwo HSZ sz0 sz1 t0 HW
  obtain rfl : a1 = xt := (HW.out.trans (by simp)).symm
  clear hTwo
  go_wp2
  go_cut [17] (fun v17 wc => v17 = .bool (!xr) ∧ Aside0 (∃ P' Q' : Tk, NS w wc a0 a1 best (.slice (some ⟨g9, 0, none⟩) ways.length cap9) ways P' Q') ∧ Aside0 (wc.heap[wq.heap.size]? = some (.cells #[.bool false, .bool xr, .int .u16 a1] 48 (0, 0))))
  case first =>
    have HNa := Aside0.mk (HN.out.alloc (.cells #[.bool false, .bool xr, .int .u16 a1] 48))
    have B0 := Aside0.mk (show (wq.alloc (.cells #[.bool false, .bool xr, .int .u16 a1] 48)).heap[wq.heap.size]? = some (.cells #[.bool false, .bool xr, .int .u16 a1] 48 (0, 0)) from blk_new _ _)
    generalize wq.alloc (.cells #[.bool false, .bool xr, .int .u16 a1] 48) = wa at HNa B0 ⊢
    have hTwo := HNa.out.two
    have hSet := HNa.out.sets
    have p0 : wa.cell? ⟨w.heap.size, 0, none⟩ = some _ := (blk_cell hTwo 0).trans rfl
    have p1 : wa.cell? ⟨w.heap.size, 1, none⟩ = some _ := (blk_cell hTwo 1).trans rfl
    have p2 : wa.cell? ⟨w.heap.size, 2, none⟩ = some _ := (blk_cell hTwo 2).trans rfl
    have p3 : wa.cell? ⟨w.heap.size, 3, none⟩ = some _ := (blk_cell hTwo 3).trans rfl
    have p4 : wa.cell? ⟨w.heap.size, 4, none⟩ = some _ := (blk_cell hTwo 4).trans rfl
    have p5 : wa.cell? ⟨w.heap.size, 5, none⟩ = some _ := (blk_cell hTwo 5).trans rfl
    have p6 : wa.cell? ⟨w.heap.size, 6, none⟩ = some _ := (blk_cell hTwo 6).trans rfl
    have p7 : wa.cell? ⟨w.heap.size, 7, none⟩ = some _ := (blk_cell hTwo 7).trans rfl
    have sz0 : wa.cell? ⟨w.heap.size + 1, 0, none⟩ = some _ := (blk_cell hSet 0).trans rfl
    have tl1 : wa.cell? ⟨wq.heap.size, 1, none⟩ = some (.bool xr) := (blk_cell B0.out 1).trans rfl
    have tl2 : wa.cell? ⟨wq.heap.size, 2, none⟩ = some (.int .u16 a1) := (blk_cell B0.out 2).trans rfl
    clear hTwo hSet
    obtain ⟨sv, hsv⟩ : ∃ sv : Int, sv = if best = 0 then 3 else 2 := ⟨_, rfl⟩
    have HSV := Aside0.mk hsv
    clear hsv
    have hne1 : ¬ wq.heap.size = w.heap.size := by have := HSZ.out; omega
    have hne2 : ¬ w.heap.size = wq.heap.size := by have := HSZ.out; omega
    go_region_with (first | (go_at_call 15; (with_reducible refine (hear_sv P.a P.s P.th P.v P.si P.ep P.nx none 0 0 a0 a1 best xr _ HV0.out sv HSV.out).mono ?_); rintro e w2 ⟨rfl, hb⟩; have HN2 := Aside0.mk (NS.below (by first | exact HNa.out.drew | exact HNa.out.drewN _ | exact HNa.out) hb); have hTwo2 := HN2.out.two; have sy : w2.cell? ⟨w.heap.size + 1, 0, none⟩ = some _ := (blk_cell HN2.out.sets 0).trans rfl; have HB15 := Aside0.mk (blk_below (o := .cells #[.bool false, .bool xr, .int .u16 a1] 48 (0, 0)) (g := wq.heap.size) (by exact B0.out) hb); have tm1 : w2.cell? ⟨wq.heap.size, 1, none⟩ = some (.bool xr) := (blk_cell HB15.out 1).trans rfl; have tm2 : w2.cell? ⟨wq.heap.size, 2, none⟩ = some (.int .u16 a1) := (blk_cell HB15.out 2).trans rfl; have q0 : w2.cell? ⟨w.heap.size, 0, none⟩ = some _ := (blk_cell hTwo2 0).trans rfl; have q1 : w2.cell? ⟨w.heap.size, 1, none⟩ = some _ := (blk_cell hTwo2 1).trans rfl; have q2 : w2.cell? ⟨w.heap.size, 2, none⟩ = some _ := (blk_cell hTwo2 2).trans rfl; have q3 : w2.cell? ⟨w.heap.size, 3, none⟩ = some _ := (blk_cell hTwo2 3).trans rfl; have q4 : w2.cell? ⟨w.heap.size, 4, none⟩ = some _ := (blk_cell hTwo2 4).trans rfl; have q5 : w2.cell? ⟨w.heap.size, 5, none⟩ = some _ := (blk_cell hTwo2 5).trans rfl; have q6 : w2.cell? ⟨w.heap.size, 6, none⟩ = some _ := (blk_cell hTwo2 6).trans rfl; have q7 : w2.cell? ⟨w.heap.size, 7, none⟩ = some _ := (blk_cell hTwo2 7).trans rfl; have qf0 := blk_frozen hTwo2 0; have qf1 := blk_frozen hTwo2 1; have qf2 := blk_frozen hTwo2 2; have qf3 := blk_frozen hTwo2 3; have qf4 := blk_frozen hTwo2 4; have qf5 := blk_frozen hTwo2 5; have qf6 := blk_frozen hTwo2 6; have qf7 := blk_frozen hTwo2 7; clear hTwo2 hb))
    all_goals go_step
    all_goals go_step
    all_goals go_meet
    all_goals (case rel => exact ⟨rfl, ⟨_, _, NS.put0 HN2.out _ _ _ _ _ _ _ (TI_sv HSV.out)⟩, ⟨(far8 (hne1)).trans HB15.out⟩⟩)
  case rest =>
    obtain ⟨rfl, ⟨⟨P2, Q2, hN3⟩⟩, HB3⟩ := hcut
    have HN3 := Aside0.mk hN3
    clear hN3
    have tl0 : wc.cell? ⟨wq.heap.size, 0, none⟩ = some (.bool false) := (blk_cell HB3.out 0).trans rfl
    have sy : wc.cell? ⟨w.heap.size + 1, 0, none⟩ = some _ := (blk_cell HN3.out.sets 0).trans rfl
    cases xr with
    | true =>
      go_wp2
      go_meet
      case rel => exact ⟨ways, P2, Q2, false, by first | rfl | simp, ⟨fun h => by cases h⟩, ⟨by have := hwl.out; simp; omega⟩, HN3⟩
    | false =>
      go_wp2
      go_region_law (obtain ⟨v', w', hr, hN⟩ := NS.tell HN3.out.drew ⟨true, true, a0⟩ (by simp) (by have := hwl.out; have := HI.out; have := LM.out; omega) 43; refine step_own rfl (.tmp 143) (.tmp 151) 43 rfl _ (some _) 1 1 rfl rfl hr ?_; have HN4 := Aside0.mk hN; clear hN hr)
      all_goals go_wp2
      all_goals go_meet
      all_goals (case rel => exact ⟨ways ++ [⟨true, true, a0⟩], P2, Q2, false, by first | rfl | simp, ⟨fun h => by cases h⟩, ⟨by have := hwl.out; simp only [List.length_append, List.length_singleton]; simp; omega⟩, HN4⟩)
end Go.Proofs.Ytpopljbpbobgfaa.PNegoAgrees
