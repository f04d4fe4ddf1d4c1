/- Branches of that walk. No condition. -/
import Derived.Test.YtpopljbpbobgfaaPNegoAgreesz0
namespace Go.Proofs.Ytpopljbpbobgfaa.PNegoAgrees
open Go.RowKit Go.Proofs.YtpopljbpbobgfaaW.PrintWords Go.Proofs.YtpopljbpbobgfaaW.PrintLast Go.Proofs.YtpopljbpbobgfaaW.PrintMore
attribute [local go_sem] max2_int min2_int max_two min_two max_three min_three max_four min_four   -- for this text's walks alone
set_option linter.unusedVariables false
set_option linter.unusedSimpArgs false
set_option maxHeartbeats 60000000 in
set_option maxRecDepth 100000 in
theorem agreesXB0 : agreesX.1 := by
  intro k a0 a1 c2 l2 w hu33 HA best _ h HBS HV0 HV1 d1 d2 LM _ nd _ _ N0 wr u6 u9 u12 u13 u14 u15 u16 u17 u18 u29 u30 u31 u32 u33 u34 u35 u36 u37 u38 u39 u40 u41 u42 u43 u44 u45 u46 u47 u48 u49 u50 u51 u52 u53 u54 u55 u56 u57 u58 u59 u60 u61 u62 u63 u64 u65 u66 u67 u68 u69 u70 u71 u72 u73 u74 u75 u76 u77 u78 u79 u80 u81 u82 u83 u84 u85 u86 u87 u88 u89 u90 u91 u92 u93 u94 u95 u96 u97 u98 u99 u100 u101 u102 u103 u104 u105 u106 u107 u108 u109 u110 u111 u112 u113 u114 u115 u116 u117 u118 u119 u120 u121 u122 u123 u124 u125 u126 u127 u128 u129 u130 u131 u132 u133 u134 u135 u136 u137 u138 u139 u140 u141 u142 u143 u144 u145 u146 u147 u148 u149 u150 u151 u152 u153 u154 u155 u156 u157 u158 u159 u160 u161 u162 u163 u164 u165 u166 u167 u168 u169 u170 u171 u172 u173 u174 u175 u176 u177 u178 u179 u180 u181 u182 u183 u184 u185 u186 u187 u188 u189 u190 u191 u192 u193 u194 i ways P Q hwl hl1 hl0 ad HR2 HLT hi30 K At HI _ _ _ nq wq hx0q hx1q HN _ _ _ _ _ _ c0
  subst c0
  have hbk : Go.bits .and .i64 0 1 = 0 := by decide
  have HNN := HN
  have hTwo := HN.out.two
  have p0 : wq.cell? ⟨w.heap.size, 0, none⟩ = some _ := (blk_cell hTwo 0).trans rfl
  have p1 : wq.cell? ⟨w.heap.size, 1, none⟩ = some _ := (blk_cell hTwo 1).trans rfl
  have p2 : wq.cell? ⟨w.heap.size, 2, none⟩ = some _ := (blk_cell hTwo 2).trans rfl
  have p3 : wq.cell? ⟨w.heap.size, 3, none⟩ = some _ := (blk_cell hTwo 3).trans rfl
  have p4 : wq.cell? ⟨w.heap.size, 4, none⟩ = some _ := (blk_cell hTwo 4).trans rfl
  have p5 : wq.cell? ⟨w.heap.size, 5, none⟩ = some _ := (blk_cell hTwo 5).trans rfl
  have p6 : wq.cell? ⟨w.heap.size, 6, none⟩ = some _ := (blk_cell hTwo 6).trans rfl
  have p7 : wq.cell? ⟨w.heap.size, 7, none⟩ = some _ := (blk_cell hTwo 7).trans rfl
  clear hTwo
  go_wp2_with (go_at_call 13; (with_reducible refine (ask_any P.a P.s P.th P.v P.si P.ep P.nx none 0 0 _).mono ?_); rintro e w2 ⟨rfl, hb⟩; have HN2 := Aside0.mk (NS.below (HN.out) hb); have hTwo2 := HN2.out.two; have q0 : w2.cell? ⟨w.heap.size, 0, none⟩ = some _ := (blk_cell hTwo2 0).trans rfl; have q1 : w2.cell? ⟨w.heap.size, 1, none⟩ = some _ := (blk_cell hTwo2 1).trans rfl; have q2 : w2.cell? ⟨w.heap.size, 2, none⟩ = some _ := (blk_cell hTwo2 2).trans rfl; have q3 : w2.cell? ⟨w.heap.size, 3, none⟩ = some _ := (blk_cell hTwo2 3).trans rfl; have q4 : w2.cell? ⟨w.heap.size, 4, none⟩ = some _ := (blk_cell hTwo2 4).trans rfl; have q5 : w2.cell? ⟨w.heap.size, 5, none⟩ = some _ := (blk_cell hTwo2 5).trans rfl; have q6 : w2.cell? ⟨w.heap.size, 6, none⟩ = some _ := (blk_cell hTwo2 6).trans rfl; have q7 : w2.cell? ⟨w.heap.size, 7, none⟩ = some _ := (blk_cell hTwo2 7).trans rfl; have qf0 := blk_frozen hTwo2 0; have qf1 := blk_frozen hTwo2 1; have qf2 := blk_frozen hTwo2 2; have qf3 := blk_frozen hTwo2 3; have qf4 := blk_frozen hTwo2 4; have qf5 := blk_frozen hTwo2 5; have qf6 := blk_frozen hTwo2 6; have qf7 := blk_frozen hTwo2 7; clear hTwo2; clear hb)
  all_goals go_meet
  all_goals (case rel => exact ⟨ways, _, Q, _, rfl, ⟨fun _ => by simp⟩, ⟨by have := hwl.out; split <;> omega⟩, ⟨NS.put0 HN2.out _ _ _ _ _ _ _ (by first | exact TI_one | exact HN2.out.ti)⟩⟩)
set_option maxHeartbeats 60000000 in
set_option maxRecDepth 100000 in
theorem agreesXB1 : agreesX.2.1 := by
  intro k a0 a1 c2 l2 w hu33 HA best _ h HBS HV0 HV1 d1 d2 LM _ nd _ _ N0 wr u6 u9 u12 u13 u14 u15 u16 u17 u18 u29 u30 u31 u32 u33 u34 u35 u36 u37 u38 u39 u40 u41 u42 u43 u44 u45 u46 u47 u48 u49 u50 u51 u52 u53 u54 u55 u56 u57 u58 u59 u60 u61 u62 u63 u64 u65 u66 u67 u68 u69 u70 u71 u72 u73 u74 u75 u76 u77 u78 u79 u80 u81 u82 u83 u84 u85 u86 u87 u88 u89 u90 u91 u92 u93 u94 u95 u96 u97 u98 u99 u100 u101 u102 u103 u104 u105 u106 u107 u108 u109 u110 u111 u112 u113 u114 u115 u116 u117 u118 u119 u120 u121 u122 u123 u124 u125 u126 u127 u128 u129 u130 u131 u132 u133 u134 u135 u136 u137 u138 u139 u140 u141 u142 u143 u144 u145 u146 u147 u148 u149 u150 u151 u152 u153 u154 u155 u156 u157 u158 u159 u160 u161 u162 u163 u164 u165 u166 u167 u168 u169 u170 u171 u172 u173 u174 u175 u176 u177 u178 u179 u180 u181 u182 u183 u184 u185 u186 u187 u188 u189 u190 u191 u192 u193 u194 i ways P Q hwl hl1 hl0 ad HR2 HLT hi30 K At HI _ _ _ nq wq hx0q hx1q HN _ _ _ _ _ _ c0 d0 c1
  subst c1
  have hbk : Go.bits .and .i64 1 1 = 1 := by decide
  have HNN := HN
  have hTwo := HN.out.two
  have p8 : wq.cell? ⟨w.heap.size, 8, none⟩ = some _ := (blk_cell hTwo 8).trans rfl
  have p9 : wq.cell? ⟨w.heap.size, 9, none⟩ = some _ := (blk_cell hTwo 9).trans rfl
  have p10 : wq.cell? ⟨w.heap.size, 10, none⟩ = some _ := (blk_cell hTwo 10).trans rfl
  have p11 : wq.cell? ⟨w.heap.size, 11, none⟩ = some _ := (blk_cell hTwo 11).trans rfl
  have p12 : wq.cell? ⟨w.heap.size, 12, none⟩ = some _ := (blk_cell hTwo 12).trans rfl
  have p13 : wq.cell? ⟨w.heap.size, 13, none⟩ = some _ := (blk_cell hTwo 13).trans rfl
  have p14 : wq.cell? ⟨w.heap.size, 14, none⟩ = some _ := (blk_cell hTwo 14).trans rfl
  have p15 : wq.cell? ⟨w.heap.size, 15, none⟩ = some _ := (blk_cell hTwo 15).trans rfl
  clear hTwo
  go_wp2_with (go_at_call 13; (with_reducible refine (ask_any Q.a Q.s Q.th Q.v Q.si Q.ep Q.nx none 0 0 _).mono ?_); rintro e w2 ⟨rfl, hb⟩; have HN2 := Aside0.mk (NS.below (HN.out) hb); have hTwo2 := HN2.out.two; have q8 : w2.cell? ⟨w.heap.size, 8, none⟩ = some _ := (blk_cell hTwo2 8).trans rfl; have q9 : w2.cell? ⟨w.heap.size, 9, none⟩ = some _ := (blk_cell hTwo2 9).trans rfl; have q10 : w2.cell? ⟨w.heap.size, 10, none⟩ = some _ := (blk_cell hTwo2 10).trans rfl; have q11 : w2.cell? ⟨w.heap.size, 11, none⟩ = some _ := (blk_cell hTwo2 11).trans rfl; have q12 : w2.cell? ⟨w.heap.size, 12, none⟩ = some _ := (blk_cell hTwo2 12).trans rfl; have q13 : w2.cell? ⟨w.heap.size, 13, none⟩ = some _ := (blk_cell hTwo2 13).trans rfl; have q14 : w2.cell? ⟨w.heap.size, 14, none⟩ = some _ := (blk_cell hTwo2 14).trans rfl; have q15 : w2.cell? ⟨w.heap.size, 15, none⟩ = some _ := (blk_cell hTwo2 15).trans rfl; have qf8 := blk_frozen hTwo2 8; have qf9 := blk_frozen hTwo2 9; have qf10 := blk_frozen hTwo2 10; have qf11 := blk_frozen hTwo2 11; have qf12 := blk_frozen hTwo2 12; have qf13 := blk_frozen hTwo2 13; have qf14 := blk_frozen hTwo2 14; have qf15 := blk_frozen hTwo2 15; clear hTwo2; clear hb)
  all_goals go_meet
  all_goals (case rel => exact ⟨ways, P, _, _, rfl, ⟨fun _ => by simp⟩, ⟨by have := hwl.out; split <;> omega⟩, ⟨NS.put1 HN2.out _ _ _ _ _ _ _ (by first | exact TI_one | exact HN2.out.tj)⟩⟩)
set_option maxHeartbeats 60000000 in
set_option maxRecDepth 100000 in
theorem agreesXB2 : agreesX.2.2.1 := by
  intro k a0 a1 _ l2 w hu33 HA best _ h HBS HV0 HV1 _ d2 LM _ nd _ _ N0 wr u6 u9 u12 u13 u14 u15 u16 u17 u18 u29 u30 u31 u32 u33 u34 u35 u36 u37 u38 u39 u40 u41 u42 u43 u44 u45 u46 u47 u48 u49 u50 u51 u52 u53 u54 u55 u56 u57 u58 u59 u60 u61 u62 u63 u64 u65 u66 u67 u68 u69 u70 u71 u72 u73 u74 u75 u76 u77 u78 u79 u80 u81 u82 u83 u84 u85 u86 u87 u88 u89 u90 u91 u92 u93 u94 u95 u96 u97 u98 u99 u100 u101 u102 u103 u104 u105 u106 u107 u108 u109 u110 u111 u112 u113 u114 u115 u116 u117 u118 u119 u120 u121 u122 u123 u124 u125 u126 u127 u128 u129 u130 u131 u132 u133 u134 u135 u136 u137 u138 u139 u140 u141 u142 u143 u144 u145 u146 u147 u148 u149 u150 u151 u152 u153 u154 u155 u156 u157 u158 u159 u160 u161 u162 u163 u164 u165 u166 u167 u168 u169 u170 u171 u172 u173 u174 u175 u176 u177 u178 u179 u180 u181 u182 u183 u184 u185 u186 u187 u188 u189 u190 u191 u192 u193 u194 i ways P Q hwl hl1 hl0 ad HR2 HLT hi30 K At HI _ _ _ nq wq hx0q hx1q HN _ _ _ _ _ _ c0 d0 c1 d1 c2
  subst c2
  have hbk : Go.bits .and .i64 2 1 = 0 := by decide
  have HNN := HN
  have hTwo := HN.out.two
  have p0 : wq.cell? ⟨w.heap.size, 0, none⟩ = some _ := (blk_cell hTwo 0).trans rfl
  have p1 : wq.cell? ⟨w.heap.size, 1, none⟩ = some _ := (blk_cell hTwo 1).trans rfl
  have p2 : wq.cell? ⟨w.heap.size, 2, none⟩ = some _ := (blk_cell hTwo 2).trans rfl
  have p3 : wq.cell? ⟨w.heap.size, 3, none⟩ = some _ := (blk_cell hTwo 3).trans rfl
  have p4 : wq.cell? ⟨w.heap.size, 4, none⟩ = some _ := (blk_cell hTwo 4).trans rfl
  have p5 : wq.cell? ⟨w.heap.size, 5, none⟩ = some _ := (blk_cell hTwo 5).trans rfl
  have p6 : wq.cell? ⟨w.heap.size, 6, none⟩ = some _ := (blk_cell hTwo 6).trans rfl
  have p7 : wq.cell? ⟨w.heap.size, 7, none⟩ = some _ := (blk_cell hTwo 7).trans rfl
  clear hTwo
  obtain ⟨y4, bb, hT⟩ : ∃ (y4 : Int) (bb : Bool), ∀ w2 : World, Calls Try.prog 17 #[.agg #[.int .u16 P.a, .int .i64 P.s, .int .u16 P.th, .int .i64 P.v, .int .i64 P.si, .int .u32 P.ep, .int .u32 P.nx, .slice none 0 0]] w2 fun e w' => e = .returned (.tuple #[.agg #[.int .u16 P.a, .int .i64 P.s, .int .u16 P.th, .int .i64 P.v, .int .i64 y4, .int .u32 P.ep, .int .u32 P.nx, .slice none 0 0], .bool bb]) ∧ Below w2.heap.size w2 w' := tick_all P.a P.s P.th P.v P.si P.ep P.nx
  have HT := Aside0.mk hT
  clear hT
  go_wp2_with (go_at_call 17; (with_reducible refine (HT.out _).mono ?_); rintro e w2 ⟨rfl, hb⟩; have HN2 := Aside0.mk (NS.below (HN.out) hb); have hTwo2 := HN2.out.two; have q0 : w2.cell? ⟨w.heap.size, 0, none⟩ = some _ := (blk_cell hTwo2 0).trans rfl; have q1 : w2.cell? ⟨w.heap.size, 1, none⟩ = some _ := (blk_cell hTwo2 1).trans rfl; have q2 : w2.cell? ⟨w.heap.size, 2, none⟩ = some _ := (blk_cell hTwo2 2).trans rfl; have q3 : w2.cell? ⟨w.heap.size, 3, none⟩ = some _ := (blk_cell hTwo2 3).trans rfl; have q4 : w2.cell? ⟨w.heap.size, 4, none⟩ = some _ := (blk_cell hTwo2 4).trans rfl; have q5 : w2.cell? ⟨w.heap.size, 5, none⟩ = some _ := (blk_cell hTwo2 5).trans rfl; have q6 : w2.cell? ⟨w.heap.size, 6, none⟩ = some _ := (blk_cell hTwo2 6).trans rfl; have q7 : w2.cell? ⟨w.heap.size, 7, none⟩ = some _ := (blk_cell hTwo2 7).trans rfl; have qf0 := blk_frozen hTwo2 0; have qf1 := blk_frozen hTwo2 1; have qf2 := blk_frozen hTwo2 2; have qf3 := blk_frozen hTwo2 3; have qf4 := blk_frozen hTwo2 4; have qf5 := blk_frozen hTwo2 5; have qf6 := blk_frozen hTwo2 6; have qf7 := blk_frozen hTwo2 7; clear hTwo2; clear hb)
  all_goals go_meet
  all_goals (case rel => exact ⟨ways, _, Q, bb, rfl, ⟨fun _ => by simp⟩, ⟨by have := hwl.out; split <;> omega⟩, ⟨NS.put0 HN2.out _ _ _ _ _ _ _ HN2.out.ti⟩⟩)
set_option maxHeartbeats 60000000 in
set_option maxRecDepth 100000 in
theorem agreesXB3 : agreesX.2.2.2.1 := by
  intro k a0 a1 _ l2 w hu33 HA best _ h HBS HV0 HV1 _ _ LM _ nd _ _ N0 wr u6 u9 u12 u13 u14 u15 u16 u17 u18 u29 u30 u31 u32 u33 u34 u35 u36 u37 u38 u39 u40 u41 u42 u43 u44 u45 u46 u47 u48 u49 u50 u51 u52 u53 u54 u55 u56 u57 u58 u59 u60 u61 u62 u63 u64 u65 u66 u67 u68 u69 u70 u71 u72 u73 u74 u75 u76 u77 u78 u79 u80 u81 u82 u83 u84 u85 u86 u87 u88 u89 u90 u91 u92 u93 u94 u95 u96 u97 u98 u99 u100 u101 u102 u103 u104 u105 u106 u107 u108 u109 u110 u111 u112 u113 u114 u115 u116 u117 u118 u119 u120 u121 u122 u123 u124 u125 u126 u127 u128 u129 u130 u131 u132 u133 u134 u135 u136 u137 u138 u139 u140 u141 u142 u143 u144 u145 u146 u147 u148 u149 u150 u151 u152 u153 u154 u155 u156 u157 u158 u159 u160 u161 u162 u163 u164 u165 u166 u167 u168 u169 u170 u171 u172 u173 u174 u175 u176 u177 u178 u179 u180 u181 u182 u183 u184 u185 u186 u187 u188 u189 u190 u191 u192 u193 u194 i ways P Q hwl hl1 hl0 ad HR2 HLT hi30 K At HI _ _ _ nq wq hx0q hx1q HN _ _ _ _ _ _ c0 d0 c1 d1 c2 d2 c3
  subst c3
  have hbk : Go.bits .and .i64 3 1 = 1 := by decide
  have HNN := HN
  have hTwo := HN.out.two
  have p8 : wq.cell? ⟨w.heap.size, 8, none⟩ = some _ := (blk_cell hTwo 8).trans rfl
  have p9 : wq.cell? ⟨w.heap.size, 9, none⟩ = some _ := (blk_cell hTwo 9).trans rfl
  have p10 : wq.cell? ⟨w.heap.size, 10, none⟩ = some _ := (blk_cell hTwo 10).trans rfl
  have p11 : wq.cell? ⟨w.heap.size, 11, none⟩ = some _ := (blk_cell hTwo 11).trans rfl
  have p12 : wq.cell? ⟨w.heap.size, 12, none⟩ = some _ := (blk_cell hTwo 12).trans rfl
  have p13 : wq.cell? ⟨w.heap.size, 13, none⟩ = some _ := (blk_cell hTwo 13).trans rfl
  have p14 : wq.cell? ⟨w.heap.size, 14, none⟩ = some _ := (blk_cell hTwo 14).trans rfl
  have p15 : wq.cell? ⟨w.heap.size, 15, none⟩ = some _ := (blk_cell hTwo 15).trans rfl
  clear hTwo
  obtain ⟨y4, bb, hT⟩ : ∃ (y4 : Int) (bb : Bool), ∀ w2 : World, Calls Try.prog 17 #[.agg #[.int .u16 Q.a, .int .i64 Q.s, .int .u16 Q.th, .int .i64 Q.v, .int .i64 Q.si, .int .u32 Q.ep, .int .u32 Q.nx, .slice none 0 0]] w2 fun e w' => e = .returned (.tuple #[.agg #[.int .u16 Q.a, .int .i64 Q.s, .int .u16 Q.th, .int .i64 Q.v, .int .i64 y4, .int .u32 Q.ep, .int .u32 Q.nx, .slice none 0 0], .bool bb]) ∧ Below w2.heap.size w2 w' := tick_all Q.a Q.s Q.th Q.v Q.si Q.ep Q.nx
  have HT := Aside0.mk hT
  clear hT
  go_wp2_with (go_at_call 17; (with_reducible refine (HT.out _).mono ?_); rintro e w2 ⟨rfl, hb⟩; have HN2 := Aside0.mk (NS.below (HN.out) hb); have hTwo2 := HN2.out.two; have q8 : w2.cell? ⟨w.heap.size, 8, none⟩ = some _ := (blk_cell hTwo2 8).trans rfl; have q9 : w2.cell? ⟨w.heap.size, 9, none⟩ = some _ := (blk_cell hTwo2 9).trans rfl; have q10 : w2.cell? ⟨w.heap.size, 10, none⟩ = some _ := (blk_cell hTwo2 10).trans rfl; have q11 : w2.cell? ⟨w.heap.size, 11, none⟩ = some _ := (blk_cell hTwo2 11).trans rfl; have q12 : w2.cell? ⟨w.heap.size, 12, none⟩ = some _ := (blk_cell hTwo2 12).trans rfl; have q13 : w2.cell? ⟨w.heap.size, 13, none⟩ = some _ := (blk_cell hTwo2 13).trans rfl; have q14 : w2.cell? ⟨w.heap.size, 14, none⟩ = some _ := (blk_cell hTwo2 14).trans rfl; have q15 : w2.cell? ⟨w.heap.size, 15, none⟩ = some _ := (blk_cell hTwo2 15).trans rfl; have qf8 := blk_frozen hTwo2 8; have qf9 := blk_frozen hTwo2 9; have qf10 := blk_frozen hTwo2 10; have qf11 := blk_frozen hTwo2 11; have qf12 := blk_frozen hTwo2 12; have qf13 := blk_frozen hTwo2 13; have qf14 := blk_frozen hTwo2 14; have qf15 := blk_frozen hTwo2 15; clear hTwo2; clear hb)
  all_goals go_meet
  all_goals (case rel => exact ⟨ways, P, _, bb, rfl, ⟨fun _ => by simp⟩, ⟨by have := hwl.out; split <;> omega⟩, ⟨NS.put1 HN2.out _ _ _ _ _ _ _ HN2.out.tj⟩⟩)
set_option maxHeartbeats 60000000 in
set_option maxRecDepth 100000 in
theorem agreesXB6 : agreesX.2.2.2.2.2.2.1 := by
  intro k a0 a1 _ l2 w hu33 HA best _ h HBS HV0 HV1 _ _ LM _ nd _ _ N0 wr u6 u12 u13 u14 u15 u16 u17 u18 u29 u30 u31 u32 u33 u34 u35 u36 u37 u38 u39 u40 u41 u42 u43 u44 u45 u46 u47 u48 u49 u50 u51 u52 u53 u54 u55 u56 u57 u58 u59 u60 u61 u62 u63 u64 u65 u66 u67 u68 u69 u70 u71 u72 u73 u74 u75 u76 u77 u78 u79 u80 u81 u82 u83 u84 u85 u86 u87 u88 u89 u90 u91 u92 u93 u94 u95 u96 u97 u98 u99 u100 u101 u102 u103 u104 u105 u106 u107 u108 u109 u110 u111 u112 u113 u114 u115 u116 u117 u118 u119 u120 u121 u122 u123 u124 u125 u126 u127 u128 u129 u130 u131 u132 u133 u134 u135 u136 u137 u138 u139 u140 u141 u142 u143 u144 u145 u146 u147 u148 u149 u150 u151 u152 u153 u154 u155 u156 u157 u158 u159 u160 u161 u162 u163 u164 u165 u166 u167 u168 u169 u170 u171 u172 u173 u174 u175 u176 u177 u178 u179 u180 u181 u182 u183 u184 u185 u186 u187 u188 u189 u190 u191 u192 u193 u194 i ways P Q hwl hl1 hl0 ad HR2 HLT hi30 K HI _ nq wq hx0q _ _ _ _ c0 d0 c1 d1 c2 d2 c3 d3 cap9 m hx1q _ ca e1 cb e2 e3 hm g9 _ _ HN _ HNK HM c4
  have d4 : (K == 4) = false := beq_eq_false_iff_ne.mpr c4
  clear ca cb c4
  go_wp2
  obtain ⟨i0, hi, hz0, hz1, hz2⟩ := info_parts info48
  have hcap : ways.length ≤ cap9 := by
    rcases HN.out.own.2 with ⟨hv, _⟩ | ⟨g', cap', cur, hv, _, _, hnc, _⟩
    · cases hv
    · injection hv with _ _ h3; omega
  have k1 := cut_to (P := Try.prog) 43 48 .i64 Try.underlying43 hi (some ⟨g9, 0, none⟩) ways.length cap9 (m : Int) (by omega) (by omega) hcap
  have k2 := cut_from (P := Try.prog) 43 48 .i64 Try.underlying43 hi 3 hz1 (some ⟨g9, 0, none⟩) ways.length cap9 ((m : Int) + 1) (by omega) (by omega)
  have hw1 : IntKind.i64.wrap ((m : Int) + 1) = (m : Int) + 1 := by simp only [IntKind.wrap, IntKind.bits, IntKind.signed]; simp; have := hwl.out; have := HI.out; have := LM.out; omega
  have hml : ways.length ≤ 100 := by have := hwl.out; have := HI.out; have := LM.out; omega
  rw [Int.toNat_natCast] at k1
  rw [show ((m : Int) + 1).toNat = m + 1 by omega] at k2
  have HML := Aside0.mk hml
  simp only [Option.map_some] at k2
  obtain ⟨A5, hA5⟩ : ∃ A5, (if cap9 = m + 1 then some (⟨g9, 0, none⟩ : Addr) else some ((⟨g9, 0, none⟩ : Addr).add ((m + 1) * 3))) = A5 := ⟨_, rfl⟩
  rw [hA5] at k2
  have HA5 := Aside0.mk hA5
  clear hA5 hcap hm hi hz0 hz1 hz2 hml
  go_region_law (first | (obtain ⟨v1, w1, hr, ho, hk, hb, hv⟩ := NS.cut1 HN.out.drew rfl HM.out HML.out 43; refine step_own rfl (.tmp 46) (.tmp 49) 43 rfl _ (some _) m cap9 rfl rfl hr ?_; have HO1 := Aside0.mk ho; have HK1 := Aside0.mk hk; have HB1 := Aside0.mk hb; have HV1 := Aside0.mk hv; clear ho hk hb hv hr) | (obtain ⟨v2, w2, hr, hN⟩ := NS.cut2 HN.out.drew rfl HM.out HML.out 43 HO1.out HK1.out HB1.out HV1.out; rw [HA5.out] at hr; refine step_own rfl (.tmp 50) (.tmp 54) 43 rfl _ A5 (ways.length - (m + 1)) (cap9 - (m + 1)) rfl rfl hr ?_; have HN4 := Aside0.mk hN; clear hN hr))
  all_goals go_wp2
  all_goals go_meet
  all_goals (case rel => exact ⟨ways.take m ++ ways.drop (m + 1), P, Q, false, by first | rfl | simp, ⟨fun h => by cases h⟩, ⟨by have := hwl.out; simp only [List.length_append, List.length_take, List.length_drop]; simp; omega⟩, HN4⟩)
set_option maxHeartbeats 60000000 in
set_option maxRecDepth 100000 in
theorem agreesXB7 : agreesX.2.2.2.2.2.2.2.1 := by
  intro k a0 a1 c2 l2 w hu33 HA best _ h HBS HV0 HV1 d1 d2 LM _ nd _ _ N0 wr u6 _ u12 u13 u14 _ _ _ u18 _ _ _ _ _ _ _ _ _ _ _ _ _ _ _ _ _ _ _ _ _ _ _ _ _ _ _ _ _ _ _ _ _ _ _ _ _ _ _ _ _ _ _ _ _ _ _ _ _ _ _ _ _ _ _ _ _ _ _ _ _ _ _ _ _ _ _ _ _ _ _ _ _ _ _ _ _ _ _ _ _ _ _ _ _ _ _ _ _ _ _ _ _ _ _ _ _ _ _ _ _ _ _ _ _ _ _ _ _ _ _ _ _ _ _ _ _ _ _ _ _ _ _ _ _ _ _ _ _ _ _ _ _ _ _ _ _ _ _ _ _ _ _ _ _ _ _ _ _ _ _ _ _ _ _ _ _ _ _ _ _ _ _ _ _ _ i ways P Q hl1 hl0 ad HR2 HLT hi30 K At HI _ _ _ nq wq hx0q hx1q HN _ _ wc u9 u15 u16 u17 u29 u30 u31 u32 u33 u34 u35 u36 u37 u38 u39 u40 u41 u42 u43 u44 u45 u46 u47 u48 u49 u50 u51 u52 u53 u54 u55 u56 u57 u58 u59 u60 u61 u62 u63 u64 u65 u66 u67 u68 u69 u70 u71 u72 u73 u74 u75 u76 u77 u78 u79 u80 u81 u82 u83 u84 u85 u86 u87 u88 u89 u90 u91 u92 u93 u94 u95 u96 u97 u98 u99 u100 u101 u102 u103 u104 u105 u106 u107 u108 u109 u110 u111 u112 u113 u114 u115 u116 u117 u118 u119 u120 u121 u122 u123 u124 u125 u126 u127 u128 u129 u130 u131 u132 u133 u134 u135 u136 u137 u138 u139 u140 u141 u142 u143 u144 u145 u146 u147 u148 u149 u150 u151 u152 u153 u154 u155 u156 u157 u158 u159 u160 u161 u162 u163 u164 u165 u166 u167 u168 u169 u170 u171 u172 u173 u174 u175 u176 u177 u178 u179 u180 u181 u182 u183 u184 u185 u186 u187 u188 u189 u190 u191 u192 u193 u194 ways1 P1 Q1 HN1 hsend hwl1
  have hwl2 := Aside0.mk (show ways1.length ≤ i + 1 by have := hwl1.out; simpa using this)
  clear hwl1 hsend
  go_wp2
  go_loopw [18] (fun v18 wr => ∃ j : Nat, v18 = .int .i64 (j : Int) ∧ j ≤ 2 ∧ wr = wc) (fun v18 _ => 2 - (intOf v18).toNat)
  case atStart => exact ⟨0, rfl, by omega, rfl⟩
  case round =>
    obtain ⟨j, rfl, hj, rfl⟩ := hrel
    have hT := HN1.out.two
    have hti := HN1.out.ti
    have htj := HN1.out.tj
    by_cases j0 : j = 0
    · subst j0
      have y1 : wr.cell? ⟨w.heap.size, 1, none⟩ = some (.int .i64 P1.s) := (blk_cell hT 1).trans rfl
      have y3 : wr.cell? ⟨w.heap.size, 3, none⟩ = some (.int .i64 P1.v) := (blk_cell hT 3).trans rfl
      obtain ⟨sv, hsv⟩ : ∃ sv : Int, P1.s = sv := ⟨_, rfl⟩
      obtain ⟨vv, hvv⟩ : ∃ vv : Int, P1.v = vv := ⟨_, rfl⟩
      unfold TI at hti
      rw [hsv, hvv] at hti
      rw [hsv] at y1
      rw [hvv] at y3
      by_cases s2 : sv = 2
      · obtain ⟨b1, b2⟩ := hti.1 s2
        subst s2 b2
        have z1 : (vv == 0) = false := beq_eq_false_iff_ne.mpr b1
        have z2 : (vv != vv) = false := by simp
        clear hti htj b1 hT hsv hvv hj
        go_wp2
        exact ⟨⟨1, rfl, by omega, trivial⟩, by decide⟩
      · have z1 : (sv == 2) = false := beq_eq_false_iff_ne.mpr s2
        by_cases s3 : sv = 3
        · have b1 := hti.2 s3
          have z2 : (best != 0) = false := by rw [bne_eq_false_iff_eq]; exact b1
          subst s3
          clear hti htj b1 hT hsv hvv hj s2
          go_wp2
          exact ⟨⟨1, rfl, by omega, trivial⟩, by decide⟩
        · have z2 : (sv == 3) = false := beq_eq_false_iff_ne.mpr s3
          clear hti htj hT hsv hvv hj s2 s3
          go_wp2
          exact ⟨⟨1, rfl, by omega, trivial⟩, by decide⟩
    by_cases j1 : j = 1
    · subst j1
      have y1 : wr.cell? ⟨w.heap.size, 9, none⟩ = some (.int .i64 Q1.s) := (blk_cell hT 9).trans rfl
      have y3 : wr.cell? ⟨w.heap.size, 11, none⟩ = some (.int .i64 Q1.v) := (blk_cell hT 11).trans rfl
      obtain ⟨sv, hsv⟩ : ∃ sv : Int, Q1.s = sv := ⟨_, rfl⟩
      obtain ⟨vv, hvv⟩ : ∃ vv : Int, Q1.v = vv := ⟨_, rfl⟩
      unfold TI at htj
      rw [hsv, hvv] at htj
      rw [hsv] at y1
      rw [hvv] at y3
      by_cases s2 : sv = 2
      · obtain ⟨b1, b2⟩ := htj.1 s2
        subst s2 b2
        have z1 : (vv == 0) = false := beq_eq_false_iff_ne.mpr b1
        have z2 : (vv != vv) = false := by simp
        clear hti htj b1 hT hsv hvv hj
        go_wp2
        exact ⟨⟨2, rfl, by omega, trivial⟩, by decide⟩
      · have z1 : (sv == 2) = false := beq_eq_false_iff_ne.mpr s2
        by_cases s3 : sv = 3
        · have b1 := htj.2 s3
          have z2 : (best != 0) = false := by rw [bne_eq_false_iff_eq]; exact b1
          subst s3
          clear hti htj b1 hT hsv hvv hj s2
          go_wp2
          exact ⟨⟨2, rfl, by omega, trivial⟩, by decide⟩
        · have z2 : (sv == 3) = false := beq_eq_false_iff_ne.mpr s3
          clear hti htj hT hsv hvv hj s2 s3
          go_wp2
          exact ⟨⟨2, rfl, by omega, trivial⟩, by decide⟩
    obtain rfl : j = 2 := by omega
    clear hti htj hT j0 j1 hj
    go_wp2
    exact ⟨⟨i + 1, _, P1, Q1, by first | rfl | (simp; done) | go_num, ⟨by have := HLT.out; omega⟩, ⟨hwl2.out⟩, HN1⟩, by have := HLT.out; simp [intOf]; omega⟩
end Go.Proofs.Ytpopljbpbobgfaa.PNegoAgrees
