/- Branches of that walk. No condition. -/
import Derived.Test.YtpopljbpbobgfaaPNegoAgreesz0
namespace Go.Proofs.Ytpopljbpbobgfaa.PNegoAgrees
open Go.RowKit Go.Proofs.YtpopljbpbobgfaaW.PrintWords Go.Proofs.YtpopljbpbobgfaaW.PrintLast Go.Proofs.YtpopljbpbobgfaaW.PrintMore
attribute [local go_sem] max2_int min2_int max_two min_two max_three min_three max_four min_four   -- for this text's walks alone
set_option linter.unusedVariables false
set_option linter.unusedSimpArgs false
set_option maxHeartbeats 60000000 in
set_option maxRecDepth 100000 in
theorem agreesXB8 : agreesX.2.2.2.2.2.2.2.2.1 := by
  intro k a0 a1 c2 l2 w hu33 HA best _ h HBS HV0 HV1 d1 d2 LM _ nd _ _ N0 wr u6 _ u12 u13 u14 _ _ _ u18 _ _ _ _ _ _ _ _ _ _ _ _ _ _ _ _ _ _ _ _ _ _ _ _ _ _ _ _ _ _ _ _ _ _ _ _ _ _ _ _ _ _ _ _ _ _ _ _ _ _ _ _ _ _ _ _ _ _ _ _ _ _ _ _ _ _ _ _ _ _ _ _ _ _ _ _ _ _ _ _ _ _ _ _ _ _ _ _ _ _ _ _ _ _ _ _ _ _ _ _ _ _ _ _ _ _ _ _ _ _ _ _ _ _ _ _ _ _ _ _ _ _ _ _ _ _ _ _ _ _ _ _ _ _ _ _ _ _ _ _ _ _ _ _ _ _ _ _ _ _ _ _ _ _ _ _ _ _ _ _ _ _ _ _ _ _ i ways P Q hl1 hl0 ad HR2 HLT hi30 At HI _ _ _ nq wq hx1q HN _ _ wc u9 u15 u16 u17 u29 u30 u31 u32 u33 u34 u35 u36 u37 u38 u39 u40 u41 u42 u43 u44 u45 u46 u47 u48 u49 u50 u51 u52 u53 u54 u55 u56 u57 u58 u59 u60 u61 u62 u63 u64 u65 u66 u67 u68 u69 u70 u71 u72 u73 u74 u75 u76 u77 u78 u79 u80 u81 u82 u83 u84 u85 u86 u87 u88 u89 u90 u91 u92 u93 u94 u95 u96 u97 u98 u99 u100 u101 u102 u103 u104 u105 u106 u107 u108 u109 u110 u111 u112 u113 u114 u115 u116 u117 u118 u119 u120 u121 u122 u123 u124 u125 u126 u127 u128 u129 u130 u131 u132 u133 u134 u135 u136 u137 u138 u139 u140 u141 u142 u143 u144 u145 u146 u147 u148 u149 u150 u151 u152 u153 u154 u155 u156 u157 u158 u159 u160 u161 u162 u163 u164 u165 u166 u167 u168 u169 u170 u171 u172 u173 u174 u175 u176 u177 u178 u179 u180 u181 u182 u183 u184 u185 u186 u187 u188 u189 u190 u191 u192 u193 u194 ways1 P1 Q1 HN1 hwl2 hx0q
  have hbk : Go.bits .and .i64 0 1 = 0 := by decide
  have sz0 : wc.cell? ⟨w.heap.size + 1, 0, none⟩ = some _ := (blk_cell HN1.out.sets 0).trans rfl
  go_upto_region 29 with ((with_reducible refine gate_builtin (b := .append) (xs := #[.tmp 154, .tmp 161]) rfl ?_); at_builtin; obtain ⟨v', w3, hr, hN⟩ := NS.tell HN1.out ⟨true, false, a0⟩ (by simp) (by have := hwl2.out; have := HLT.out; have := LM.out; omega) 43; refine list_own rfl (.tmp 154) (.tmp 161) 43 rfl _ (some _) 1 1 rfl rfl hr ?_; have HN4 := Aside0.mk hN; clear hN hr)
  clear sz0 hbk
  go_wp2
  go_loopw [18] (fun v18 wr => ∃ j : Nat, v18 = .int .i64 (j : Int) ∧ j ≤ 2 ∧ wr = w3) (fun v18 _ => 2 - (intOf v18).toNat)
  case atStart => exact ⟨0, rfl, by omega, rfl⟩
  case round =>
    obtain ⟨j, rfl, hj, rfl⟩ := hrel
    have hT := HN4.out.two
    have hti := HN4.out.ti
    have htj := HN4.out.tj
    by_cases j0 : j = 0
    · subst j0
      have y1 : wr.cell? ⟨w.heap.size, 1, none⟩ = some (.int .i64 P1.s) := (blk_cell hT 1).trans rfl
      have y3 : wr.cell? ⟨w.heap.size, 3, none⟩ = some (.int .i64 P1.v) := (blk_cell hT 3).trans rfl
      obtain ⟨sv, hsv⟩ : ∃ sv : Int, P1.s = sv := ⟨_, rfl⟩
      obtain ⟨vv, hvv⟩ : ∃ vv : Int, P1.v = vv := ⟨_, rfl⟩
      unfold TI at hti
      rw [hsv, hvv] at hti
      rw [hsv] at y1
      rw [hvv] at y3
      by_cases s2 : sv = 2
      · obtain ⟨b1, b2⟩ := hti.1 s2
        subst s2 b2
        have z1 : (vv == 0) = false := beq_eq_false_iff_ne.mpr b1
        have z2 : (vv != vv) = false := by simp
        clear hti htj b1 hT hsv hvv hj
        go_wp2
        exact ⟨⟨1, rfl, by omega, trivial⟩, by decide⟩
      · have z1 : (sv == 2) = false := beq_eq_false_iff_ne.mpr s2
        by_cases s3 : sv = 3
        · have b1 := hti.2 s3
          have z2 : (best != 0) = false := by rw [bne_eq_false_iff_eq]; exact b1
          subst s3
          clear hti htj b1 hT hsv hvv hj s2
          go_wp2
          exact ⟨⟨1, rfl, by omega, trivial⟩, by decide⟩
        · have z2 : (sv == 3) = false := beq_eq_false_iff_ne.mpr s3
          clear hti htj hT hsv hvv hj s2 s3
          go_wp2
          exact ⟨⟨1, rfl, by omega, trivial⟩, by decide⟩
    by_cases j1 : j = 1
    · subst j1
      have y1 : wr.cell? ⟨w.heap.size, 9, none⟩ = some (.int .i64 Q1.s) := (blk_cell hT 9).trans rfl
      have y3 : wr.cell? ⟨w.heap.size, 11, none⟩ = some (.int .i64 Q1.v) := (blk_cell hT 11).trans rfl
      obtain ⟨sv, hsv⟩ : ∃ sv : Int, Q1.s = sv := ⟨_, rfl⟩
      obtain ⟨vv, hvv⟩ : ∃ vv : Int, Q1.v = vv := ⟨_, rfl⟩
      unfold TI at htj
      rw [hsv, hvv] at htj
      rw [hsv] at y1
      rw [hvv] at y3
      by_cases s2 : sv = 2
      · obtain ⟨b1, b2⟩ := htj.1 s2
        subst s2 b2
        have z1 : (vv == 0) = false := beq_eq_false_iff_ne.mpr b1
        have z2 : (vv != vv) = false := by simp
        clear hti htj b1 hT hsv hvv hj
        go_wp2
        exact ⟨⟨2, rfl, by omega, trivial⟩, by decide⟩
      · have z1 : (sv == 2) = false := beq_eq_false_iff_ne.mpr s2
        by_cases s3 : sv = 3
        · have b1 := htj.2 s3
          have z2 : (best != 0) = false := by rw [bne_eq_false_iff_eq]; exact b1
          subst s3
          clear hti htj b1 hT hsv hvv hj s2
          go_wp2
          exact ⟨⟨2, rfl, by omega, trivial⟩, by decide⟩
        · have z2 : (sv == 3) = false := beq_eq_false_iff_ne.mpr s3
          clear hti htj hT hsv hvv hj s2 s3
          go_wp2
          exact ⟨⟨2, rfl, by omega, trivial⟩, by decide⟩
    obtain rfl : j = 2 := by omega
    clear hti htj hT j0 j1 hj
    go_wp2
    exact ⟨⟨i + 1, _, P1, Q1, by first | rfl | (simp; done) | go_num, ⟨by have := HLT.out; omega⟩, ⟨by have := hwl2.out; simp only [List.length_append, List.length_singleton]; omega⟩, HN4⟩, by have := HLT.out; simp [intOf]; omega⟩
set_option maxHeartbeats 60000000 in
set_option maxRecDepth 100000 in
theorem agreesXB9 : agreesX.2.2.2.2.2.2.2.2.2.1 := by
  intro k a0 a1 c2 l2 w hu33 HA best _ h HBS HV0 HV1 d1 d2 LM _ nd _ _ N0 wr u6 _ u12 u13 u14 _ _ _ u18 _ _ _ _ _ _ _ _ _ _ _ _ _ _ _ _ _ _ _ _ _ _ _ _ _ _ _ _ _ _ _ _ _ _ _ _ _ _ _ _ _ _ _ _ _ _ _ _ _ _ _ _ _ _ _ _ _ _ _ _ _ _ _ _ _ _ _ _ _ _ _ _ _ _ _ _ _ _ _ _ _ _ _ _ _ _ _ _ _ _ _ _ _ _ _ _ _ _ _ _ _ _ _ _ _ _ _ _ _ _ _ _ _ _ _ _ _ _ _ _ _ _ _ _ _ _ _ _ _ _ _ _ _ _ _ _ _ _ _ _ _ _ _ _ _ _ _ _ _ _ _ _ _ _ _ _ _ _ _ _ _ _ _ _ _ _ i ways P Q hl1 hl0 ad HR2 HLT hi30 At HI _ _ _ nq wq hx1q HN _ _ wc u9 u15 u16 u17 u29 u30 u31 u32 u33 u34 u35 u36 u37 u38 u39 u40 u41 u42 u43 u44 u45 u46 u47 u48 u49 u50 u51 u52 u53 u54 u55 u56 u57 u58 u59 u60 u61 u62 u63 u64 u65 u66 u67 u68 u69 u70 u71 u72 u73 u74 u75 u76 u77 u78 u79 u80 u81 u82 u83 u84 u85 u86 u87 u88 u89 u90 u91 u92 u93 u94 u95 u96 u97 u98 u99 u100 u101 u102 u103 u104 u105 u106 u107 u108 u109 u110 u111 u112 u113 u114 u115 u116 u117 u118 u119 u120 u121 u122 u123 u124 u125 u126 u127 u128 u129 u130 u131 u132 u133 u134 u135 u136 u137 u138 u139 u140 u141 u142 u143 u144 u145 u146 u147 u148 u149 u150 u151 u152 u153 u154 u155 u156 u157 u158 u159 u160 u161 u162 u163 u164 u165 u166 u167 u168 u169 u170 u171 u172 u173 u174 u175 u176 u177 u178 u179 u180 u181 u182 u183 u184 u185 u186 u187 u188 u189 u190 u191 u192 u193 u194 ways1 P1 Q1 HN1 hwl2 hx0q
  have hbk : Go.bits .and .i64 1 1 = 1 := by decide
  have sz1 : wc.cell? ⟨w.heap.size + 1, 1, none⟩ = some _ := (blk_cell HN1.out.sets 1).trans rfl
  go_upto_region 29 with ((with_reducible refine gate_builtin (b := .append) (xs := #[.tmp 154, .tmp 161]) rfl ?_); at_builtin; obtain ⟨v', w3, hr, hN⟩ := NS.tell HN1.out ⟨false, false, a1⟩ (by simp) (by have := hwl2.out; have := HLT.out; have := LM.out; omega) 43; refine list_own rfl (.tmp 154) (.tmp 161) 43 rfl _ (some _) 1 1 rfl rfl hr ?_; have HN4 := Aside0.mk hN; clear hN hr)
  clear sz1 hbk
  go_wp2
  go_loopw [18] (fun v18 wr => ∃ j : Nat, v18 = .int .i64 (j : Int) ∧ j ≤ 2 ∧ wr = w3) (fun v18 _ => 2 - (intOf v18).toNat)
  case atStart => exact ⟨0, rfl, by omega, rfl⟩
  case round =>
    obtain ⟨j, rfl, hj, rfl⟩ := hrel
    have hT := HN4.out.two
    have hti := HN4.out.ti
    have htj := HN4.out.tj
    by_cases j0 : j = 0
    · subst j0
      have y1 : wr.cell? ⟨w.heap.size, 1, none⟩ = some (.int .i64 P1.s) := (blk_cell hT 1).trans rfl
      have y3 : wr.cell? ⟨w.heap.size, 3, none⟩ = some (.int .i64 P1.v) := (blk_cell hT 3).trans rfl
      obtain ⟨sv, hsv⟩ : ∃ sv : Int, P1.s = sv := ⟨_, rfl⟩
      obtain ⟨vv, hvv⟩ : ∃ vv : Int, P1.v = vv := ⟨_, rfl⟩
      unfold TI at hti
      rw [hsv, hvv] at hti
      rw [hsv] at y1
      rw [hvv] at y3
      by_cases s2 : sv = 2
      · obtain ⟨b1, b2⟩ := hti.1 s2
        subst s2 b2
        have z1 : (vv == 0) = false := beq_eq_false_iff_ne.mpr b1
        have z2 : (vv != vv) = false := by simp
        clear hti htj b1 hT hsv hvv hj
        go_wp2
        exact ⟨⟨1, rfl, by omega, trivial⟩, by decide⟩
      · have z1 : (sv == 2) = false := beq_eq_false_iff_ne.mpr s2
        by_cases s3 : sv = 3
        · have b1 := hti.2 s3
          have z2 : (best != 0) = false := by rw [bne_eq_false_iff_eq]; exact b1
          subst s3
          clear hti htj b1 hT hsv hvv hj s2
          go_wp2
          exact ⟨⟨1, rfl, by omega, trivial⟩, by decide⟩
        · have z2 : (sv == 3) = false := beq_eq_false_iff_ne.mpr s3
          clear hti htj hT hsv hvv hj s2 s3
          go_wp2
          exact ⟨⟨1, rfl, by omega, trivial⟩, by decide⟩
    by_cases j1 : j = 1
    · subst j1
      have y1 : wr.cell? ⟨w.heap.size, 9, none⟩ = some (.int .i64 Q1.s) := (blk_cell hT 9).trans rfl
      have y3 : wr.cell? ⟨w.heap.size, 11, none⟩ = some (.int .i64 Q1.v) := (blk_cell hT 11).trans rfl
      obtain ⟨sv, hsv⟩ : ∃ sv : Int, Q1.s = sv := ⟨_, rfl⟩
      obtain ⟨vv, hvv⟩ : ∃ vv : Int, Q1.v = vv := ⟨_, rfl⟩
      unfold TI at htj
      rw [hsv, hvv] at htj
      rw [hsv] at y1
      rw [hvv] at y3
      by_cases s2 : sv = 2
      · obtain ⟨b1, b2⟩ := htj.1 s2
        subst s2 b2
        have z1 : (vv == 0) = false := beq_eq_false_iff_ne.mpr b1
        have z2 : (vv != vv) = false := by simp
        clear hti htj b1 hT hsv hvv hj
        go_wp2
        exact ⟨⟨2, rfl, by omega, trivial⟩, by decide⟩
      · have z1 : (sv == 2) = false := beq_eq_false_iff_ne.mpr s2
        by_cases s3 : sv = 3
        · have b1 := htj.2 s3
          have z2 : (best != 0) = false := by rw [bne_eq_false_iff_eq]; exact b1
          subst s3
          clear hti htj b1 hT hsv hvv hj s2
          go_wp2
          exact ⟨⟨2, rfl, by omega, trivial⟩, by decide⟩
        · have z2 : (sv == 3) = false := beq_eq_false_iff_ne.mpr s3
          clear hti htj hT hsv hvv hj s2 s3
          go_wp2
          exact ⟨⟨2, rfl, by omega, trivial⟩, by decide⟩
    obtain rfl : j = 2 := by omega
    clear hti htj hT j0 j1 hj
    go_wp2
    exact ⟨⟨i + 1, _, P1, Q1, by first | rfl | (simp; done) | go_num, ⟨by have := HLT.out; omega⟩, ⟨by have := hwl2.out; simp only [List.length_append, List.length_singleton]; omega⟩, HN4⟩, by have := HLT.out; simp [intOf]; omega⟩
set_option maxHeartbeats 60000000 in
set_option maxRecDepth 100000 in
theorem agreesXB10 : agreesX.2.2.2.2.2.2.2.2.2.2.1 := by
  intro k a0 a1 c2 l2 w hu33 HA best _ h HBS HV0 HV1 d1 d2 LM _ nd _ _ N0 wr u6 _ u12 u13 u14 _ _ _ u18 _ _ _ _ _ _ _ _ _ _ _ _ _ _ _ _ _ _ _ _ _ _ _ _ _ _ _ _ _ _ _ _ _ _ _ _ _ _ _ _ _ _ _ _ _ _ _ _ _ _ _ _ _ _ _ _ _ _ _ _ _ _ _ _ _ _ _ _ _ _ _ _ _ _ _ _ _ _ _ _ _ _ _ _ _ _ _ _ _ _ _ _ _ _ _ _ _ _ _ _ _ _ _ _ _ _ _ _ _ _ _ _ _ _ _ _ _ _ _ _ _ _ _ _ _ _ _ _ _ _ _ _ _ _ _ _ _ _ _ _ _ _ _ _ _ _ _ _ _ _ _ _ _ _ _ _ _ _ _ _ _ _ _ _ _ _ i ways P Q hl1 hl0 ad HR2 HLT hi30 At HI _ _ _ nq wq hx1q HN _ _ wc u9 u15 u16 u17 u29 u30 u31 u32 u33 u34 u35 u36 u37 u38 u39 u40 u41 u42 u43 u44 u45 u46 u47 u48 u49 u50 u51 u52 u53 u54 u55 u56 u57 u58 u59 u60 u61 u62 u63 u64 u65 u66 u67 u68 u69 u70 u71 u72 u73 u74 u75 u76 u77 u78 u79 u80 u81 u82 u83 u84 u85 u86 u87 u88 u89 u90 u91 u92 u93 u94 u95 u96 u97 u98 u99 u100 u101 u102 u103 u104 u105 u106 u107 u108 u109 u110 u111 u112 u113 u114 u115 u116 u117 u118 u119 u120 u121 u122 u123 u124 u125 u126 u127 u128 u129 u130 u131 u132 u133 u134 u135 u136 u137 u138 u139 u140 u141 u142 u143 u144 u145 u146 u147 u148 u149 u150 u151 u152 u153 u154 u155 u156 u157 u158 u159 u160 u161 u162 u163 u164 u165 u166 u167 u168 u169 u170 u171 u172 u173 u174 u175 u176 u177 u178 u179 u180 u181 u182 u183 u184 u185 u186 u187 u188 u189 u190 u191 u192 u193 u194 ways1 P1 Q1 HN1 hwl2 hx0q
  have hbk : Go.bits .and .i64 2 1 = 0 := by decide
  have sz0 : wc.cell? ⟨w.heap.size + 1, 0, none⟩ = some _ := (blk_cell HN1.out.sets 0).trans rfl
  go_upto_region 29 with ((with_reducible refine gate_builtin (b := .append) (xs := #[.tmp 154, .tmp 161]) rfl ?_); at_builtin; obtain ⟨v', w3, hr, hN⟩ := NS.tell HN1.out ⟨true, false, a0⟩ (by simp) (by have := hwl2.out; have := HLT.out; have := LM.out; omega) 43; refine list_own rfl (.tmp 154) (.tmp 161) 43 rfl _ (some _) 1 1 rfl rfl hr ?_; have HN4 := Aside0.mk hN; clear hN hr)
  clear sz0 hbk
  go_wp2
  go_loopw [18] (fun v18 wr => ∃ j : Nat, v18 = .int .i64 (j : Int) ∧ j ≤ 2 ∧ wr = w3) (fun v18 _ => 2 - (intOf v18).toNat)
  case atStart => exact ⟨0, rfl, by omega, rfl⟩
  case round =>
    obtain ⟨j, rfl, hj, rfl⟩ := hrel
    have hT := HN4.out.two
    have hti := HN4.out.ti
    have htj := HN4.out.tj
    by_cases j0 : j = 0
    · subst j0
      have y1 : wr.cell? ⟨w.heap.size, 1, none⟩ = some (.int .i64 P1.s) := (blk_cell hT 1).trans rfl
      have y3 : wr.cell? ⟨w.heap.size, 3, none⟩ = some (.int .i64 P1.v) := (blk_cell hT 3).trans rfl
      obtain ⟨sv, hsv⟩ : ∃ sv : Int, P1.s = sv := ⟨_, rfl⟩
      obtain ⟨vv, hvv⟩ : ∃ vv : Int, P1.v = vv := ⟨_, rfl⟩
      unfold TI at hti
      rw [hsv, hvv] at hti
      rw [hsv] at y1
      rw [hvv] at y3
      by_cases s2 : sv = 2
      · obtain ⟨b1, b2⟩ := hti.1 s2
        subst s2 b2
        have z1 : (vv == 0) = false := beq_eq_false_iff_ne.mpr b1
        have z2 : (vv != vv) = false := by simp
        clear hti htj b1 hT hsv hvv hj
        go_wp2
        exact ⟨⟨1, rfl, by omega, trivial⟩, by decide⟩
      · have z1 : (sv == 2) = false := beq_eq_false_iff_ne.mpr s2
        by_cases s3 : sv = 3
        · have b1 := hti.2 s3
          have z2 : (best != 0) = false := by rw [bne_eq_false_iff_eq]; exact b1
          subst s3
          clear hti htj b1 hT hsv hvv hj s2
          go_wp2
          exact ⟨⟨1, rfl, by omega, trivial⟩, by decide⟩
        · have z2 : (sv == 3) = false := beq_eq_false_iff_ne.mpr s3
          clear hti htj hT hsv hvv hj s2 s3
          go_wp2
          exact ⟨⟨1, rfl, by omega, trivial⟩, by decide⟩
    by_cases j1 : j = 1
    · subst j1
      have y1 : wr.cell? ⟨w.heap.size, 9, none⟩ = some (.int .i64 Q1.s) := (blk_cell hT 9).trans rfl
      have y3 : wr.cell? ⟨w.heap.size, 11, none⟩ = some (.int .i64 Q1.v) := (blk_cell hT 11).trans rfl
      obtain ⟨sv, hsv⟩ : ∃ sv : Int, Q1.s = sv := ⟨_, rfl⟩
      obtain ⟨vv, hvv⟩ : ∃ vv : Int, Q1.v = vv := ⟨_, rfl⟩
      unfold TI at htj
      rw [hsv, hvv] at htj
      rw [hsv] at y1
      rw [hvv] at y3
      by_cases s2 : sv = 2
      · obtain ⟨b1, b2⟩ := htj.1 s2
        subst s2 b2
        have z1 : (vv == 0) = false := beq_eq_false_iff_ne.mpr b1
        have z2 : (vv != vv) = false := by simp
        clear hti htj b1 hT hsv hvv hj
        go_wp2
        exact ⟨⟨2, rfl, by omega, trivial⟩, by decide⟩
      · have z1 : (sv == 2) = false := beq_eq_false_iff_ne.mpr s2
        by_cases s3 : sv = 3
        · have b1 := htj.2 s3
          have z2 : (best != 0) = false := by rw [bne_eq_false_iff_eq]; exact b1
          subst s3
          clear hti htj b1 hT hsv hvv hj s2
          go_wp2
          exact ⟨⟨2, rfl, by omega, trivial⟩, by decide⟩
        · have z2 : (sv == 3) = false := beq_eq_false_iff_ne.mpr s3
          clear hti htj hT hsv hvv hj s2 s3
          go_wp2
          exact ⟨⟨2, rfl, by omega, trivial⟩, by decide⟩
    obtain rfl : j = 2 := by omega
    clear hti htj hT j0 j1 hj
    go_wp2
    exact ⟨⟨i + 1, _, P1, Q1, by first | rfl | (simp; done) | go_num, ⟨by have := HLT.out; omega⟩, ⟨by have := hwl2.out; simp only [List.length_append, List.length_singleton]; omega⟩, HN4⟩, by have := HLT.out; simp [intOf]; omega⟩
set_option maxHeartbeats 60000000 in
set_option maxRecDepth 100000 in
theorem agreesXB11 : agreesX.2.2.2.2.2.2.2.2.2.2.2.1 := by
  intro k a0 a1 c2 l2 w hu33 HA best _ h HBS HV0 HV1 d1 d2 LM _ nd _ _ N0 wr u6 _ u12 u13 u14 _ _ _ u18 _ _ _ _ _ _ _ _ _ _ _ _ _ _ _ _ _ _ _ _ _ _ _ _ _ _ _ _ _ _ _ _ _ _ _ _ _ _ _ _ _ _ _ _ _ _ _ _ _ _ _ _ _ _ _ _ _ _ _ _ _ _ _ _ _ _ _ _ _ _ _ _ _ _ _ _ _ _ _ _ _ _ _ _ _ _ _ _ _ _ _ _ _ _ _ _ _ _ _ _ _ _ _ _ _ _ _ _ _ _ _ _ _ _ _ _ _ _ _ _ _ _ _ _ _ _ _ _ _ _ _ _ _ _ _ _ _ _ _ _ _ _ _ _ _ _ _ _ _ _ _ _ _ _ _ _ _ _ _ _ _ _ _ _ _ _ i ways P Q hl1 hl0 ad HR2 HLT hi30 At HI _ _ _ nq wq hx1q HN _ _ wc u9 u15 u16 u17 u29 u30 u31 u32 u33 u34 u35 u36 u37 u38 u39 u40 u41 u42 u43 u44 u45 u46 u47 u48 u49 u50 u51 u52 u53 u54 u55 u56 u57 u58 u59 u60 u61 u62 u63 u64 u65 u66 u67 u68 u69 u70 u71 u72 u73 u74 u75 u76 u77 u78 u79 u80 u81 u82 u83 u84 u85 u86 u87 u88 u89 u90 u91 u92 u93 u94 u95 u96 u97 u98 u99 u100 u101 u102 u103 u104 u105 u106 u107 u108 u109 u110 u111 u112 u113 u114 u115 u116 u117 u118 u119 u120 u121 u122 u123 u124 u125 u126 u127 u128 u129 u130 u131 u132 u133 u134 u135 u136 u137 u138 u139 u140 u141 u142 u143 u144 u145 u146 u147 u148 u149 u150 u151 u152 u153 u154 u155 u156 u157 u158 u159 u160 u161 u162 u163 u164 u165 u166 u167 u168 u169 u170 u171 u172 u173 u174 u175 u176 u177 u178 u179 u180 u181 u182 u183 u184 u185 u186 u187 u188 u189 u190 u191 u192 u193 u194 ways1 P1 Q1 HN1 hwl2 hx0q
  have hbk : Go.bits .and .i64 3 1 = 1 := by decide
  have sz1 : wc.cell? ⟨w.heap.size + 1, 1, none⟩ = some _ := (blk_cell HN1.out.sets 1).trans rfl
  go_upto_region 29 with ((with_reducible refine gate_builtin (b := .append) (xs := #[.tmp 154, .tmp 161]) rfl ?_); at_builtin; obtain ⟨v', w3, hr, hN⟩ := NS.tell HN1.out ⟨false, false, a1⟩ (by simp) (by have := hwl2.out; have := HLT.out; have := LM.out; omega) 43; refine list_own rfl (.tmp 154) (.tmp 161) 43 rfl _ (some _) 1 1 rfl rfl hr ?_; have HN4 := Aside0.mk hN; clear hN hr)
  clear sz1 hbk
  go_wp2
  go_loopw [18] (fun v18 wr => ∃ j : Nat, v18 = .int .i64 (j : Int) ∧ j ≤ 2 ∧ wr = w3) (fun v18 _ => 2 - (intOf v18).toNat)
  case atStart => exact ⟨0, rfl, by omega, rfl⟩
  case round =>
    obtain ⟨j, rfl, hj, rfl⟩ := hrel
    have hT := HN4.out.two
    have hti := HN4.out.ti
    have htj := HN4.out.tj
    by_cases j0 : j = 0
    · subst j0
      have y1 : wr.cell? ⟨w.heap.size, 1, none⟩ = some (.int .i64 P1.s) := (blk_cell hT 1).trans rfl
      have y3 : wr.cell? ⟨w.heap.size, 3, none⟩ = some (.int .i64 P1.v) := (blk_cell hT 3).trans rfl
      obtain ⟨sv, hsv⟩ : ∃ sv : Int, P1.s = sv := ⟨_, rfl⟩
      obtain ⟨vv, hvv⟩ : ∃ vv : Int, P1.v = vv := ⟨_, rfl⟩
      unfold TI at hti
      rw [hsv, hvv] at hti
      rw [hsv] at y1
      rw [hvv] at y3
      by_cases s2 : sv = 2
      · obtain ⟨b1, b2⟩ := hti.1 s2
        subst s2 b2
        have z1 : (vv == 0) = false := beq_eq_false_iff_ne.mpr b1
        have z2 : (vv != vv) = false := by simp
        clear hti htj b1 hT hsv hvv hj
        go_wp2
        exact ⟨⟨1, rfl, by omega, trivial⟩, by decide⟩
      · have z1 : (sv == 2) = false := beq_eq_false_iff_ne.mpr s2
        by_cases s3 : sv = 3
        · have b1 := hti.2 s3
          have z2 : (best != 0) = false := by rw [bne_eq_false_iff_eq]; exact b1
          subst s3
          clear hti htj b1 hT hsv hvv hj s2
          go_wp2
          exact ⟨⟨1, rfl, by omega, trivial⟩, by decide⟩
        · have z2 : (sv == 3) = false := beq_eq_false_iff_ne.mpr s3
          clear hti htj hT hsv hvv hj s2 s3
          go_wp2
          exact ⟨⟨1, rfl, by omega, trivial⟩, by decide⟩
    by_cases j1 : j = 1
    · subst j1
      have y1 : wr.cell? ⟨w.heap.size, 9, none⟩ = some (.int .i64 Q1.s) := (blk_cell hT 9).trans rfl
      have y3 : wr.cell? ⟨w.heap.size, 11, none⟩ = some (.int .i64 Q1.v) := (blk_cell hT 11).trans rfl
      obtain ⟨sv, hsv⟩ : ∃ sv : Int, Q1.s = sv := ⟨_, rfl⟩
      obtain ⟨vv, hvv⟩ : ∃ vv : Int, Q1.v = vv := ⟨_, rfl⟩
      unfold TI at htj
      rw [hsv, hvv] at htj
      rw [hsv] at y1
      rw [hvv] at y3
      by_cases s2 : sv = 2
      · obtain ⟨b1, b2⟩ := htj.1 s2
        subst s2 b2
        have z1 : (vv == 0) = false := beq_eq_false_iff_ne.mpr b1
        have z2 : (vv != vv) = false := by simp
        clear hti htj b1 hT hsv hvv hj
        go_wp2
        exact ⟨⟨2, rfl, by omega, trivial⟩, by decide⟩
      · have z1 : (sv == 2) = false := beq_eq_false_iff_ne.mpr s2
        by_cases s3 : sv = 3
        · have b1 := htj.2 s3
          have z2 : (best != 0) = false := by rw [bne_eq_false_iff_eq]; exact b1
          subst s3
          clear hti htj b1 hT hsv hvv hj s2
          go_wp2
          exact ⟨⟨2, rfl, by omega, trivial⟩, by decide⟩
        · have z2 : (sv == 3) = false := beq_eq_false_iff_ne.mpr s3
          clear hti htj hT hsv hvv hj s2 s3
          go_wp2
          exact ⟨⟨2, rfl, by omega, trivial⟩, by decide⟩
    obtain rfl : j = 2 := by omega
    clear hti htj hT j0 j1 hj
    go_wp2
    exact ⟨⟨i + 1, _, P1, Q1, by first | rfl | (simp; done) | go_num, ⟨by have := HLT.out; omega⟩, ⟨by have := hwl2.out; simp only [List.length_append, List.length_singleton]; omega⟩, HN4⟩, by have := HLT.out; simp [intOf]; omega⟩
end Go.Proofs.Ytpopljbpbobgfaa.PNegoAgrees
