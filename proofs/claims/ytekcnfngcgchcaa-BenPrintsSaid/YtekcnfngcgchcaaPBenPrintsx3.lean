/- Written by a program of this session (a turned copy of the kit's print): functions of the program, each with the Lean function that it comes to, and the row of one law. No condition. -/
import Derived.Test.YtekcnfngcgchcaaPBenPrintsx0
import Derived.Test.YtekcnfngcgchcaaPBenPrintsx2
namespace Go.Proofs.Ytekcnfngcgchcaa.PBenPrints
open Go.RowKit Go.Proofs.YtekcnfngcgchcaaW.PrintWords Go.Proofs.YtekcnfngcgchcaaW.PrintLast Go.Proofs.YtekcnfngcgchcaaW.PrintMore
attribute [local go_sem] max2_int min2_int max_two min_two max_three min_three max_four min_four   -- for this text's walks alone
set_option linter.unusedVariables false
set_option linter.unusedSimpArgs false


/-! ### num_digits: function 37 -/
set_option maxHeartbeats 3000000 in
set_option maxRecDepth 100000 in
theorem num_digits.calls0 (a0 : Int) (w : World) (h0 : 0 ≤ a0) (h1 : a0 < 18446744073709551616) :
    Calls Try.prog 37 #[.int .u64 a0] w fun e w' => e = .returned (.string (strOfNums (digL a0.toNat))) ∧ Below w.heap.size w w' := by
  obtain ⟨u0, rfl⟩ := Int.eq_ofNat_of_zero_le h0
  rw [Int.toNat_natCast]
  have HI : DigInv u0 u0 20 true (List.replicate 20 0) := ⟨by simp, Nat.le_refl _, by omega, fun _ => ⟨by simp, digL_len 19 u0 (by omega)⟩, fun h => by cases h⟩
  clear h0 h1
  go_enter Try.func37, Try.ntmps37
  go_wp2
  go_loopw [0, 4, 5] (fun v0 v4 v5 wr => ∃ (u i : Nat) (m : Bool) (cs : List Int), v0 = .int .u64 (u : Int) ∧ v4 = .int .i64 (i : Int) ∧ v5 = .bool m ∧ DigInv u0 u i m cs ∧ DigW 80 w wr cs) (fun _ v4 _ _ => (intOf v4).toNat)
  case atStart => exact ⟨u0, 20, true, List.replicate 20 0, rfl, rfl, rfl, HI, ⟨by simpa [nums, List.replicate] using blk_new w _, below_alloc (Below.refl _ _) _⟩⟩
  case round =>
    obtain ⟨u, i, m, cs, rfl, rfl, rfl, hI, hW⟩ := hrel
    cases m with
    | true =>
      obtain ⟨hg, hl⟩ := hI.go rfl
      have hp := digL_pos u
      have hle := hI.le
      have hlt := hI.lt
      have hcell : wr.cell? ⟨w.heap.size, i - 1, none⟩ = some (.int .u8 (cs.getD (i - 1) 0)) := by
        rw [blk_cell hW.blk]
        simp [nums, List.getD, show i - 1 < cs.length by have := hI.len; omega]
      have hfro := blk_frozen hW.blk (i - 1)
      have HG := Aside0.mk hg
      have HII := Aside0.mk hI
      have HWW := Aside0.mk hW
      clear hg hI hW HI
      go_wp2
      have hd := place_at ⟨u % 10, by omega⟩
      have hlen := HII.out.len
      have hi1 : 1 ≤ i := by omega
      refine ⟨⟨u / 10, i - 1, decide (0 < u / 10), cs.set (i - 1) (48 + ((u % 10 : Nat) : Int)), by norm_cast, by congr 1; omega, by congr 1; apply decide_eq_decide.2; omega, ⟨by simpa using hlen, by omega, by omega, fun hm => ?_, fun hm => ?_⟩, ⟨?_, ?_⟩⟩, by simp [intOf]; omega⟩
      · have hu : ¬ u < 10 := by have := of_decide_eq_true hm; omega
        have hg := HG.out
        rw [digL_great hu] at hg hl
        rw [drop_set_at _ _ _ (by omega), show i - 1 + 1 = i by omega, hg]
        simp only [List.length_append, List.length_singleton] at hl
        exact ⟨by simp, by omega⟩
      · have hu : u < 10 := by have := of_decide_eq_false hm; omega
        have hg := HG.out
        rw [digL_small hu] at hg
        rw [drop_set_at _ _ _ (by omega), show i - 1 + 1 = i by omega, hg, Nat.mod_eq_of_lt hu]
        rfl
      · have hb := blk_set HWW.out.blk (i - 1) (.int .u8 (48 + ((u % 10 : Nat) : Int)))
        rw [← hd] at hb ⊢
        rw [hb]
        simp [nums, List.map_set]
      · exact HWW.out.below.setCell (Nat.le_refl _) _
    | false =>
      have hg := hI.ends rfl
      have hle := hI.le
      have hlen := hI.len
      have hC : (Kd.int .u8).C wr (some ⟨w.heap.size, i, none⟩) (cs.drop i).length (cs.drop i) := by
        refine Kd.C_of_reads (h1 := fun _ => rfl) (d := (0 : Int)) ⟨rfl, by rw [List.length_drop]; omega, fun h => ⟨_, rfl, fun j hj => ?_⟩⟩
        rw [List.length_drop] at hj
        have e : (⟨w.heap.size, i, none⟩ : Addr).add j = ⟨w.heap.size, i + j, none⟩ := by unfold Addr.add; split <;> simp_all
        rw [e, blk_cell hW.blk]
        simp [nums, List.getD, List.getElem?_drop, show i + j < cs.length by omega]
      have hcv := Kd.C_string (P := Try.prog) (c := 20 - i) Try.underlying28 Try.underlying5 Try.underlying9 hC
      rw [List.length_drop, hlen] at hcv
      have hi20 : i < 20 := by
        have := digL_pos u0
        rw [hg, List.length_drop, hlen] at this
        omega
      have hal : Try.prog.arrayLen 80 = 20 := by kernel_rfl
      have hsl : ∀ w' : World, (Instr.sliceAt 80 (.pointer (some ⟨w.heap.size, 0, none⟩)) (some (.int .i64 (i : Int))) none none).run Try.prog w' = .ok (.slice (some ⟨w.heap.size, i, none⟩) (20 - i) (20 - i)) w' := fun w' => by
        rw [run_sliceAt_array_l w' 80 ⟨w.heap.size, 0, none⟩ (by kernel_rfl) .i64 (i : Int) (by omega) (by rw [hal]; omega)]
        rw [show (sizeOf (Try.prog.elem 80)).run Try.prog w' = .ok 1 w' from by kernel_rfl, hal]
        simp only [Result.andThen, slicedAt, Int.toNat_natCast, Nat.mul_one]
        rw [if_neg (by omega)]
        have e : (⟨w.heap.size, 0, none⟩ : Addr).add i = ⟨w.heap.size, i, none⟩ := by unfold Addr.add; split <;> simp_all
        rw [e]
      have HG := Aside0.mk hg
      have HB := Aside0.mk hW.below
      clear hg hC hlen hI hW HI hal hi20
      go_wp2
      go_ret
      exact ⟨by rw [HG.out]; rfl, HB.out⟩
def num_digits.f (a0 : Int) : Option (ByteArray) := if 0 ≤ a0 then (if a0 < 18446744073709551616 then (some (strOfNums (digL a0.toNat))) else (none)) else (none)
theorem num_digits.calls (a0 : Int) (r : ByteArray) (w : World) (h : num_digits.f a0 = some r) :
    Calls Try.prog 37 #[.int .u64 a0] w fun e w' => e = .returned (.string r) ∧ Below w.heap.size w w' := by
  unfold num_digits.f at h
  by_cases h0 : 0 ≤ a0
  · rw [if_pos h0] at h
    by_cases h1 : a0 < 18446744073709551616
    · rw [if_pos h1] at h
      obtain rfl := Option.some.inj h
      exact num_digits.calls0 a0 w h0 h1
    · rw [if_neg h1] at h
      exact absurd h (by simp)
  · rw [if_neg h0] at h
    exact absurd h (by simp)

/-! ### num_Put: function 23 -/
def num_Put.f (a0 : Int) : Option (ByteArray) := if a0 < 0 then ((num_digits.f (IntKind.u64.wrap ((IntKind.u64.wrap (wrap64 (-(wrap64 (a0 + 1))))) + 1))).bind fun t121 => (if 1 + t121.size ≤ 9223372036854775807 then (some ((⟨#[45]⟩ : ByteArray) ++ t121)) else (none))) else ((num_digits.f (IntKind.u64.wrap (a0))).bind fun t122 => (some t122))
set_option maxHeartbeats 3000000 in
set_option maxRecDepth 100000 in
theorem num_Put.calls (a0 : Int) (r : ByteArray) (w : World) (h : num_Put.f a0 = some r) :
    Calls Try.prog 23 #[.int .i64 a0] w fun e w' => e = .returned (.string r) ∧ Below w.heap.size w w' := by
  have HB := Aside0.mk (Below.refl w.heap.size w)
  have H : (if a0 < 0 then ((num_digits.f (IntKind.u64.wrap ((IntKind.u64.wrap (wrap64 (-(wrap64 (a0 + 1))))) + 1))).bind fun t121 => (if 1 + t121.size ≤ 9223372036854775807 then (some ((⟨#[45]⟩ : ByteArray) ++ t121)) else (none))) else ((num_digits.f (IntKind.u64.wrap (a0))).bind fun t122 => (some t122))) = some r := h
  clear h
  by_cases c2 : a0 < 0
  · rw [if_pos c2] at H
    have c2b0 : decide (a0 < 0) = true := decide_eq_true c2
    clear c2
    replace H := Option.bind_eq_some_iff.mp H
    obtain ⟨t121, A30, H⟩ := H
    replace H : (if 1 + t121.size ≤ 9223372036854775807 then (some ((⟨#[45]⟩ : ByteArray) ++ t121)) else (none)) = some r := H
    have A3 := Aside0.mk A30
    clear A30
    by_cases c4 : 1 + t121.size ≤ 9223372036854775807
    · rw [if_pos c4] at H
      have c4b0 := eq_true c4
      have c4b1 : decide (1 + t121.size ≤ 9223372036854775807) = true := decide_eq_true c4
      try have c4b2 : (9223372036854775807 < 1 + t121.size) = False := eq_false (Nat.not_lt.2 c4)
      obtain rfl := Option.some.inj H
      go_enter Try.func23, Try.ntmps23
      go_wp2_with (first | ((with_reducible refine gate_callee (f := 37) rfl ?_); refine goesL_ (some 10) rfl rfl Try.func37 (by kernel_rfl) rfl #[.int .u64 (IntKind.u64.wrap ((IntKind.u64.wrap (wrap64 (-(wrap64 (a0 + 1))))) + 1))] rfl (by (try simp only [List.map_toArray, List.map_cons, List.map_nil]); first | done | rfl | (simp only [List.length_drop, List.length_take]; rfl)) ?_; (with_reducible refine (num_digits.calls (IntKind.u64.wrap ((IntKind.u64.wrap (wrap64 (-(wrap64 (a0 + 1))))) + 1)) t121 _ A3.out).mono ?_); rintro e w5 ⟨rfl, hb⟩; refine ⟨_, rfl, ?_⟩; have n0_ := Aside0.mk (below_step (by repeat (first | (with_reducible first | exact HB.out | apply below_alloc | apply pw_below_drewN | apply below_drew1) | exact HB.out)) hb); clear HB; have HB := n0_; clear n0_; (try clear hb); (try clear hb2); (try clear hk); (try clear hi)))
      all_goals go_ret
      all_goals first | (exact ⟨by first | rfl | (simp [errW_none, errW_some] <;> rfl) | (simp [*, errW_none, errW_some] <;> rfl), by repeat (first | (with_reducible first | exact HB.out | apply below_alloc | apply pw_below_drewN | apply below_drew1) | exact HB.out)⟩) | (exfalso; simp_all; done)
    · rw [if_neg c4] at H
      exact absurd H (by simp)
  · rw [if_neg c2] at H
    have c2b0 : decide (a0 < 0) = false := decide_eq_false c2
    clear c2
    replace H := Option.bind_eq_some_iff.mp H
    obtain ⟨t122, A60, H⟩ := H
    replace H : (some t122) = some r := H
    have A6 := Aside0.mk A60
    clear A60
    obtain rfl := Option.some.inj H
    go_enter Try.func23, Try.ntmps23
    go_wp2_with (first | ((with_reducible refine gate_callee (f := 37) rfl ?_); refine goesL_ (some 14) rfl rfl Try.func37 (by kernel_rfl) rfl #[.int .u64 (IntKind.u64.wrap (a0))] rfl (by (try simp only [List.map_toArray, List.map_cons, List.map_nil]); first | done | rfl | (simp only [List.length_drop, List.length_take]; rfl)) ?_; (with_reducible refine (num_digits.calls (IntKind.u64.wrap (a0)) t122 _ A6.out).mono ?_); rintro e w7 ⟨rfl, hb⟩; refine ⟨_, rfl, ?_⟩; have n0_ := Aside0.mk (below_step (by repeat (first | (with_reducible first | exact HB.out | apply below_alloc | apply pw_below_drewN | apply below_drew1) | exact HB.out)) hb); clear HB; have HB := n0_; clear n0_; (try clear hb); (try clear hb2); (try clear hk); (try clear hi)))
    all_goals go_ret
    all_goals first | (exact ⟨by first | rfl | (simp [errW_none, errW_some] <;> rfl) | (simp [*, errW_none, errW_some] <;> rfl), by repeat (first | (with_reducible first | exact HB.out | apply below_alloc | apply pw_below_drewN | apply below_drew1) | exact HB.out)⟩) | (exfalso; simp_all; done)


/-! ### ben_Print: function 9 -/
section
variable {P : Program}
theorem append_str_block (W : World) (base : Nat) (t u ty e : TypeId) (i : TypeInfo) (ht : P.underlying t = some (.slice e)) (hu : P.underlying u = some .string) (hi : P.info? e = some i) (hz : i.zero = some (.int .u8 0))
    (hsize : i.size = 1) (hby : i.bytes = 1) (v : Value) (n : Nat) (xs : List Value) (hown : W.ownsRow base e 1 v n xs) (s : ByteArray)
    (h63 : n + s.size ≤ maxLen) (hbytes : n + s.size ≤ 140737488355328) {v' : Value} {w' : World} (hr : (Builtin.append_ #[t, u] ty #[v, .string s]).run P W = .ok v' w') :
    v'.ownBlock = v.ownBlock ∨ v'.ownBlock = some W.heap.size := by
  have hxl : xs.length = n := by simpa using hown.1
  have hsmall : n + s.size ≤ 9223372036854775807 := by simp only [maxLen] at h63; omega
  rcases hown.2 with ⟨rfl, rfl⟩ | ⟨g, cap, cur, rfl, hbg, hg, hnc, hcm, hcs, htake⟩
  · by_cases hm : s.size = 0
    · have hf := Lib.run_firstCells_string (P := P) W 1 s
      rw [hm] at hf
      simp [Builtin.append_, run_underlying ht, run_underlying hu, sizeOf, typeInfo, hi, hsize, Builtin.lenOf, hm, hf] at hr
      exact .inl (by rw [← hr.1])
    · have hq := run_append_nil_string (P := P) W t u ty e i (.int .u8 0) ht hu hi hz s (by omega) (by omega) (by rw [hby]; omega)
      rw [hq] at hr
      injection hr with e1 e2
      exact .inr (by rw [← e1]; rfl)
  · by_cases hroom : n + s.size ≤ cap
    · have hcs' : cur.size = cap := by simpa using hcs
      have hq := Lib.run_append_room_string (P := P) W t u ty e i ht hu hi hsize g n cap cur hg s hroom (by omega)
      rw [hq] at hr
      injection hr with e1 e2
      exact .inl (by rw [← e1]; rfl)
    · have holds : ∀ j u, xs[j]? = some u → W.cell? ((⟨g, 0, none⟩ : Addr).add j) = some u := hown.cells (g := g) rfl
      have hq := Lib.run_append_grow_string (P := P) W t u ty e i (.int .u8 0) ht hu hi hz ⟨g, 0, none⟩ n cap xs (by rw [hsize]; simpa using hxl) holds s (by omega) (by omega) (by rw [hby]; exact growslice_fits (by omega) (by omega))
      rw [hq] at hr
      injection hr with e1 e2
      exact .inr (by rw [← e1]; rfl)
end
/-! ### bytes put behind a row -/
structure PutS (w0 W : World) (v : Value) (l : List Int) : Prop where
  own : W.ownsRow w0.heap.size 5 1 v l.length (nums .u8 l)
  bel : Below w0.heap.size w0 W
theorem PutS.later {w0 W W1 : World} {v : Value} {l : List Int} (h : PutS w0 W v l) (hb : Below W.heap.size W W1) : PutS w0 W1 v l := ⟨pw_own_below h.own hb, below_step h.bel hb⟩
/-- what an append leaves of the blocks that lay there -/
def Grew (W W1 : World) (v v1 : Value) : Prop := ∀ j, j < W.heap.size → some j ≠ v.ownBlock → W1.heap[j]? = W.heap[j]? ∧ some j ≠ v1.ownBlock
theorem infoB5 : (Try.prog.info? 5).map (fun i => (i.zero, i.size, i.bytes)) = some (some (.int .u8 0), 1, 1) := by kernel_rfl
theorem grew_of {W W1 : World} {v v1 : Value} (hg : W.grownBy W1 v.ownBlock) (hat : v1.ownBlock = v.ownBlock ∨ v1.ownBlock = some W.heap.size) : Grew W W1 v v1 := fun j hj hne => ⟨hg.block j hj hne, by
  rcases hat with h | h
  · rw [h]; exact hne
  · rw [h]
    intro e
    injection e with e
    omega⟩
theorem addr0' (g j : Nat) : (⟨g, 0, none⟩ : Addr).add j = ⟨g, j, none⟩ := by unfold Addr.add; split <;> simp_all
theorem PutS.one {w0 W : World} {v : Value} {l : List Int} (h : PutS w0 W v l) {g : Nat} {x : Int} (hx : W.heap[g]? = some (.cells #[.int .u8 x] 5 (0, 0))) (hl : l.length + 1 ≤ 140737488355328) (ty : TypeId) :
    ∃ v1 w1, (Builtin.append_ #[28, 28] ty #[v, .slice (some ⟨g, 0, none⟩) 1 1]).run Try.prog W = .ok v1 w1 ∧ PutS w0 w1 v1 (l ++ [x]) ∧ Grew W w1 v v1 ∧ W.heap.size ≤ w1.heap.size := by
  obtain ⟨i0, hi, hzz⟩ := Option.map_eq_some_iff.1 infoB5
  simp only [Prod.mk.injEq] at hzz
  obtain ⟨hz0, hz1, hz2⟩ := hzz
  obtain ⟨v1, w1, hr, ho, hg, _, hat⟩ := run_append_own_at (P := Try.prog) (w := W) w0.heap.size 28 ty 5 i0 (.int .u8 0) 1 1 Try.underlying28 hi hz0 hz1 hz2 rfl (by decide) v l.length (nums .u8 l) h.own ⟨g, 0, none⟩ 1 1 [.int .u8 x] rfl
    (fun j u hj => by rw [addr0', blk_cell hx j]; simpa using hj) (fun u hu => by simp at hu; rcases hu with rfl; rfl) (by simp only [maxLen]; omega) (by omega) h.bel.size
  refine ⟨v1, w1, hr, ⟨?_, h.bel.grown hg h.bel.size (own_base h.own)⟩, grew_of hg hat, hg.size⟩
  simpa [nums] using ho
theorem PutS.str {w0 W : World} {v : Value} {l : List Int} (h : PutS w0 W v l) (y : ByteArray) (hl : l.length + y.size ≤ 140737488355328) (ty : TypeId) :
    ∃ v1 w1, (Builtin.append_ #[28, 9] ty #[v, .string y]).run Try.prog W = .ok v1 w1 ∧ PutS w0 w1 v1 (l ++ bytesOf y) ∧ Grew W w1 v v1 ∧ W.heap.size ≤ w1.heap.size := by
  obtain ⟨i0, hi, hzz⟩ := Option.map_eq_some_iff.1 infoB5
  simp only [Prod.mk.injEq] at hzz
  obtain ⟨hz0, hz1, hz2⟩ := hzz
  obtain ⟨v1, w1, hr, ho, hg, _⟩ := Lib.run_append_own_string (P := Try.prog) (w := W) w0.heap.size 28 9 ty 5 i0 Try.underlying28 Try.underlying9 hi hz0 hz1 hz2 v l.length (nums .u8 l) h.own y (by simp only [maxLen]; omega) hl h.bel.size
  have hat := append_str_block (P := Try.prog) W w0.heap.size 28 9 ty 5 i0 Try.underlying28 Try.underlying9 hi hz0 hz1 hz2 v l.length (nums .u8 l) h.own y (by simp only [maxLen]; omega) hl hr
  refine ⟨v1, w1, hr, ⟨?_, h.bel.grown hg h.bel.size (own_base h.own)⟩, grew_of hg hat, hg.size⟩
  have hl2 : (l ++ bytesOf y).length = l.length + y.size := by rw [List.length_append, bytesOf_length]
  have hc : nums .u8 (l ++ bytesOf y) = nums .u8 l ++ Lib.strCells y := by
    rw [nums_append]
    congr 1
    simp [nums, bytesOf, Lib.strCells]
  rw [hl2, hc]
  exact ho
theorem list_app {ops : Array Oper} {rest : List Oper} {o : Oper} {a : Act} {W : World} {Q : Exit → Act → World → Prop} (hgd : o.guard = none) (s x : Operand) (t u : TypeId)
    (ho : o.op = .call { callee := .builtin .append, args := #[s, x], argTypes := #[t, u] }) (v y : Value) (hs : a.eval s = v) (hx : a.eval x = y) {v' : Value} {w' : World}
    (hr : (Builtin.append_ #[t, u] o.type #[v, y]).run Try.prog W = .ok v' w') (h : wpList Try.prog ops Q rest (a.put o.dst v') w') : wpList Try.prog ops Q (o :: rest) a W := by
  refine wpList_plain hgd fun K hK => ?_
  unfold Oper.wp execOp
  simp only [ho, resolve, invoke, builtin, Sem.run_bind, Sem.run_pure, Result.andThen_ok, List.map_toArray, List.map_cons, List.map_nil, hs, hx, hr]
  exact hK _ _ h
theorem step_app {ops : Array Oper} {o : Oper} {a : Act} {W : World} {K : Act → World → Prop} {Q : Exit → Act → World → Prop} {E : Prop} (hgd : o.guard = none) (s x : Operand) (t u : TypeId)
    (ho : o.op = .call { callee := .builtin .append, args := #[s, x], argTypes := #[t, u] }) (v y : Value) (hs : a.eval s = v) (hx : a.eval x = y) {v' : Value} {w' : World}
    (hr : (Builtin.append_ #[t, u] o.type #[v, y]).run Try.prog W = .ok v' w') (h : K (a.put o.dst v') w') : if Region.wanted o (yielded ops a.tmps) = true then Oper.wp Try.prog o a W K Q else E := by
  have hw : Region.wanted o (yielded ops a.tmps) = true := by simp [Region.wanted, hgd]
  rw [if_pos hw]
  unfold Oper.wp execOp
  simp only [ho, resolve, invoke, builtin, Sem.run_bind, Sem.run_pure, Result.andThen_ok, List.map_toArray, List.map_cons, List.map_nil, hs, hx, hr]
  exact h
theorem Grew.trans {W W1 W2 : World} {v v1 v2 : Value} (h : Grew W W1 v v1) (k : Grew W1 W2 v1 v2) (hs : W.heap.size ≤ W1.heap.size) : Grew W W2 v v2 := fun j hj hne =>
  ⟨((k j (by omega) (h j hj hne).2).1).trans (h j hj hne).1, (k j (by omega) (h j hj hne).2).2⟩
theorem Grew.pre {W0 W W1 : World} {v v1 : Value} (hb : Below W0.heap.size W0 W) (h : Grew W W1 v v1) : Grew W0 W1 v v1 := fun j hj hne =>
  ⟨((h j (by have := hb.size; omega) hne).1).trans (hb.block j hj), (h j (by have := hb.size; omega) hne).2⟩
def bt_text.f (l : List Int) (s : ByteArray) : Option (List Int) := (num_Put.f (s.size : Int)).bind fun t => if l.length + t.size + s.size + 1 < 140737488355328 then some (l ++ bytesOf t ++ [58] ++ bytesOf s) else none
set_option maxHeartbeats 1000000 in
set_option maxRecDepth 100000 in
theorem bt_text.calls (v : Value) (l r : List Int) (s : ByteArray) (w0 w : World) (hP : PutS w0 w v l) (h : bt_text.f l s = some r) :
    Calls Try.prog 24 #[v, .string s] w fun e w' => ∃ v', e = .returned v' ∧ PutS w0 w' v' r ∧ Grew w w' v v' := by
  obtain ⟨t, ht, h⟩ := Option.bind_eq_some_iff.mp h
  by_cases hl : l.length + t.size + s.size + 1 < 140737488355328
  case neg => rw [if_neg hl] at h; cases h
  rw [if_pos hl] at h
  have HR := Aside0.mk (Option.some.inj h)
  obtain ⟨A, c, rfl⟩ := own_slice hP.own
  have HT := Aside0.mk ht
  have HL := Aside0.mk hl
  have HP := Aside0.mk hP
  clear ht hl h hP
  go_enter Try.func24, Try.ntmps24
  clear h
  go_wp2_with (first | (go_at_call 23; (with_reducible refine (num_Put.calls (s.size : Int) t _ HT.out).mono ?_); rintro e w1 ⟨rfl, hb⟩; have HP1 := Aside0.mk (HP.out.later hb); have HB1 := Aside0.mk hb; clear hb) | ((with_reducible refine gate_builtin (b := .append) (xs := #[.tmp 5, .tmp 8]) rfl ?_); at_builtin; obtain ⟨v2, w2, hr, hp, hg, hs⟩ := HP1.out.str t (by have := HL.out; omega) 28; refine list_app rfl (.tmp 5) (.tmp 8) 28 9 rfl _ (.string t) rfl rfl hr ?_; have HP2 := Aside0.mk hp; have HG2 := Aside0.mk hg; have HS2 := Aside0.mk hs; clear hp hg hr hs) | ((with_reducible refine gate_builtin (b := .append) (xs := #[.tmp 9, .tmp 10]) rfl ?_); at_builtin; obtain ⟨v3, w3, hr, hp, hg, hs⟩ := (HP2.out.later (below_alloc (Below.refl _ _) (.cells #[.int .u8 58] 5))).one (blk_new w2 (.cells #[.int .u8 58] 5)) (by have := HL.out; simp only [List.length_append, bytesOf_length]; omega) 28; refine list_app rfl (.tmp 9) (.tmp 10) 28 28 rfl _ (.slice (some ⟨w2.heap.size, 0, none⟩) 1 1) rfl rfl hr ?_; have HP3 := Aside0.mk hp; have HG3 := Aside0.mk hg; have HS3 := Aside0.mk hs; clear hp hg hr hs) | ((with_reducible refine gate_builtin (b := .append) (xs := #[.tmp 11, .tmp 12]) rfl ?_); at_builtin; obtain ⟨v4, w4, hr, hp, hg, hs⟩ := HP3.out.str s (by have := HL.out; simp only [List.length_append, bytesOf_length, List.length_singleton]; omega) 28; refine list_app rfl (.tmp 11) (.tmp 12) 28 9 rfl _ (.string s) rfl rfl hr ?_; have HP4 := Aside0.mk hp; have HG4 := Aside0.mk hg; have HS4 := Aside0.mk hs; clear hp hg hr hs))
  go_ret
  refine ⟨_, rfl, by rw [← HR.out]; exact HP4.out, ?_⟩
  exact Grew.pre HB1.out (HG2.out.trans (Grew.pre (below_alloc (Below.refl _ _) _) (HG3.out.trans HG4.out HS3.out)) HS2.out)
/-! ### put -/
mutual
def bp_put.f : Nat → List Int → S25 → Option (List Int)
  | 0, _, _ => none
  | k + 1, l, T => if T.f0 = 1 then ((num_Put.f T.f1).bind fun t => if l.length + t.size + 2 < 140737488355328 then some (l ++ [105] ++ bytesOf t ++ [101]) else none)
    else if T.f0 = 2 then bt_text.f l T.f2
    else if l.length + 1 < 140737488355328 then bp_kids.f k (l ++ [if T.f0 = 3 then 108 else 100]) T 0 else none
def bp_kids.f : Nat → List Int → S25 → Nat → Option (List Int)
  | 0, _, _, _ => none
  | k + 1, l, T, i => if i < T.f4.length then ((if T.f0 = 4 then (if i < T.f3.length then bt_text.f l (T.f3.getD i ⟨#[]⟩) else none) else some l).bind fun l1 => (bp_put.f k l1 (T.f4.getD i z25)).bind fun l2 => bp_kids.f k l2 T (i + 1))
    else if l.length + 1 < 140737488355328 then some (l ++ [101]) else none
end
theorem blk_newN (W : World) (o : Obj) (n : Nat) (h : W.heap.size = n) : (W.alloc o).heap[n]? = some o := by subst h; exact blk_new W o
theorem PutS.alloc {w0 W : World} {v : Value} {l : List Int} (h : PutS w0 W v l) (o : Obj) : PutS w0 (W.alloc o) v l := h.later (below_alloc (Below.refl _ _) o)
theorem PutS.drew {w0 W : World} {v : Value} {l : List Int} (h : PutS w0 W v l) : PutS w0 W.drew v l := h.later (below_drew1 (Below.refl _ _))
/-- a block that lies beside the row -/
structure Bes (W : World) (v : Value) (g : Nat) (o : Obj) : Prop where
  at_ : W.heap[g]? = some o
  ne : some g ≠ v.ownBlock
theorem Bes.grew {W W1 : World} {v v1 : Value} {g : Nat} {o : Obj} (h : Bes W v g o) (hg : Grew W W1 v v1) : Bes W1 v1 g o := ⟨(hg g (blk_lt h.at_) h.ne).1.trans h.at_, (hg g (blk_lt h.at_) h.ne).2⟩
theorem Bes.below {W W1 : World} {v : Value} {g : Nat} {o : Obj} (h : Bes W v g o) (hb : Below W.heap.size W W1) : Bes W1 v g o := ⟨blk_below h.at_ hb, h.ne⟩
theorem Bes.alloc {W : World} {v : Value} {g : Nat} {o : Obj} (h : Bes W v g o) (o1 : Obj) : Bes (W.alloc o1) v g o := h.below (below_alloc (Below.refl _ _) o1)
theorem Bes.drew {W : World} {v : Value} {g : Nat} {o : Obj} (h : Bes W v g o) : Bes W.drew v g o := h.below (below_drew1 (Below.refl _ _))
theorem Bes.new {w0 W : World} {v : Value} {l : List Int} (h : PutS w0 W v l) (o : Obj) (n : Nat) (hn : W.heap.size = n) : Bes (W.alloc o) v n o := ⟨blk_newN W o n hn, fun e => by
  have := Go.Proofs.YtekcnfngcgchcaaW.PrintWords.own_lt h.own n e.symm
  omega⟩
theorem grew_by {W W1 : World} {v v1 : Value} (h : ∀ j o, Bes W v j o → Bes W1 v1 j o) : Grew W W1 v v1 := fun j hj hne => by
  obtain ⟨o, ho⟩ : ∃ o, W.heap[j]? = some o := ⟨W.heap[j], Array.getElem?_eq_getElem hj⟩
  have b := h j o ⟨ho, hne⟩
  exact ⟨b.at_.trans ho.symm, b.ne⟩
theorem step_at (W : World) {ops : Array Oper} {o : Oper} {a : Act} {K : Act → World → Prop} {Q : Exit → Act → World → Prop} {E : Prop} (h : if Region.wanted o (yielded ops a.tmps) = true then Oper.wp Try.prog o a W K Q else E) : if Region.wanted o (yielded ops a.tmps) = true then Oper.wp Try.prog o a W K Q else E := h
set_option maxHeartbeats 2000000 in
set_option maxRecDepth 100000 in
theorem bp_int (v : Value) (l : List Int) (T : S25) (A3 A4 : Option Addr) (c3 c4 : Nat) (t : ByteArray) (w0 w : World) (hP : PutS w0 w v l) (h1 : T.f0 = 1) (ht : num_Put.f T.f1 = some t) (hl : l.length + t.size + 2 < 140737488355328) :
    Calls Try.prog 16 #[v, .agg #[.int .i64 T.f0, .int .i64 T.f1, .string T.f2, .slice A3 T.f3.length c3, .slice A4 T.f4.length c4]] w fun e w' => ∃ v', e = .returned v' ∧ PutS w0 w' v' (l ++ [105] ++ bytesOf t ++ [101]) ∧ Grew w w' v v' := by
  have hu25 := Try.underlying25
  obtain ⟨r, hr⟩ : ∃ r, r = l ++ [105] ++ bytesOf t ++ [101] := ⟨_, rfl⟩
  rw [← hr]
  have HR := Aside0.mk hr
  have HT := Aside0.mk ht
  have HL := Aside0.mk hl
  have HX0 := Aside0.mk (Bes.new hP (.cells #[.int .i64 T.f0, .int .i64 T.f1, .string T.f2, .slice A3 T.f3.length c3, .slice A4 T.f4.length c4] 25) w.heap.size rfl)
  have HP0 := Aside0.mk (hP.alloc (.cells #[.int .i64 T.f0, .int .i64 T.f1, .string T.f2, .slice A3 T.f3.length c3, .slice A4 T.f4.length c4] 25))
  have HB0 := Aside0.mk (below_alloc (Below.refl w.heap.size w) (.cells #[.int .i64 T.f0, .int .i64 T.f1, .string T.f2, .slice A3 T.f3.length c3, .slice A4 T.f4.length c4] 25))
  have d1 : (T.f0 == 1) = true := beq_iff_eq.mpr h1
  clear hr ht hl hP h1
  go_enter Try.func16, Try.ntmps16
  go_upto_region 4 with (fail)
  generalize w.alloc (.cells #[.int .i64 T.f0, .int .i64 T.f1, .string T.f2, .slice A3 T.f3.length c3, .slice A4 T.f4.length c4] 25) = wE at HX0 HP0 HB0 ⊢
  have hx0 : wE.cell? ⟨w.heap.size, 1, none⟩ = some (.int .i64 T.f1) := (blk_cell HX0.out.at_ 1).trans rfl
  go_region_held3 (fun w' => w'.cell? ⟨w.heap.size, 1, none⟩ = some (.int .i64 T.f1)) (first | assumption | go_keep) (first | (first | ((with_reducible refine step_at (((wE).alloc (.cells #[.int .u8 105] 5)).drew) ?_); obtain ⟨v16, w16, hr, hp, hg, hs⟩ := (((HP0.out).alloc (.cells #[.int .u8 105] 5)).drew).one ((Bes.new (HP0.out) (.cells #[.int .u8 105] 5) (wE.heap.size) (by first | rfl | simp)).drew).at_ (by have := HL.out; (try simp only [List.length_append, bytesOf_length, List.length_cons, List.length_nil]); omega) 28; refine step_app rfl (.tmp 14) (.tmp 15) 28 28 rfl (v) (.slice (some ⟨wE.heap.size, 0, none⟩) 1 1) rfl rfl hr ?_; have HP16 := Aside0.mk hp; have HG16 := Aside0.mk hg; have HS16 := Aside0.mk hs; have HX16 := Aside0.mk ((((HX0.out).alloc (.cells #[.int .u8 105] 5)).drew).grew hg); have hx16 : w16.cell? ⟨w.heap.size, 1, none⟩ = some (.int .i64 T.f1) := (blk_cell HX16.out.at_ 1).trans rfl; clear hp hg hr hs) | ((with_reducible refine step_at ((((wE).alloc (.cells #[.int .u8 105] 5)).alloc (.cells #[.int .u8 101] 5)).drew) ?_); obtain ⟨v16, w16, hr, hp, hg, hs⟩ := ((((HP0.out).alloc (.cells #[.int .u8 105] 5)).alloc (.cells #[.int .u8 101] 5)).drew).one (((Bes.new (HP0.out) (.cells #[.int .u8 105] 5) (wE.heap.size) (by first | rfl | simp)).alloc (.cells #[.int .u8 101] 5)).drew).at_ (by have := HL.out; (try simp only [List.length_append, bytesOf_length, List.length_cons, List.length_nil]); omega) 28; refine step_app rfl (.tmp 14) (.tmp 15) 28 28 rfl (v) (.slice (some ⟨wE.heap.size, 0, none⟩) 1 1) rfl rfl hr ?_; have HP16 := Aside0.mk hp; have HG16 := Aside0.mk hg; have HS16 := Aside0.mk hs; have HX16 := Aside0.mk (((((HX0.out).alloc (.cells #[.int .u8 105] 5)).alloc (.cells #[.int .u8 101] 5)).drew).grew hg); have hx16 : w16.cell? ⟨w.heap.size, 1, none⟩ = some (.int .i64 T.f1) := (blk_cell HX16.out.at_ 1).trans rfl; have HB16 := Aside0.mk (((Bes.new ((HP0.out).alloc (.cells #[.int .u8 105] 5)) (.cells #[.int .u8 101] 5) (wE.heap.size + 1) (by first | rfl | simp)).drew).grew hg); clear hp hg hr hs) | ((with_reducible refine step_at ((((wE).alloc (.cells #[.int .u8 101] 5)).alloc (.cells #[.int .u8 105] 5)).drew) ?_); obtain ⟨v16, w16, hr, hp, hg, hs⟩ := ((((HP0.out).alloc (.cells #[.int .u8 101] 5)).alloc (.cells #[.int .u8 105] 5)).drew).one ((Bes.new ((HP0.out).alloc (.cells #[.int .u8 101] 5)) (.cells #[.int .u8 105] 5) (wE.heap.size + 1) (by first | rfl | simp)).drew).at_ (by have := HL.out; (try simp only [List.length_append, bytesOf_length, List.length_cons, List.length_nil]); omega) 28; refine step_app rfl (.tmp 14) (.tmp 15) 28 28 rfl (v) (.slice (some ⟨wE.heap.size + 1, 0, none⟩) 1 1) rfl rfl hr ?_; have HP16 := Aside0.mk hp; have HG16 := Aside0.mk hg; have HS16 := Aside0.mk hs; have HX16 := Aside0.mk (((((HX0.out).alloc (.cells #[.int .u8 101] 5)).alloc (.cells #[.int .u8 105] 5)).drew).grew hg); have hx16 : w16.cell? ⟨w.heap.size, 1, none⟩ = some (.int .i64 T.f1) := (blk_cell HX16.out.at_ 1).trans rfl; have HB16 := Aside0.mk ((((Bes.new (HP0.out) (.cells #[.int .u8 101] 5) (wE.heap.size) (by first | rfl | simp)).alloc (.cells #[.int .u8 105] 5)).drew).grew hg); clear hp hg hr hs)) | (first | (go_at_call 23; (with_reducible refine (num_Put.calls T.f1 t _ HT.out).mono ?_); rintro e w19 ⟨rfl, hb⟩; have HP19 := Aside0.mk ((HP16.out).later hb); have HX19 := Aside0.mk ((HX16.out).below hb); have HS19 := Aside0.mk hb.size; have HD19 := Aside0.mk hb; have hx19 : w19.cell? ⟨w.heap.size, 1, none⟩ = some (.int .i64 T.f1) := (blk_cell HX19.out.at_ 1).trans rfl; have HB19 := Aside0.mk (HB16.out.below hb); clear hb) | (go_at_call 23; (with_reducible refine (num_Put.calls T.f1 t _ HT.out).mono ?_); rintro e w19 ⟨rfl, hb⟩; have HP19 := Aside0.mk ((HP16.out).later hb); have HX19 := Aside0.mk ((HX16.out).below hb); have HS19 := Aside0.mk hb.size; have HD19 := Aside0.mk hb; have hx19 : w19.cell? ⟨w.heap.size, 1, none⟩ = some (.int .i64 T.f1) := (blk_cell HX19.out.at_ 1).trans rfl; clear hb) | (go_at_call 23; (with_reducible refine (num_Put.calls T.f1 t _ HT.out).mono ?_); rintro e w19 ⟨rfl, hb⟩; have HP19 := Aside0.mk ((HP16.out.alloc (.cells #[.int .u8 101] 5)).later hb); have HX19 := Aside0.mk ((HX16.out.alloc (.cells #[.int .u8 101] 5)).below hb); have HS19 := Aside0.mk hb.size; have HD19 := Aside0.mk hb; have hx19 : w19.cell? ⟨w.heap.size, 1, none⟩ = some (.int .i64 T.f1) := (blk_cell HX19.out.at_ 1).trans rfl; have HB19 := Aside0.mk ((Bes.new HP16.out (.cells #[.int .u8 101] 5) w16.heap.size rfl).below hb); clear hb)) | (first | ((with_reducible refine step_at (w19) ?_); obtain ⟨v20, w20, hr, hp, hg, hs⟩ := (HP19.out).str t (by have := HL.out; (try simp only [List.length_append, bytesOf_length, List.length_cons, List.length_nil]); omega) 28; refine step_app rfl (.tmp 16) (.tmp 19) 28 9 rfl (v16) (.string t) rfl rfl hr ?_; have HP20 := Aside0.mk hp; have HG20 := Aside0.mk hg; have HS20 := Aside0.mk hs; have HX20 := Aside0.mk ((HX19.out).grew hg); have hx20 : w20.cell? ⟨w.heap.size, 1, none⟩ = some (.int .i64 T.f1) := (blk_cell HX20.out.at_ 1).trans rfl; have HB20 := Aside0.mk (HB19.out.grew hg); clear hp hg hr hs) | ((with_reducible refine step_at (w19) ?_); obtain ⟨v20, w20, hr, hp, hg, hs⟩ := (HP19.out).str t (by have := HL.out; (try simp only [List.length_append, bytesOf_length, List.length_cons, List.length_nil]); omega) 28; refine step_app rfl (.tmp 16) (.tmp 19) 28 9 rfl (v16) (.string t) rfl rfl hr ?_; have HP20 := Aside0.mk hp; have HG20 := Aside0.mk hg; have HS20 := Aside0.mk hs; have HX20 := Aside0.mk ((HX19.out).grew hg); have hx20 : w20.cell? ⟨w.heap.size, 1, none⟩ = some (.int .i64 T.f1) := (blk_cell HX20.out.at_ 1).trans rfl; clear hp hg hr hs) | ((with_reducible refine step_at (w19.alloc (.cells #[.int .u8 101] 5)) ?_); obtain ⟨v20, w20, hr, hp, hg, hs⟩ := (HP19.out.alloc (.cells #[.int .u8 101] 5)).str t (by have := HL.out; (try simp only [List.length_append, bytesOf_length, List.length_cons, List.length_nil]); omega) 28; refine step_app rfl (.tmp 16) (.tmp 19) 28 9 rfl (v16) (.string t) rfl rfl hr ?_; have HP20 := Aside0.mk hp; have HG20 := Aside0.mk hg; have HS20 := Aside0.mk hs; have HX20 := Aside0.mk ((HX19.out.alloc (.cells #[.int .u8 101] 5)).grew hg); have hx20 : w20.cell? ⟨w.heap.size, 1, none⟩ = some (.int .i64 T.f1) := (blk_cell HX20.out.at_ 1).trans rfl; have HB20 := Aside0.mk ((Bes.new HP19.out (.cells #[.int .u8 101] 5) w19.heap.size rfl).grew hg); clear hp hg hr hs)) | (first | ((with_reducible refine step_at (w20) ?_); obtain ⟨v22, w22, hr, hp, hg, hs⟩ := (HP20.out).one (HB20.out).at_ (by have := HL.out; (try simp only [List.length_append, bytesOf_length, List.length_cons, List.length_nil]); omega) 28; refine step_app rfl (.tmp 20) (.tmp 21) 28 28 rfl (v20) (_) rfl rfl hr ?_; have HP22 := Aside0.mk hp; have HG22 := Aside0.mk hg; have HS22 := Aside0.mk hs; have HX22 := Aside0.mk ((HX20.out).grew hg); have hx22 : w22.cell? ⟨w.heap.size, 1, none⟩ = some (.int .i64 T.f1) := (blk_cell HX22.out.at_ 1).trans rfl; clear hp hg hr hs) | ((with_reducible refine step_at (w20.alloc (.cells #[.int .u8 101] 5)) ?_); obtain ⟨v22, w22, hr, hp, hg, hs⟩ := (HP20.out.alloc (.cells #[.int .u8 101] 5)).one (Bes.new HP20.out (.cells #[.int .u8 101] 5) w20.heap.size rfl).at_ (by have := HL.out; (try simp only [List.length_append, bytesOf_length, List.length_cons, List.length_nil]); omega) 28; refine step_app rfl (.tmp 20) (.tmp 21) 28 28 rfl (v20) (.slice (some ⟨w20.heap.size, 0, none⟩) 1 1) rfl rfl hr ?_; have HP22 := Aside0.mk hp; have HG22 := Aside0.mk hg; have HS22 := Aside0.mk hs; have HX22 := Aside0.mk ((HX20.out.alloc (.cells #[.int .u8 101] 5)).grew hg); have hx22 : w22.cell? ⟨w.heap.size, 1, none⟩ = some (.int .i64 T.f1) := (blk_cell HX22.out.at_ 1).trans rfl; clear hp hg hr hs)))
  all_goals go_wp2
  all_goals go_ret
  all_goals refine ⟨_, rfl, by rw [HR.out]; exact HP22.out, grew_by fun j o b0 => ?_⟩
  all_goals have b1 := b0.below HB0.out
  all_goals have b2 := (show Bes w16 v16 j o by first | exact ((b1.alloc _).drew).grew HG16.out | exact (((b1.alloc _).alloc _).drew).grew HG16.out)
  all_goals have b3 := (show Bes w19 v16 j o by first | exact b2.below HD19.out | exact (b2.alloc _).below HD19.out)
  all_goals have b4 := (show Bes w20 v20 j o by first | exact b3.grew HG20.out | exact (b3.alloc _).grew HG20.out)
  all_goals first | exact b4.grew HG22.out | exact (b4.alloc _).grew HG22.out
theorem cell_lt' {W : World} {a : Addr} {x : Value} (h : W.cell? a = some x) : a.block < W.heap.size := by
  rcases Nat.lt_or_ge a.block W.heap.size with h1 | h1
  · exact h1
  · have : W.heap[a.block]? = none := Array.getElem?_eq_none h1
    simp [World.cell?, this] at h
theorem cell_later {w0 W : World} {a : Addr} {x : Value} (hb : Below w0.heap.size w0 W) (h : w0.cell? a = some x) : W.cell? a = some x := (Below.cell hb (cell_lt' h)).trans h
def PutC (k : Nat) : Prop := ∀ (v : Value) (l r : List Int) (T : S25) (A3 A4 : Option Addr) (c3 c4 : Nat) (w0 w : World), PutS w0 w v l → Kd.string.C w0 A3 T.f3.length T.f3 → k25.C w0 A4 T.f4.length T.f4 → bp_put.f k l T = some r →
  Calls Try.prog 16 #[v, .agg #[.int .i64 T.f0, .int .i64 T.f1, .string T.f2, .slice A3 T.f3.length c3, .slice A4 T.f4.length c4]] w fun e w' => ∃ v', e = .returned v' ∧ PutS w0 w' v' r ∧ Grew w w' v v'
set_option maxHeartbeats 4000000 in
set_option maxRecDepth 100000 in
theorem bp_text (k : Nat) (hPut : ∀ j, j < k → PutC j) (v : Value) (l r : List Int) (T : S25) (A3 A4 : Option Addr) (c3 c4 : Nat) (w0 w : World) (hP : PutS w0 w v l) (hc3 : Kd.string.C w0 A3 T.f3.length T.f3) (hc4 : k25.C w0 A4 T.f4.length T.f4) (h2 : T.f0 = 2) (h : bt_text.f l T.f2 = some r) :
    Calls Try.prog 16 #[v, .agg #[.int .i64 T.f0, .int .i64 T.f1, .string T.f2, .slice A3 T.f3.length c3, .slice A4 T.f4.length c4]] w fun e w' => ∃ v', e = .returned v' ∧ PutS w0 w' v' r ∧ Grew w w' v v' := by
  have hu25 := Try.underlying25
  have HX0 := Aside0.mk (Bes.new hP (.cells #[.int .i64 T.f0, .int .i64 T.f1, .string T.f2, .slice A3 T.f3.length c3, .slice A4 T.f4.length c4] 25) w.heap.size rfl)
  have HP0 := Aside0.mk (hP.alloc (.cells #[.int .i64 T.f0, .int .i64 T.f1, .string T.f2, .slice A3 T.f3.length c3, .slice A4 T.f4.length c4] 25))
  have HB0 := Aside0.mk (below_alloc (Below.refl w.heap.size w) (.cells #[.int .i64 T.f0, .int .i64 T.f1, .string T.f2, .slice A3 T.f3.length c3, .slice A4 T.f4.length c4] 25))
  have HC3 := Aside0.mk hc3
  have HC4 := Aside0.mk hc4
  have HPT := Aside0.mk hPut
  have HH := Aside0.mk h
  have d1 : (T.f0 == 1) = false := beq_eq_false_iff_ne.mpr (by omega)
  have d2 : (T.f0 == 2) = true := beq_iff_eq.mpr h2
  clear h h2 hP hc3 hc4 hPut
  go_enter Try.func16, Try.ntmps16
  go_wp2_with (go_at_call 24; (with_reducible refine (bt_text.calls v l r T.f2 w0 _ HP0.out HH.out).mono ?_); rintro e w1 ⟨v1, rfl, hp, hg⟩; have HP1 := Aside0.mk hp; have HG1 := Aside0.mk hg; clear hp hg)
  go_ret
  exact ⟨_, rfl, HP1.out, Grew.pre HB0.out HG1.out⟩
set_option maxHeartbeats 4000000 in
set_option maxRecDepth 100000 in
theorem bp_list3 (k : Nat) (hPut : ∀ j, j < k → PutC j) (v : Value) (l r : List Int) (T : S25) (A3 A4 : Option Addr) (c3 c4 : Nat) (w0 w : World) (hP : PutS w0 w v l) (hc3 : Kd.string.C w0 A3 T.f3.length T.f3) (hc4 : k25.C w0 A4 T.f4.length T.f4) (h3 : T.f0 = 3) (hl : l.length + 1 < 140737488355328) (h : bp_kids.f k (l ++ [108]) T 0 = some r) :
    Calls Try.prog 16 #[v, .agg #[.int .i64 T.f0, .int .i64 T.f1, .string T.f2, .slice A3 T.f3.length c3, .slice A4 T.f4.length c4]] w fun e w' => ∃ v', e = .returned v' ∧ PutS w0 w' v' r ∧ Grew w w' v v' := by
  have hu25 := Try.underlying25
  have HX0 := Aside0.mk (Bes.new hP (.cells #[.int .i64 T.f0, .int .i64 T.f1, .string T.f2, .slice A3 T.f3.length c3, .slice A4 T.f4.length c4] 25) w.heap.size rfl)
  have HP0 := Aside0.mk (hP.alloc (.cells #[.int .i64 T.f0, .int .i64 T.f1, .string T.f2, .slice A3 T.f3.length c3, .slice A4 T.f4.length c4] 25))
  have HB0 := Aside0.mk (below_alloc (Below.refl w.heap.size w) (.cells #[.int .i64 T.f0, .int .i64 T.f1, .string T.f2, .slice A3 T.f3.length c3, .slice A4 T.f4.length c4] 25))
  have HC3 := Aside0.mk hc3
  have HC4 := Aside0.mk hc4
  have HPT := Aside0.mk hPut
  have HL := Aside0.mk hl
  have HH := Aside0.mk h
  have d1 : (T.f0 == 1) = false := beq_eq_false_iff_ne.mpr (by omega)
  have d2 : (T.f0 == 2) = false := beq_eq_false_iff_ne.mpr (by omega)
  have d3 : (T.f0 == 3) = true := beq_iff_eq.mpr h3
  have d4 : (T.f0 == 4) = false := beq_eq_false_iff_ne.mpr (by omega)
  have H4 := Aside0.mk h3
  clear h h3 hl hP hc3 hc4 hPut
  have bmax : T.f4.length ≤ 9223372036854775807 := Kd.C_max HC4.out
  go_enter Try.func16, Try.ntmps16
  go_upto_region 8 with (fail)
  generalize w.alloc (.cells #[.int .i64 T.f0, .int .i64 T.f1, .string T.f2, .slice A3 T.f3.length c3, .slice A4 T.f4.length c4] 25) = wE at HX0 HP0 HB0 ⊢
  go_upto_region 9 with (((with_reducible refine gate_builtin (b := .append) (xs := #[.tmp 31, .tmp 32]) rfl ?_); at_builtin; obtain ⟨v1, w1, hr, hp, hg, hs⟩ := (HP0.out.alloc (.cells #[.int .u8 108] 5)).one (blk_new wE (.cells #[.int .u8 108] 5)) (by have := HL.out; omega) 28; refine list_app rfl (.tmp 31) (.tmp 32) 28 28 rfl _ (.slice (some ⟨wE.heap.size, 0, none⟩) 1 1) rfl rfl hr ?_; have HP1 := Aside0.mk hp; have HG1 := Aside0.mk hg; clear hp hg hr hs))
  have HX1 := Aside0.mk ((HX0.out.alloc (.cells #[.int .u8 108] 5)).grew HG1.out)
  have HA1 := Aside0.mk (show ∀ j o, Bes w v j o → Bes w1 v1 j o from fun j o b => ((b.below HB0.out).alloc (.cells #[.int .u8 108] 5)).grew HG1.out)
  have hz0 : w1.cell? ⟨w.heap.size, 0, none⟩ = some _ := (blk_cell HX1.out.at_ 0).trans rfl
  have hz1 : w1.cell? ⟨w.heap.size, 1, none⟩ = some _ := (blk_cell HX1.out.at_ 1).trans rfl
  have hz2 : w1.cell? ⟨w.heap.size, 2, none⟩ = some _ := (blk_cell HX1.out.at_ 2).trans rfl
  have hz3 : w1.cell? ⟨w.heap.size, 3, none⟩ = some _ := (blk_cell HX1.out.at_ 3).trans rfl
  have hz4 : w1.cell? ⟨w.heap.size, 4, none⟩ = some _ := (blk_cell HX1.out.at_ 4).trans rfl
  go_wp2
  go_loopg [0, 37] k (fun gg v0 v37 wr => ∃ (i : Nat) (li : List Int) (kk : Nat), v37 = .int .i64 (i : Int) ∧ kk ≤ gg ∧ kk ≤ k ∧ i ≤ T.f4.length ∧ Aside0 (bp_kids.f kk li T i = some r) ∧ Aside0 (PutS w0 wr v0 li) ∧ Aside0 (Bes wr v0 w.heap.size (.cells #[.int .i64 T.f0, .int .i64 T.f1, .string T.f2, .slice A3 T.f3.length c3, .slice A4 T.f4.length c4] 25)) ∧ Aside0 (∀ j o, Bes w v j o → Bes wr v0 j o))
  case atStart => exact ⟨0, _, k, rfl, Nat.le_refl _, Nat.le_refl _, Nat.zero_le _, HH, HP1, HX1, HA1⟩
  case round =>
    obtain ⟨i, li, kk, rfl, hkg, hkk, hil, HK, HPi, HXi, HAi⟩ := hrel
    cases kk with
    | zero => exact absurd HK.out (by simp [bp_kids.f])
    | succ m =>
      have hB := HK.out
      rw [bp_kids.f] at hB
      have HKK := Aside0.mk hkk
      have HKG := Aside0.mk hkg
      clear HK hkk hkg
      by_cases hlt : i < T.f4.length
      · rw [if_pos hlt] at hB
        have hltz : (i : Int) < (T.f4.length : Int) := by omega
        have hi0 : (0 : Int) ≤ (i : Int) := by omega
        obtain ⟨ad, X3, d3, X4, d4, e1, x0, x1, x2, x3, x4, _, xc3, _, xc4⟩ := at_T25 HC4.out (i : Int) hi0 hltz
        cases e1
        have hXX : rd_T25 T.f4 (i : Int) = T.f4.getD i z25 := rfl
        obtain ⟨X, hX⟩ : ∃ X, rd_T25 T.f4 (i : Int) = X := ⟨_, rfl⟩
        rw [hX] at x0 x1 x2 x3 x4 xc3 xc4
        rw [← hXX, hX] at hB
        simp only [Int.toNat_natCast] at x0 x1 x2 x3 x4
        have y0 := cell_later HPi.out.bel x0
        have y1 := cell_later HPi.out.bel x1
        have y2 := cell_later HPi.out.bel x2
        have y3 := cell_later HPi.out.bel x3
        have y4 := cell_later HPi.out.bel x4
        have XC3 := Aside0.mk xc3
        have XC4 := Aside0.mk xc4
        clear x0 x1 x2 x3 x4 xc3 xc4 hXX hX
        have hw1 : wrap64 ((i : Int) + 1) = (i : Int) + 1 := by unfold wrap64; omega
        rw [if_neg (by have := H4.out; omega), Option.bind_some] at hB
        obtain ⟨l2, hl2, hB⟩ := Option.bind_eq_some_iff.mp hB
        have HT2 := Aside0.mk hl2
        have HB2 := Aside0.mk hB
        have hPm := HPT.out m (by have := HKK.out; omega)
        unfold PutC at hPm
        have HPM := Aside0.mk hPm
        clear hB hl2 hPm
        have hz0 : wr.cell? ⟨w.heap.size, 0, none⟩ = some _ := (blk_cell HXi.out.at_ 0).trans rfl
        have hz1 : wr.cell? ⟨w.heap.size, 1, none⟩ = some _ := (blk_cell HXi.out.at_ 1).trans rfl
        have hz2 : wr.cell? ⟨w.heap.size, 2, none⟩ = some _ := (blk_cell HXi.out.at_ 2).trans rfl
        have hz3 : wr.cell? ⟨w.heap.size, 3, none⟩ = some _ := (blk_cell HXi.out.at_ 3).trans rfl
        have hz4 : wr.cell? ⟨w.heap.size, 4, none⟩ = some _ := (blk_cell HXi.out.at_ 4).trans rfl
        go_upto_region 12 with (fail)
        have HXB := Aside0.mk (Bes.new HPi.out (.cells #[.int .i64 X.f0, .int .i64 X.f1, .string X.f2, .slice X3 X.f3.length d3, .slice X4 X.f4.length d4] 25) wr.heap.size rfl)
        have HXa := Aside0.mk (HXi.out.alloc (.cells #[.int .i64 X.f0, .int .i64 X.f1, .string X.f2, .slice X3 X.f3.length d3, .slice X4 X.f4.length d4] 25))
        have HPa := Aside0.mk (HPi.out.alloc (.cells #[.int .i64 X.f0, .int .i64 X.f1, .string X.f2, .slice X3 X.f3.length d3, .slice X4 X.f4.length d4] 25))
        have HAa := Aside0.mk (show ∀ j o, Bes w v j o → Bes (wr.alloc (.cells #[.int .i64 X.f0, .int .i64 X.f1, .string X.f2, .slice X3 X.f3.length d3, .slice X4 X.f4.length d4] 25)) _ j o from fun j o b => (HAi.out j o b).alloc _)
        generalize wr.alloc (.cells #[.int .i64 X.f0, .int .i64 X.f1, .string X.f2, .slice X3 X.f3.length d3, .slice X4 X.f4.length d4] 25) = wX at HXB HXa HPa HAa ⊢
        have hy0 : wX.cell? ⟨w.heap.size, 0, none⟩ = some _ := (blk_cell HXa.out.at_ 0).trans rfl
        have hy1 : wX.cell? ⟨w.heap.size, 1, none⟩ = some _ := (blk_cell HXa.out.at_ 1).trans rfl
        have hy2 : wX.cell? ⟨w.heap.size, 2, none⟩ = some _ := (blk_cell HXa.out.at_ 2).trans rfl
        have hy3 : wX.cell? ⟨w.heap.size, 3, none⟩ = some _ := (blk_cell HXa.out.at_ 3).trans rfl
        have hy4 : wX.cell? ⟨w.heap.size, 4, none⟩ = some _ := (blk_cell HXa.out.at_ 4).trans rfl
        have hx0 : wX.cell? ⟨wr.heap.size, 0, none⟩ = some _ := (blk_cell HXB.out.at_ 0).trans rfl
        have hx1 : wX.cell? ⟨wr.heap.size, 1, none⟩ = some _ := (blk_cell HXB.out.at_ 1).trans rfl
        have hx2 : wX.cell? ⟨wr.heap.size, 2, none⟩ = some _ := (blk_cell HXB.out.at_ 2).trans rfl
        have hx3 : wX.cell? ⟨wr.heap.size, 3, none⟩ = some _ := (blk_cell HXB.out.at_ 3).trans rfl
        have hx4 : wX.cell? ⟨wr.heap.size, 4, none⟩ = some _ := (blk_cell HXB.out.at_ 4).trans rfl
        go_wp2_with ((go_at_call 16; (with_reducible refine (HPM.out _ li l2 X X3 X4 d3 d4 w0 _ HPa.out XC3.out XC4.out HT2.out).mono ?_); rintro e w5 ⟨v5, rfl, hp, hg⟩; have HP5 := Aside0.mk hp; have HX5 := Aside0.mk (Bes.grew HXa.out hg); have HA5 := Aside0.mk (show ∀ j o, Bes w v j o → Bes w5 v5 j o from fun j o b => (HAa.out j o b).grew hg); clear hp hg))
        go_roundg m
        case measure => have := HKG.out; omega
        case rel => exact ⟨i + 1, l2, m, by go_num, Nat.le_refl _, by have := HKK.out; omega, hlt, HB2, HP5, HX5, HA5⟩
      · rw [if_neg hlt] at hB
        have hltz : ¬ (i : Int) < (T.f4.length : Int) := by omega
        by_cases hl9 : li.length + 1 < 140737488355328
        case neg => rw [if_neg hl9] at hB; cases hB
        rw [if_pos hl9] at hB
        have HR := Aside0.mk (Option.some.inj hB)
        have HL9 := Aside0.mk hl9
        clear hB hl9 hlt
        go_wp2_with (((with_reducible refine gate_builtin (b := .append) (xs := #[.tmp 56, .tmp 57]) rfl ?_); at_builtin; obtain ⟨v9, w9, hr, hp, hg, hs⟩ := (HPi.out.alloc (.cells #[.int .u8 101] 5)).one (blk_new wr (.cells #[.int .u8 101] 5)) (by have := HL9.out; omega) 28; refine list_app rfl (.tmp 56) (.tmp 57) 28 28 rfl _ (.slice (some ⟨wr.heap.size, 0, none⟩) 1 1) rfl rfl hr ?_; have HP9 := Aside0.mk hp; have HG9 := Aside0.mk hg; clear hp hg hr hs))
        go_ret
        refine ⟨_, rfl, by rw [← HR.out]; exact HP9.out, grew_by fun j o b => ?_⟩
        exact ((HAi.out j o b).alloc _).grew HG9.out
set_option maxHeartbeats 4000000 in
set_option maxRecDepth 100000 in
theorem bp_list4 (k : Nat) (hPut : ∀ j, j < k → PutC j) (v : Value) (l r : List Int) (T : S25) (A3 A4 : Option Addr) (c3 c4 : Nat) (w0 w : World) (hP : PutS w0 w v l) (hc3 : Kd.string.C w0 A3 T.f3.length T.f3) (hc4 : k25.C w0 A4 T.f4.length T.f4) (h3 : T.f0 = 4) (hl : l.length + 1 < 140737488355328) (h : bp_kids.f k (l ++ [100]) T 0 = some r) :
    Calls Try.prog 16 #[v, .agg #[.int .i64 T.f0, .int .i64 T.f1, .string T.f2, .slice A3 T.f3.length c3, .slice A4 T.f4.length c4]] w fun e w' => ∃ v', e = .returned v' ∧ PutS w0 w' v' r ∧ Grew w w' v v' := by
  have hu25 := Try.underlying25
  have HX0 := Aside0.mk (Bes.new hP (.cells #[.int .i64 T.f0, .int .i64 T.f1, .string T.f2, .slice A3 T.f3.length c3, .slice A4 T.f4.length c4] 25) w.heap.size rfl)
  have HP0 := Aside0.mk (hP.alloc (.cells #[.int .i64 T.f0, .int .i64 T.f1, .string T.f2, .slice A3 T.f3.length c3, .slice A4 T.f4.length c4] 25))
  have HB0 := Aside0.mk (below_alloc (Below.refl w.heap.size w) (.cells #[.int .i64 T.f0, .int .i64 T.f1, .string T.f2, .slice A3 T.f3.length c3, .slice A4 T.f4.length c4] 25))
  have HC3 := Aside0.mk hc3
  have HC4 := Aside0.mk hc4
  have HPT := Aside0.mk hPut
  have HL := Aside0.mk hl
  have HH := Aside0.mk h
  have d1 : (T.f0 == 1) = false := beq_eq_false_iff_ne.mpr (by omega)
  have d2 : (T.f0 == 2) = false := beq_eq_false_iff_ne.mpr (by omega)
  have d3 : (T.f0 == 3) = false := beq_eq_false_iff_ne.mpr (by omega)
  have d4 : (T.f0 == 4) = true := beq_iff_eq.mpr h3
  have H4 := Aside0.mk h3
  clear h h3 hl hP hc3 hc4 hPut
  have bmax : T.f4.length ≤ 9223372036854775807 := Kd.C_max HC4.out
  go_enter Try.func16, Try.ntmps16
  go_upto_region 2 with (fail)
  generalize w.alloc (.cells #[.int .i64 T.f0, .int .i64 T.f1, .string T.f2, .slice A3 T.f3.length c3, .slice A4 T.f4.length c4] 25) = wE at HX0 HP0 HB0 ⊢
  go_upto_region 9 with (((with_reducible refine gate_builtin (b := .append) (xs := #[.tmp 9, .tmp 10]) rfl ?_); at_builtin; obtain ⟨v1, w1, hr, hp, hg, hs⟩ := (HP0.out.alloc (.cells #[.int .u8 100] 5)).one (blk_new wE (.cells #[.int .u8 100] 5)) (by have := HL.out; omega) 28; refine list_app rfl (.tmp 9) (.tmp 10) 28 28 rfl _ (.slice (some ⟨wE.heap.size, 0, none⟩) 1 1) rfl rfl hr ?_; have HP1 := Aside0.mk hp; have HG1 := Aside0.mk hg; clear hp hg hr hs))
  have HX1 := Aside0.mk ((HX0.out.alloc (.cells #[.int .u8 100] 5)).grew HG1.out)
  have HA1 := Aside0.mk (show ∀ j o, Bes w v j o → Bes w1 v1 j o from fun j o b => ((b.below HB0.out).alloc (.cells #[.int .u8 100] 5)).grew HG1.out)
  have hz0 : w1.cell? ⟨w.heap.size, 0, none⟩ = some _ := (blk_cell HX1.out.at_ 0).trans rfl
  have hz1 : w1.cell? ⟨w.heap.size, 1, none⟩ = some _ := (blk_cell HX1.out.at_ 1).trans rfl
  have hz2 : w1.cell? ⟨w.heap.size, 2, none⟩ = some _ := (blk_cell HX1.out.at_ 2).trans rfl
  have hz3 : w1.cell? ⟨w.heap.size, 3, none⟩ = some _ := (blk_cell HX1.out.at_ 3).trans rfl
  have hz4 : w1.cell? ⟨w.heap.size, 4, none⟩ = some _ := (blk_cell HX1.out.at_ 4).trans rfl
  go_wp2
  go_loopg [0, 37] k (fun gg v0 v37 wr => ∃ (i : Nat) (li : List Int) (kk : Nat), v37 = .int .i64 (i : Int) ∧ kk ≤ gg ∧ kk ≤ k ∧ i ≤ T.f4.length ∧ Aside0 (bp_kids.f kk li T i = some r) ∧ Aside0 (PutS w0 wr v0 li) ∧ Aside0 (Bes wr v0 w.heap.size (.cells #[.int .i64 T.f0, .int .i64 T.f1, .string T.f2, .slice A3 T.f3.length c3, .slice A4 T.f4.length c4] 25)) ∧ Aside0 (∀ j o, Bes w v j o → Bes wr v0 j o))
  case atStart => exact ⟨0, _, k, rfl, Nat.le_refl _, Nat.le_refl _, Nat.zero_le _, HH, HP1, HX1, HA1⟩
  case round =>
    obtain ⟨i, li, kk, rfl, hkg, hkk, hil, HK, HPi, HXi, HAi⟩ := hrel
    cases kk with
    | zero => exact absurd HK.out (by simp [bp_kids.f])
    | succ m =>
      have hB := HK.out
      rw [bp_kids.f] at hB
      have HKK := Aside0.mk hkk
      have HKG := Aside0.mk hkg
      clear HK hkk hkg
      by_cases hlt : i < T.f4.length
      · rw [if_pos hlt] at hB
        have hltz : (i : Int) < (T.f4.length : Int) := by omega
        have hi0 : (0 : Int) ≤ (i : Int) := by omega
        obtain ⟨ad, X3, d3, X4, d4, e1, x0, x1, x2, x3, x4, _, xc3, _, xc4⟩ := at_T25 HC4.out (i : Int) hi0 hltz
        cases e1
        have hXX : rd_T25 T.f4 (i : Int) = T.f4.getD i z25 := rfl
        obtain ⟨X, hX⟩ : ∃ X, rd_T25 T.f4 (i : Int) = X := ⟨_, rfl⟩
        rw [hX] at x0 x1 x2 x3 x4 xc3 xc4
        rw [← hXX, hX] at hB
        simp only [Int.toNat_natCast] at x0 x1 x2 x3 x4
        have y0 := cell_later HPi.out.bel x0
        have y1 := cell_later HPi.out.bel x1
        have y2 := cell_later HPi.out.bel x2
        have y3 := cell_later HPi.out.bel x3
        have y4 := cell_later HPi.out.bel x4
        have XC3 := Aside0.mk xc3
        have XC4 := Aside0.mk xc4
        clear x0 x1 x2 x3 x4 xc3 xc4 hXX hX
        have hw1 : wrap64 ((i : Int) + 1) = (i : Int) + 1 := by unfold wrap64; omega
        rw [if_pos H4.out] at hB
        obtain ⟨l1, hl1, hB⟩ := Option.bind_eq_some_iff.mp hB
        by_cases hk3 : i < T.f3.length
        case neg => rw [if_neg hk3] at hl1; cases hl1
        rw [if_pos hk3] at hl1
        have hk3z : (i : Int) < (T.f3.length : Int) := by omega
        have hrd : ReadsOf Value.string (⟨#[]⟩ : ByteArray) w0 A3 T.f3.length T.f3 := Kd.reads_of_C (h1 := fun _ => rfl) HC3.out
        obtain ⟨ad3, e3, hk⟩ := hrd.2.2 (by omega)
        cases e3
        have hkc := hk i hk3
        obtain ⟨key, hkey⟩ : ∃ s, T.f3.getD i (⟨#[]⟩ : ByteArray) = s := ⟨_, rfl⟩
        rw [hkey] at hkc hl1
        have HT1 := Aside0.mk hl1
        clear hl1 hrd hk hk3 hkey
        obtain ⟨l2, hl2, hB⟩ := Option.bind_eq_some_iff.mp hB
        have HT2 := Aside0.mk hl2
        have HB2 := Aside0.mk hB
        have hPm := HPT.out m (by have := HKK.out; omega)
        unfold PutC at hPm
        have HPM := Aside0.mk hPm
        clear hB hl2 hPm
        have hz0 : wr.cell? ⟨w.heap.size, 0, none⟩ = some _ := (blk_cell HXi.out.at_ 0).trans rfl
        have hz1 : wr.cell? ⟨w.heap.size, 1, none⟩ = some _ := (blk_cell HXi.out.at_ 1).trans rfl
        have hz2 : wr.cell? ⟨w.heap.size, 2, none⟩ = some _ := (blk_cell HXi.out.at_ 2).trans rfl
        have hz3 : wr.cell? ⟨w.heap.size, 3, none⟩ = some _ := (blk_cell HXi.out.at_ 3).trans rfl
        have hz4 : wr.cell? ⟨w.heap.size, 4, none⟩ = some _ := (blk_cell HXi.out.at_ 4).trans rfl
        go_upto_region 12 with (fail)
        have HXB := Aside0.mk (Bes.new HPi.out (.cells #[.int .i64 X.f0, .int .i64 X.f1, .string X.f2, .slice X3 X.f3.length d3, .slice X4 X.f4.length d4] 25) wr.heap.size rfl)
        have HXa := Aside0.mk (HXi.out.alloc (.cells #[.int .i64 X.f0, .int .i64 X.f1, .string X.f2, .slice X3 X.f3.length d3, .slice X4 X.f4.length d4] 25))
        have HPa := Aside0.mk (HPi.out.alloc (.cells #[.int .i64 X.f0, .int .i64 X.f1, .string X.f2, .slice X3 X.f3.length d3, .slice X4 X.f4.length d4] 25))
        have HAa := Aside0.mk (show ∀ j o, Bes w v j o → Bes (wr.alloc (.cells #[.int .i64 X.f0, .int .i64 X.f1, .string X.f2, .slice X3 X.f3.length d3, .slice X4 X.f4.length d4] 25)) _ j o from fun j o b => (HAi.out j o b).alloc _)
        generalize wr.alloc (.cells #[.int .i64 X.f0, .int .i64 X.f1, .string X.f2, .slice X3 X.f3.length d3, .slice X4 X.f4.length d4] 25) = wX at HXB HXa HPa HAa ⊢
        have hy0 : wX.cell? ⟨w.heap.size, 0, none⟩ = some _ := (blk_cell HXa.out.at_ 0).trans rfl
        have hy1 : wX.cell? ⟨w.heap.size, 1, none⟩ = some _ := (blk_cell HXa.out.at_ 1).trans rfl
        have hy2 : wX.cell? ⟨w.heap.size, 2, none⟩ = some _ := (blk_cell HXa.out.at_ 2).trans rfl
        have hy3 : wX.cell? ⟨w.heap.size, 3, none⟩ = some _ := (blk_cell HXa.out.at_ 3).trans rfl
        have hy4 : wX.cell? ⟨w.heap.size, 4, none⟩ = some _ := (blk_cell HXa.out.at_ 4).trans rfl
        have hx0 : wX.cell? ⟨wr.heap.size, 0, none⟩ = some _ := (blk_cell HXB.out.at_ 0).trans rfl
        have hx1 : wX.cell? ⟨wr.heap.size, 1, none⟩ = some _ := (blk_cell HXB.out.at_ 1).trans rfl
        have hx2 : wX.cell? ⟨wr.heap.size, 2, none⟩ = some _ := (blk_cell HXB.out.at_ 2).trans rfl
        have hx3 : wX.cell? ⟨wr.heap.size, 3, none⟩ = some _ := (blk_cell HXB.out.at_ 3).trans rfl
        have hx4 : wX.cell? ⟨wr.heap.size, 4, none⟩ = some _ := (blk_cell HXB.out.at_ 4).trans rfl
        have hkx := cell_later HPa.out.bel hkc
        clear hkc
        go_wp2_with (first | (go_at_call 24; (with_reducible refine (bt_text.calls _ li l1 _ w0 _ HPa.out HT1.out).mono ?_); rintro e w4 ⟨v4, rfl, hp, hg⟩; have HP4 := Aside0.mk hp; have HX4 := Aside0.mk (HXa.out.grew hg); have HXC := Aside0.mk (HXB.out.grew hg); have HA4 := Aside0.mk (show ∀ j o, Bes w v j o → Bes w4 v4 j o from fun j o b => (HAa.out j o b).grew hg); have hw0 : w4.cell? ⟨wr.heap.size, 0, none⟩ = some _ := (blk_cell HXC.out.at_ 0).trans rfl; have hw1 : w4.cell? ⟨wr.heap.size, 1, none⟩ = some _ := (blk_cell HXC.out.at_ 1).trans rfl; have hw2 : w4.cell? ⟨wr.heap.size, 2, none⟩ = some _ := (blk_cell HXC.out.at_ 2).trans rfl; have hw3 : w4.cell? ⟨wr.heap.size, 3, none⟩ = some _ := (blk_cell HXC.out.at_ 3).trans rfl; have hw4 : w4.cell? ⟨wr.heap.size, 4, none⟩ = some _ := (blk_cell HXC.out.at_ 4).trans rfl; clear hp hg) | (go_at_call 16; (with_reducible refine (HPM.out _ l1 l2 X X3 X4 d3 d4 w0 _ HP4.out XC3.out XC4.out HT2.out).mono ?_); rintro e w5 ⟨v5, rfl, hp, hg⟩; have HP5 := Aside0.mk hp; have HX5 := Aside0.mk (Bes.grew HX4.out hg); have HA5 := Aside0.mk (show ∀ j o, Bes w v j o → Bes w5 v5 j o from fun j o b => (HA4.out j o b).grew hg); clear hp hg))
        go_roundg m
        case measure => have := HKG.out; omega
        case rel => exact ⟨i + 1, l2, m, by go_num, Nat.le_refl _, by have := HKK.out; omega, hlt, HB2, HP5, HX5, HA5⟩
      · rw [if_neg hlt] at hB
        have hltz : ¬ (i : Int) < (T.f4.length : Int) := by omega
        by_cases hl9 : li.length + 1 < 140737488355328
        case neg => rw [if_neg hl9] at hB; cases hB
        rw [if_pos hl9] at hB
        have HR := Aside0.mk (Option.some.inj hB)
        have HL9 := Aside0.mk hl9
        clear hB hl9 hlt
        go_wp2_with (((with_reducible refine gate_builtin (b := .append) (xs := #[.tmp 56, .tmp 57]) rfl ?_); at_builtin; obtain ⟨v9, w9, hr, hp, hg, hs⟩ := (HPi.out.alloc (.cells #[.int .u8 101] 5)).one (blk_new wr (.cells #[.int .u8 101] 5)) (by have := HL9.out; omega) 28; refine list_app rfl (.tmp 56) (.tmp 57) 28 28 rfl _ (.slice (some ⟨wr.heap.size, 0, none⟩) 1 1) rfl rfl hr ?_; have HP9 := Aside0.mk hp; have HG9 := Aside0.mk hg; clear hp hg hr hs))
        go_ret
        refine ⟨_, rfl, by rw [← HR.out]; exact HP9.out, grew_by fun j o b => ?_⟩
        exact ((HAi.out j o b).alloc _).grew HG9.out
set_option maxHeartbeats 4000000 in
set_option maxRecDepth 100000 in
theorem bp_listX (k : Nat) (hPut : ∀ j, j < k → PutC j) (v : Value) (l r : List Int) (T : S25) (A3 A4 : Option Addr) (c3 c4 : Nat) (w0 w : World) (hP : PutS w0 w v l) (hc3 : Kd.string.C w0 A3 T.f3.length T.f3) (hc4 : k25.C w0 A4 T.f4.length T.f4) (h1 : ¬ T.f0 = 1) (h2 : ¬ T.f0 = 2) (h3 : ¬ T.f0 = 3) (h4 : ¬ T.f0 = 4) (hl : l.length + 1 < 140737488355328) (h : bp_kids.f k (l ++ [100]) T 0 = some r) :
    Calls Try.prog 16 #[v, .agg #[.int .i64 T.f0, .int .i64 T.f1, .string T.f2, .slice A3 T.f3.length c3, .slice A4 T.f4.length c4]] w fun e w' => ∃ v', e = .returned v' ∧ PutS w0 w' v' r ∧ Grew w w' v v' := by
  have hu25 := Try.underlying25
  have HX0 := Aside0.mk (Bes.new hP (.cells #[.int .i64 T.f0, .int .i64 T.f1, .string T.f2, .slice A3 T.f3.length c3, .slice A4 T.f4.length c4] 25) w.heap.size rfl)
  have HP0 := Aside0.mk (hP.alloc (.cells #[.int .i64 T.f0, .int .i64 T.f1, .string T.f2, .slice A3 T.f3.length c3, .slice A4 T.f4.length c4] 25))
  have HB0 := Aside0.mk (below_alloc (Below.refl w.heap.size w) (.cells #[.int .i64 T.f0, .int .i64 T.f1, .string T.f2, .slice A3 T.f3.length c3, .slice A4 T.f4.length c4] 25))
  have HC3 := Aside0.mk hc3
  have HC4 := Aside0.mk hc4
  have HPT := Aside0.mk hPut
  have HL := Aside0.mk hl
  have HH := Aside0.mk h
  have d1 : (T.f0 == 1) = false := beq_eq_false_iff_ne.mpr h1
  have d2 : (T.f0 == 2) = false := beq_eq_false_iff_ne.mpr h2
  have d3 : (T.f0 == 3) = false := beq_eq_false_iff_ne.mpr h3
  have d4 : (T.f0 == 4) = false := beq_eq_false_iff_ne.mpr h4
  have H4 := Aside0.mk h4
  clear h1 h2 h4
  clear h h3 hl hP hc3 hc4 hPut
  have bmax : T.f4.length ≤ 9223372036854775807 := Kd.C_max HC4.out
  go_enter Try.func16, Try.ntmps16
  go_upto_region 2 with (fail)
  generalize w.alloc (.cells #[.int .i64 T.f0, .int .i64 T.f1, .string T.f2, .slice A3 T.f3.length c3, .slice A4 T.f4.length c4] 25) = wE at HX0 HP0 HB0 ⊢
  go_upto_region 9 with (((with_reducible refine gate_builtin (b := .append) (xs := #[.tmp 9, .tmp 10]) rfl ?_); at_builtin; obtain ⟨v1, w1, hr, hp, hg, hs⟩ := (HP0.out.alloc (.cells #[.int .u8 100] 5)).one (blk_new wE (.cells #[.int .u8 100] 5)) (by have := HL.out; omega) 28; refine list_app rfl (.tmp 9) (.tmp 10) 28 28 rfl _ (.slice (some ⟨wE.heap.size, 0, none⟩) 1 1) rfl rfl hr ?_; have HP1 := Aside0.mk hp; have HG1 := Aside0.mk hg; clear hp hg hr hs))
  have HX1 := Aside0.mk ((HX0.out.alloc (.cells #[.int .u8 100] 5)).grew HG1.out)
  have HA1 := Aside0.mk (show ∀ j o, Bes w v j o → Bes w1 v1 j o from fun j o b => ((b.below HB0.out).alloc (.cells #[.int .u8 100] 5)).grew HG1.out)
  have hz0 : w1.cell? ⟨w.heap.size, 0, none⟩ = some _ := (blk_cell HX1.out.at_ 0).trans rfl
  have hz1 : w1.cell? ⟨w.heap.size, 1, none⟩ = some _ := (blk_cell HX1.out.at_ 1).trans rfl
  have hz2 : w1.cell? ⟨w.heap.size, 2, none⟩ = some _ := (blk_cell HX1.out.at_ 2).trans rfl
  have hz3 : w1.cell? ⟨w.heap.size, 3, none⟩ = some _ := (blk_cell HX1.out.at_ 3).trans rfl
  have hz4 : w1.cell? ⟨w.heap.size, 4, none⟩ = some _ := (blk_cell HX1.out.at_ 4).trans rfl
  go_wp2
  go_loopg [0, 37] k (fun gg v0 v37 wr => ∃ (i : Nat) (li : List Int) (kk : Nat), v37 = .int .i64 (i : Int) ∧ kk ≤ gg ∧ kk ≤ k ∧ i ≤ T.f4.length ∧ Aside0 (bp_kids.f kk li T i = some r) ∧ Aside0 (PutS w0 wr v0 li) ∧ Aside0 (Bes wr v0 w.heap.size (.cells #[.int .i64 T.f0, .int .i64 T.f1, .string T.f2, .slice A3 T.f3.length c3, .slice A4 T.f4.length c4] 25)) ∧ Aside0 (∀ j o, Bes w v j o → Bes wr v0 j o))
  case atStart => exact ⟨0, _, k, rfl, Nat.le_refl _, Nat.le_refl _, Nat.zero_le _, HH, HP1, HX1, HA1⟩
  case round =>
    obtain ⟨i, li, kk, rfl, hkg, hkk, hil, HK, HPi, HXi, HAi⟩ := hrel
    cases kk with
    | zero => exact absurd HK.out (by simp [bp_kids.f])
    | succ m =>
      have hB := HK.out
      rw [bp_kids.f] at hB
      have HKK := Aside0.mk hkk
      have HKG := Aside0.mk hkg
      clear HK hkk hkg
      by_cases hlt : i < T.f4.length
      · rw [if_pos hlt] at hB
        have hltz : (i : Int) < (T.f4.length : Int) := by omega
        have hi0 : (0 : Int) ≤ (i : Int) := by omega
        obtain ⟨ad, X3, d3, X4, d4, e1, x0, x1, x2, x3, x4, _, xc3, _, xc4⟩ := at_T25 HC4.out (i : Int) hi0 hltz
        cases e1
        have hXX : rd_T25 T.f4 (i : Int) = T.f4.getD i z25 := rfl
        obtain ⟨X, hX⟩ : ∃ X, rd_T25 T.f4 (i : Int) = X := ⟨_, rfl⟩
        rw [hX] at x0 x1 x2 x3 x4 xc3 xc4
        rw [← hXX, hX] at hB
        simp only [Int.toNat_natCast] at x0 x1 x2 x3 x4
        have y0 := cell_later HPi.out.bel x0
        have y1 := cell_later HPi.out.bel x1
        have y2 := cell_later HPi.out.bel x2
        have y3 := cell_later HPi.out.bel x3
        have y4 := cell_later HPi.out.bel x4
        have XC3 := Aside0.mk xc3
        have XC4 := Aside0.mk xc4
        clear x0 x1 x2 x3 x4 xc3 xc4 hXX hX
        have hw1 : wrap64 ((i : Int) + 1) = (i : Int) + 1 := by unfold wrap64; omega
        rw [if_neg (by have := H4.out; omega), Option.bind_some] at hB
        obtain ⟨l2, hl2, hB⟩ := Option.bind_eq_some_iff.mp hB
        have HT2 := Aside0.mk hl2
        have HB2 := Aside0.mk hB
        have hPm := HPT.out m (by have := HKK.out; omega)
        unfold PutC at hPm
        have HPM := Aside0.mk hPm
        clear hB hl2 hPm
        have hz0 : wr.cell? ⟨w.heap.size, 0, none⟩ = some _ := (blk_cell HXi.out.at_ 0).trans rfl
        have hz1 : wr.cell? ⟨w.heap.size, 1, none⟩ = some _ := (blk_cell HXi.out.at_ 1).trans rfl
        have hz2 : wr.cell? ⟨w.heap.size, 2, none⟩ = some _ := (blk_cell HXi.out.at_ 2).trans rfl
        have hz3 : wr.cell? ⟨w.heap.size, 3, none⟩ = some _ := (blk_cell HXi.out.at_ 3).trans rfl
        have hz4 : wr.cell? ⟨w.heap.size, 4, none⟩ = some _ := (blk_cell HXi.out.at_ 4).trans rfl
        go_upto_region 12 with (fail)
        have HXB := Aside0.mk (Bes.new HPi.out (.cells #[.int .i64 X.f0, .int .i64 X.f1, .string X.f2, .slice X3 X.f3.length d3, .slice X4 X.f4.length d4] 25) wr.heap.size rfl)
        have HXa := Aside0.mk (HXi.out.alloc (.cells #[.int .i64 X.f0, .int .i64 X.f1, .string X.f2, .slice X3 X.f3.length d3, .slice X4 X.f4.length d4] 25))
        have HPa := Aside0.mk (HPi.out.alloc (.cells #[.int .i64 X.f0, .int .i64 X.f1, .string X.f2, .slice X3 X.f3.length d3, .slice X4 X.f4.length d4] 25))
        have HAa := Aside0.mk (show ∀ j o, Bes w v j o → Bes (wr.alloc (.cells #[.int .i64 X.f0, .int .i64 X.f1, .string X.f2, .slice X3 X.f3.length d3, .slice X4 X.f4.length d4] 25)) _ j o from fun j o b => (HAi.out j o b).alloc _)
        generalize wr.alloc (.cells #[.int .i64 X.f0, .int .i64 X.f1, .string X.f2, .slice X3 X.f3.length d3, .slice X4 X.f4.length d4] 25) = wX at HXB HXa HPa HAa ⊢
        have hy0 : wX.cell? ⟨w.heap.size, 0, none⟩ = some _ := (blk_cell HXa.out.at_ 0).trans rfl
        have hy1 : wX.cell? ⟨w.heap.size, 1, none⟩ = some _ := (blk_cell HXa.out.at_ 1).trans rfl
        have hy2 : wX.cell? ⟨w.heap.size, 2, none⟩ = some _ := (blk_cell HXa.out.at_ 2).trans rfl
        have hy3 : wX.cell? ⟨w.heap.size, 3, none⟩ = some _ := (blk_cell HXa.out.at_ 3).trans rfl
        have hy4 : wX.cell? ⟨w.heap.size, 4, none⟩ = some _ := (blk_cell HXa.out.at_ 4).trans rfl
        have hx0 : wX.cell? ⟨wr.heap.size, 0, none⟩ = some _ := (blk_cell HXB.out.at_ 0).trans rfl
        have hx1 : wX.cell? ⟨wr.heap.size, 1, none⟩ = some _ := (blk_cell HXB.out.at_ 1).trans rfl
        have hx2 : wX.cell? ⟨wr.heap.size, 2, none⟩ = some _ := (blk_cell HXB.out.at_ 2).trans rfl
        have hx3 : wX.cell? ⟨wr.heap.size, 3, none⟩ = some _ := (blk_cell HXB.out.at_ 3).trans rfl
        have hx4 : wX.cell? ⟨wr.heap.size, 4, none⟩ = some _ := (blk_cell HXB.out.at_ 4).trans rfl
        go_wp2_with ((go_at_call 16; (with_reducible refine (HPM.out _ li l2 X X3 X4 d3 d4 w0 _ HPa.out XC3.out XC4.out HT2.out).mono ?_); rintro e w5 ⟨v5, rfl, hp, hg⟩; have HP5 := Aside0.mk hp; have HX5 := Aside0.mk (Bes.grew HXa.out hg); have HA5 := Aside0.mk (show ∀ j o, Bes w v j o → Bes w5 v5 j o from fun j o b => (HAa.out j o b).grew hg); clear hp hg))
        go_roundg m
        case measure => have := HKG.out; omega
        case rel => exact ⟨i + 1, l2, m, by go_num, Nat.le_refl _, by have := HKK.out; omega, hlt, HB2, HP5, HX5, HA5⟩
      · rw [if_neg hlt] at hB
        have hltz : ¬ (i : Int) < (T.f4.length : Int) := by omega
        by_cases hl9 : li.length + 1 < 140737488355328
        case neg => rw [if_neg hl9] at hB; cases hB
        rw [if_pos hl9] at hB
        have HR := Aside0.mk (Option.some.inj hB)
        have HL9 := Aside0.mk hl9
        clear hB hl9 hlt
        go_wp2_with (((with_reducible refine gate_builtin (b := .append) (xs := #[.tmp 56, .tmp 57]) rfl ?_); at_builtin; obtain ⟨v9, w9, hr, hp, hg, hs⟩ := (HPi.out.alloc (.cells #[.int .u8 101] 5)).one (blk_new wr (.cells #[.int .u8 101] 5)) (by have := HL9.out; omega) 28; refine list_app rfl (.tmp 56) (.tmp 57) 28 28 rfl _ (.slice (some ⟨wr.heap.size, 0, none⟩) 1 1) rfl rfl hr ?_; have HP9 := Aside0.mk hp; have HG9 := Aside0.mk hg; clear hp hg hr hs))
        go_ret
        refine ⟨_, rfl, by rw [← HR.out]; exact HP9.out, grew_by fun j o b => ?_⟩
        exact ((HAi.out j o b).alloc _).grew HG9.out
theorem put_of (k : Nat) (hP : ∀ j, j < k → PutC j) : PutC k := by
  intro v l r T A3 A4 c3 c4 w0 w hp hc3 hc4 h
  cases k with
  | zero => exact absurd h (by simp [bp_put.f])
  | succ k =>
    have hP' : ∀ j, j < k → PutC j := fun j hj => hP j (by omega)
    rw [bp_put.f] at h
    by_cases h1 : T.f0 = 1
    · rw [if_pos h1] at h
      obtain ⟨t, ht, h⟩ := Option.bind_eq_some_iff.mp h
      by_cases hl : l.length + t.size + 2 < 140737488355328
      · rw [if_pos hl] at h
        obtain rfl := Option.some.inj h
        exact bp_int v l T A3 A4 c3 c4 t w0 w hp h1 ht hl
      · rw [if_neg hl] at h; cases h
    rw [if_neg h1] at h
    by_cases h2 : T.f0 = 2
    · rw [if_pos h2] at h
      exact bp_text k hP' v l r T A3 A4 c3 c4 w0 w hp hc3 hc4 h2 h
    rw [if_neg h2] at h
    by_cases hl : l.length + 1 < 140737488355328
    case neg => rw [if_neg hl] at h; cases h
    rw [if_pos hl] at h
    by_cases h3 : T.f0 = 3
    · rw [if_pos h3] at h
      exact bp_list3 k hP' v l r T A3 A4 c3 c4 w0 w hp hc3 hc4 h3 hl h
    rw [if_neg h3] at h
    by_cases h4 : T.f0 = 4
    · exact bp_list4 k hP' v l r T A3 A4 c3 c4 w0 w hp hc3 hc4 h4 hl h
    · exact bp_listX k hP' v l r T A3 A4 c3 c4 w0 w hp hc3 hc4 h1 h2 h3 h4 hl h
theorem putC_all (k : Nat) : PutC k := by
  have key : ∀ n j, j < n → PutC j := by
    intro n
    induction n with
    | zero => intro j hj; omega
    | succ n ih => intro j hj; exact put_of j (fun i hi => ih i (by omega))
  exact key (k + 1) k (by omega)
theorem putC_all' (k : Nat) : ∀ (v : Value) (l r : List Int) (T : S25) (A3 A4 : Option Addr) (c3 c4 : Nat) (w0 w : World), PutS w0 w v l → Kd.string.C w0 A3 T.f3.length T.f3 → k25.C w0 A4 T.f4.length T.f4 → bp_put.f k l T = some r →
    Calls Try.prog 16 #[v, .agg #[.int .i64 T.f0, .int .i64 T.f1, .string T.f2, .slice A3 T.f3.length c3, .slice A4 T.f4.length c4]] w fun e w' => ∃ v', e = .returned v' ∧ PutS w0 w' v' r ∧ Grew w w' v v' := putC_all k
def ben_Print.f (k : Nat) (T : S25) : Option (List Int × Int) := (tree_Right.f k T.f0 T.f1 T.f2 T.f3 T.f4).bind fun e => if e = 0 then (bp_put.f k [] T).bind fun r => some (r, 0) else some ([], e)
set_option maxHeartbeats 2000000 in
set_option maxRecDepth 100000 in
theorem ben_Print.calls (k : Nat) (T : S25) (A3 A4 : Option Addr) (c3 c4 : Nat) (r : List Int) (e0 : Int) (w : World) (hr3 : Kd.string.C w A3 T.f3.length T.f3) (hc3 : T.f3.length ≤ c3) (hr4 : k25.C w A4 T.f4.length T.f4) (hc4 : T.f4.length ≤ c4) (h : ben_Print.f k T = some (r, e0)) :
    Calls Try.prog 9 #[.agg #[.int .i64 T.f0, .int .i64 T.f1, .string T.f2, .slice A3 T.f3.length c3, .slice A4 T.f4.length c4]] w fun e w' => ∃ v, e = .returned (.tuple #[v, .int .i64 e0]) ∧ PutS w w' v r := by
  have hu25 := Try.underlying25
  obtain ⟨e1, h1, h⟩ := Option.bind_eq_some_iff.mp h
  have H1 := Aside0.mk h1
  have HB0 := Aside0.mk (below_alloc (Below.refl w.heap.size w) (.cells #[.int .i64 T.f0, .int .i64 T.f1, .string T.f2, .slice A3 T.f3.length c3, .slice A4 T.f4.length c4] 25))
  have HN0 := Aside0.mk (blk_new w (.cells #[.int .i64 T.f0, .int .i64 T.f1, .string T.f2, .slice A3 T.f3.length c3, .slice A4 T.f4.length c4] 25))
  have HR3 := Aside0.mk hr3
  have HC3 := Aside0.mk hc3
  have HR4 := Aside0.mk hr4
  have HC4 := Aside0.mk hc4
  by_cases h2 : e1 = 0
  · rw [if_pos h2] at h
    obtain ⟨r1, hr1, h⟩ := Option.bind_eq_some_iff.mp h
    have HP := Aside0.mk hr1
    obtain ⟨h7, h8⟩ : r1 = r ∧ (0 : Int) = e0 := by simpa using h
    subst h7 h8
    have d1 : (e1 != 0) = false := bne_eq_false_iff_eq.mpr h2
    clear h h1 h2 hr1 hr3 hc3 hr4 hc4
    go_enter Try.func9, Try.ntmps9
    go_wp2_with (first | (go_at_call 15; (with_reducible refine (tree_Right.calls k T.f0 T.f1 T.f2 A3 c3 T.f3 A4 c4 T.f4 e1 _ (Kd.C_below HR3.out HB0.out) HC3.out (Kd.C_below HR4.out HB0.out) HC4.out H1.out).mono ?_); rintro e w1 ⟨rfl, hb⟩; have HB1 := Aside0.mk (below_step HB0.out hb); have HN1 := Aside0.mk (blk_below HN0.out hb); have hz0 : w1.cell? ⟨w.heap.size, 0, none⟩ = some _ := (blk_cell HN1.out 0).trans rfl; have hz1 : w1.cell? ⟨w.heap.size, 1, none⟩ = some _ := (blk_cell HN1.out 1).trans rfl; have hz2 : w1.cell? ⟨w.heap.size, 2, none⟩ = some _ := (blk_cell HN1.out 2).trans rfl; have hz3 : w1.cell? ⟨w.heap.size, 3, none⟩ = some _ := (blk_cell HN1.out 3).trans rfl; have hz4 : w1.cell? ⟨w.heap.size, 4, none⟩ = some _ := (blk_cell HN1.out 4).trans rfl; clear hb) | (go_at_call 16; (with_reducible refine (putC_all' k (.slice none 0 0) [] r1 T A3 A4 c3 c4 w _ ⟨own_nil _ _ _ _, HB1.out⟩ HR3.out HR4.out HP.out).mono ?_); rintro e w2 ⟨v2, rfl, hp, hg⟩; have HP2 := Aside0.mk hp; clear hp hg))
    go_ret2
    exact ⟨_, rfl, HP2.out⟩
  · rw [if_neg h2] at h
    obtain ⟨h7, h8⟩ : [] = r ∧ e1 = e0 := by simpa using h
    subst h7 h8
    have d1 : (e1 != 0) = true := bne_iff_ne.mpr h2
    clear h h1 h2 hr3 hc3 hr4 hc4
    go_enter Try.func9, Try.ntmps9
    go_wp2_with (go_at_call 15; (with_reducible refine (tree_Right.calls k T.f0 T.f1 T.f2 A3 c3 T.f3 A4 c4 T.f4 e1 _ (Kd.C_below HR3.out HB0.out) HC3.out (Kd.C_below HR4.out HB0.out) HC4.out H1.out).mono ?_); rintro e w1 ⟨rfl, hb⟩; have HB1 := Aside0.mk (below_step HB0.out hb); clear hb)
    go_ret2
    exact ⟨_, rfl, ⟨own_nil _ _ _ _, HB1.out⟩⟩

/-! ### tree_Int: function 29 -/
def tree_Int.f (a0 : Int) : Option (Int × Int × ByteArray × List ByteArray × (List (S25))) := some (1, a0, (⟨#[]⟩ : ByteArray), ([] : List ByteArray), ([] : List (S25)))
set_option maxHeartbeats 3000000 in
set_option maxRecDepth 100000 in
theorem tree_Int.calls (a0 : Int) (r1 : Int) (r2 : Int) (r3 : ByteArray) (r4 : List ByteArray) (r5 : List (S25)) (w : World) (h : tree_Int.f a0 = some (r1, r2, r3, r4, r5)) :
    Calls Try.prog 29 #[.int .i64 a0] w fun e w' => ∃ v3_ v4_ : Value, e = .returned (.agg #[.int .i64 r1, .int .i64 r2, .string r3, v3_, v4_]) ∧ Kd.R Kd.string 9 w' w.heap.size (fun _ => True) v3_ r4 ∧ Kd.R k25 25 w' w.heap.size (fun k_ => some k_ ≠ (v3_ : Value).ownBlock) v4_ r5 ∧ Below w.heap.size w w' := by
  have hu25 := Try.underlying25
  have HB := Aside0.mk (Below.refl w.heap.size w)
  have H : (some (1, a0, (⟨#[]⟩ : ByteArray), ([] : List ByteArray), ([] : List (S25)))) = some (r1, r2, r3, r4, r5) := h
  clear h
  simp only [Option.some.injEq, Prod.mk.injEq] at H
  obtain ⟨rfl, rfl, rfl, rfl, rfl⟩ := H
  go_enter Try.func29, Try.ntmps29
  go_wp2_with (first | ((with_reducible refine gate_dst (N := 2) rfl ?_); refine box_event ?hg (N := 2) ?hd (cs := #[.int .i64 0, .int .i64 0, .string (⟨#[]⟩ : ByteArray), .slice none 0 0, .slice none 0 0]) (t := 25) ?hr ?_; (case hd => rfl); (case hg => rfl); (case hr => first | (go_simp; done) | (go_simp; rfl)); intro gb123 hg w2 hbox hb; have n0_ := Aside0.mk (below_step (by repeat (first | (with_reducible first | exact HB.out | apply below_alloc | apply pw_below_drewN | apply below_drew1) | exact HB.out)) hb); have n1_ := Aside0.mk (hbox); have n2_ := Aside0.mk ((by rw [hg]; exact (below_size (by repeat (first | (with_reducible first | exact HB.out | apply below_alloc | apply pw_below_drewN | apply below_drew1) | exact HB.out))) : w.heap.size ≤ gb123)); have n3_ := Aside0.mk ((by rw [hg]; exact (below_size (by repeat (first | (with_reducible first | exact HB.out | apply below_alloc | apply pw_below_drewN | apply below_drew1) | exact HB.out))) : w.heap.size ≤ gb123)); clear HB; have HB := n0_; have BK123 := n1_; have GW123 := n2_; have GE123 := n3_; clear n0_ n1_ n2_ n3_; clear hb hbox hg; have hcz3_0 : w2.cell? ⟨gb123, 0, none⟩ = some (.int .i64 0) := (blk_cell BK123.out 0).trans rfl; have hcz3_1 : w2.cell? ⟨gb123, 1, none⟩ = some (.int .i64 0) := (blk_cell BK123.out 1).trans rfl; have hcz3_2 : w2.cell? ⟨gb123, 2, none⟩ = some (.string (⟨#[]⟩ : ByteArray)) := (blk_cell BK123.out 2).trans rfl; have hcz3_3 : w2.cell? ⟨gb123, 3, none⟩ = some (.slice none 0 0) := (blk_cell BK123.out 3).trans rfl; have hcz3_4 : w2.cell? ⟨gb123, 4, none⟩ = some (.slice none 0 0) := (blk_cell BK123.out 4).trans rfl; have hfz3_0 := blk_frozen BK123.out 0; have hfz3_1 := blk_frozen BK123.out 1; have hfz3_2 := blk_frozen BK123.out 2; have hfz3_3 := blk_frozen BK123.out 3; have hfz3_4 := blk_frozen BK123.out 4))
  refine bodyPost_ret (results_cell_row rfl _ _ gb123 25 #[.int .i64 1, .int .i64 a0, .string (⟨#[]⟩ : ByteArray), .slice none 0 0, .slice none 0 0] (0, 0) _ rfl (by (with_reducible repeat (first | refine blk_drewN ?_ _ | refine blk_drew ?_ | refine blk_alloc ?_ _)); refine blk_put (cs := #[.int .i64 1, .int .i64 a0, .string (⟨#[]⟩ : ByteArray), .slice none 0 0, .slice none 0 0]) ?_ 4 _ rfl; (with_reducible repeat (first | refine blk_drewN ?_ _ | refine blk_drew ?_ | refine blk_alloc ?_ _)); refine blk_put (cs := #[.int .i64 1, .int .i64 a0, .string (⟨#[]⟩ : ByteArray), .slice none 0 0, .slice none 0 0]) ?_ 3 _ rfl; (with_reducible repeat (first | refine blk_drewN ?_ _ | refine blk_drew ?_ | refine blk_alloc ?_ _)); refine blk_put (cs := #[.int .i64 1, .int .i64 a0, .string (⟨#[]⟩ : ByteArray), .slice none 0 0, .slice none 0 0]) ?_ 2 _ rfl; (with_reducible repeat (first | refine blk_drewN ?_ _ | refine blk_drew ?_ | refine blk_alloc ?_ _)); refine blk_put (cs := #[.int .i64 1, .int .i64 0, .string (⟨#[]⟩ : ByteArray), .slice none 0 0, .slice none 0 0]) ?_ 1 _ rfl; (with_reducible repeat (first | refine blk_drewN ?_ _ | refine blk_drew ?_ | refine blk_alloc ?_ _)); refine blk_put (cs := #[.int .i64 0, .int .i64 0, .string (⟨#[]⟩ : ByteArray), .slice none 0 0, .slice none 0 0]) ?_ 0 _ rfl; (with_reducible repeat (first | refine blk_drewN ?_ _ | refine blk_drew ?_ | refine blk_alloc ?_ _)); exact BK123.out) Try.underlying25 rfl (by kernel_rfl)) rfl ?_
  exact ⟨_, _, by first | rfl | (simp [errW_none, errW_some] <;> rfl) | (simp [*, errW_none, errW_some] <;> rfl), by first | exact Kd.R_nil _ _ _ _ _ | exact Kd.N_nil _ _ _ _ _ | exact Kd.V_nil _ _ _ _ _ | exact Kd.Q_nil _ _ _ _ _ | exact Kd.S_nil _ _ _ _ _, by first | exact Kd.R_nil _ _ _ _ _ | exact Kd.N_nil _ _ _ _ _ | exact Kd.V_nil _ _ _ _ _ | exact Kd.Q_nil _ _ _ _ _ | exact Kd.S_nil _ _ _ _ _, by repeat (first | (with_reducible first | exact HB.out | apply below_alloc | apply pw_below_drewN | apply below_drew1 | refine below_set ?_ GE123.out) | exact HB.out)⟩

/-! ### tree_Text: function 30 -/
def tree_Text.f (a0 : ByteArray) : Option (Int × Int × ByteArray × List ByteArray × (List (S25))) := some (2, 0, a0, ([] : List ByteArray), ([] : List (S25)))
set_option maxHeartbeats 3000000 in
set_option maxRecDepth 100000 in
theorem tree_Text.calls (a0 : ByteArray) (r1 : Int) (r2 : Int) (r3 : ByteArray) (r4 : List ByteArray) (r5 : List (S25)) (w : World) (h : tree_Text.f a0 = some (r1, r2, r3, r4, r5)) :
    Calls Try.prog 30 #[.string a0] w fun e w' => ∃ v3_ v4_ : Value, e = .returned (.agg #[.int .i64 r1, .int .i64 r2, .string r3, v3_, v4_]) ∧ Kd.R Kd.string 9 w' w.heap.size (fun _ => True) v3_ r4 ∧ Kd.R k25 25 w' w.heap.size (fun k_ => some k_ ≠ (v3_ : Value).ownBlock) v4_ r5 ∧ Below w.heap.size w w' := by
  have hu25 := Try.underlying25
  have HB := Aside0.mk (Below.refl w.heap.size w)
  have H : (some (2, 0, a0, ([] : List ByteArray), ([] : List (S25)))) = some (r1, r2, r3, r4, r5) := h
  clear h
  simp only [Option.some.injEq, Prod.mk.injEq] at H
  obtain ⟨rfl, rfl, rfl, rfl, rfl⟩ := H
  go_enter Try.func30, Try.ntmps30
  go_wp2_with (first | ((with_reducible refine gate_dst (N := 2) rfl ?_); refine box_event ?hg (N := 2) ?hd (cs := #[.int .i64 0, .int .i64 0, .string (⟨#[]⟩ : ByteArray), .slice none 0 0, .slice none 0 0]) (t := 25) ?hr ?_; (case hd => rfl); (case hg => rfl); (case hr => first | (go_simp; done) | (go_simp; rfl)); intro gb124 hg w2 hbox hb; have n0_ := Aside0.mk (below_step (by repeat (first | (with_reducible first | exact HB.out | apply below_alloc | apply pw_below_drewN | apply below_drew1) | exact HB.out)) hb); have n1_ := Aside0.mk (hbox); have n2_ := Aside0.mk ((by rw [hg]; exact (below_size (by repeat (first | (with_reducible first | exact HB.out | apply below_alloc | apply pw_below_drewN | apply below_drew1) | exact HB.out))) : w.heap.size ≤ gb124)); have n3_ := Aside0.mk ((by rw [hg]; exact (below_size (by repeat (first | (with_reducible first | exact HB.out | apply below_alloc | apply pw_below_drewN | apply below_drew1) | exact HB.out))) : w.heap.size ≤ gb124)); clear HB; have HB := n0_; have BK124 := n1_; have GW124 := n2_; have GE124 := n3_; clear n0_ n1_ n2_ n3_; clear hb hbox hg; have hcz3_0 : w2.cell? ⟨gb124, 0, none⟩ = some (.int .i64 0) := (blk_cell BK124.out 0).trans rfl; have hcz3_1 : w2.cell? ⟨gb124, 1, none⟩ = some (.int .i64 0) := (blk_cell BK124.out 1).trans rfl; have hcz3_2 : w2.cell? ⟨gb124, 2, none⟩ = some (.string (⟨#[]⟩ : ByteArray)) := (blk_cell BK124.out 2).trans rfl; have hcz3_3 : w2.cell? ⟨gb124, 3, none⟩ = some (.slice none 0 0) := (blk_cell BK124.out 3).trans rfl; have hcz3_4 : w2.cell? ⟨gb124, 4, none⟩ = some (.slice none 0 0) := (blk_cell BK124.out 4).trans rfl; have hfz3_0 := blk_frozen BK124.out 0; have hfz3_1 := blk_frozen BK124.out 1; have hfz3_2 := blk_frozen BK124.out 2; have hfz3_3 := blk_frozen BK124.out 3; have hfz3_4 := blk_frozen BK124.out 4))
  refine bodyPost_ret (results_cell_row rfl _ _ gb124 25 #[.int .i64 2, .int .i64 0, .string a0, .slice none 0 0, .slice none 0 0] (0, 0) _ rfl (by (with_reducible repeat (first | refine blk_drewN ?_ _ | refine blk_drew ?_ | refine blk_alloc ?_ _)); refine blk_put (cs := #[.int .i64 2, .int .i64 0, .string a0, .slice none 0 0, .slice none 0 0]) ?_ 4 _ rfl; (with_reducible repeat (first | refine blk_drewN ?_ _ | refine blk_drew ?_ | refine blk_alloc ?_ _)); refine blk_put (cs := #[.int .i64 2, .int .i64 0, .string a0, .slice none 0 0, .slice none 0 0]) ?_ 3 _ rfl; (with_reducible repeat (first | refine blk_drewN ?_ _ | refine blk_drew ?_ | refine blk_alloc ?_ _)); refine blk_put (cs := #[.int .i64 2, .int .i64 0, .string (⟨#[]⟩ : ByteArray), .slice none 0 0, .slice none 0 0]) ?_ 2 _ rfl; (with_reducible repeat (first | refine blk_drewN ?_ _ | refine blk_drew ?_ | refine blk_alloc ?_ _)); refine blk_put (cs := #[.int .i64 2, .int .i64 0, .string (⟨#[]⟩ : ByteArray), .slice none 0 0, .slice none 0 0]) ?_ 1 _ rfl; (with_reducible repeat (first | refine blk_drewN ?_ _ | refine blk_drew ?_ | refine blk_alloc ?_ _)); refine blk_put (cs := #[.int .i64 0, .int .i64 0, .string (⟨#[]⟩ : ByteArray), .slice none 0 0, .slice none 0 0]) ?_ 0 _ rfl; (with_reducible repeat (first | refine blk_drewN ?_ _ | refine blk_drew ?_ | refine blk_alloc ?_ _)); exact BK124.out) Try.underlying25 rfl (by kernel_rfl)) rfl ?_
  exact ⟨_, _, by first | rfl | (simp [errW_none, errW_some] <;> rfl) | (simp [*, errW_none, errW_some] <;> rfl), by first | exact Kd.R_nil _ _ _ _ _ | exact Kd.N_nil _ _ _ _ _ | exact Kd.V_nil _ _ _ _ _ | exact Kd.Q_nil _ _ _ _ _ | exact Kd.S_nil _ _ _ _ _, by first | exact Kd.R_nil _ _ _ _ _ | exact Kd.N_nil _ _ _ _ _ | exact Kd.V_nil _ _ _ _ _ | exact Kd.Q_nil _ _ _ _ _ | exact Kd.S_nil _ _ _ _ _, by repeat (first | (with_reducible first | exact HB.out | apply below_alloc | apply pw_below_drewN | apply below_drew1 | refine below_set ?_ GE124.out) | exact HB.out)⟩

/-! ### ben_digit: function 40 -/
def ben_digit.f (a0 : Int) : Option (Bool) := if a0 ≥ 48 then (some (decide (a0 ≤ 57))) else (some false)
set_option maxHeartbeats 3000000 in
set_option maxRecDepth 100000 in
theorem ben_digit.calls (a0 : Int) (r : Bool) (w : World) (h : ben_digit.f a0 = some r) :
    Calls Try.prog 40 #[.int .u8 a0] w fun e w' => e = .returned (.bool r) ∧ Drawn0 w w' := by
  have H : (if a0 ≥ 48 then (some (decide (a0 ≤ 57))) else (some false)) = some r := h
  clear h
  by_cases c2 : a0 ≥ 48
  · rw [if_pos c2] at H
    have c2b0 : decide (48 ≤ a0) = true := decide_eq_true c2
    clear c2
    obtain rfl := Option.some.inj H
    go_enter Try.func40, Try.ntmps40
    go_wp2
    all_goals go_ret
    all_goals first | (exact ⟨by first | rfl | (simp; done) | (simp [*]; done) | (refine congrArg Ending.returned ?_; show Value.string _ = Value.string _; (first | (congr 2 <;> omega) | (congr 3 <;> omega) | (congr 4 <;> omega))), by repeat (first | exact Drawn0.refl _ | apply Drawn0.step)⟩) | (exfalso; simp_all; done)
  · rw [if_neg c2] at H
    have c2b0 : decide (48 ≤ a0) = false := decide_eq_false c2
    clear c2
    obtain rfl := Option.some.inj H
    go_enter Try.func40, Try.ntmps40
    go_wp2
    all_goals go_ret
    all_goals first | (exact ⟨by first | rfl | (simp; done) | (simp [*]; done) | (refine congrArg Ending.returned ?_; show Value.string _ = Value.string _; (first | (congr 2 <;> omega) | (congr 3 <;> omega) | (congr 4 <;> omega))), by repeat (first | exact Drawn0.refl _ | apply Drawn0.step)⟩) | (exfalso; simp_all; done)

/-! ### stringslite_HasPrefix: function 57 -/
def stringslite_HasPrefix.f (a0 : ByteArray) (a1 : ByteArray) : Option (Bool) := if (a0.size : Int) ≥ (a1.size : Int) then (if 0 ≤ (a1.size : Int) then (if (a1.size : Int) ≤ (a0.size : Int) then (some ((a0.extract 0 ((a1.size : Int) : Int).toNat).toList == a1.toList)) else (none)) else (none)) else (some false)
set_option maxHeartbeats 3000000 in
set_option maxRecDepth 100000 in
theorem stringslite_HasPrefix.calls (a0 : ByteArray) (a1 : ByteArray) (r : Bool) (w : World) (h : stringslite_HasPrefix.f a0 a1 = some r) :
    Calls Try.prog 57 #[.string a0, .string a1] w fun e w' => e = .returned (.bool r) ∧ Drawn0 w w' := by
  have H : (if (a0.size : Int) ≥ (a1.size : Int) then (if 0 ≤ (a1.size : Int) then (if (a1.size : Int) ≤ (a0.size : Int) then (some ((a0.extract 0 ((a1.size : Int) : Int).toNat).toList == a1.toList)) else (none)) else (none)) else (some false)) = some r := h
  clear h
  by_cases c3 : (a0.size : Int) ≥ (a1.size : Int)
  · rw [if_pos c3] at H
    have c3b0 : decide ((a1.size : Int) ≤ (a0.size : Int)) = true := decide_eq_true c3
    have c3b1 : decide (a1.size ≤ a0.size) = true := decide_eq_true (Int.ofNat_le.mp c3)
    clear c3
    by_cases c4 : 0 ≤ (a1.size : Int)
    · rw [if_pos c4] at H
      have c4b0 := eq_true c4
      have c4b1 : decide (0 ≤ (a1.size : Int)) = true := decide_eq_true c4
      clear c4
      by_cases c5 : (a1.size : Int) ≤ (a0.size : Int)
      · rw [if_pos c5] at H
        have c5b0 := eq_true c5
        have c5b1 : decide ((a1.size : Int) ≤ (a0.size : Int)) = true := decide_eq_true c5
        clear c5
        obtain rfl := Option.some.inj H
        go_enter Try.func57, Try.ntmps57
        go_wp2
        all_goals go_ret
        all_goals first | (exact ⟨by first | rfl | (simp; done) | (simp [*]; done) | (refine congrArg Ending.returned ?_; show Value.string _ = Value.string _; (first | (congr 2 <;> omega) | (congr 3 <;> omega) | (congr 4 <;> omega))), by repeat (first | exact Drawn0.refl _ | apply Drawn0.step)⟩) | (exfalso; simp_all; done)
      · rw [if_neg c5] at H
        exact absurd H (by simp)
    · rw [if_neg c4] at H
      exact absurd H (by simp)
  · rw [if_neg c3] at H
    have c3b0 : decide ((a1.size : Int) ≤ (a0.size : Int)) = false := decide_eq_false c3
    have c3b1 : decide (a1.size ≤ a0.size) = false := decide_eq_false (fun h => c3 (Int.ofNat_le.mpr h))
    clear c3
    obtain rfl := Option.some.inj H
    go_enter Try.func57, Try.ntmps57
    go_wp2
    all_goals go_ret
    all_goals first | (exact ⟨by first | rfl | (simp; done) | (simp [*]; done) | (refine congrArg Ending.returned ?_; show Value.string _ = Value.string _; (first | (congr 2 <;> omega) | (congr 3 <;> omega) | (congr 4 <;> omega))), by repeat (first | exact Drawn0.refl _ | apply Drawn0.step)⟩) | (exfalso; simp_all; done)

end Go.Proofs.Ytekcnfngcgchcaa.PBenPrints
