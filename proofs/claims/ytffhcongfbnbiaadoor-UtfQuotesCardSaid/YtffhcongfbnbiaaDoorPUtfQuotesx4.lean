/- Written by a program of this session (a turned copy of the kit's print): functions of the program, each with the Lean function that it comes to, and the row of one law. No condition. -/
import Derived.Test.YtffhcongfbnbiaaDoorPUtfQuotesx0
import Derived.Test.YtffhcongfbnbiaaDoorPUtfQuotesx3
namespace Go.Proofs.YtffhcongfbnbiaaDoor.PUtfQuotes
open Go.RowKit Go.Proofs.YtffhcongfbnbiaaDoorW.PrintWords Go.Proofs.YtffhcongfbnbiaaDoorW.PrintLast Go.Proofs.YtffhcongfbnbiaaDoorW.PrintMore
attribute [local go_sem] max2_int min2_int max_two min_two max_three min_three max_four min_four   -- for this text's walks alone
set_option linter.unusedVariables false
set_option linter.unusedSimpArgs false

/-! ### annuletref04_Parts: function 11 -/
def annuletref04_Parts.l0 : Nat → ByteArray → List ByteArray → Int → Option (List ByteArray)
  | 0, _, _, _ => none
  | k + 1, x0, x3, x4 => if x4 < (x0.size : Int) then ((annuletref04_Width.f k x0 x4).bind fun t128 => (if t128 = 0 then (if 0 ≤ x4 then (if x4 ≤ (wrap64 (x4 + 1)) then (if (wrap64 (x4 + 1)) ≤ (x0.size : Int) then (if x3.length < 8796093022208 then (annuletref04_Parts.l0 k x0 (x3 ++ [x0.extract (x4 : Int).toNat ((wrap64 (x4 + 1)) : Int).toNat]) (wrap64 (x4 + 1))) else (none)) else (none)) else (none)) else (none)) else (if 0 ≤ x4 then (if x4 ≤ (wrap64 (x4 + t128)) then (if (wrap64 (x4 + t128)) ≤ (x0.size : Int) then (if x3.length < 8796093022208 then (annuletref04_Parts.l0 k x0 (x3 ++ [x0.extract (x4 : Int).toNat ((wrap64 (x4 + t128)) : Int).toNat]) (wrap64 (x4 + t128))) else (none)) else (none)) else (none)) else (none)))) else (some x3)
def annuletref04_Parts.f (k : Nat) (a0 : ByteArray) : Option (List ByteArray) := annuletref04_Parts.l0 k a0 ([] : List ByteArray) 0
theorem annuletref04_Parts.mono_l : ∀ k, (∀ y0 y1 y2, LeO (annuletref04_Parts.l0 k y0 y1 y2) (annuletref04_Parts.l0 (k + 1) y0 y1 y2))
  | 0 => fun _ _ _ r h => by simp [annuletref04_Parts.l0] at h
  | k + 1 => by
    have ih0 := annuletref04_Parts.mono_l k
    · intro y0 y1 y2
      unfold annuletref04_Parts.l0
      repeat' first
      | (with_reducible exact ih0 _ _ _)
      | (with_reducible exact annuletref04_Width.mono _ _ _)
      | (with_reducible exact LeO.refl _)
      | (with_reducible exact LeO.none _)
      | (with_reducible refine LeO.ite ?_ ?_)
      | (with_reducible refine LeO.bind ?_ (fun _ => ?_))
      | exact ih0 _ _ _
      | exact annuletref04_Width.mono _ _ _
      | exact LeO.none _
      | refine LeO.ite ?_ ?_
      | refine LeO.bind ?_ (fun _ => ?_)
theorem annuletref04_Parts.mono : ∀ a0 k, LeO (annuletref04_Parts.f k a0) (annuletref04_Parts.f (k + 1) a0) := by
  intro a0 k
  have ih0 := annuletref04_Parts.mono_l k
  unfold annuletref04_Parts.f
  repeat' first
      | (with_reducible exact ih0 _ _ _)
      | (with_reducible exact annuletref04_Width.mono _ _ _)
      | (with_reducible exact LeO.refl _)
      | (with_reducible exact LeO.none _)
      | (with_reducible refine LeO.ite ?_ ?_)
      | (with_reducible refine LeO.bind ?_ (fun _ => ?_))
      | exact ih0 _ _ _
      | exact annuletref04_Width.mono _ _ _
      | exact LeO.none _
      | refine LeO.ite ?_ ?_
      | refine LeO.bind ?_ (fun _ => ?_)
set_option maxHeartbeats 3000000 in
set_option maxRecDepth 100000 in
theorem annuletref04_Parts.calls (k : Nat) (a0 : ByteArray) (r : List ByteArray) (w : World) (h : annuletref04_Parts.f k a0 = some r) :
    Calls Tryd.prog 11 #[.string a0] w fun e w' => ∃ v0_ : Value, e = .returned (v0_) ∧ Kd.R Kd.string 9 w' w.heap.size (fun _ => True) v0_ r ∧ Below w.heap.size w w' := by
  have HB := Aside0.mk (Below.refl w.heap.size w)
  have H : (annuletref04_Parts.l0 k a0 ([] : List ByteArray) 0) = some r := h
  clear h
  have H' := Aside0.mk H
  clear H
  go_enter Tryd.func11, Tryd.ntmps11
  go_wp2
  go_loopg [3, 4] k (fun kq v3 v4 w' => ∃ (x3_1 : List ByteArray) (x4_1 : Int), v4 = .int .i64 x4_1 ∧ Aside0 (annuletref04_Parts.l0 kq a0 x3_1 x4_1 = some r) ∧ Aside0 (kq ≤ k) ∧ Aside0 (Kd.R Kd.string 9 w' w.heap.size (fun _ => True) v3 x3_1) ∧ Aside0 (Below w.heap.size w w'))
  case atStart => exact ⟨(([] : List ByteArray)), (0), (by first | rfl | (simp; done) | (simp [*]; done)), H', ⟨Nat.le_refl _⟩, ⟨by first | exact Kd.R_nil _ _ _ _ _ | exact Kd.N_nil _ _ _ _ _ | exact Kd.V_nil _ _ _ _ _ | exact Kd.Q_nil _ _ _ _ _ | exact Kd.S_nil _ _ _ _ _⟩, ⟨by repeat (first | (with_reducible first | exact HB.out | apply below_alloc | apply pw_below_drewN | apply below_drew1) | exact HB.out)⟩⟩
  case round =>
    clear H'
    try clear c1
    obtain ⟨x3_1, x4_1, rfl, HA, HK1, HO_3, HB⟩ := hrel
    cases gk with
    | zero => exact absurd HA.out (by simp [annuletref04_Parts.l0])
    | succ k1 =>
      have H := HA.out
      clear HA
      simp only [annuletref04_Parts.l0] at H
      by_cases c2 : x4_1 < (a0.size : Int)
      · rw [if_pos c2] at H
        have c2b0 : decide (x4_1 < (a0.size : Int)) = true := decide_eq_true c2
        clear c2
        replace H := Option.bind_eq_some_iff.mp H
        obtain ⟨t128, A30, H⟩ := H
        replace H : (if t128 = 0 then (if 0 ≤ x4_1 then (if x4_1 ≤ (wrap64 (x4_1 + 1)) then (if (wrap64 (x4_1 + 1)) ≤ (a0.size : Int) then (if x3_1.length < 8796093022208 then (annuletref04_Parts.l0 k1 a0 (x3_1 ++ [a0.extract (x4_1 : Int).toNat ((wrap64 (x4_1 + 1)) : Int).toNat]) (wrap64 (x4_1 + 1))) else (none)) else (none)) else (none)) else (none)) else (if 0 ≤ x4_1 then (if x4_1 ≤ (wrap64 (x4_1 + t128)) then (if (wrap64 (x4_1 + t128)) ≤ (a0.size : Int) then (if x3_1.length < 8796093022208 then (annuletref04_Parts.l0 k1 a0 (x3_1 ++ [a0.extract (x4_1 : Int).toNat ((wrap64 (x4_1 + t128)) : Int).toNat]) (wrap64 (x4_1 + t128))) else (none)) else (none)) else (none)) else (none))) = some r := H
        have A3 := Aside0.mk A30
        clear A30
        by_cases c4 : t128 = 0
        · rw [if_pos c4] at H
          have c4b0 : (t128 == 0) = true := beq_iff_eq.mpr c4
          have c4b1 : (t128 != 0) = false := bne_eq_false_iff_eq.mpr c4
          clear c4
          by_cases c5 : 0 ≤ x4_1
          · rw [if_pos c5] at H
            have c5b0 := eq_true c5
            have c5b1 : decide (0 ≤ x4_1) = true := decide_eq_true c5
            clear c5
            by_cases c6 : x4_1 ≤ (wrap64 (x4_1 + 1))
            · rw [if_pos c6] at H
              have c6b0 := eq_true c6
              have c6b1 : decide (x4_1 ≤ (wrap64 (x4_1 + 1))) = true := decide_eq_true c6
              by_cases c7 : (wrap64 (x4_1 + 1)) ≤ (a0.size : Int)
              · rw [if_pos c7] at H
                have c7b0 := eq_true c7
                have c7b1 : decide ((wrap64 (x4_1 + 1)) ≤ (a0.size : Int)) = true := decide_eq_true c7
                by_cases c8 : x3_1.length < 8796093022208
                · rw [if_pos c8] at H
                  have LMc8 := Aside0.mk c8
                  clear c8
                  obtain ⟨y129, hy129⟩ : ∃ y_ : List ByteArray, y_ = (x3_1 ++ [a0.extract (x4_1 : Int).toNat ((wrap64 (x4_1 + 1)) : Int).toNat]) := ⟨_, rfl⟩
                  replace H : (annuletref04_Parts.l0 k1 a0 y129 (wrap64 (x4_1 + 1))) = some r := by first | (rw [hy129]; with_reducible exact H) | (have H2_ := (Option.bind_some _ _).symm.trans H; rw [hy129]; with_reducible exact H2_) | (have H2_ := (Option.bind_some _ _).symm.trans H; with_reducible exact H2_) | with_reducible exact H | (rw [hy129]; exact H) | exact H
                  have Ny129 := Aside0.mk hy129
                  clear hy129
                  have H' := Aside0.mk H
                  clear H
                  go_wp2_with (first | ((with_reducible refine gate_callee (f := 19) rfl ?_); refine goesL_ (some 12) rfl rfl Tryd.func19 (by kernel_rfl) rfl #[.string a0, .int .i64 x4_1] rfl (by (try simp only [List.map_toArray, List.map_cons, List.map_nil]); first | done | rfl | (simp only [List.length_drop, List.length_take]; rfl)) ?_; (with_reducible refine (annuletref04_Width.calls k1 a0 x4_1 t128 _ A3.out).mono ?_); rintro e w' ⟨rfl, ⟨nd, rfl⟩⟩; refine ⟨_, rfl, ?_⟩) | ((with_reducible refine gate_builtin (b := .append) (xs := #[.tmp 15, .tmp 22]) rfl ?_); at_builtin; refine Kd.R_append Kd.string (w0 := w) w.heap.size rfl (.tmp 15) (.tmp 22) 25 9 (.string ⟨#[]⟩) 16 rfl Tryd.underlying25 info9 rfl (by decide) (by omega) u3 x3_1 (a0.extract (x4_1 : Int).toNat ((wrap64 (x4_1 + 1)) : Int).toNat) [.string (a0.extract (x4_1 : Int).toNat ((wrap64 (x4_1 + 1)) : Int).toNat)] (fun _ => True) (fun _ => False) rfl rfl ?aP (fun _ hk => hk.elim) ?aF ?aO ?aB ?aS ?aL ?_; (case aP => exact rfl); (case aB => exact (by repeat (first | (with_reducible first | exact HB.out | apply below_alloc | apply pw_below_drewN | apply below_drew1) | exact HB.out))); (case aF => exact (fun _ _ => trivial)); (case aO => exact (by (with_reducible repeat (first | apply Kd.R_alloc | apply Kd.R_drewN | apply Kd.R_drew)); exact HO_3.out)); (case aS => exact (below_size (by repeat (first | (with_reducible first | exact HB.out | apply below_alloc | apply pw_below_drewN | apply below_drew1) | exact HB.out)))); (case aL => have := LMc8.out; omega); intro v130 w9 ho hb hg hat; rw [← Ny129.out] at ho; have n0_ := Aside0.mk (hb); have n1_ := Aside0.mk (ho); clear HB; clear HO_3; have HB := n0_; have HO131 := n1_; clear n0_ n1_; clear ho hb hg hat))
                  go_roundg k1
                  case measure => have := HK1.out; omega
                  case rel => exact ⟨(y129), (wrap64 (x4_1 + 1)), (by first | rfl | (simp; done) | (simp [*]; done)), H', ⟨by have := HK1.out; omega⟩, ⟨by (with_reducible repeat (first | apply Kd.R_alloc | apply Kd.R_drewN | apply Kd.R_drew)); exact HO131.out⟩, ⟨by repeat (first | (with_reducible first | exact HB.out | apply below_alloc | apply pw_below_drewN | apply below_drew1) | exact HB.out)⟩⟩
                · rw [if_neg c8] at H
                  exact absurd H (by simp)
              · rw [if_neg c7] at H
                exact absurd H (by simp)
            · rw [if_neg c6] at H
              exact absurd H (by simp)
          · rw [if_neg c5] at H
            exact absurd H (by simp)
        · rw [if_neg c4] at H
          have c4b0 : (t128 == 0) = false := beq_eq_false_iff_ne.mpr c4
          have c4b1 : (t128 != 0) = true := bne_iff_ne.mpr c4
          by_cases c10 : 0 ≤ x4_1
          · rw [if_pos c10] at H
            have c10b0 := eq_true c10
            have c10b1 : decide (0 ≤ x4_1) = true := decide_eq_true c10
            clear c10
            by_cases c11 : x4_1 ≤ (wrap64 (x4_1 + t128))
            · rw [if_pos c11] at H
              have c11b0 := eq_true c11
              have c11b1 : decide (x4_1 ≤ (wrap64 (x4_1 + t128))) = true := decide_eq_true c11
              by_cases c12 : (wrap64 (x4_1 + t128)) ≤ (a0.size : Int)
              · rw [if_pos c12] at H
                have c12b0 := eq_true c12
                have c12b1 : decide ((wrap64 (x4_1 + t128)) ≤ (a0.size : Int)) = true := decide_eq_true c12
                by_cases c13 : x3_1.length < 8796093022208
                · rw [if_pos c13] at H
                  have LMc13 := Aside0.mk c13
                  clear c13
                  obtain ⟨y132, hy132⟩ : ∃ y_ : List ByteArray, y_ = (x3_1 ++ [a0.extract (x4_1 : Int).toNat ((wrap64 (x4_1 + t128)) : Int).toNat]) := ⟨_, rfl⟩
                  replace H : (annuletref04_Parts.l0 k1 a0 y132 (wrap64 (x4_1 + t128))) = some r := by first | (rw [hy132]; with_reducible exact H) | (have H2_ := (Option.bind_some _ _).symm.trans H; rw [hy132]; with_reducible exact H2_) | (have H2_ := (Option.bind_some _ _).symm.trans H; with_reducible exact H2_) | with_reducible exact H | (rw [hy132]; exact H) | exact H
                  have Ny132 := Aside0.mk hy132
                  clear hy132
                  have H' := Aside0.mk H
                  clear H
                  go_wp2_with (first | ((with_reducible refine gate_callee (f := 19) rfl ?_); refine goesL_ (some 12) rfl rfl Tryd.func19 (by kernel_rfl) rfl #[.string a0, .int .i64 x4_1] rfl (by (try simp only [List.map_toArray, List.map_cons, List.map_nil]); first | done | rfl | (simp only [List.length_drop, List.length_take]; rfl)) ?_; (with_reducible refine (annuletref04_Width.calls k1 a0 x4_1 t128 _ A3.out).mono ?_); rintro e w' ⟨rfl, ⟨nd, rfl⟩⟩; refine ⟨_, rfl, ?_⟩) | ((with_reducible refine gate_builtin (b := .append) (xs := #[.tmp 15, .tmp 22]) rfl ?_); at_builtin; refine Kd.R_append Kd.string (w0 := w) w.heap.size rfl (.tmp 15) (.tmp 22) 25 9 (.string ⟨#[]⟩) 16 rfl Tryd.underlying25 info9 rfl (by decide) (by omega) u3 x3_1 (a0.extract (x4_1 : Int).toNat ((wrap64 (x4_1 + t128)) : Int).toNat) [.string (a0.extract (x4_1 : Int).toNat ((wrap64 (x4_1 + t128)) : Int).toNat)] (fun _ => True) (fun _ => False) rfl rfl ?aP (fun _ hk => hk.elim) ?aF ?aO ?aB ?aS ?aL ?_; (case aP => exact rfl); (case aB => exact (by repeat (first | (with_reducible first | exact HB.out | apply below_alloc | apply pw_below_drewN | apply below_drew1) | exact HB.out))); (case aF => exact (fun _ _ => trivial)); (case aO => exact (by (with_reducible repeat (first | apply Kd.R_alloc | apply Kd.R_drewN | apply Kd.R_drew)); exact HO_3.out)); (case aS => exact (below_size (by repeat (first | (with_reducible first | exact HB.out | apply below_alloc | apply pw_below_drewN | apply below_drew1) | exact HB.out)))); (case aL => have := LMc13.out; omega); intro v133 w14 ho hb hg hat; rw [← Ny132.out] at ho; have n0_ := Aside0.mk (hb); have n1_ := Aside0.mk (ho); clear HB; clear HO_3; have HB := n0_; have HO134 := n1_; clear n0_ n1_; clear ho hb hg hat))
                  go_roundg k1
                  case measure => have := HK1.out; omega
                  case rel => exact ⟨(y132), (wrap64 (x4_1 + t128)), (by first | rfl | (simp; done) | (simp [*]; done)), H', ⟨by have := HK1.out; omega⟩, ⟨by (with_reducible repeat (first | apply Kd.R_alloc | apply Kd.R_drewN | apply Kd.R_drew)); exact HO134.out⟩, ⟨by repeat (first | (with_reducible first | exact HB.out | apply below_alloc | apply pw_below_drewN | apply below_drew1) | exact HB.out)⟩⟩
                · rw [if_neg c13] at H
                  exact absurd H (by simp)
              · rw [if_neg c12] at H
                exact absurd H (by simp)
            · rw [if_neg c11] at H
              exact absurd H (by simp)
          · rw [if_neg c10] at H
            exact absurd H (by simp)
      · rw [if_neg c2] at H
        have c2b0 : decide (x4_1 < (a0.size : Int)) = false := decide_eq_false c2
        clear c2
        obtain rfl := Option.some.inj H
        go_wp2
        all_goals go_ret
        all_goals first | (exact ⟨_, by first | rfl | (simp [errW_none, errW_some] <;> rfl) | (simp [*, errW_none, errW_some] <;> rfl), by (with_reducible repeat (first | apply Kd.R_alloc | apply Kd.R_drewN | apply Kd.R_drew)); exact HO_3.out, by repeat (first | (with_reducible first | exact HB.out | apply below_alloc | apply pw_below_drewN | apply below_drew1) | exact HB.out)⟩) | (exfalso; simp_all; done)

/-! ### annuletref04_Quote: function 17 -/
def annuletref04_Quote.l0 : Nat → ByteArray → List ByteArray → Int → Option (ByteArray)
  | 0, _, _, _ => none
  | k + 1, x3, x4, x5 => if x5 < (x4.length : Int) then (if 0 ≤ x5 then (if 0 < ((rdOf ByteArray.empty x4 x5).size : Int) then (if (bt (rdOf ByteArray.empty x4 x5) 0) > 32 then (if (bt (rdOf ByteArray.empty x4 x5) 0) = 127 then (if x3.size + 1 ≤ 9223372036854775807 then (if 0 ≤ ((Int.tdiv (bt (rdOf ByteArray.empty x4 x5) 0) 16) % 256) then (if ((Int.tdiv (bt (rdOf ByteArray.empty x4 x5) 0) 16) % 256) ≤ ((((Int.tdiv (bt (rdOf ByteArray.empty x4 x5) 0) 16) % 256) + 1) % 256) then (if ((((Int.tdiv (bt (rdOf ByteArray.empty x4 x5) 0) 16) % 256) + 1) % 256) ≤ 16 then (if (x3 ++ (⟨#[37]⟩ : ByteArray)).size + ((⟨#[48, 49, 50, 51, 52, 53, 54, 55, 56, 57, 97, 98, 99, 100, 101, 102]⟩ : ByteArray).extract (((Int.tdiv (bt (rdOf ByteArray.empty x4 x5) 0) 16) % 256) : Int).toNat (((((Int.tdiv (bt (rdOf ByteArray.empty x4 x5) 0) 16) % 256) + 1) % 256) : Int).toNat).size ≤ 9223372036854775807 then (if 0 ≤ (Int.tmod (bt (rdOf ByteArray.empty x4 x5) 0) 16) then (if (Int.tmod (bt (rdOf ByteArray.empty x4 x5) 0) 16) ≤ (((Int.tmod (bt (rdOf ByteArray.empty x4 x5) 0) 16) + 1) % 256) then (if (((Int.tmod (bt (rdOf ByteArray.empty x4 x5) 0) 16) + 1) % 256) ≤ 16 then (if ((x3 ++ (⟨#[37]⟩ : ByteArray)) ++ ((⟨#[48, 49, 50, 51, 52, 53, 54, 55, 56, 57, 97, 98, 99, 100, 101, 102]⟩ : ByteArray).extract (((Int.tdiv (bt (rdOf ByteArray.empty x4 x5) 0) 16) % 256) : Int).toNat (((((Int.tdiv (bt (rdOf ByteArray.empty x4 x5) 0) 16) % 256) + 1) % 256) : Int).toNat)).size + ((⟨#[48, 49, 50, 51, 52, 53, 54, 55, 56, 57, 97, 98, 99, 100, 101, 102]⟩ : ByteArray).extract ((Int.tmod (bt (rdOf ByteArray.empty x4 x5) 0) 16) : Int).toNat ((((Int.tmod (bt (rdOf ByteArray.empty x4 x5) 0) 16) + 1) % 256) : Int).toNat).size ≤ 9223372036854775807 then (annuletref04_Quote.l0 k (((x3 ++ (⟨#[37]⟩ : ByteArray)) ++ ((⟨#[48, 49, 50, 51, 52, 53, 54, 55, 56, 57, 97, 98, 99, 100, 101, 102]⟩ : ByteArray).extract (((Int.tdiv (bt (rdOf ByteArray.empty x4 x5) 0) 16) % 256) : Int).toNat (((((Int.tdiv (bt (rdOf ByteArray.empty x4 x5) 0) 16) % 256) + 1) % 256) : Int).toNat)) ++ ((⟨#[48, 49, 50, 51, 52, 53, 54, 55, 56, 57, 97, 98, 99, 100, 101, 102]⟩ : ByteArray).extract ((Int.tmod (bt (rdOf ByteArray.empty x4 x5) 0) 16) : Int).toNat ((((Int.tmod (bt (rdOf ByteArray.empty x4 x5) 0) 16) + 1) % 256) : Int).toNat)) x4 (wrap64 (x5 + 1))) else (none)) else (none)) else (none)) else (none)) else (none)) else (none)) else (none)) else (none)) else (none)) else (if (bt (rdOf ByteArray.empty x4 x5) 0) = 37 then (if x3.size + 1 ≤ 9223372036854775807 then (if 0 ≤ ((Int.tdiv (bt (rdOf ByteArray.empty x4 x5) 0) 16) % 256) then (if ((Int.tdiv (bt (rdOf ByteArray.empty x4 x5) 0) 16) % 256) ≤ ((((Int.tdiv (bt (rdOf ByteArray.empty x4 x5) 0) 16) % 256) + 1) % 256) then (if ((((Int.tdiv (bt (rdOf ByteArray.empty x4 x5) 0) 16) % 256) + 1) % 256) ≤ 16 then (if (x3 ++ (⟨#[37]⟩ : ByteArray)).size + ((⟨#[48, 49, 50, 51, 52, 53, 54, 55, 56, 57, 97, 98, 99, 100, 101, 102]⟩ : ByteArray).extract (((Int.tdiv (bt (rdOf ByteArray.empty x4 x5) 0) 16) % 256) : Int).toNat (((((Int.tdiv (bt (rdOf ByteArray.empty x4 x5) 0) 16) % 256) + 1) % 256) : Int).toNat).size ≤ 9223372036854775807 then (if 0 ≤ (Int.tmod (bt (rdOf ByteArray.empty x4 x5) 0) 16) then (if (Int.tmod (bt (rdOf ByteArray.empty x4 x5) 0) 16) ≤ (((Int.tmod (bt (rdOf ByteArray.empty x4 x5) 0) 16) + 1) % 256) then (if (((Int.tmod (bt (rdOf ByteArray.empty x4 x5) 0) 16) + 1) % 256) ≤ 16 then (if ((x3 ++ (⟨#[37]⟩ : ByteArray)) ++ ((⟨#[48, 49, 50, 51, 52, 53, 54, 55, 56, 57, 97, 98, 99, 100, 101, 102]⟩ : ByteArray).extract (((Int.tdiv (bt (rdOf ByteArray.empty x4 x5) 0) 16) % 256) : Int).toNat (((((Int.tdiv (bt (rdOf ByteArray.empty x4 x5) 0) 16) % 256) + 1) % 256) : Int).toNat)).size + ((⟨#[48, 49, 50, 51, 52, 53, 54, 55, 56, 57, 97, 98, 99, 100, 101, 102]⟩ : ByteArray).extract ((Int.tmod (bt (rdOf ByteArray.empty x4 x5) 0) 16) : Int).toNat ((((Int.tmod (bt (rdOf ByteArray.empty x4 x5) 0) 16) + 1) % 256) : Int).toNat).size ≤ 9223372036854775807 then (annuletref04_Quote.l0 k (((x3 ++ (⟨#[37]⟩ : ByteArray)) ++ ((⟨#[48, 49, 50, 51, 52, 53, 54, 55, 56, 57, 97, 98, 99, 100, 101, 102]⟩ : ByteArray).extract (((Int.tdiv (bt (rdOf ByteArray.empty x4 x5) 0) 16) % 256) : Int).toNat (((((Int.tdiv (bt (rdOf ByteArray.empty x4 x5) 0) 16) % 256) + 1) % 256) : Int).toNat)) ++ ((⟨#[48, 49, 50, 51, 52, 53, 54, 55, 56, 57, 97, 98, 99, 100, 101, 102]⟩ : ByteArray).extract ((Int.tmod (bt (rdOf ByteArray.empty x4 x5) 0) 16) : Int).toNat ((((Int.tmod (bt (rdOf ByteArray.empty x4 x5) 0) 16) + 1) % 256) : Int).toNat)) x4 (wrap64 (x5 + 1))) else (none)) else (none)) else (none)) else (none)) else (none)) else (none)) else (none)) else (none)) else (none)) else ((annuletref04_Width.f k (rdOf ByteArray.empty x4 x5) 0).bind fun t140 => (if t140 > 0 then (if x3.size + (rdOf ByteArray.empty x4 x5).size ≤ 9223372036854775807 then (annuletref04_Quote.l0 k (x3 ++ (rdOf ByteArray.empty x4 x5)) x4 (wrap64 (x5 + 1))) else (none)) else (if x3.size + 1 ≤ 9223372036854775807 then (if 0 ≤ ((Int.tdiv (bt (rdOf ByteArray.empty x4 x5) 0) 16) % 256) then (if ((Int.tdiv (bt (rdOf ByteArray.empty x4 x5) 0) 16) % 256) ≤ ((((Int.tdiv (bt (rdOf ByteArray.empty x4 x5) 0) 16) % 256) + 1) % 256) then (if ((((Int.tdiv (bt (rdOf ByteArray.empty x4 x5) 0) 16) % 256) + 1) % 256) ≤ 16 then (if (x3 ++ (⟨#[37]⟩ : ByteArray)).size + ((⟨#[48, 49, 50, 51, 52, 53, 54, 55, 56, 57, 97, 98, 99, 100, 101, 102]⟩ : ByteArray).extract (((Int.tdiv (bt (rdOf ByteArray.empty x4 x5) 0) 16) % 256) : Int).toNat (((((Int.tdiv (bt (rdOf ByteArray.empty x4 x5) 0) 16) % 256) + 1) % 256) : Int).toNat).size ≤ 9223372036854775807 then (if 0 ≤ (Int.tmod (bt (rdOf ByteArray.empty x4 x5) 0) 16) then (if (Int.tmod (bt (rdOf ByteArray.empty x4 x5) 0) 16) ≤ (((Int.tmod (bt (rdOf ByteArray.empty x4 x5) 0) 16) + 1) % 256) then (if (((Int.tmod (bt (rdOf ByteArray.empty x4 x5) 0) 16) + 1) % 256) ≤ 16 then (if ((x3 ++ (⟨#[37]⟩ : ByteArray)) ++ ((⟨#[48, 49, 50, 51, 52, 53, 54, 55, 56, 57, 97, 98, 99, 100, 101, 102]⟩ : ByteArray).extract (((Int.tdiv (bt (rdOf ByteArray.empty x4 x5) 0) 16) % 256) : Int).toNat (((((Int.tdiv (bt (rdOf ByteArray.empty x4 x5) 0) 16) % 256) + 1) % 256) : Int).toNat)).size + ((⟨#[48, 49, 50, 51, 52, 53, 54, 55, 56, 57, 97, 98, 99, 100, 101, 102]⟩ : ByteArray).extract ((Int.tmod (bt (rdOf ByteArray.empty x4 x5) 0) 16) : Int).toNat ((((Int.tmod (bt (rdOf ByteArray.empty x4 x5) 0) 16) + 1) % 256) : Int).toNat).size ≤ 9223372036854775807 then (annuletref04_Quote.l0 k (((x3 ++ (⟨#[37]⟩ : ByteArray)) ++ ((⟨#[48, 49, 50, 51, 52, 53, 54, 55, 56, 57, 97, 98, 99, 100, 101, 102]⟩ : ByteArray).extract (((Int.tdiv (bt (rdOf ByteArray.empty x4 x5) 0) 16) % 256) : Int).toNat (((((Int.tdiv (bt (rdOf ByteArray.empty x4 x5) 0) 16) % 256) + 1) % 256) : Int).toNat)) ++ ((⟨#[48, 49, 50, 51, 52, 53, 54, 55, 56, 57, 97, 98, 99, 100, 101, 102]⟩ : ByteArray).extract ((Int.tmod (bt (rdOf ByteArray.empty x4 x5) 0) 16) : Int).toNat ((((Int.tmod (bt (rdOf ByteArray.empty x4 x5) 0) 16) + 1) % 256) : Int).toNat)) x4 (wrap64 (x5 + 1))) else (none)) else (none)) else (none)) else (none)) else (none)) else (none)) else (none)) else (none)) else (none)))))) else (if x3.size + 1 ≤ 9223372036854775807 then (if 0 ≤ ((Int.tdiv (bt (rdOf ByteArray.empty x4 x5) 0) 16) % 256) then (if ((Int.tdiv (bt (rdOf ByteArray.empty x4 x5) 0) 16) % 256) ≤ ((((Int.tdiv (bt (rdOf ByteArray.empty x4 x5) 0) 16) % 256) + 1) % 256) then (if ((((Int.tdiv (bt (rdOf ByteArray.empty x4 x5) 0) 16) % 256) + 1) % 256) ≤ 16 then (if (x3 ++ (⟨#[37]⟩ : ByteArray)).size + ((⟨#[48, 49, 50, 51, 52, 53, 54, 55, 56, 57, 97, 98, 99, 100, 101, 102]⟩ : ByteArray).extract (((Int.tdiv (bt (rdOf ByteArray.empty x4 x5) 0) 16) % 256) : Int).toNat (((((Int.tdiv (bt (rdOf ByteArray.empty x4 x5) 0) 16) % 256) + 1) % 256) : Int).toNat).size ≤ 9223372036854775807 then (if 0 ≤ (Int.tmod (bt (rdOf ByteArray.empty x4 x5) 0) 16) then (if (Int.tmod (bt (rdOf ByteArray.empty x4 x5) 0) 16) ≤ (((Int.tmod (bt (rdOf ByteArray.empty x4 x5) 0) 16) + 1) % 256) then (if (((Int.tmod (bt (rdOf ByteArray.empty x4 x5) 0) 16) + 1) % 256) ≤ 16 then (if ((x3 ++ (⟨#[37]⟩ : ByteArray)) ++ ((⟨#[48, 49, 50, 51, 52, 53, 54, 55, 56, 57, 97, 98, 99, 100, 101, 102]⟩ : ByteArray).extract (((Int.tdiv (bt (rdOf ByteArray.empty x4 x5) 0) 16) % 256) : Int).toNat (((((Int.tdiv (bt (rdOf ByteArray.empty x4 x5) 0) 16) % 256) + 1) % 256) : Int).toNat)).size + ((⟨#[48, 49, 50, 51, 52, 53, 54, 55, 56, 57, 97, 98, 99, 100, 101, 102]⟩ : ByteArray).extract ((Int.tmod (bt (rdOf ByteArray.empty x4 x5) 0) 16) : Int).toNat ((((Int.tmod (bt (rdOf ByteArray.empty x4 x5) 0) 16) + 1) % 256) : Int).toNat).size ≤ 9223372036854775807 then (annuletref04_Quote.l0 k (((x3 ++ (⟨#[37]⟩ : ByteArray)) ++ ((⟨#[48, 49, 50, 51, 52, 53, 54, 55, 56, 57, 97, 98, 99, 100, 101, 102]⟩ : ByteArray).extract (((Int.tdiv (bt (rdOf ByteArray.empty x4 x5) 0) 16) % 256) : Int).toNat (((((Int.tdiv (bt (rdOf ByteArray.empty x4 x5) 0) 16) % 256) + 1) % 256) : Int).toNat)) ++ ((⟨#[48, 49, 50, 51, 52, 53, 54, 55, 56, 57, 97, 98, 99, 100, 101, 102]⟩ : ByteArray).extract ((Int.tmod (bt (rdOf ByteArray.empty x4 x5) 0) 16) : Int).toNat ((((Int.tmod (bt (rdOf ByteArray.empty x4 x5) 0) 16) + 1) % 256) : Int).toNat)) x4 (wrap64 (x5 + 1))) else (none)) else (none)) else (none)) else (none)) else (none)) else (none)) else (none)) else (none)) else (none))) else (none)) else (none)) else (some x3)
def annuletref04_Quote.f (k : Nat) (a0 : ByteArray) : Option (ByteArray) := if a0.toList = ([] : List UInt8) then (some (⟨#[37]⟩ : ByteArray)) else ((annuletref04_Parts.f k a0).bind fun t135 => (annuletref04_Quote.l0 k (⟨#[]⟩ : ByteArray) t135 0))
theorem annuletref04_Quote.mono_l : ∀ k, (∀ y0 y1 y2, LeO (annuletref04_Quote.l0 k y0 y1 y2) (annuletref04_Quote.l0 (k + 1) y0 y1 y2))
  | 0 => fun _ _ _ r h => by simp [annuletref04_Quote.l0] at h
  | k + 1 => by
    have ih0 := annuletref04_Quote.mono_l k
    · intro y0 y1 y2
      unfold annuletref04_Quote.l0
      repeat' first
      | (with_reducible exact ih0 _ _ _)
      | (with_reducible exact annuletref04_Parts.mono _ _)
      | (with_reducible exact annuletref04_Width.mono _ _ _)
      | (with_reducible exact LeO.refl _)
      | (with_reducible exact LeO.none _)
      | (with_reducible refine LeO.ite ?_ ?_)
      | (with_reducible refine LeO.bind ?_ (fun _ => ?_))
      | exact ih0 _ _ _
      | exact annuletref04_Parts.mono _ _
      | exact annuletref04_Width.mono _ _ _
      | exact LeO.none _
      | refine LeO.ite ?_ ?_
      | refine LeO.bind ?_ (fun _ => ?_)
theorem annuletref04_Quote.mono : ∀ a0 k, LeO (annuletref04_Quote.f k a0) (annuletref04_Quote.f (k + 1) a0) := by
  intro a0 k
  have ih0 := annuletref04_Quote.mono_l k
  unfold annuletref04_Quote.f
  repeat' first
      | (with_reducible exact ih0 _ _ _)
      | (with_reducible exact annuletref04_Parts.mono _ _)
      | (with_reducible exact annuletref04_Width.mono _ _ _)
      | (with_reducible exact LeO.refl _)
      | (with_reducible exact LeO.none _)
      | (with_reducible refine LeO.ite ?_ ?_)
      | (with_reducible refine LeO.bind ?_ (fun _ => ?_))
      | exact ih0 _ _ _
      | exact annuletref04_Parts.mono _ _
      | exact annuletref04_Width.mono _ _ _
      | exact LeO.none _
      | refine LeO.ite ?_ ?_
      | refine LeO.bind ?_ (fun _ => ?_)
set_option maxHeartbeats 3000000 in
set_option maxRecDepth 100000 in
theorem annuletref04_Quote.calls (k : Nat) (a0 : ByteArray) (r : ByteArray) (w : World) (h : annuletref04_Quote.f k a0 = some r) :
    Calls Tryd.prog 17 #[.string a0] w fun e w' => e = .returned (.string r) ∧ Below w.heap.size w w' := by
  have HB := Aside0.mk (Below.refl w.heap.size w)
  have H : (if a0.toList = ([] : List UInt8) then (some (⟨#[37]⟩ : ByteArray)) else ((annuletref04_Parts.f k a0).bind fun t135 => (annuletref04_Quote.l0 k (⟨#[]⟩ : ByteArray) t135 0))) = some r := h
  clear h
  by_cases c2 : a0.toList = ([] : List UInt8)
  · rw [if_pos c2] at H
    have c2b0 : (a0.toList == ([] : List UInt8)) = true := beq_iff_eq.mpr c2
    have c2b1 : (a0.toList != ([] : List UInt8)) = false := bne_eq_false_iff_eq.mpr c2
    clear c2
    obtain rfl := Option.some.inj H
    go_enter Tryd.func17, Tryd.ntmps17
    go_wp2
    repeat (go_quiet (fail); try go_wp2)
    all_goals go_ret
    all_goals first | (exact ⟨by first | rfl | (simp [errW_none, errW_some] <;> rfl) | (simp [*, errW_none, errW_some] <;> rfl), by repeat (first | (with_reducible first | exact HB.out | apply below_alloc | apply pw_below_drewN | apply below_drew1) | exact HB.out)⟩) | (exfalso; simp_all; done)
  · rw [if_neg c2] at H
    have c2b0 : (a0.toList == ([] : List UInt8)) = false := beq_eq_false_iff_ne.mpr c2
    have c2b1 : (a0.toList != ([] : List UInt8)) = true := bne_iff_ne.mpr c2
    replace H := Option.bind_eq_some_iff.mp H
    obtain ⟨t135, A30, H⟩ := H
    replace H : (annuletref04_Quote.l0 k (⟨#[]⟩ : ByteArray) t135 0) = some r := H
    have A3 := Aside0.mk A30
    clear A30
    have H' := Aside0.mk H
    clear H
    go_enter Tryd.func17, Tryd.ntmps17
    go_wp2_with (first | (go_at_call 11; (with_reducible refine (annuletref04_Parts.calls k a0 t135 _ A3.out).mono ?_); rintro e w4 ⟨v136, rfl, ho0, hb⟩; have n0_ := Aside0.mk (Kd.R_lower ho0 (below_size (by repeat (first | (with_reducible first | exact HB.out | apply below_alloc | apply pw_below_drewN | apply below_drew1) | exact HB.out)))); have n1_ := Aside0.mk (below_step (by repeat (first | (with_reducible first | exact HB.out | apply below_alloc | apply pw_below_drewN | apply below_drew1) | exact HB.out)) hb); clear HB; have HO137 := n0_; have HB := n1_; clear n0_ n1_; (try clear hb); (try clear hb2); (try clear hk); (try clear hi); (try clear ho0)))
    repeat (go_quiet (first | (go_at_call 11; (with_reducible refine (annuletref04_Parts.calls k a0 t135 _ A3.out).mono ?_); rintro e w4 ⟨v136, rfl, ho0, hb⟩; have n0_ := Aside0.mk (Kd.R_lower ho0 (below_size (by repeat (first | (with_reducible first | exact HB.out | apply below_alloc | apply pw_below_drewN | apply below_drew1) | exact HB.out)))); have n1_ := Aside0.mk (below_step (by repeat (first | (with_reducible first | exact HB.out | apply below_alloc | apply pw_below_drewN | apply below_drew1) | exact HB.out)) hb); clear HB; have HO137 := n0_; have HB := n1_; clear n0_ n1_; (try clear hb); (try clear hb2); (try clear hk); (try clear hi); (try clear ho0))); try go_wp2_with (first | (go_at_call 11; (with_reducible refine (annuletref04_Parts.calls k a0 t135 _ A3.out).mono ?_); rintro e w4 ⟨v136, rfl, ho0, hb⟩; have n0_ := Aside0.mk (Kd.R_lower ho0 (below_size (by repeat (first | (with_reducible first | exact HB.out | apply below_alloc | apply pw_below_drewN | apply below_drew1) | exact HB.out)))); have n1_ := Aside0.mk (below_step (by repeat (first | (with_reducible first | exact HB.out | apply below_alloc | apply pw_below_drewN | apply below_drew1) | exact HB.out)) hb); clear HB; have HO137 := n0_; have HB := n1_; clear n0_ n1_; (try clear hb); (try clear hb2); (try clear hk); (try clear hi); (try clear ho0))))
    go_loopg [3, 5] k (fun kq v3 v5 w' => ∃ (x3_1 : ByteArray) (x5_1 : Int), v3 = .string x3_1 ∧ v5 = .int .i64 x5_1 ∧ Aside0 (annuletref04_Quote.l0 kq x3_1 t135 x5_1 = some r) ∧ Aside0 (kq ≤ k) ∧ Aside0 (Kd.R Kd.string 9 w' w.heap.size (fun _ => True) v136 t135) ∧ Aside0 (Below w.heap.size w w'))
    case atStart => exact ⟨((⟨#[]⟩ : ByteArray)), (0), (by first | rfl | (simp; done) | (simp [*]; done)), (by first | rfl | (simp; done) | (simp [*]; done)), H', ⟨Nat.le_refl _⟩, ⟨by (with_reducible repeat (first | apply Kd.R_alloc | apply Kd.R_drewN | apply Kd.R_drew)); exact HO137.out⟩, ⟨by repeat (first | (with_reducible first | exact HB.out | apply below_alloc | apply pw_below_drewN | apply below_drew1) | exact HB.out)⟩⟩
    case round =>
      clear H'
      try clear c1
      try clear c2
      try clear c2b0
      try clear c2b1
      try clear p2
      obtain ⟨x3_1, x5_1, rfl, rfl, HA, HK1, HO_4, HB⟩ := hrel
      cases gk with
      | zero => exact absurd HA.out (by simp [annuletref04_Quote.l0])
      | succ k1 =>
        have H := HA.out
        clear HA
        simp only [annuletref04_Quote.l0] at H
        by_cases c5 : x5_1 < (t135.length : Int)
        · rw [if_pos c5] at H
          have c5b0 : decide (x5_1 < (t135.length : Int)) = true := decide_eq_true c5
          clear c5
          by_cases c6 : 0 ≤ x5_1
          · rw [if_pos c6] at H
            have c6b0 : decide (0 ≤ x5_1) = true := decide_eq_true c6
            clear c6
            by_cases c7 : 0 < ((rdOf ByteArray.empty t135 x5_1).size : Int)
            · rw [if_pos c7] at H
              have c7b0 : decide (0 < ((rdOf ByteArray.empty t135 x5_1).size : Int)) = true := decide_eq_true c7
              have c7b1 : decide (0 < (rdOf ByteArray.empty t135 x5_1).size) = true := decide_eq_true (by omega)
              clear c7
              by_cases c9 : (bt (rdOf ByteArray.empty t135 x5_1) 0) > 32
              · rw [if_pos c9] at H
                have c9b0 : decide (32 < (bt (rdOf ByteArray.empty t135 x5_1) 0)) = true := decide_eq_true c9
                clear c9
                by_cases c10 : (bt (rdOf ByteArray.empty t135 x5_1) 0) = 127
                · rw [if_pos c10] at H
                  have c10b0 : ((bt (rdOf ByteArray.empty t135 x5_1) 0) == 127) = true := beq_iff_eq.mpr c10
                  have c10b1 : ((bt (rdOf ByteArray.empty t135 x5_1) 0) != 127) = false := bne_eq_false_iff_eq.mpr c10
                  clear c10
                  by_cases c11 : x3_1.size + 1 ≤ 9223372036854775807
                  · rw [if_pos c11] at H
                    have c11b0 := eq_true c11
                    have c11b1 : decide (x3_1.size + 1 ≤ 9223372036854775807) = true := decide_eq_true c11
                    try have c11b2 : (9223372036854775807 < x3_1.size + 1) = False := eq_false (Nat.not_lt.2 c11)
                    obtain ⟨ji12, hji12⟩ : ∃ j_ : Int, ((Int.tdiv (bt (rdOf ByteArray.empty t135 x5_1) 0) 16) % 256) = j_ := ⟨_, rfl⟩
                    replace H : (if 0 ≤ (ji12) then (if (ji12) ≤ (((ji12) + 1) % 256) then (if (((ji12) + 1) % 256) ≤ 16 then (if (x3_1 ++ (⟨#[37]⟩ : ByteArray)).size + ((⟨#[48, 49, 50, 51, 52, 53, 54, 55, 56, 57, 97, 98, 99, 100, 101, 102]⟩ : ByteArray).extract ((ji12) : Int).toNat ((((ji12) + 1) % 256) : Int).toNat).size ≤ 9223372036854775807 then (if 0 ≤ (Int.tmod (bt (rdOf ByteArray.empty t135 x5_1) 0) 16) then (if (Int.tmod (bt (rdOf ByteArray.empty t135 x5_1) 0) 16) ≤ (((Int.tmod (bt (rdOf ByteArray.empty t135 x5_1) 0) 16) + 1) % 256) then (if (((Int.tmod (bt (rdOf ByteArray.empty t135 x5_1) 0) 16) + 1) % 256) ≤ 16 then (if ((x3_1 ++ (⟨#[37]⟩ : ByteArray)) ++ ((⟨#[48, 49, 50, 51, 52, 53, 54, 55, 56, 57, 97, 98, 99, 100, 101, 102]⟩ : ByteArray).extract ((ji12) : Int).toNat ((((ji12) + 1) % 256) : Int).toNat)).size + ((⟨#[48, 49, 50, 51, 52, 53, 54, 55, 56, 57, 97, 98, 99, 100, 101, 102]⟩ : ByteArray).extract ((Int.tmod (bt (rdOf ByteArray.empty t135 x5_1) 0) 16) : Int).toNat ((((Int.tmod (bt (rdOf ByteArray.empty t135 x5_1) 0) 16) + 1) % 256) : Int).toNat).size ≤ 9223372036854775807 then (annuletref04_Quote.l0 k1 (((x3_1 ++ (⟨#[37]⟩ : ByteArray)) ++ ((⟨#[48, 49, 50, 51, 52, 53, 54, 55, 56, 57, 97, 98, 99, 100, 101, 102]⟩ : ByteArray).extract ((ji12) : Int).toNat ((((ji12) + 1) % 256) : Int).toNat)) ++ ((⟨#[48, 49, 50, 51, 52, 53, 54, 55, 56, 57, 97, 98, 99, 100, 101, 102]⟩ : ByteArray).extract ((Int.tmod (bt (rdOf ByteArray.empty t135 x5_1) 0) 16) : Int).toNat ((((Int.tmod (bt (rdOf ByteArray.empty t135 x5_1) 0) 16) + 1) % 256) : Int).toNat)) t135 (wrap64 (x5_1 + 1))) else (none)) else (none)) else (none)) else (none)) else (none)) else (none)) else (none)) else (none)) = some r := by first | (rw [hji12] at H; exact H) | (simp only [hji12] at H ⊢; exact H)
                    by_cases c13 : 0 ≤ (ji12)
                    · rw [if_pos c13] at H
                      have c13b0 := eq_true c13
                      have c13b1 : decide (0 ≤ (ji12)) = true := decide_eq_true c13
                      clear c13
                      by_cases c14 : (ji12) ≤ (((ji12) + 1) % 256)
                      · rw [if_pos c14] at H
                        have c14b0 := eq_true c14
                        have c14b1 : decide ((ji12) ≤ (((ji12) + 1) % 256)) = true := decide_eq_true c14
                        by_cases c15 : (((ji12) + 1) % 256) ≤ 16
                        · rw [if_pos c15] at H
                          have c15b0 := eq_true c15
                          have c15b1 : decide ((((ji12) + 1) % 256) ≤ 16) = true := decide_eq_true c15
                          by_cases c16 : (x3_1 ++ (⟨#[37]⟩ : ByteArray)).size + ((⟨#[48, 49, 50, 51, 52, 53, 54, 55, 56, 57, 97, 98, 99, 100, 101, 102]⟩ : ByteArray).extract ((ji12) : Int).toNat ((((ji12) + 1) % 256) : Int).toNat).size ≤ 9223372036854775807
                          · rw [if_pos c16] at H
                            have c16b0 := eq_true c16
                            have c16b1 : decide ((x3_1 ++ (⟨#[37]⟩ : ByteArray)).size + ((⟨#[48, 49, 50, 51, 52, 53, 54, 55, 56, 57, 97, 98, 99, 100, 101, 102]⟩ : ByteArray).extract ((ji12) : Int).toNat ((((ji12) + 1) % 256) : Int).toNat).size ≤ 9223372036854775807) = true := decide_eq_true c16
                            try have c16b2 : (9223372036854775807 < (x3_1 ++ (⟨#[37]⟩ : ByteArray)).size + ((⟨#[48, 49, 50, 51, 52, 53, 54, 55, 56, 57, 97, 98, 99, 100, 101, 102]⟩ : ByteArray).extract ((ji12) : Int).toNat ((((ji12) + 1) % 256) : Int).toNat).size) = False := eq_false (Nat.not_lt.2 c16)
                            obtain ⟨ji17, hji17⟩ : ∃ j_ : Int, (Int.tmod (bt (rdOf ByteArray.empty t135 x5_1) 0) 16) = j_ := ⟨_, rfl⟩
                            replace H : (if 0 ≤ (ji17) then (if (ji17) ≤ (((ji17) + 1) % 256) then (if (((ji17) + 1) % 256) ≤ 16 then (if ((x3_1 ++ (⟨#[37]⟩ : ByteArray)) ++ ((⟨#[48, 49, 50, 51, 52, 53, 54, 55, 56, 57, 97, 98, 99, 100, 101, 102]⟩ : ByteArray).extract ((ji12) : Int).toNat ((((ji12) + 1) % 256) : Int).toNat)).size + ((⟨#[48, 49, 50, 51, 52, 53, 54, 55, 56, 57, 97, 98, 99, 100, 101, 102]⟩ : ByteArray).extract ((ji17) : Int).toNat ((((ji17) + 1) % 256) : Int).toNat).size ≤ 9223372036854775807 then (annuletref04_Quote.l0 k1 (((x3_1 ++ (⟨#[37]⟩ : ByteArray)) ++ ((⟨#[48, 49, 50, 51, 52, 53, 54, 55, 56, 57, 97, 98, 99, 100, 101, 102]⟩ : ByteArray).extract ((ji12) : Int).toNat ((((ji12) + 1) % 256) : Int).toNat)) ++ ((⟨#[48, 49, 50, 51, 52, 53, 54, 55, 56, 57, 97, 98, 99, 100, 101, 102]⟩ : ByteArray).extract ((ji17) : Int).toNat ((((ji17) + 1) % 256) : Int).toNat)) t135 (wrap64 (x5_1 + 1))) else (none)) else (none)) else (none)) else (none)) = some r := by first | (rw [hji17] at H; exact H) | (simp only [hji17] at H ⊢; exact H)
                            by_cases c18 : 0 ≤ (ji17)
                            · rw [if_pos c18] at H
                              have c18b0 := eq_true c18
                              have c18b1 : decide (0 ≤ (ji17)) = true := decide_eq_true c18
                              clear c18
                              by_cases c19 : (ji17) ≤ (((ji17) + 1) % 256)
                              · rw [if_pos c19] at H
                                have c19b0 := eq_true c19
                                have c19b1 : decide ((ji17) ≤ (((ji17) + 1) % 256)) = true := decide_eq_true c19
                                by_cases c20 : (((ji17) + 1) % 256) ≤ 16
                                · rw [if_pos c20] at H
                                  have c20b0 := eq_true c20
                                  have c20b1 : decide ((((ji17) + 1) % 256) ≤ 16) = true := decide_eq_true c20
                                  by_cases c21 : ((x3_1 ++ (⟨#[37]⟩ : ByteArray)) ++ ((⟨#[48, 49, 50, 51, 52, 53, 54, 55, 56, 57, 97, 98, 99, 100, 101, 102]⟩ : ByteArray).extract ((ji12) : Int).toNat ((((ji12) + 1) % 256) : Int).toNat)).size + ((⟨#[48, 49, 50, 51, 52, 53, 54, 55, 56, 57, 97, 98, 99, 100, 101, 102]⟩ : ByteArray).extract ((ji17) : Int).toNat ((((ji17) + 1) % 256) : Int).toNat).size ≤ 9223372036854775807
                                  · rw [if_pos c21] at H
                                    have c21b0 := eq_true c21
                                    have c21b1 : decide (((x3_1 ++ (⟨#[37]⟩ : ByteArray)) ++ ((⟨#[48, 49, 50, 51, 52, 53, 54, 55, 56, 57, 97, 98, 99, 100, 101, 102]⟩ : ByteArray).extract ((ji12) : Int).toNat ((((ji12) + 1) % 256) : Int).toNat)).size + ((⟨#[48, 49, 50, 51, 52, 53, 54, 55, 56, 57, 97, 98, 99, 100, 101, 102]⟩ : ByteArray).extract ((ji17) : Int).toNat ((((ji17) + 1) % 256) : Int).toNat).size ≤ 9223372036854775807) = true := decide_eq_true c21
                                    try have c21b2 : (9223372036854775807 < ((x3_1 ++ (⟨#[37]⟩ : ByteArray)) ++ ((⟨#[48, 49, 50, 51, 52, 53, 54, 55, 56, 57, 97, 98, 99, 100, 101, 102]⟩ : ByteArray).extract ((ji12) : Int).toNat ((((ji12) + 1) % 256) : Int).toNat)).size + ((⟨#[48, 49, 50, 51, 52, 53, 54, 55, 56, 57, 97, 98, 99, 100, 101, 102]⟩ : ByteArray).extract ((ji17) : Int).toNat ((((ji17) + 1) % 256) : Int).toNat).size) = False := eq_false (Nat.not_lt.2 c21)
                                    (try (have z_ : ((ji12) + 1) % 256 = (ji12) + 1 := (by have a_ : ((ji12) : Int) ≤ ((ji12) + 1) % 256 := of_decide_eq_true (by assumption); have b_ : (0 : Int) ≤ (ji12) := of_decide_eq_true (by assumption); have c_ : ((ji12) : Int) < 256 := (by rw [← hji12]; first | exact Int.emod_lt_of_pos _ (by decide) | exact Int.lt_trans (Int.tmod_lt_of_pos _ (by decide)) (by decide)); omega); simp only [z_] at *; clear z_))
                                    (try have nn_ji12 : (0 : Int) ≤ (ji12) := of_decide_eq_true (by assumption))
                                    (try (have z_ : ((ji17) + 1) % 256 = (ji17) + 1 := (by have a_ : ((ji17) : Int) ≤ ((ji17) + 1) % 256 := of_decide_eq_true (by assumption); have b_ : (0 : Int) ≤ (ji17) := of_decide_eq_true (by assumption); have c_ : ((ji17) : Int) < 256 := (by rw [← hji17]; first | exact Int.emod_lt_of_pos _ (by decide) | exact Int.lt_trans (Int.tmod_lt_of_pos _ (by decide)) (by decide)); omega); simp only [z_] at *; clear z_))
                                    (try have nn_ji17 : (0 : Int) ≤ (ji17) := of_decide_eq_true (by assumption))
                                    have H' := Aside0.mk H
                                    clear H
                                    obtain ⟨Ao22, co22, eo22⟩ := Kd.R_slice HO_4.out
                                    subst eo22
                                    have p138 : 0 ≤ (x5_1 : Int) := of_decide_eq_true (by first | (with_reducible assumption) | assumption)
                                    have q138 : x5_1 < (t135.length : Int) := of_decide_eq_true (by first | (with_reducible assumption) | assumption)
                                    obtain ⟨ad138, e138, hx138_0⟩ := Kd.at_string (Kd.R_reads' HO_4.out).2.2 x5_1 p138 q138
                                    cases e138
                                    replace p138 := eq_true p138
                                    replace q138 := eq_true q138
                                    have p8 : 0 ≤ (0 : Int) := (by omega)
                                    have q8 : 0 < (rdOf ByteArray.empty t135 x5_1).size := (by have : (0 : Int) < ((rdOf ByteArray.empty t135 x5_1).size : Int) := of_decide_eq_true (by first | (with_reducible assumption) | assumption); omega)
                                    have hx8 : ∀ h : 0 < (rdOf ByteArray.empty t135 x5_1).size, (((rdOf ByteArray.empty t135 x5_1)[0]'h).toNat : Int) = bt (rdOf ByteArray.empty t135 x5_1) 0 := bt_at (rdOf ByteArray.empty t135 x5_1) 0
                                    clear p8
                                    have qi8 : (0 < ((rdOf ByteArray.empty t135 x5_1).size : Int)) = True := eq_true (of_decide_eq_true (by first | (with_reducible assumption) | assumption))
                                    replace q8 := eq_true q8
                                    go_wp2
                                    repeat (go_quiet (fail); try go_wp2)
                                    go_roundg k1
                                    case measure => have := HK1.out; omega
                                    case rel => exact ⟨(((x3_1 ++ (⟨#[37]⟩ : ByteArray)) ++ ((⟨#[48, 49, 50, 51, 52, 53, 54, 55, 56, 57, 97, 98, 99, 100, 101, 102]⟩ : ByteArray).extract ((ji12) : Int).toNat (((ji12) + 1) : Int).toNat)) ++ ((⟨#[48, 49, 50, 51, 52, 53, 54, 55, 56, 57, 97, 98, 99, 100, 101, 102]⟩ : ByteArray).extract ((ji17) : Int).toNat (((ji17) + 1) : Int).toNat)), (wrap64 (x5_1 + 1)), (by first | rfl | (simp; done) | (simp only [← hji12, ← hji17] <;> (first | rfl | (simp; done))) | (simp [*]; done)), (by first | rfl | (simp; done) | (simp [*]; done)), H', ⟨by have := HK1.out; omega⟩, ⟨by (with_reducible repeat (first | apply Kd.R_alloc | apply Kd.R_drewN | apply Kd.R_drew)); exact HO_4.out⟩, ⟨by repeat (first | (with_reducible first | exact HB.out | apply below_alloc | apply pw_below_drewN | apply below_drew1) | exact HB.out)⟩⟩
                                  · rw [if_neg c21] at H
                                    exact absurd H (by simp)
                                · rw [if_neg c20] at H
                                  exact absurd H (by simp)
                              · rw [if_neg c19] at H
                                exact absurd H (by simp)
                            · rw [if_neg c18] at H
                              exact absurd H (by simp)
                          · rw [if_neg c16] at H
                            exact absurd H (by simp)
                        · rw [if_neg c15] at H
                          exact absurd H (by simp)
                      · rw [if_neg c14] at H
                        exact absurd H (by simp)
                    · rw [if_neg c13] at H
                      exact absurd H (by simp)
                  · rw [if_neg c11] at H
                    exact absurd H (by simp)
                · rw [if_neg c10] at H
                  have c10b0 : ((bt (rdOf ByteArray.empty t135 x5_1) 0) == 127) = false := beq_eq_false_iff_ne.mpr c10
                  have c10b1 : ((bt (rdOf ByteArray.empty t135 x5_1) 0) != 127) = true := bne_iff_ne.mpr c10
                  by_cases c23 : (bt (rdOf ByteArray.empty t135 x5_1) 0) = 37
                  · rw [if_pos c23] at H
                    have c23b0 : ((bt (rdOf ByteArray.empty t135 x5_1) 0) == 37) = true := beq_iff_eq.mpr c23
                    have c23b1 : ((bt (rdOf ByteArray.empty t135 x5_1) 0) != 37) = false := bne_eq_false_iff_eq.mpr c23
                    clear c23
                    by_cases c24 : x3_1.size + 1 ≤ 9223372036854775807
                    · rw [if_pos c24] at H
                      have c24b0 := eq_true c24
                      have c24b1 : decide (x3_1.size + 1 ≤ 9223372036854775807) = true := decide_eq_true c24
                      try have c24b2 : (9223372036854775807 < x3_1.size + 1) = False := eq_false (Nat.not_lt.2 c24)
                      obtain ⟨ji25, hji25⟩ : ∃ j_ : Int, ((Int.tdiv (bt (rdOf ByteArray.empty t135 x5_1) 0) 16) % 256) = j_ := ⟨_, rfl⟩
                      replace H : (if 0 ≤ (ji25) then (if (ji25) ≤ (((ji25) + 1) % 256) then (if (((ji25) + 1) % 256) ≤ 16 then (if (x3_1 ++ (⟨#[37]⟩ : ByteArray)).size + ((⟨#[48, 49, 50, 51, 52, 53, 54, 55, 56, 57, 97, 98, 99, 100, 101, 102]⟩ : ByteArray).extract ((ji25) : Int).toNat ((((ji25) + 1) % 256) : Int).toNat).size ≤ 9223372036854775807 then (if 0 ≤ (Int.tmod (bt (rdOf ByteArray.empty t135 x5_1) 0) 16) then (if (Int.tmod (bt (rdOf ByteArray.empty t135 x5_1) 0) 16) ≤ (((Int.tmod (bt (rdOf ByteArray.empty t135 x5_1) 0) 16) + 1) % 256) then (if (((Int.tmod (bt (rdOf ByteArray.empty t135 x5_1) 0) 16) + 1) % 256) ≤ 16 then (if ((x3_1 ++ (⟨#[37]⟩ : ByteArray)) ++ ((⟨#[48, 49, 50, 51, 52, 53, 54, 55, 56, 57, 97, 98, 99, 100, 101, 102]⟩ : ByteArray).extract ((ji25) : Int).toNat ((((ji25) + 1) % 256) : Int).toNat)).size + ((⟨#[48, 49, 50, 51, 52, 53, 54, 55, 56, 57, 97, 98, 99, 100, 101, 102]⟩ : ByteArray).extract ((Int.tmod (bt (rdOf ByteArray.empty t135 x5_1) 0) 16) : Int).toNat ((((Int.tmod (bt (rdOf ByteArray.empty t135 x5_1) 0) 16) + 1) % 256) : Int).toNat).size ≤ 9223372036854775807 then (annuletref04_Quote.l0 k1 (((x3_1 ++ (⟨#[37]⟩ : ByteArray)) ++ ((⟨#[48, 49, 50, 51, 52, 53, 54, 55, 56, 57, 97, 98, 99, 100, 101, 102]⟩ : ByteArray).extract ((ji25) : Int).toNat ((((ji25) + 1) % 256) : Int).toNat)) ++ ((⟨#[48, 49, 50, 51, 52, 53, 54, 55, 56, 57, 97, 98, 99, 100, 101, 102]⟩ : ByteArray).extract ((Int.tmod (bt (rdOf ByteArray.empty t135 x5_1) 0) 16) : Int).toNat ((((Int.tmod (bt (rdOf ByteArray.empty t135 x5_1) 0) 16) + 1) % 256) : Int).toNat)) t135 (wrap64 (x5_1 + 1))) else (none)) else (none)) else (none)) else (none)) else (none)) else (none)) else (none)) else (none)) = some r := by first | (rw [hji25] at H; exact H) | (simp only [hji25] at H ⊢; exact H)
                      by_cases c26 : 0 ≤ (ji25)
                      · rw [if_pos c26] at H
                        have c26b0 := eq_true c26
                        have c26b1 : decide (0 ≤ (ji25)) = true := decide_eq_true c26
                        clear c26
                        by_cases c27 : (ji25) ≤ (((ji25) + 1) % 256)
                        · rw [if_pos c27] at H
                          have c27b0 := eq_true c27
                          have c27b1 : decide ((ji25) ≤ (((ji25) + 1) % 256)) = true := decide_eq_true c27
                          by_cases c28 : (((ji25) + 1) % 256) ≤ 16
                          · rw [if_pos c28] at H
                            have c28b0 := eq_true c28
                            have c28b1 : decide ((((ji25) + 1) % 256) ≤ 16) = true := decide_eq_true c28
                            by_cases c29 : (x3_1 ++ (⟨#[37]⟩ : ByteArray)).size + ((⟨#[48, 49, 50, 51, 52, 53, 54, 55, 56, 57, 97, 98, 99, 100, 101, 102]⟩ : ByteArray).extract ((ji25) : Int).toNat ((((ji25) + 1) % 256) : Int).toNat).size ≤ 9223372036854775807
                            · rw [if_pos c29] at H
                              have c29b0 := eq_true c29
                              have c29b1 : decide ((x3_1 ++ (⟨#[37]⟩ : ByteArray)).size + ((⟨#[48, 49, 50, 51, 52, 53, 54, 55, 56, 57, 97, 98, 99, 100, 101, 102]⟩ : ByteArray).extract ((ji25) : Int).toNat ((((ji25) + 1) % 256) : Int).toNat).size ≤ 9223372036854775807) = true := decide_eq_true c29
                              try have c29b2 : (9223372036854775807 < (x3_1 ++ (⟨#[37]⟩ : ByteArray)).size + ((⟨#[48, 49, 50, 51, 52, 53, 54, 55, 56, 57, 97, 98, 99, 100, 101, 102]⟩ : ByteArray).extract ((ji25) : Int).toNat ((((ji25) + 1) % 256) : Int).toNat).size) = False := eq_false (Nat.not_lt.2 c29)
                              obtain ⟨ji30, hji30⟩ : ∃ j_ : Int, (Int.tmod (bt (rdOf ByteArray.empty t135 x5_1) 0) 16) = j_ := ⟨_, rfl⟩
                              replace H : (if 0 ≤ (ji30) then (if (ji30) ≤ (((ji30) + 1) % 256) then (if (((ji30) + 1) % 256) ≤ 16 then (if ((x3_1 ++ (⟨#[37]⟩ : ByteArray)) ++ ((⟨#[48, 49, 50, 51, 52, 53, 54, 55, 56, 57, 97, 98, 99, 100, 101, 102]⟩ : ByteArray).extract ((ji25) : Int).toNat ((((ji25) + 1) % 256) : Int).toNat)).size + ((⟨#[48, 49, 50, 51, 52, 53, 54, 55, 56, 57, 97, 98, 99, 100, 101, 102]⟩ : ByteArray).extract ((ji30) : Int).toNat ((((ji30) + 1) % 256) : Int).toNat).size ≤ 9223372036854775807 then (annuletref04_Quote.l0 k1 (((x3_1 ++ (⟨#[37]⟩ : ByteArray)) ++ ((⟨#[48, 49, 50, 51, 52, 53, 54, 55, 56, 57, 97, 98, 99, 100, 101, 102]⟩ : ByteArray).extract ((ji25) : Int).toNat ((((ji25) + 1) % 256) : Int).toNat)) ++ ((⟨#[48, 49, 50, 51, 52, 53, 54, 55, 56, 57, 97, 98, 99, 100, 101, 102]⟩ : ByteArray).extract ((ji30) : Int).toNat ((((ji30) + 1) % 256) : Int).toNat)) t135 (wrap64 (x5_1 + 1))) else (none)) else (none)) else (none)) else (none)) = some r := by first | (rw [hji30] at H; exact H) | (simp only [hji30] at H ⊢; exact H)
                              by_cases c31 : 0 ≤ (ji30)
                              · rw [if_pos c31] at H
                                have c31b0 := eq_true c31
                                have c31b1 : decide (0 ≤ (ji30)) = true := decide_eq_true c31
                                clear c31
                                by_cases c32 : (ji30) ≤ (((ji30) + 1) % 256)
                                · rw [if_pos c32] at H
                                  have c32b0 := eq_true c32
                                  have c32b1 : decide ((ji30) ≤ (((ji30) + 1) % 256)) = true := decide_eq_true c32
                                  by_cases c33 : (((ji30) + 1) % 256) ≤ 16
                                  · rw [if_pos c33] at H
                                    have c33b0 := eq_true c33
                                    have c33b1 : decide ((((ji30) + 1) % 256) ≤ 16) = true := decide_eq_true c33
                                    by_cases c34 : ((x3_1 ++ (⟨#[37]⟩ : ByteArray)) ++ ((⟨#[48, 49, 50, 51, 52, 53, 54, 55, 56, 57, 97, 98, 99, 100, 101, 102]⟩ : ByteArray).extract ((ji25) : Int).toNat ((((ji25) + 1) % 256) : Int).toNat)).size + ((⟨#[48, 49, 50, 51, 52, 53, 54, 55, 56, 57, 97, 98, 99, 100, 101, 102]⟩ : ByteArray).extract ((ji30) : Int).toNat ((((ji30) + 1) % 256) : Int).toNat).size ≤ 9223372036854775807
                                    · rw [if_pos c34] at H
                                      have c34b0 := eq_true c34
                                      have c34b1 : decide (((x3_1 ++ (⟨#[37]⟩ : ByteArray)) ++ ((⟨#[48, 49, 50, 51, 52, 53, 54, 55, 56, 57, 97, 98, 99, 100, 101, 102]⟩ : ByteArray).extract ((ji25) : Int).toNat ((((ji25) + 1) % 256) : Int).toNat)).size + ((⟨#[48, 49, 50, 51, 52, 53, 54, 55, 56, 57, 97, 98, 99, 100, 101, 102]⟩ : ByteArray).extract ((ji30) : Int).toNat ((((ji30) + 1) % 256) : Int).toNat).size ≤ 9223372036854775807) = true := decide_eq_true c34
                                      try have c34b2 : (9223372036854775807 < ((x3_1 ++ (⟨#[37]⟩ : ByteArray)) ++ ((⟨#[48, 49, 50, 51, 52, 53, 54, 55, 56, 57, 97, 98, 99, 100, 101, 102]⟩ : ByteArray).extract ((ji25) : Int).toNat ((((ji25) + 1) % 256) : Int).toNat)).size + ((⟨#[48, 49, 50, 51, 52, 53, 54, 55, 56, 57, 97, 98, 99, 100, 101, 102]⟩ : ByteArray).extract ((ji30) : Int).toNat ((((ji30) + 1) % 256) : Int).toNat).size) = False := eq_false (Nat.not_lt.2 c34)
                                      (try (have z_ : ((ji25) + 1) % 256 = (ji25) + 1 := (by have a_ : ((ji25) : Int) ≤ ((ji25) + 1) % 256 := of_decide_eq_true (by assumption); have b_ : (0 : Int) ≤ (ji25) := of_decide_eq_true (by assumption); have c_ : ((ji25) : Int) < 256 := (by rw [← hji25]; first | exact Int.emod_lt_of_pos _ (by decide) | exact Int.lt_trans (Int.tmod_lt_of_pos _ (by decide)) (by decide)); omega); simp only [z_] at *; clear z_))
                                      (try have nn_ji25 : (0 : Int) ≤ (ji25) := of_decide_eq_true (by assumption))
                                      (try (have z_ : ((ji30) + 1) % 256 = (ji30) + 1 := (by have a_ : ((ji30) : Int) ≤ ((ji30) + 1) % 256 := of_decide_eq_true (by assumption); have b_ : (0 : Int) ≤ (ji30) := of_decide_eq_true (by assumption); have c_ : ((ji30) : Int) < 256 := (by rw [← hji30]; first | exact Int.emod_lt_of_pos _ (by decide) | exact Int.lt_trans (Int.tmod_lt_of_pos _ (by decide)) (by decide)); omega); simp only [z_] at *; clear z_))
                                      (try have nn_ji30 : (0 : Int) ≤ (ji30) := of_decide_eq_true (by assumption))
                                      have H' := Aside0.mk H
                                      clear H
                                      obtain ⟨Ao35, co35, eo35⟩ := Kd.R_slice HO_4.out
                                      subst eo35
                                      have p138 : 0 ≤ (x5_1 : Int) := of_decide_eq_true (by first | (with_reducible assumption) | assumption)
                                      have q138 : x5_1 < (t135.length : Int) := of_decide_eq_true (by first | (with_reducible assumption) | assumption)
                                      obtain ⟨ad138, e138, hx138_0⟩ := Kd.at_string (Kd.R_reads' HO_4.out).2.2 x5_1 p138 q138
                                      cases e138
                                      replace p138 := eq_true p138
                                      replace q138 := eq_true q138
                                      have p8 : 0 ≤ (0 : Int) := (by omega)
                                      have q8 : 0 < (rdOf ByteArray.empty t135 x5_1).size := (by have : (0 : Int) < ((rdOf ByteArray.empty t135 x5_1).size : Int) := of_decide_eq_true (by first | (with_reducible assumption) | assumption); omega)
                                      have hx8 : ∀ h : 0 < (rdOf ByteArray.empty t135 x5_1).size, (((rdOf ByteArray.empty t135 x5_1)[0]'h).toNat : Int) = bt (rdOf ByteArray.empty t135 x5_1) 0 := bt_at (rdOf ByteArray.empty t135 x5_1) 0
                                      clear p8
                                      have qi8 : (0 < ((rdOf ByteArray.empty t135 x5_1).size : Int)) = True := eq_true (of_decide_eq_true (by first | (with_reducible assumption) | assumption))
                                      replace q8 := eq_true q8
                                      go_wp2
                                      repeat (go_quiet (fail); try go_wp2)
                                      go_roundg k1
                                      case measure => have := HK1.out; omega
                                      case rel => exact ⟨(((x3_1 ++ (⟨#[37]⟩ : ByteArray)) ++ ((⟨#[48, 49, 50, 51, 52, 53, 54, 55, 56, 57, 97, 98, 99, 100, 101, 102]⟩ : ByteArray).extract ((ji25) : Int).toNat (((ji25) + 1) : Int).toNat)) ++ ((⟨#[48, 49, 50, 51, 52, 53, 54, 55, 56, 57, 97, 98, 99, 100, 101, 102]⟩ : ByteArray).extract ((ji30) : Int).toNat (((ji30) + 1) : Int).toNat)), (wrap64 (x5_1 + 1)), (by first | rfl | (simp; done) | (simp only [← hji25, ← hji30] <;> (first | rfl | (simp; done))) | (simp [*]; done)), (by first | rfl | (simp; done) | (simp [*]; done)), H', ⟨by have := HK1.out; omega⟩, ⟨by (with_reducible repeat (first | apply Kd.R_alloc | apply Kd.R_drewN | apply Kd.R_drew)); exact HO_4.out⟩, ⟨by repeat (first | (with_reducible first | exact HB.out | apply below_alloc | apply pw_below_drewN | apply below_drew1) | exact HB.out)⟩⟩
                                    · rw [if_neg c34] at H
                                      exact absurd H (by simp)
                                  · rw [if_neg c33] at H
                                    exact absurd H (by simp)
                                · rw [if_neg c32] at H
                                  exact absurd H (by simp)
                              · rw [if_neg c31] at H
                                exact absurd H (by simp)
                            · rw [if_neg c29] at H
                              exact absurd H (by simp)
                          · rw [if_neg c28] at H
                            exact absurd H (by simp)
                        · rw [if_neg c27] at H
                          exact absurd H (by simp)
                      · rw [if_neg c26] at H
                        exact absurd H (by simp)
                    · rw [if_neg c24] at H
                      exact absurd H (by simp)
                  · rw [if_neg c23] at H
                    have c23b0 : ((bt (rdOf ByteArray.empty t135 x5_1) 0) == 37) = false := beq_eq_false_iff_ne.mpr c23
                    have c23b1 : ((bt (rdOf ByteArray.empty t135 x5_1) 0) != 37) = true := bne_iff_ne.mpr c23
                    replace H := Option.bind_eq_some_iff.mp H
                    obtain ⟨t140, A360, H⟩ := H
                    replace H : (if t140 > 0 then (if x3_1.size + (rdOf ByteArray.empty t135 x5_1).size ≤ 9223372036854775807 then (annuletref04_Quote.l0 k1 (x3_1 ++ (rdOf ByteArray.empty t135 x5_1)) t135 (wrap64 (x5_1 + 1))) else (none)) else (if x3_1.size + 1 ≤ 9223372036854775807 then (if 0 ≤ ((Int.tdiv (bt (rdOf ByteArray.empty t135 x5_1) 0) 16) % 256) then (if ((Int.tdiv (bt (rdOf ByteArray.empty t135 x5_1) 0) 16) % 256) ≤ ((((Int.tdiv (bt (rdOf ByteArray.empty t135 x5_1) 0) 16) % 256) + 1) % 256) then (if ((((Int.tdiv (bt (rdOf ByteArray.empty t135 x5_1) 0) 16) % 256) + 1) % 256) ≤ 16 then (if (x3_1 ++ (⟨#[37]⟩ : ByteArray)).size + ((⟨#[48, 49, 50, 51, 52, 53, 54, 55, 56, 57, 97, 98, 99, 100, 101, 102]⟩ : ByteArray).extract (((Int.tdiv (bt (rdOf ByteArray.empty t135 x5_1) 0) 16) % 256) : Int).toNat (((((Int.tdiv (bt (rdOf ByteArray.empty t135 x5_1) 0) 16) % 256) + 1) % 256) : Int).toNat).size ≤ 9223372036854775807 then (if 0 ≤ (Int.tmod (bt (rdOf ByteArray.empty t135 x5_1) 0) 16) then (if (Int.tmod (bt (rdOf ByteArray.empty t135 x5_1) 0) 16) ≤ (((Int.tmod (bt (rdOf ByteArray.empty t135 x5_1) 0) 16) + 1) % 256) then (if (((Int.tmod (bt (rdOf ByteArray.empty t135 x5_1) 0) 16) + 1) % 256) ≤ 16 then (if ((x3_1 ++ (⟨#[37]⟩ : ByteArray)) ++ ((⟨#[48, 49, 50, 51, 52, 53, 54, 55, 56, 57, 97, 98, 99, 100, 101, 102]⟩ : ByteArray).extract (((Int.tdiv (bt (rdOf ByteArray.empty t135 x5_1) 0) 16) % 256) : Int).toNat (((((Int.tdiv (bt (rdOf ByteArray.empty t135 x5_1) 0) 16) % 256) + 1) % 256) : Int).toNat)).size + ((⟨#[48, 49, 50, 51, 52, 53, 54, 55, 56, 57, 97, 98, 99, 100, 101, 102]⟩ : ByteArray).extract ((Int.tmod (bt (rdOf ByteArray.empty t135 x5_1) 0) 16) : Int).toNat ((((Int.tmod (bt (rdOf ByteArray.empty t135 x5_1) 0) 16) + 1) % 256) : Int).toNat).size ≤ 9223372036854775807 then (annuletref04_Quote.l0 k1 (((x3_1 ++ (⟨#[37]⟩ : ByteArray)) ++ ((⟨#[48, 49, 50, 51, 52, 53, 54, 55, 56, 57, 97, 98, 99, 100, 101, 102]⟩ : ByteArray).extract (((Int.tdiv (bt (rdOf ByteArray.empty t135 x5_1) 0) 16) % 256) : Int).toNat (((((Int.tdiv (bt (rdOf ByteArray.empty t135 x5_1) 0) 16) % 256) + 1) % 256) : Int).toNat)) ++ ((⟨#[48, 49, 50, 51, 52, 53, 54, 55, 56, 57, 97, 98, 99, 100, 101, 102]⟩ : ByteArray).extract ((Int.tmod (bt (rdOf ByteArray.empty t135 x5_1) 0) 16) : Int).toNat ((((Int.tmod (bt (rdOf ByteArray.empty t135 x5_1) 0) 16) + 1) % 256) : Int).toNat)) t135 (wrap64 (x5_1 + 1))) else (none)) else (none)) else (none)) else (none)) else (none)) else (none)) else (none)) else (none)) else (none))) = some r := H
                    have A36 := Aside0.mk A360
                    clear A360
                    by_cases c37 : t140 > 0
                    · rw [if_pos c37] at H
                      have c37b0 : decide (0 < t140) = true := decide_eq_true c37
                      clear c37
                      by_cases c38 : x3_1.size + (rdOf ByteArray.empty t135 x5_1).size ≤ 9223372036854775807
                      · rw [if_pos c38] at H
                        have c38b0 := eq_true c38
                        have c38b1 : decide (x3_1.size + (rdOf ByteArray.empty t135 x5_1).size ≤ 9223372036854775807) = true := decide_eq_true c38
                        try have c38b2 : (9223372036854775807 < x3_1.size + (rdOf ByteArray.empty t135 x5_1).size) = False := eq_false (Nat.not_lt.2 c38)
                        have H' := Aside0.mk H
                        clear H
                        obtain ⟨Ao39, co39, eo39⟩ := Kd.R_slice HO_4.out
                        subst eo39
                        have p138 : 0 ≤ (x5_1 : Int) := of_decide_eq_true (by first | (with_reducible assumption) | assumption)
                        have q138 : x5_1 < (t135.length : Int) := of_decide_eq_true (by first | (with_reducible assumption) | assumption)
                        obtain ⟨ad138, e138, hx138_0⟩ := Kd.at_string (Kd.R_reads' HO_4.out).2.2 x5_1 p138 q138
                        cases e138
                        replace p138 := eq_true p138
                        replace q138 := eq_true q138
                        have p8 : 0 ≤ (0 : Int) := (by omega)
                        have q8 : 0 < (rdOf ByteArray.empty t135 x5_1).size := (by have : (0 : Int) < ((rdOf ByteArray.empty t135 x5_1).size : Int) := of_decide_eq_true (by first | (with_reducible assumption) | assumption); omega)
                        have hx8 : ∀ h : 0 < (rdOf ByteArray.empty t135 x5_1).size, (((rdOf ByteArray.empty t135 x5_1)[0]'h).toNat : Int) = bt (rdOf ByteArray.empty t135 x5_1) 0 := bt_at (rdOf ByteArray.empty t135 x5_1) 0
                        clear p8
                        have qi8 : (0 < ((rdOf ByteArray.empty t135 x5_1).size : Int)) = True := eq_true (of_decide_eq_true (by first | (with_reducible assumption) | assumption))
                        replace q8 := eq_true q8
                        have p139 : 0 ≤ (x5_1 : Int) := of_decide_eq_true (by first | (with_reducible assumption) | assumption)
                        have q139 : x5_1 < (t135.length : Int) := of_decide_eq_true (by first | (with_reducible assumption) | assumption)
                        obtain ⟨ad139, e139, hx139_0⟩ := Kd.at_string (Kd.R_reads' HO_4.out).2.2 x5_1 p139 q139
                        obtain rfl : ad138 = ad139 := (by injection e139)
                        replace p139 := eq_true p139
                        replace q139 := eq_true q139
                        go_wp2_with (first | (go_at_call 19; (with_reducible refine (annuletref04_Width.calls k1 (rdOf ByteArray.empty t135 x5_1) 0 t140 _ A36.out).mono ?_); rintro e w' ⟨rfl, ⟨nd, rfl⟩⟩; (try first | exact ⟨rfl, _, World.drewN_drewN _ _ _⟩ | exact ⟨rfl, _, Eq.trans (World.drewN_drewN _ _ _) (congrArg (World.drewN _) (Nat.add_assoc _ _ _))⟩); have p141 : 0 ≤ (x5_1 : Int) := of_decide_eq_true (by first | (with_reducible assumption) | assumption); have q141 : x5_1 < (t135.length : Int) := of_decide_eq_true (by first | (with_reducible assumption) | assumption); obtain ⟨ad141, e141, hx141_0⟩ := Kd.at_string (Kd.R_reads' HO_4.out).2.2 x5_1 p141 q141; obtain rfl : ad138 = ad141 := (by injection e141); replace p141 := eq_true p141; replace q141 := eq_true q141))
                        repeat (go_quiet (first | (go_at_call 19; (with_reducible refine (annuletref04_Width.calls k1 (rdOf ByteArray.empty t135 x5_1) 0 t140 _ A36.out).mono ?_); rintro e w' ⟨rfl, ⟨nd, rfl⟩⟩; (try first | exact ⟨rfl, _, World.drewN_drewN _ _ _⟩ | exact ⟨rfl, _, Eq.trans (World.drewN_drewN _ _ _) (congrArg (World.drewN _) (Nat.add_assoc _ _ _))⟩); have p141 : 0 ≤ (x5_1 : Int) := of_decide_eq_true (by first | (with_reducible assumption) | assumption); have q141 : x5_1 < (t135.length : Int) := of_decide_eq_true (by first | (with_reducible assumption) | assumption); obtain ⟨ad141, e141, hx141_0⟩ := Kd.at_string (Kd.R_reads' HO_4.out).2.2 x5_1 p141 q141; obtain rfl : ad138 = ad141 := (by injection e141); replace p141 := eq_true p141; replace q141 := eq_true q141)); try go_wp2_with (first | (go_at_call 19; (with_reducible refine (annuletref04_Width.calls k1 (rdOf ByteArray.empty t135 x5_1) 0 t140 _ A36.out).mono ?_); rintro e w' ⟨rfl, ⟨nd, rfl⟩⟩; (try first | exact ⟨rfl, _, World.drewN_drewN _ _ _⟩ | exact ⟨rfl, _, Eq.trans (World.drewN_drewN _ _ _) (congrArg (World.drewN _) (Nat.add_assoc _ _ _))⟩); have p141 : 0 ≤ (x5_1 : Int) := of_decide_eq_true (by first | (with_reducible assumption) | assumption); have q141 : x5_1 < (t135.length : Int) := of_decide_eq_true (by first | (with_reducible assumption) | assumption); obtain ⟨ad141, e141, hx141_0⟩ := Kd.at_string (Kd.R_reads' HO_4.out).2.2 x5_1 p141 q141; obtain rfl : ad138 = ad141 := (by injection e141); replace p141 := eq_true p141; replace q141 := eq_true q141)))
                        go_roundg k1
                        case measure => have := HK1.out; omega
                        case rel => exact ⟨(x3_1 ++ (rdOf ByteArray.empty t135 x5_1)), (wrap64 (x5_1 + 1)), (by first | rfl | (simp; done) | (simp [*]; done)), (by first | rfl | (simp; done) | (simp [*]; done)), H', ⟨by have := HK1.out; omega⟩, ⟨by (with_reducible repeat (first | apply Kd.R_alloc | apply Kd.R_drewN | apply Kd.R_drew)); exact HO_4.out⟩, ⟨by repeat (first | (with_reducible first | exact HB.out | apply below_alloc | apply pw_below_drewN | apply below_drew1) | exact HB.out)⟩⟩
                      · rw [if_neg c38] at H
                        exact absurd H (by simp)
                    · rw [if_neg c37] at H
                      have c37b0 : decide (0 < t140) = false := decide_eq_false c37
                      clear c37
                      by_cases c40 : x3_1.size + 1 ≤ 9223372036854775807
                      · rw [if_pos c40] at H
                        have c40b0 := eq_true c40
                        have c40b1 : decide (x3_1.size + 1 ≤ 9223372036854775807) = true := decide_eq_true c40
                        try have c40b2 : (9223372036854775807 < x3_1.size + 1) = False := eq_false (Nat.not_lt.2 c40)
                        obtain ⟨ji41, hji41⟩ : ∃ j_ : Int, ((Int.tdiv (bt (rdOf ByteArray.empty t135 x5_1) 0) 16) % 256) = j_ := ⟨_, rfl⟩
                        replace H : (if 0 ≤ (ji41) then (if (ji41) ≤ (((ji41) + 1) % 256) then (if (((ji41) + 1) % 256) ≤ 16 then (if (x3_1 ++ (⟨#[37]⟩ : ByteArray)).size + ((⟨#[48, 49, 50, 51, 52, 53, 54, 55, 56, 57, 97, 98, 99, 100, 101, 102]⟩ : ByteArray).extract ((ji41) : Int).toNat ((((ji41) + 1) % 256) : Int).toNat).size ≤ 9223372036854775807 then (if 0 ≤ (Int.tmod (bt (rdOf ByteArray.empty t135 x5_1) 0) 16) then (if (Int.tmod (bt (rdOf ByteArray.empty t135 x5_1) 0) 16) ≤ (((Int.tmod (bt (rdOf ByteArray.empty t135 x5_1) 0) 16) + 1) % 256) then (if (((Int.tmod (bt (rdOf ByteArray.empty t135 x5_1) 0) 16) + 1) % 256) ≤ 16 then (if ((x3_1 ++ (⟨#[37]⟩ : ByteArray)) ++ ((⟨#[48, 49, 50, 51, 52, 53, 54, 55, 56, 57, 97, 98, 99, 100, 101, 102]⟩ : ByteArray).extract ((ji41) : Int).toNat ((((ji41) + 1) % 256) : Int).toNat)).size + ((⟨#[48, 49, 50, 51, 52, 53, 54, 55, 56, 57, 97, 98, 99, 100, 101, 102]⟩ : ByteArray).extract ((Int.tmod (bt (rdOf ByteArray.empty t135 x5_1) 0) 16) : Int).toNat ((((Int.tmod (bt (rdOf ByteArray.empty t135 x5_1) 0) 16) + 1) % 256) : Int).toNat).size ≤ 9223372036854775807 then (annuletref04_Quote.l0 k1 (((x3_1 ++ (⟨#[37]⟩ : ByteArray)) ++ ((⟨#[48, 49, 50, 51, 52, 53, 54, 55, 56, 57, 97, 98, 99, 100, 101, 102]⟩ : ByteArray).extract ((ji41) : Int).toNat ((((ji41) + 1) % 256) : Int).toNat)) ++ ((⟨#[48, 49, 50, 51, 52, 53, 54, 55, 56, 57, 97, 98, 99, 100, 101, 102]⟩ : ByteArray).extract ((Int.tmod (bt (rdOf ByteArray.empty t135 x5_1) 0) 16) : Int).toNat ((((Int.tmod (bt (rdOf ByteArray.empty t135 x5_1) 0) 16) + 1) % 256) : Int).toNat)) t135 (wrap64 (x5_1 + 1))) else (none)) else (none)) else (none)) else (none)) else (none)) else (none)) else (none)) else (none)) = some r := by first | (rw [hji41] at H; exact H) | (simp only [hji41] at H ⊢; exact H)
                        (try rw [hji41] at A36)
                        by_cases c42 : 0 ≤ (ji41)
                        · rw [if_pos c42] at H
                          have c42b0 := eq_true c42
                          have c42b1 : decide (0 ≤ (ji41)) = true := decide_eq_true c42
                          clear c42
                          by_cases c43 : (ji41) ≤ (((ji41) + 1) % 256)
                          · rw [if_pos c43] at H
                            have c43b0 := eq_true c43
                            have c43b1 : decide ((ji41) ≤ (((ji41) + 1) % 256)) = true := decide_eq_true c43
                            by_cases c44 : (((ji41) + 1) % 256) ≤ 16
                            · rw [if_pos c44] at H
                              have c44b0 := eq_true c44
                              have c44b1 : decide ((((ji41) + 1) % 256) ≤ 16) = true := decide_eq_true c44
                              by_cases c45 : (x3_1 ++ (⟨#[37]⟩ : ByteArray)).size + ((⟨#[48, 49, 50, 51, 52, 53, 54, 55, 56, 57, 97, 98, 99, 100, 101, 102]⟩ : ByteArray).extract ((ji41) : Int).toNat ((((ji41) + 1) % 256) : Int).toNat).size ≤ 9223372036854775807
                              · rw [if_pos c45] at H
                                have c45b0 := eq_true c45
                                have c45b1 : decide ((x3_1 ++ (⟨#[37]⟩ : ByteArray)).size + ((⟨#[48, 49, 50, 51, 52, 53, 54, 55, 56, 57, 97, 98, 99, 100, 101, 102]⟩ : ByteArray).extract ((ji41) : Int).toNat ((((ji41) + 1) % 256) : Int).toNat).size ≤ 9223372036854775807) = true := decide_eq_true c45
                                try have c45b2 : (9223372036854775807 < (x3_1 ++ (⟨#[37]⟩ : ByteArray)).size + ((⟨#[48, 49, 50, 51, 52, 53, 54, 55, 56, 57, 97, 98, 99, 100, 101, 102]⟩ : ByteArray).extract ((ji41) : Int).toNat ((((ji41) + 1) % 256) : Int).toNat).size) = False := eq_false (Nat.not_lt.2 c45)
                                obtain ⟨ji46, hji46⟩ : ∃ j_ : Int, (Int.tmod (bt (rdOf ByteArray.empty t135 x5_1) 0) 16) = j_ := ⟨_, rfl⟩
                                replace H : (if 0 ≤ (ji46) then (if (ji46) ≤ (((ji46) + 1) % 256) then (if (((ji46) + 1) % 256) ≤ 16 then (if ((x3_1 ++ (⟨#[37]⟩ : ByteArray)) ++ ((⟨#[48, 49, 50, 51, 52, 53, 54, 55, 56, 57, 97, 98, 99, 100, 101, 102]⟩ : ByteArray).extract ((ji41) : Int).toNat ((((ji41) + 1) % 256) : Int).toNat)).size + ((⟨#[48, 49, 50, 51, 52, 53, 54, 55, 56, 57, 97, 98, 99, 100, 101, 102]⟩ : ByteArray).extract ((ji46) : Int).toNat ((((ji46) + 1) % 256) : Int).toNat).size ≤ 9223372036854775807 then (annuletref04_Quote.l0 k1 (((x3_1 ++ (⟨#[37]⟩ : ByteArray)) ++ ((⟨#[48, 49, 50, 51, 52, 53, 54, 55, 56, 57, 97, 98, 99, 100, 101, 102]⟩ : ByteArray).extract ((ji41) : Int).toNat ((((ji41) + 1) % 256) : Int).toNat)) ++ ((⟨#[48, 49, 50, 51, 52, 53, 54, 55, 56, 57, 97, 98, 99, 100, 101, 102]⟩ : ByteArray).extract ((ji46) : Int).toNat ((((ji46) + 1) % 256) : Int).toNat)) t135 (wrap64 (x5_1 + 1))) else (none)) else (none)) else (none)) else (none)) = some r := by first | (rw [hji46] at H; exact H) | (simp only [hji46] at H ⊢; exact H)
                                (try rw [hji46] at A36)
                                by_cases c47 : 0 ≤ (ji46)
                                · rw [if_pos c47] at H
                                  have c47b0 := eq_true c47
                                  have c47b1 : decide (0 ≤ (ji46)) = true := decide_eq_true c47
                                  clear c47
                                  by_cases c48 : (ji46) ≤ (((ji46) + 1) % 256)
                                  · rw [if_pos c48] at H
                                    have c48b0 := eq_true c48
                                    have c48b1 : decide ((ji46) ≤ (((ji46) + 1) % 256)) = true := decide_eq_true c48
                                    by_cases c49 : (((ji46) + 1) % 256) ≤ 16
                                    · rw [if_pos c49] at H
                                      have c49b0 := eq_true c49
                                      have c49b1 : decide ((((ji46) + 1) % 256) ≤ 16) = true := decide_eq_true c49
                                      by_cases c50 : ((x3_1 ++ (⟨#[37]⟩ : ByteArray)) ++ ((⟨#[48, 49, 50, 51, 52, 53, 54, 55, 56, 57, 97, 98, 99, 100, 101, 102]⟩ : ByteArray).extract ((ji41) : Int).toNat ((((ji41) + 1) % 256) : Int).toNat)).size + ((⟨#[48, 49, 50, 51, 52, 53, 54, 55, 56, 57, 97, 98, 99, 100, 101, 102]⟩ : ByteArray).extract ((ji46) : Int).toNat ((((ji46) + 1) % 256) : Int).toNat).size ≤ 9223372036854775807
                                      · rw [if_pos c50] at H
                                        have c50b0 := eq_true c50
                                        have c50b1 : decide (((x3_1 ++ (⟨#[37]⟩ : ByteArray)) ++ ((⟨#[48, 49, 50, 51, 52, 53, 54, 55, 56, 57, 97, 98, 99, 100, 101, 102]⟩ : ByteArray).extract ((ji41) : Int).toNat ((((ji41) + 1) % 256) : Int).toNat)).size + ((⟨#[48, 49, 50, 51, 52, 53, 54, 55, 56, 57, 97, 98, 99, 100, 101, 102]⟩ : ByteArray).extract ((ji46) : Int).toNat ((((ji46) + 1) % 256) : Int).toNat).size ≤ 9223372036854775807) = true := decide_eq_true c50
                                        try have c50b2 : (9223372036854775807 < ((x3_1 ++ (⟨#[37]⟩ : ByteArray)) ++ ((⟨#[48, 49, 50, 51, 52, 53, 54, 55, 56, 57, 97, 98, 99, 100, 101, 102]⟩ : ByteArray).extract ((ji41) : Int).toNat ((((ji41) + 1) % 256) : Int).toNat)).size + ((⟨#[48, 49, 50, 51, 52, 53, 54, 55, 56, 57, 97, 98, 99, 100, 101, 102]⟩ : ByteArray).extract ((ji46) : Int).toNat ((((ji46) + 1) % 256) : Int).toNat).size) = False := eq_false (Nat.not_lt.2 c50)
                                        (try (have z_ : ((ji41) + 1) % 256 = (ji41) + 1 := (by have a_ : ((ji41) : Int) ≤ ((ji41) + 1) % 256 := of_decide_eq_true (by assumption); have b_ : (0 : Int) ≤ (ji41) := of_decide_eq_true (by assumption); have c_ : ((ji41) : Int) < 256 := (by rw [← hji41]; first | exact Int.emod_lt_of_pos _ (by decide) | exact Int.lt_trans (Int.tmod_lt_of_pos _ (by decide)) (by decide)); omega); simp only [z_] at *; clear z_))
                                        (try have nn_ji41 : (0 : Int) ≤ (ji41) := of_decide_eq_true (by assumption))
                                        (try (have z_ : ((ji46) + 1) % 256 = (ji46) + 1 := (by have a_ : ((ji46) : Int) ≤ ((ji46) + 1) % 256 := of_decide_eq_true (by assumption); have b_ : (0 : Int) ≤ (ji46) := of_decide_eq_true (by assumption); have c_ : ((ji46) : Int) < 256 := (by rw [← hji46]; first | exact Int.emod_lt_of_pos _ (by decide) | exact Int.lt_trans (Int.tmod_lt_of_pos _ (by decide)) (by decide)); omega); simp only [z_] at *; clear z_))
                                        (try have nn_ji46 : (0 : Int) ≤ (ji46) := of_decide_eq_true (by assumption))
                                        have H' := Aside0.mk H
                                        clear H
                                        obtain ⟨Ao51, co51, eo51⟩ := Kd.R_slice HO_4.out
                                        subst eo51
                                        have p138 : 0 ≤ (x5_1 : Int) := of_decide_eq_true (by first | (with_reducible assumption) | assumption)
                                        have q138 : x5_1 < (t135.length : Int) := of_decide_eq_true (by first | (with_reducible assumption) | assumption)
                                        obtain ⟨ad138, e138, hx138_0⟩ := Kd.at_string (Kd.R_reads' HO_4.out).2.2 x5_1 p138 q138
                                        cases e138
                                        replace p138 := eq_true p138
                                        replace q138 := eq_true q138
                                        have p8 : 0 ≤ (0 : Int) := (by omega)
                                        have q8 : 0 < (rdOf ByteArray.empty t135 x5_1).size := (by have : (0 : Int) < ((rdOf ByteArray.empty t135 x5_1).size : Int) := of_decide_eq_true (by first | (with_reducible assumption) | assumption); omega)
                                        have hx8 : ∀ h : 0 < (rdOf ByteArray.empty t135 x5_1).size, (((rdOf ByteArray.empty t135 x5_1)[0]'h).toNat : Int) = bt (rdOf ByteArray.empty t135 x5_1) 0 := bt_at (rdOf ByteArray.empty t135 x5_1) 0
                                        clear p8
                                        have qi8 : (0 < ((rdOf ByteArray.empty t135 x5_1).size : Int)) = True := eq_true (of_decide_eq_true (by first | (with_reducible assumption) | assumption))
                                        replace q8 := eq_true q8
                                        have p139 : 0 ≤ (x5_1 : Int) := of_decide_eq_true (by first | (with_reducible assumption) | assumption)
                                        have q139 : x5_1 < (t135.length : Int) := of_decide_eq_true (by first | (with_reducible assumption) | assumption)
                                        obtain ⟨ad139, e139, hx139_0⟩ := Kd.at_string (Kd.R_reads' HO_4.out).2.2 x5_1 p139 q139
                                        obtain rfl : ad138 = ad139 := (by injection e139)
                                        replace p139 := eq_true p139
                                        replace q139 := eq_true q139
                                        go_wp2_with (first | (go_at_call 19; (with_reducible refine (annuletref04_Width.calls k1 (rdOf ByteArray.empty t135 x5_1) 0 t140 _ A36.out).mono ?_); rintro e w' ⟨rfl, ⟨nd, rfl⟩⟩; (try first | exact ⟨rfl, _, World.drewN_drewN _ _ _⟩ | exact ⟨rfl, _, Eq.trans (World.drewN_drewN _ _ _) (congrArg (World.drewN _) (Nat.add_assoc _ _ _))⟩)))
                                        repeat (go_quiet (first | (go_at_call 19; (with_reducible refine (annuletref04_Width.calls k1 (rdOf ByteArray.empty t135 x5_1) 0 t140 _ A36.out).mono ?_); rintro e w' ⟨rfl, ⟨nd, rfl⟩⟩; (try first | exact ⟨rfl, _, World.drewN_drewN _ _ _⟩ | exact ⟨rfl, _, Eq.trans (World.drewN_drewN _ _ _) (congrArg (World.drewN _) (Nat.add_assoc _ _ _))⟩))); try go_wp2_with (first | (go_at_call 19; (with_reducible refine (annuletref04_Width.calls k1 (rdOf ByteArray.empty t135 x5_1) 0 t140 _ A36.out).mono ?_); rintro e w' ⟨rfl, ⟨nd, rfl⟩⟩; (try first | exact ⟨rfl, _, World.drewN_drewN _ _ _⟩ | exact ⟨rfl, _, Eq.trans (World.drewN_drewN _ _ _) (congrArg (World.drewN _) (Nat.add_assoc _ _ _))⟩))))
                                        go_roundg k1
                                        case measure => have := HK1.out; omega
                                        case rel => exact ⟨(((x3_1 ++ (⟨#[37]⟩ : ByteArray)) ++ ((⟨#[48, 49, 50, 51, 52, 53, 54, 55, 56, 57, 97, 98, 99, 100, 101, 102]⟩ : ByteArray).extract ((ji41) : Int).toNat (((ji41) + 1) : Int).toNat)) ++ ((⟨#[48, 49, 50, 51, 52, 53, 54, 55, 56, 57, 97, 98, 99, 100, 101, 102]⟩ : ByteArray).extract ((ji46) : Int).toNat (((ji46) + 1) : Int).toNat)), (wrap64 (x5_1 + 1)), (by first | rfl | (simp; done) | (simp only [← hji41, ← hji46] <;> (first | rfl | (simp; done))) | (simp [*]; done)), (by first | rfl | (simp; done) | (simp [*]; done)), H', ⟨by have := HK1.out; omega⟩, ⟨by (with_reducible repeat (first | apply Kd.R_alloc | apply Kd.R_drewN | apply Kd.R_drew)); exact HO_4.out⟩, ⟨by repeat (first | (with_reducible first | exact HB.out | apply below_alloc | apply pw_below_drewN | apply below_drew1) | exact HB.out)⟩⟩
                                      · rw [if_neg c50] at H
                                        exact absurd H (by simp)
                                    · rw [if_neg c49] at H
                                      exact absurd H (by simp)
                                  · rw [if_neg c48] at H
                                    exact absurd H (by simp)
                                · rw [if_neg c47] at H
                                  exact absurd H (by simp)
                              · rw [if_neg c45] at H
                                exact absurd H (by simp)
                            · rw [if_neg c44] at H
                              exact absurd H (by simp)
                          · rw [if_neg c43] at H
                            exact absurd H (by simp)
                        · rw [if_neg c42] at H
                          exact absurd H (by simp)
                      · rw [if_neg c40] at H
                        exact absurd H (by simp)
              · rw [if_neg c9] at H
                have c9b0 : decide (32 < (bt (rdOf ByteArray.empty t135 x5_1) 0)) = false := decide_eq_false c9
                clear c9
                by_cases c52 : x3_1.size + 1 ≤ 9223372036854775807
                · rw [if_pos c52] at H
                  have c52b0 := eq_true c52
                  have c52b1 : decide (x3_1.size + 1 ≤ 9223372036854775807) = true := decide_eq_true c52
                  try have c52b2 : (9223372036854775807 < x3_1.size + 1) = False := eq_false (Nat.not_lt.2 c52)
                  obtain ⟨ji53, hji53⟩ : ∃ j_ : Int, ((Int.tdiv (bt (rdOf ByteArray.empty t135 x5_1) 0) 16) % 256) = j_ := ⟨_, rfl⟩
                  replace H : (if 0 ≤ (ji53) then (if (ji53) ≤ (((ji53) + 1) % 256) then (if (((ji53) + 1) % 256) ≤ 16 then (if (x3_1 ++ (⟨#[37]⟩ : ByteArray)).size + ((⟨#[48, 49, 50, 51, 52, 53, 54, 55, 56, 57, 97, 98, 99, 100, 101, 102]⟩ : ByteArray).extract ((ji53) : Int).toNat ((((ji53) + 1) % 256) : Int).toNat).size ≤ 9223372036854775807 then (if 0 ≤ (Int.tmod (bt (rdOf ByteArray.empty t135 x5_1) 0) 16) then (if (Int.tmod (bt (rdOf ByteArray.empty t135 x5_1) 0) 16) ≤ (((Int.tmod (bt (rdOf ByteArray.empty t135 x5_1) 0) 16) + 1) % 256) then (if (((Int.tmod (bt (rdOf ByteArray.empty t135 x5_1) 0) 16) + 1) % 256) ≤ 16 then (if ((x3_1 ++ (⟨#[37]⟩ : ByteArray)) ++ ((⟨#[48, 49, 50, 51, 52, 53, 54, 55, 56, 57, 97, 98, 99, 100, 101, 102]⟩ : ByteArray).extract ((ji53) : Int).toNat ((((ji53) + 1) % 256) : Int).toNat)).size + ((⟨#[48, 49, 50, 51, 52, 53, 54, 55, 56, 57, 97, 98, 99, 100, 101, 102]⟩ : ByteArray).extract ((Int.tmod (bt (rdOf ByteArray.empty t135 x5_1) 0) 16) : Int).toNat ((((Int.tmod (bt (rdOf ByteArray.empty t135 x5_1) 0) 16) + 1) % 256) : Int).toNat).size ≤ 9223372036854775807 then (annuletref04_Quote.l0 k1 (((x3_1 ++ (⟨#[37]⟩ : ByteArray)) ++ ((⟨#[48, 49, 50, 51, 52, 53, 54, 55, 56, 57, 97, 98, 99, 100, 101, 102]⟩ : ByteArray).extract ((ji53) : Int).toNat ((((ji53) + 1) % 256) : Int).toNat)) ++ ((⟨#[48, 49, 50, 51, 52, 53, 54, 55, 56, 57, 97, 98, 99, 100, 101, 102]⟩ : ByteArray).extract ((Int.tmod (bt (rdOf ByteArray.empty t135 x5_1) 0) 16) : Int).toNat ((((Int.tmod (bt (rdOf ByteArray.empty t135 x5_1) 0) 16) + 1) % 256) : Int).toNat)) t135 (wrap64 (x5_1 + 1))) else (none)) else (none)) else (none)) else (none)) else (none)) else (none)) else (none)) else (none)) = some r := by first | (rw [hji53] at H; exact H) | (simp only [hji53] at H ⊢; exact H)
                  by_cases c54 : 0 ≤ (ji53)
                  · rw [if_pos c54] at H
                    have c54b0 := eq_true c54
                    have c54b1 : decide (0 ≤ (ji53)) = true := decide_eq_true c54
                    clear c54
                    by_cases c55 : (ji53) ≤ (((ji53) + 1) % 256)
                    · rw [if_pos c55] at H
                      have c55b0 := eq_true c55
                      have c55b1 : decide ((ji53) ≤ (((ji53) + 1) % 256)) = true := decide_eq_true c55
                      by_cases c56 : (((ji53) + 1) % 256) ≤ 16
                      · rw [if_pos c56] at H
                        have c56b0 := eq_true c56
                        have c56b1 : decide ((((ji53) + 1) % 256) ≤ 16) = true := decide_eq_true c56
                        by_cases c57 : (x3_1 ++ (⟨#[37]⟩ : ByteArray)).size + ((⟨#[48, 49, 50, 51, 52, 53, 54, 55, 56, 57, 97, 98, 99, 100, 101, 102]⟩ : ByteArray).extract ((ji53) : Int).toNat ((((ji53) + 1) % 256) : Int).toNat).size ≤ 9223372036854775807
                        · rw [if_pos c57] at H
                          have c57b0 := eq_true c57
                          have c57b1 : decide ((x3_1 ++ (⟨#[37]⟩ : ByteArray)).size + ((⟨#[48, 49, 50, 51, 52, 53, 54, 55, 56, 57, 97, 98, 99, 100, 101, 102]⟩ : ByteArray).extract ((ji53) : Int).toNat ((((ji53) + 1) % 256) : Int).toNat).size ≤ 9223372036854775807) = true := decide_eq_true c57
                          try have c57b2 : (9223372036854775807 < (x3_1 ++ (⟨#[37]⟩ : ByteArray)).size + ((⟨#[48, 49, 50, 51, 52, 53, 54, 55, 56, 57, 97, 98, 99, 100, 101, 102]⟩ : ByteArray).extract ((ji53) : Int).toNat ((((ji53) + 1) % 256) : Int).toNat).size) = False := eq_false (Nat.not_lt.2 c57)
                          obtain ⟨ji58, hji58⟩ : ∃ j_ : Int, (Int.tmod (bt (rdOf ByteArray.empty t135 x5_1) 0) 16) = j_ := ⟨_, rfl⟩
                          replace H : (if 0 ≤ (ji58) then (if (ji58) ≤ (((ji58) + 1) % 256) then (if (((ji58) + 1) % 256) ≤ 16 then (if ((x3_1 ++ (⟨#[37]⟩ : ByteArray)) ++ ((⟨#[48, 49, 50, 51, 52, 53, 54, 55, 56, 57, 97, 98, 99, 100, 101, 102]⟩ : ByteArray).extract ((ji53) : Int).toNat ((((ji53) + 1) % 256) : Int).toNat)).size + ((⟨#[48, 49, 50, 51, 52, 53, 54, 55, 56, 57, 97, 98, 99, 100, 101, 102]⟩ : ByteArray).extract ((ji58) : Int).toNat ((((ji58) + 1) % 256) : Int).toNat).size ≤ 9223372036854775807 then (annuletref04_Quote.l0 k1 (((x3_1 ++ (⟨#[37]⟩ : ByteArray)) ++ ((⟨#[48, 49, 50, 51, 52, 53, 54, 55, 56, 57, 97, 98, 99, 100, 101, 102]⟩ : ByteArray).extract ((ji53) : Int).toNat ((((ji53) + 1) % 256) : Int).toNat)) ++ ((⟨#[48, 49, 50, 51, 52, 53, 54, 55, 56, 57, 97, 98, 99, 100, 101, 102]⟩ : ByteArray).extract ((ji58) : Int).toNat ((((ji58) + 1) % 256) : Int).toNat)) t135 (wrap64 (x5_1 + 1))) else (none)) else (none)) else (none)) else (none)) = some r := by first | (rw [hji58] at H; exact H) | (simp only [hji58] at H ⊢; exact H)
                          by_cases c59 : 0 ≤ (ji58)
                          · rw [if_pos c59] at H
                            have c59b0 := eq_true c59
                            have c59b1 : decide (0 ≤ (ji58)) = true := decide_eq_true c59
                            clear c59
                            by_cases c60 : (ji58) ≤ (((ji58) + 1) % 256)
                            · rw [if_pos c60] at H
                              have c60b0 := eq_true c60
                              have c60b1 : decide ((ji58) ≤ (((ji58) + 1) % 256)) = true := decide_eq_true c60
                              by_cases c61 : (((ji58) + 1) % 256) ≤ 16
                              · rw [if_pos c61] at H
                                have c61b0 := eq_true c61
                                have c61b1 : decide ((((ji58) + 1) % 256) ≤ 16) = true := decide_eq_true c61
                                by_cases c62 : ((x3_1 ++ (⟨#[37]⟩ : ByteArray)) ++ ((⟨#[48, 49, 50, 51, 52, 53, 54, 55, 56, 57, 97, 98, 99, 100, 101, 102]⟩ : ByteArray).extract ((ji53) : Int).toNat ((((ji53) + 1) % 256) : Int).toNat)).size + ((⟨#[48, 49, 50, 51, 52, 53, 54, 55, 56, 57, 97, 98, 99, 100, 101, 102]⟩ : ByteArray).extract ((ji58) : Int).toNat ((((ji58) + 1) % 256) : Int).toNat).size ≤ 9223372036854775807
                                · rw [if_pos c62] at H
                                  have c62b0 := eq_true c62
                                  have c62b1 : decide (((x3_1 ++ (⟨#[37]⟩ : ByteArray)) ++ ((⟨#[48, 49, 50, 51, 52, 53, 54, 55, 56, 57, 97, 98, 99, 100, 101, 102]⟩ : ByteArray).extract ((ji53) : Int).toNat ((((ji53) + 1) % 256) : Int).toNat)).size + ((⟨#[48, 49, 50, 51, 52, 53, 54, 55, 56, 57, 97, 98, 99, 100, 101, 102]⟩ : ByteArray).extract ((ji58) : Int).toNat ((((ji58) + 1) % 256) : Int).toNat).size ≤ 9223372036854775807) = true := decide_eq_true c62
                                  try have c62b2 : (9223372036854775807 < ((x3_1 ++ (⟨#[37]⟩ : ByteArray)) ++ ((⟨#[48, 49, 50, 51, 52, 53, 54, 55, 56, 57, 97, 98, 99, 100, 101, 102]⟩ : ByteArray).extract ((ji53) : Int).toNat ((((ji53) + 1) % 256) : Int).toNat)).size + ((⟨#[48, 49, 50, 51, 52, 53, 54, 55, 56, 57, 97, 98, 99, 100, 101, 102]⟩ : ByteArray).extract ((ji58) : Int).toNat ((((ji58) + 1) % 256) : Int).toNat).size) = False := eq_false (Nat.not_lt.2 c62)
                                  (try (have z_ : ((ji53) + 1) % 256 = (ji53) + 1 := (by have a_ : ((ji53) : Int) ≤ ((ji53) + 1) % 256 := of_decide_eq_true (by assumption); have b_ : (0 : Int) ≤ (ji53) := of_decide_eq_true (by assumption); have c_ : ((ji53) : Int) < 256 := (by rw [← hji53]; first | exact Int.emod_lt_of_pos _ (by decide) | exact Int.lt_trans (Int.tmod_lt_of_pos _ (by decide)) (by decide)); omega); simp only [z_] at *; clear z_))
                                  (try have nn_ji53 : (0 : Int) ≤ (ji53) := of_decide_eq_true (by assumption))
                                  (try (have z_ : ((ji58) + 1) % 256 = (ji58) + 1 := (by have a_ : ((ji58) : Int) ≤ ((ji58) + 1) % 256 := of_decide_eq_true (by assumption); have b_ : (0 : Int) ≤ (ji58) := of_decide_eq_true (by assumption); have c_ : ((ji58) : Int) < 256 := (by rw [← hji58]; first | exact Int.emod_lt_of_pos _ (by decide) | exact Int.lt_trans (Int.tmod_lt_of_pos _ (by decide)) (by decide)); omega); simp only [z_] at *; clear z_))
                                  (try have nn_ji58 : (0 : Int) ≤ (ji58) := of_decide_eq_true (by assumption))
                                  have H' := Aside0.mk H
                                  clear H
                                  obtain ⟨Ao63, co63, eo63⟩ := Kd.R_slice HO_4.out
                                  subst eo63
                                  have p138 : 0 ≤ (x5_1 : Int) := of_decide_eq_true (by first | (with_reducible assumption) | assumption)
                                  have q138 : x5_1 < (t135.length : Int) := of_decide_eq_true (by first | (with_reducible assumption) | assumption)
                                  obtain ⟨ad138, e138, hx138_0⟩ := Kd.at_string (Kd.R_reads' HO_4.out).2.2 x5_1 p138 q138
                                  cases e138
                                  replace p138 := eq_true p138
                                  replace q138 := eq_true q138
                                  have p8 : 0 ≤ (0 : Int) := (by omega)
                                  have q8 : 0 < (rdOf ByteArray.empty t135 x5_1).size := (by have : (0 : Int) < ((rdOf ByteArray.empty t135 x5_1).size : Int) := of_decide_eq_true (by first | (with_reducible assumption) | assumption); omega)
                                  have hx8 : ∀ h : 0 < (rdOf ByteArray.empty t135 x5_1).size, (((rdOf ByteArray.empty t135 x5_1)[0]'h).toNat : Int) = bt (rdOf ByteArray.empty t135 x5_1) 0 := bt_at (rdOf ByteArray.empty t135 x5_1) 0
                                  clear p8
                                  have qi8 : (0 < ((rdOf ByteArray.empty t135 x5_1).size : Int)) = True := eq_true (of_decide_eq_true (by first | (with_reducible assumption) | assumption))
                                  replace q8 := eq_true q8
                                  go_wp2
                                  repeat (go_quiet (fail); try go_wp2)
                                  go_roundg k1
                                  case measure => have := HK1.out; omega
                                  case rel => exact ⟨(((x3_1 ++ (⟨#[37]⟩ : ByteArray)) ++ ((⟨#[48, 49, 50, 51, 52, 53, 54, 55, 56, 57, 97, 98, 99, 100, 101, 102]⟩ : ByteArray).extract ((ji53) : Int).toNat (((ji53) + 1) : Int).toNat)) ++ ((⟨#[48, 49, 50, 51, 52, 53, 54, 55, 56, 57, 97, 98, 99, 100, 101, 102]⟩ : ByteArray).extract ((ji58) : Int).toNat (((ji58) + 1) : Int).toNat)), (wrap64 (x5_1 + 1)), (by first | rfl | (simp; done) | (simp only [← hji53, ← hji58] <;> (first | rfl | (simp; done))) | (simp [*]; done)), (by first | rfl | (simp; done) | (simp [*]; done)), H', ⟨by have := HK1.out; omega⟩, ⟨by (with_reducible repeat (first | apply Kd.R_alloc | apply Kd.R_drewN | apply Kd.R_drew)); exact HO_4.out⟩, ⟨by repeat (first | (with_reducible first | exact HB.out | apply below_alloc | apply pw_below_drewN | apply below_drew1) | exact HB.out)⟩⟩
                                · rw [if_neg c62] at H
                                  exact absurd H (by simp)
                              · rw [if_neg c61] at H
                                exact absurd H (by simp)
                            · rw [if_neg c60] at H
                              exact absurd H (by simp)
                          · rw [if_neg c59] at H
                            exact absurd H (by simp)
                        · rw [if_neg c57] at H
                          exact absurd H (by simp)
                      · rw [if_neg c56] at H
                        exact absurd H (by simp)
                    · rw [if_neg c55] at H
                      exact absurd H (by simp)
                  · rw [if_neg c54] at H
                    exact absurd H (by simp)
                · rw [if_neg c52] at H
                  exact absurd H (by simp)
            · rw [if_neg c7] at H
              exact absurd H (by simp)
          · rw [if_neg c6] at H
            exact absurd H (by simp)
        · rw [if_neg c5] at H
          have c5b0 : decide (x5_1 < (t135.length : Int)) = false := decide_eq_false c5
          clear c5
          obtain rfl := Option.some.inj H
          obtain ⟨Ao64, co64, eo64⟩ := Kd.R_slice HO_4.out
          subst eo64
          go_wp2
          repeat (go_quiet (fail); try go_wp2)
          all_goals go_ret
          all_goals first | (exact ⟨by first | rfl | (simp [errW_none, errW_some] <;> rfl) | (simp [*, errW_none, errW_some] <;> rfl), by repeat (first | (with_reducible first | exact HB.out | apply below_alloc | apply pw_below_drewN | apply below_drew1) | exact HB.out)⟩) | (exfalso; simp_all; done)

/-! ### annuletref04_digit: function 21 -/
def annuletref04_digit.j0 : Nat → Int → Bool → Option (Int)
  | 0, _, _ => none
  | k + 1, x0, x8 => if x8 = true then (some (wrap64 ((wrap64 (x0)) - 48))) else (if x0 ≥ 97 then (if x0 ≤ 102 then (some (wrap64 ((wrap64 (x0)) - 87))) else (some 16)) else (some 16))
def annuletref04_digit.f (k : Nat) (a0 : Int) : Option (Int) := if a0 ≥ 48 then (annuletref04_digit.j0 k a0 (decide (a0 ≤ 57))) else (annuletref04_digit.j0 k a0 false)
theorem annuletref04_digit.mono_l : ∀ k, (∀ y0 y1, LeO (annuletref04_digit.j0 k y0 y1) (annuletref04_digit.j0 (k + 1) y0 y1))
  | 0 => fun _ _ r h => by simp [annuletref04_digit.j0] at h
  | k + 1 => by
    have ih0 := annuletref04_digit.mono_l k
    · intro y0 y1
      unfold annuletref04_digit.j0
      repeat' first
      | (with_reducible exact ih0 _ _)
      | (with_reducible exact LeO.refl _)
      | (with_reducible exact LeO.none _)
      | (with_reducible refine LeO.ite ?_ ?_)
      | (with_reducible refine LeO.bind ?_ (fun _ => ?_))
      | exact ih0 _ _
      | exact LeO.none _
      | refine LeO.ite ?_ ?_
      | refine LeO.bind ?_ (fun _ => ?_)
theorem annuletref04_digit.mono : ∀ a0 k, LeO (annuletref04_digit.f k a0) (annuletref04_digit.f (k + 1) a0) := by
  intro a0 k
  have ih0 := annuletref04_digit.mono_l k
  unfold annuletref04_digit.f
  repeat' first
      | (with_reducible exact ih0 _ _)
      | (with_reducible exact LeO.refl _)
      | (with_reducible exact LeO.none _)
      | (with_reducible refine LeO.ite ?_ ?_)
      | (with_reducible refine LeO.bind ?_ (fun _ => ?_))
      | exact ih0 _ _
      | exact LeO.none _
      | refine LeO.ite ?_ ?_
      | refine LeO.bind ?_ (fun _ => ?_)
set_option maxHeartbeats 3000000 in
set_option maxRecDepth 100000 in
theorem annuletref04_digit.calls (k : Nat) (a0 : Int) (r : Int) (w : World) (h : annuletref04_digit.f k a0 = some r) :
    Calls Tryd.prog 21 #[.int .u8 a0] w fun e w' => e = .returned (.int .i64 r) ∧ Drawn0 w w' := by
  have H : (if a0 ≥ 48 then (annuletref04_digit.j0 k a0 (decide (a0 ≤ 57))) else (annuletref04_digit.j0 k a0 false)) = some r := h
  clear h
  have HC2 := Aside0.mk H
  clear H
  go_enter Tryd.func21, Tryd.ntmps21
  go_upto_region 1 with (fail)
  go_cut [8] (fun v8 wc => ∃ (kq : Nat) (x8_1 : Bool), v8 = .bool x8_1 ∧ Aside0 (annuletref04_digit.j0 kq a0 x8_1 = some r) ∧ Aside0 (kq ≤ k) ∧ Drawn0 w wc)
  case first =>
    have H := HC2.out
    clear HC2
    by_cases c3 : a0 ≥ 48
    · rw [if_pos c3] at H
      have c3b0 : decide (48 ≤ a0) = true := decide_eq_true c3
      clear c3
      (first | rw [c3b0] | (simp only [i64_w, i32_w]; rw [c3b0]) | skip)
      have H' := Aside0.mk H
      clear H
      go_wp2
      go_meet
      case rel => exact ⟨_, (decide (a0 ≤ 57)), (by first | rfl | (simp; done) | (simp [*]; done)), H', ⟨by first | omega | exact Nat.le_refl _⟩, by repeat (first | exact Drawn0.refl _ | apply Drawn0.step)⟩
    · rw [if_neg c3] at H
      have c3b0 : decide (48 ≤ a0) = false := decide_eq_false c3
      clear c3
      (first | rw [c3b0] | (simp only [i64_w, i32_w]; rw [c3b0]) | skip)
      have H' := Aside0.mk H
      clear H
      go_wp2
      go_meet
      case rel => exact ⟨_, (false), (by first | rfl | (simp; done) | (simp [*]; done)), H', ⟨by first | omega | exact Nat.le_refl _⟩, by repeat (first | exact Drawn0.refl _ | apply Drawn0.step)⟩
  case rest =>
    clear HC2
    try clear c2
    try clear p2
    try clear c3
    try clear c3b0
    obtain ⟨kq, x8_1, rfl, HA, HJ1, ⟨mc1, rfl⟩⟩ := hcut
    cases kq with
    | zero => exact absurd HA.out (by simp [annuletref04_digit.j0])
    | succ kj1 =>
      have H := HA.out
      clear HA
      simp only [annuletref04_digit.j0] at H
      by_cases c4 : x8_1 = true
      · subst c4
        have H1 : (some (wrap64 ((wrap64 (a0)) - 48))) = some r := by rw [if_pos rfl] at H; exact H
        clear H
        have H := H1
        clear H1
        obtain rfl := Option.some.inj H
        go_wp2
        all_goals go_ret
        all_goals first | (exact ⟨by first | rfl | (simp; done) | (simp [*]; done) | (refine congrArg Ending.returned ?_; show Value.string _ = Value.string _; (first | (congr 2 <;> omega) | (congr 3 <;> omega) | (congr 4 <;> omega))), by repeat (first | exact Drawn0.refl _ | apply Drawn0.step)⟩) | (exfalso; simp_all; done)
      · replace c4 := Bool.eq_false_iff.mpr c4
        subst c4
        have H1 : (if a0 ≥ 97 then (if a0 ≤ 102 then (some (wrap64 ((wrap64 (a0)) - 87))) else (some 16)) else (some 16)) = some r := by rw [if_neg (show ¬ (false = true) by decide)] at H; exact H
        clear H
        have H := H1
        clear H1
        by_cases c5 : a0 ≥ 97
        · rw [if_pos c5] at H
          have c5b0 : decide (97 ≤ a0) = true := decide_eq_true c5
          clear c5
          by_cases c6 : a0 ≤ 102
          · rw [if_pos c6] at H
            have c6b0 : decide (a0 ≤ 102) = true := decide_eq_true c6
            clear c6
            obtain rfl := Option.some.inj H
            go_wp2
            all_goals go_ret
            all_goals first | (exact ⟨by first | rfl | (simp; done) | (simp [*]; done) | (refine congrArg Ending.returned ?_; show Value.string _ = Value.string _; (first | (congr 2 <;> omega) | (congr 3 <;> omega) | (congr 4 <;> omega))), by repeat (first | exact Drawn0.refl _ | apply Drawn0.step)⟩) | (exfalso; simp_all; done)
          · rw [if_neg c6] at H
            have c6b0 : decide (a0 ≤ 102) = false := decide_eq_false c6
            clear c6
            obtain rfl := Option.some.inj H
            go_wp2
            all_goals go_ret
            all_goals first | (exact ⟨by first | rfl | (simp; done) | (simp [*]; done) | (refine congrArg Ending.returned ?_; show Value.string _ = Value.string _; (first | (congr 2 <;> omega) | (congr 3 <;> omega) | (congr 4 <;> omega))), by repeat (first | exact Drawn0.refl _ | apply Drawn0.step)⟩) | (exfalso; simp_all; done)
        · rw [if_neg c5] at H
          have c5b0 : decide (97 ≤ a0) = false := decide_eq_false c5
          clear c5
          obtain rfl := Option.some.inj H
          go_wp2
          all_goals go_ret
          all_goals first | (exact ⟨by first | rfl | (simp; done) | (simp [*]; done) | (refine congrArg Ending.returned ?_; show Value.string _ = Value.string _; (first | (congr 2 <;> omega) | (congr 3 <;> omega) | (congr 4 <;> omega))), by repeat (first | exact Drawn0.refl _ | apply Drawn0.step)⟩) | (exfalso; simp_all; done)

end Go.Proofs.YtffhcongfbnbiaaDoor.PUtfQuotes
