/- Written by a program of this session (a turned copy of the kit's print): functions of the program, each with the Lean function that it comes to, and the row of one law. No condition. -/
import Derived.Test.YtffhcongfbnbiaaDoorPUtfBackx0
import Derived.Test.YtffhcongfbnbiaaDoorPUtfBackx1
namespace Go.Proofs.YtffhcongfbnbiaaDoor.PUtfBack
open Go.RowKit Go.Proofs.YtffhcongfbnbiaaDoorW.PrintWords Go.Proofs.YtffhcongfbnbiaaDoorW.PrintLast Go.Proofs.YtffhcongfbnbiaaDoorW.PrintMore
attribute [local go_sem] max2_int min2_int max_two min_two max_three min_three max_four min_four   -- for this text's walks alone
set_option linter.unusedVariables false
set_option linter.unusedSimpArgs false

/-! ### annuletlaw04_awake: function 7 -/
def annuletlaw04_awake.f (k : Nat)  : Option (Bool) := (utf_Unquote.f k (⟨#[37, 52, 49]⟩ : ByteArray)).bind fun bt112 => ((utf_Unquote.f k (⟨#[37]⟩ : ByteArray)).bind fun bt114 => ((utf_Quote.f (⟨#[97, 32, 98]⟩ : ByteArray)).bind fun t116 => (if t116.toList = ([97, 37, 50, 48, 98] : List UInt8) then (if bt112.2 = 3 then (if bt114.1.toList = ([] : List UInt8) then (if bt114.2 = 0 then ((utf_Count.f (⟨#[195, 169]⟩ : ByteArray)).bind fun t117 => (if t117 = 1 then ((utf_Valid.f (⟨#[255]⟩ : ByteArray)).bind fun t118 => (if t118 = true then (none) else ((utf_Valid.f (⟨#[195, 169]⟩ : ByteArray)).bind fun t119 => (if t119 = true then ((utf_Clip.f (⟨#[195, 169, 97]⟩ : ByteArray) 1).bind fun t120 => (if t120.toList = ([195, 169] : List UInt8) then ((utf_Quote.f (⟨#[]⟩ : ByteArray)).bind fun t121 => (some (t121.toList == ([37] : List UInt8)))) else (none))) else (none))))) else (none))) else (none)) else (none)) else (none)) else (none))))
theorem annuletlaw04_awake.mono : ∀ k, LeO (annuletlaw04_awake.f k ) (annuletlaw04_awake.f (k + 1) ) := by
  intro  k
  unfold annuletlaw04_awake.f
  repeat' first
      | (with_reducible exact utf_Unquote.mono _ _)
      | (with_reducible exact LeO.refl _)
      | (with_reducible exact LeO.none _)
      | (with_reducible refine LeO.ite ?_ ?_)
      | (with_reducible refine LeO.bind ?_ (fun _ => ?_))
      | exact utf_Unquote.mono _ _
      | exact LeO.none _
      | refine LeO.ite ?_ ?_
      | refine LeO.bind ?_ (fun _ => ?_)
set_option maxHeartbeats 3000000 in
set_option maxRecDepth 100000 in
theorem annuletlaw04_awake.calls (k : Nat)  (r : Bool) (w : World) (ht : Lib.Utf8Tabs 0 1 w) (h : annuletlaw04_awake.f k  = some r) :
    Calls Tryd.prog 7 #[] w fun e w' => e = .returned (.bool r) ∧ Below w.heap.size w w' := by
  have HB := Aside0.mk (Below.refl w.heap.size w)
  have HTB := Aside0.mk ht
  clear ht
  have H : ((utf_Unquote.f k (⟨#[37, 52, 49]⟩ : ByteArray)).bind fun bt112 => ((utf_Unquote.f k (⟨#[37]⟩ : ByteArray)).bind fun bt114 => ((utf_Quote.f (⟨#[97, 32, 98]⟩ : ByteArray)).bind fun t116 => (if t116.toList = ([97, 37, 50, 48, 98] : List UInt8) then (if bt112.2 = 3 then (if bt114.1.toList = ([] : List UInt8) then (if bt114.2 = 0 then ((utf_Count.f (⟨#[195, 169]⟩ : ByteArray)).bind fun t117 => (if t117 = 1 then ((utf_Valid.f (⟨#[255]⟩ : ByteArray)).bind fun t118 => (if t118 = true then (none) else ((utf_Valid.f (⟨#[195, 169]⟩ : ByteArray)).bind fun t119 => (if t119 = true then ((utf_Clip.f (⟨#[195, 169, 97]⟩ : ByteArray) 1).bind fun t120 => (if t120.toList = ([195, 169] : List UInt8) then ((utf_Quote.f (⟨#[]⟩ : ByteArray)).bind fun t121 => (some (t121.toList == ([37] : List UInt8)))) else (none))) else (none))))) else (none))) else (none)) else (none)) else (none)) else (none))))) = some r := h
  clear h
  replace H := Option.bind_eq_some_iff.mp H
  obtain ⟨⟨t112, t113⟩, A10, H⟩ := H
  replace H : ((utf_Unquote.f k (⟨#[37]⟩ : ByteArray)).bind fun bt114 => ((utf_Quote.f (⟨#[97, 32, 98]⟩ : ByteArray)).bind fun t116 => (if t116.toList = ([97, 37, 50, 48, 98] : List UInt8) then (if t113 = 3 then (if bt114.1.toList = ([] : List UInt8) then (if bt114.2 = 0 then ((utf_Count.f (⟨#[195, 169]⟩ : ByteArray)).bind fun t117 => (if t117 = 1 then ((utf_Valid.f (⟨#[255]⟩ : ByteArray)).bind fun t118 => (if t118 = true then (none) else ((utf_Valid.f (⟨#[195, 169]⟩ : ByteArray)).bind fun t119 => (if t119 = true then ((utf_Clip.f (⟨#[195, 169, 97]⟩ : ByteArray) 1).bind fun t120 => (if t120.toList = ([195, 169] : List UInt8) then ((utf_Quote.f (⟨#[]⟩ : ByteArray)).bind fun t121 => (some (t121.toList == ([37] : List UInt8)))) else (none))) else (none))))) else (none))) else (none)) else (none)) else (none)) else (none)))) = some r := H
  have A1 := Aside0.mk A10
  clear A10
  replace H := Option.bind_eq_some_iff.mp H
  obtain ⟨⟨t114, t115⟩, A20, H⟩ := H
  replace H : ((utf_Quote.f (⟨#[97, 32, 98]⟩ : ByteArray)).bind fun t116 => (if t116.toList = ([97, 37, 50, 48, 98] : List UInt8) then (if t113 = 3 then (if t114.toList = ([] : List UInt8) then (if t115 = 0 then ((utf_Count.f (⟨#[195, 169]⟩ : ByteArray)).bind fun t117 => (if t117 = 1 then ((utf_Valid.f (⟨#[255]⟩ : ByteArray)).bind fun t118 => (if t118 = true then (none) else ((utf_Valid.f (⟨#[195, 169]⟩ : ByteArray)).bind fun t119 => (if t119 = true then ((utf_Clip.f (⟨#[195, 169, 97]⟩ : ByteArray) 1).bind fun t120 => (if t120.toList = ([195, 169] : List UInt8) then ((utf_Quote.f (⟨#[]⟩ : ByteArray)).bind fun t121 => (some (t121.toList == ([37] : List UInt8)))) else (none))) else (none))))) else (none))) else (none)) else (none)) else (none)) else (none))) = some r := H
  have A2 := Aside0.mk A20
  clear A20
  replace H := Option.bind_eq_some_iff.mp H
  obtain ⟨t116, A30, H⟩ := H
  replace H : (if t116.toList = ([97, 37, 50, 48, 98] : List UInt8) then (if t113 = 3 then (if t114.toList = ([] : List UInt8) then (if t115 = 0 then ((utf_Count.f (⟨#[195, 169]⟩ : ByteArray)).bind fun t117 => (if t117 = 1 then ((utf_Valid.f (⟨#[255]⟩ : ByteArray)).bind fun t118 => (if t118 = true then (none) else ((utf_Valid.f (⟨#[195, 169]⟩ : ByteArray)).bind fun t119 => (if t119 = true then ((utf_Clip.f (⟨#[195, 169, 97]⟩ : ByteArray) 1).bind fun t120 => (if t120.toList = ([195, 169] : List UInt8) then ((utf_Quote.f (⟨#[]⟩ : ByteArray)).bind fun t121 => (some (t121.toList == ([37] : List UInt8)))) else (none))) else (none))))) else (none))) else (none)) else (none)) else (none)) else (none)) = some r := H
  have A3 := Aside0.mk A30
  clear A30
  by_cases c4 : t116.toList = ([97, 37, 50, 48, 98] : List UInt8)
  · rw [if_pos c4] at H
    have c4b0 : (t116.toList == ([97, 37, 50, 48, 98] : List UInt8)) = true := beq_iff_eq.mpr c4
    have c4b1 : (t116.toList != ([97, 37, 50, 48, 98] : List UInt8)) = false := bne_eq_false_iff_eq.mpr c4
    clear c4
    by_cases c5 : t113 = 3
    · rw [if_pos c5] at H
      have c5b0 : (t113 == 3) = true := beq_iff_eq.mpr c5
      have c5b1 : (t113 != 3) = false := bne_eq_false_iff_eq.mpr c5
      clear c5
      by_cases c6 : t114.toList = ([] : List UInt8)
      · rw [if_pos c6] at H
        have c6b0 : (t114.toList == ([] : List UInt8)) = true := beq_iff_eq.mpr c6
        have c6b1 : (t114.toList != ([] : List UInt8)) = false := bne_eq_false_iff_eq.mpr c6
        clear c6
        by_cases c7 : t115 = 0
        · rw [if_pos c7] at H
          have c7b0 : (t115 == 0) = true := beq_iff_eq.mpr c7
          have c7b1 : (t115 != 0) = false := bne_eq_false_iff_eq.mpr c7
          clear c7
          replace H := Option.bind_eq_some_iff.mp H
          obtain ⟨t117, A80, H⟩ := H
          replace H : (if t117 = 1 then ((utf_Valid.f (⟨#[255]⟩ : ByteArray)).bind fun t118 => (if t118 = true then (none) else ((utf_Valid.f (⟨#[195, 169]⟩ : ByteArray)).bind fun t119 => (if t119 = true then ((utf_Clip.f (⟨#[195, 169, 97]⟩ : ByteArray) 1).bind fun t120 => (if t120.toList = ([195, 169] : List UInt8) then ((utf_Quote.f (⟨#[]⟩ : ByteArray)).bind fun t121 => (some (t121.toList == ([37] : List UInt8)))) else (none))) else (none))))) else (none)) = some r := H
          have A8 := Aside0.mk A80
          clear A80
          by_cases c9 : t117 = 1
          · rw [if_pos c9] at H
            have c9b0 : (t117 == 1) = true := beq_iff_eq.mpr c9
            have c9b1 : (t117 != 1) = false := bne_eq_false_iff_eq.mpr c9
            clear c9
            replace H := Option.bind_eq_some_iff.mp H
            obtain ⟨t118, A100, H⟩ := H
            replace H : (if t118 = true then (none) else ((utf_Valid.f (⟨#[195, 169]⟩ : ByteArray)).bind fun t119 => (if t119 = true then ((utf_Clip.f (⟨#[195, 169, 97]⟩ : ByteArray) 1).bind fun t120 => (if t120.toList = ([195, 169] : List UInt8) then ((utf_Quote.f (⟨#[]⟩ : ByteArray)).bind fun t121 => (some (t121.toList == ([37] : List UInt8)))) else (none))) else (none)))) = some r := H
            have A10 := Aside0.mk A100
            clear A100
            by_cases c11 : t118 = true
            · subst c11
              have H1 : (none) = some r := by rw [if_pos rfl] at H; exact H
              clear H
              have H := H1
              clear H1
              exact absurd H (by simp)
            · replace c11 := Bool.eq_false_iff.mpr c11
              subst c11
              have H1 : ((utf_Valid.f (⟨#[195, 169]⟩ : ByteArray)).bind fun t119 => (if t119 = true then ((utf_Clip.f (⟨#[195, 169, 97]⟩ : ByteArray) 1).bind fun t120 => (if t120.toList = ([195, 169] : List UInt8) then ((utf_Quote.f (⟨#[]⟩ : ByteArray)).bind fun t121 => (some (t121.toList == ([37] : List UInt8)))) else (none))) else (none))) = some r := by rw [if_neg (show ¬ (false = true) by decide)] at H; exact H
              clear H
              have H := H1
              clear H1
              replace H := Option.bind_eq_some_iff.mp H
              obtain ⟨t119, A120, H⟩ := H
              replace H : (if t119 = true then ((utf_Clip.f (⟨#[195, 169, 97]⟩ : ByteArray) 1).bind fun t120 => (if t120.toList = ([195, 169] : List UInt8) then ((utf_Quote.f (⟨#[]⟩ : ByteArray)).bind fun t121 => (some (t121.toList == ([37] : List UInt8)))) else (none))) else (none)) = some r := H
              have A12 := Aside0.mk A120
              clear A120
              by_cases c13 : t119 = true
              · subst c13
                have H1 : ((utf_Clip.f (⟨#[195, 169, 97]⟩ : ByteArray) 1).bind fun t120 => (if t120.toList = ([195, 169] : List UInt8) then ((utf_Quote.f (⟨#[]⟩ : ByteArray)).bind fun t121 => (some (t121.toList == ([37] : List UInt8)))) else (none))) = some r := by rw [if_pos rfl] at H; exact H
                clear H
                have H := H1
                clear H1
                replace H := Option.bind_eq_some_iff.mp H
                obtain ⟨t120, A140, H⟩ := H
                replace H : (if t120.toList = ([195, 169] : List UInt8) then ((utf_Quote.f (⟨#[]⟩ : ByteArray)).bind fun t121 => (some (t121.toList == ([37] : List UInt8)))) else (none)) = some r := H
                have A14 := Aside0.mk A140
                clear A140
                by_cases c15 : t120.toList = ([195, 169] : List UInt8)
                · rw [if_pos c15] at H
                  have c15b0 : (t120.toList == ([195, 169] : List UInt8)) = true := beq_iff_eq.mpr c15
                  have c15b1 : (t120.toList != ([195, 169] : List UInt8)) = false := bne_eq_false_iff_eq.mpr c15
                  clear c15
                  replace H := Option.bind_eq_some_iff.mp H
                  obtain ⟨t121, A160, H⟩ := H
                  replace H : (some (t121.toList == ([37] : List UInt8))) = some r := H
                  have A16 := Aside0.mk A160
                  clear A160
                  obtain rfl := Option.some.inj H
                  go_enter Tryd.func7, Tryd.ntmps7
                  go_wp2_with (first | ((with_reducible refine gate_callee (f := 14) rfl ?_); refine goesL_ (some 6) rfl rfl Tryd.func14 (by kernel_rfl) rfl #[.string (⟨#[37, 52, 49]⟩ : ByteArray)] rfl (by (try simp only [List.map_toArray, List.map_cons, List.map_nil]); first | done | rfl | (simp only [List.length_drop, List.length_take]; rfl)) ?_; (with_reducible refine (utf_Unquote.calls k (⟨#[37, 52, 49]⟩ : ByteArray) t112 t113 _ ?side1 A1.out).mono ?_); (case side1 => refine tabs_later HTB.out ?_; repeat (first | (with_reducible first | exact HB.out | apply below_alloc | apply pw_below_drewN | apply below_drew1) | exact HB.out)); rintro e w17 ⟨rfl, hb⟩; refine ⟨_, rfl, ?_⟩; have n0_ := Aside0.mk (below_step (by repeat (first | (with_reducible first | exact HB.out | apply below_alloc | apply pw_below_drewN | apply below_drew1) | exact HB.out)) hb); clear HB; have HB := n0_; clear n0_; (try clear hb); (try clear hb2); (try clear hk); (try clear hi)) | ((with_reducible refine gate_callee (f := 14) rfl ?_); refine goesL_ (some 10) rfl rfl Tryd.func14 (by kernel_rfl) rfl #[.string (⟨#[37]⟩ : ByteArray)] rfl (by (try simp only [List.map_toArray, List.map_cons, List.map_nil]); first | done | rfl | (simp only [List.length_drop, List.length_take]; rfl)) ?_; (with_reducible refine (utf_Unquote.calls k (⟨#[37]⟩ : ByteArray) t114 t115 _ ?side1 A2.out).mono ?_); (case side1 => refine tabs_later HTB.out ?_; repeat (first | (with_reducible first | exact HB.out | apply below_alloc | apply pw_below_drewN | apply below_drew1) | exact HB.out)); rintro e w18 ⟨rfl, hb⟩; refine ⟨_, rfl, ?_⟩; have n0_ := Aside0.mk (below_step (by repeat (first | (with_reducible first | exact HB.out | apply below_alloc | apply pw_below_drewN | apply below_drew1) | exact HB.out)) hb); clear HB; have HB := n0_; clear n0_; (try clear hb); (try clear hb2); (try clear hk); (try clear hi)) | ((with_reducible refine gate_callee (f := 16) rfl ?_); refine goesL_ (some 13) rfl rfl Tryd.func16 (by kernel_rfl) rfl #[.string (⟨#[97, 32, 98]⟩ : ByteArray)] rfl (by (try simp only [List.map_toArray, List.map_cons, List.map_nil]); first | done | rfl | (simp only [List.length_drop, List.length_take]; rfl)) ?_; (with_reducible refine (utf_Quote.calls (⟨#[97, 32, 98]⟩ : ByteArray) t116 _ ?side1 A3.out).mono ?_); (case side1 => refine tabs_later HTB.out ?_; repeat (first | (with_reducible first | exact HB.out | apply below_alloc | apply pw_below_drewN | apply below_drew1) | exact HB.out)); rintro e w19 ⟨rfl, hb⟩; refine ⟨_, rfl, ?_⟩; have n0_ := Aside0.mk (below_step (by repeat (first | (with_reducible first | exact HB.out | apply below_alloc | apply pw_below_drewN | apply below_drew1) | exact HB.out)) hb); clear HB; have HB := n0_; clear n0_; (try clear hb); (try clear hb2); (try clear hk); (try clear hi)) | (go_at_call 10; (with_reducible refine (utf_Count.calls (⟨#[195, 169]⟩ : ByteArray) t117 _ A8.out).mono ?_); rintro e w20 ⟨rfl, hb⟩; have n0_ := Aside0.mk (below_step (by repeat (first | (with_reducible first | exact HB.out | apply below_alloc | apply pw_below_drewN | apply below_drew1) | exact HB.out)) hb); clear HB; have HB := n0_; clear n0_; (try clear hb); (try clear hb2); (try clear hk); (try clear hi)) | (go_at_call 8; (with_reducible refine (utf_Valid.calls (⟨#[255]⟩ : ByteArray) false _ ?side1 A10.out).mono ?_); (case side1 => refine tabs_later HTB.out ?_; repeat (first | (with_reducible first | exact HB.out | apply below_alloc | apply pw_below_drewN | apply below_drew1) | exact HB.out)); rintro e w21 ⟨rfl, hb⟩; have n0_ := Aside0.mk (below_step (by repeat (first | (with_reducible first | exact HB.out | apply below_alloc | apply pw_below_drewN | apply below_drew1) | exact HB.out)) hb); clear HB; have HB := n0_; clear n0_; (try clear hb); (try clear hb2); (try clear hk); (try clear hi)) | (go_at_call 8; (with_reducible refine (utf_Valid.calls (⟨#[195, 169]⟩ : ByteArray) true _ ?side1 A12.out).mono ?_); (case side1 => refine tabs_later HTB.out ?_; repeat (first | (with_reducible first | exact HB.out | apply below_alloc | apply pw_below_drewN | apply below_drew1) | exact HB.out)); rintro e w22 ⟨rfl, hb⟩; have n0_ := Aside0.mk (below_step (by repeat (first | (with_reducible first | exact HB.out | apply below_alloc | apply pw_below_drewN | apply below_drew1) | exact HB.out)) hb); clear HB; have HB := n0_; clear n0_; (try clear hb); (try clear hb2); (try clear hk); (try clear hi)) | (go_at_call 12; (with_reducible refine (utf_Clip.calls (⟨#[195, 169, 97]⟩ : ByteArray) 1 t120 _ A14.out).mono ?_); rintro e w23 ⟨rfl, hb⟩; have n0_ := Aside0.mk (below_step (by repeat (first | (with_reducible first | exact HB.out | apply below_alloc | apply pw_below_drewN | apply below_drew1) | exact HB.out)) hb); clear HB; have HB := n0_; clear n0_; (try clear hb); (try clear hb2); (try clear hk); (try clear hi)) | (go_at_call 16; (with_reducible refine (utf_Quote.calls (⟨#[]⟩ : ByteArray) t121 _ ?side1 A16.out).mono ?_); (case side1 => refine tabs_later HTB.out ?_; repeat (first | (with_reducible first | exact HB.out | apply below_alloc | apply pw_below_drewN | apply below_drew1) | exact HB.out)); rintro e w24 ⟨rfl, hb⟩; have n0_ := Aside0.mk (below_step (by repeat (first | (with_reducible first | exact HB.out | apply below_alloc | apply pw_below_drewN | apply below_drew1) | exact HB.out)) hb); clear HB; have HB := n0_; clear n0_; (try clear hb); (try clear hb2); (try clear hk); (try clear hi)))
                  all_goals go_ret
                  all_goals first | (exact ⟨by first | rfl | (simp [errW_none, errW_some] <;> rfl) | (simp [*, errW_none, errW_some] <;> rfl), by repeat (first | (with_reducible first | exact HB.out | apply below_alloc | apply pw_below_drewN | apply below_drew1) | exact HB.out)⟩) | (exfalso; simp_all; done)
                · rw [if_neg c15] at H
                  exact absurd H (by simp)
              · replace c13 := Bool.eq_false_iff.mpr c13
                subst c13
                have H1 : (none) = some r := by rw [if_neg (show ¬ (false = true) by decide)] at H; exact H
                clear H
                have H := H1
                clear H1
                exact absurd H (by simp)
          · rw [if_neg c9] at H
            exact absurd H (by simp)
        · rw [if_neg c7] at H
          exact absurd H (by simp)
      · rw [if_neg c6] at H
        exact absurd H (by simp)
    · rw [if_neg c5] at H
      exact absurd H (by simp)
  · rw [if_neg c4] at H
    exact absurd H (by simp)

/-! ### annuletlaw04_UtfBack: function 6 -/
mutual
def annuletlaw04_UtfBack.j0 : Nat → ByteArray → ByteArray → Bool → Option (Bool)
  | 0, _, _, _ => none
  | k + 1, x0, x1, x18 => if x18 = true then ((annuletlaw04_awake.f k).bind fun t122 => (some t122)) else ((utf_Quote.f x0).bind fun t123 => ((utf_Unquote.f k t123).bind fun bt124 => (if bt124.1.toList = x0.toList then (if bt124.2 = 0 then (annuletlaw04_UtfBack.j1 k x0 x1 t123 (t123.toList == ([] : List UInt8))) else (annuletlaw04_UtfBack.j1 k x0 x1 t123 true)) else (annuletlaw04_UtfBack.j1 k x0 x1 t123 true))))
def annuletlaw04_UtfBack.j1 : Nat → ByteArray → ByteArray → ByteArray → Bool → Option (Bool)
  | 0, _, _, _, _ => none
  | k + 1, x0, x1, x5, x37 => if x37 = true then (none) else (annuletlaw04_UtfBack.l0 k x0 x1 x5 0)
def annuletlaw04_UtfBack.l0 : Nat → ByteArray → ByteArray → ByteArray → Int → Option (Bool)
  | 0, _, _, _, _ => none
  | k + 1, x0, x1, x5, x8 => if x8 < (x5.size : Int) then (if 0 ≤ x8 then (if (bt x5 x8) ≤ 32 then (none) else (if (bt x5 x8) = 127 then (none) else (annuletlaw04_UtfBack.l0 k x0 x1 x5 (wrap64 (x8 + 1))))) else (none)) else ((utf_Unquote.f k x1).bind fun bt126 => (if bt126.2 = 0 then ((utf_Quote.f bt126.1).bind fun t128 => (if t128.toList = x1.toList then ((utf_Clip.f x0 3).bind fun t129 => ((utf_Count.f t129).bind fun t130 => ((utf_Count.f x0).bind fun t131 => (if t130 = (mn t131 3) then ((annuletlaw04_awake.f k).bind fun t132 => (some t132)) else (none))))) else (none))) else ((utf_Clip.f x0 3).bind fun t133 => ((utf_Count.f t133).bind fun t134 => ((utf_Count.f x0).bind fun t135 => (if t134 = (mn t135 3) then ((annuletlaw04_awake.f k).bind fun t136 => (some t136)) else (none)))))))
end
def annuletlaw04_UtfBack.f (k : Nat) (a0 : ByteArray) (a1 : ByteArray) : Option (Bool) := if (a0.size : Int) > 300 then (annuletlaw04_UtfBack.j0 k a0 a1 true) else (annuletlaw04_UtfBack.j0 k a0 a1 (decide ((a1.size : Int) > 300)))
theorem annuletlaw04_UtfBack.mono_l : ∀ k, (∀ y0 y1 y2, LeO (annuletlaw04_UtfBack.j0 k y0 y1 y2) (annuletlaw04_UtfBack.j0 (k + 1) y0 y1 y2)) ∧ (∀ y0 y1 y2 y3, LeO (annuletlaw04_UtfBack.j1 k y0 y1 y2 y3) (annuletlaw04_UtfBack.j1 (k + 1) y0 y1 y2 y3)) ∧ (∀ y0 y1 y2 y3, LeO (annuletlaw04_UtfBack.l0 k y0 y1 y2 y3) (annuletlaw04_UtfBack.l0 (k + 1) y0 y1 y2 y3))
  | 0 => ⟨fun _ _ _ r h => by simp [annuletlaw04_UtfBack.j0] at h, fun _ _ _ _ r h => by simp [annuletlaw04_UtfBack.j1] at h, fun _ _ _ _ r h => by simp [annuletlaw04_UtfBack.l0] at h⟩
  | k + 1 => by
    obtain ⟨ih0, ih1, ih2⟩ := annuletlaw04_UtfBack.mono_l k
    refine ⟨?_, ?_, ?_⟩
    · intro y0 y1 y2
      unfold annuletlaw04_UtfBack.j0
      repeat' first
      | (with_reducible exact ih0 _ _ _)
      | (with_reducible exact ih1 _ _ _ _)
      | (with_reducible exact ih2 _ _ _ _)
      | (with_reducible exact annuletlaw04_awake.mono _)
      | (with_reducible exact utf_Unquote.mono _ _)
      | (with_reducible exact LeO.refl _)
      | (with_reducible exact LeO.none _)
      | (with_reducible refine LeO.ite ?_ ?_)
      | (with_reducible refine LeO.bind ?_ (fun _ => ?_))
      | exact ih0 _ _ _
      | exact ih1 _ _ _ _
      | exact ih2 _ _ _ _
      | exact annuletlaw04_awake.mono _
      | exact utf_Unquote.mono _ _
      | exact LeO.none _
      | refine LeO.ite ?_ ?_
      | refine LeO.bind ?_ (fun _ => ?_)
    · intro y0 y1 y2 y3
      unfold annuletlaw04_UtfBack.j1
      repeat' first
      | (with_reducible exact ih0 _ _ _)
      | (with_reducible exact ih1 _ _ _ _)
      | (with_reducible exact ih2 _ _ _ _)
      | (with_reducible exact annuletlaw04_awake.mono _)
      | (with_reducible exact utf_Unquote.mono _ _)
      | (with_reducible exact LeO.refl _)
      | (with_reducible exact LeO.none _)
      | (with_reducible refine LeO.ite ?_ ?_)
      | (with_reducible refine LeO.bind ?_ (fun _ => ?_))
      | exact ih0 _ _ _
      | exact ih1 _ _ _ _
      | exact ih2 _ _ _ _
      | exact annuletlaw04_awake.mono _
      | exact utf_Unquote.mono _ _
      | exact LeO.none _
      | refine LeO.ite ?_ ?_
      | refine LeO.bind ?_ (fun _ => ?_)
    · intro y0 y1 y2 y3
      unfold annuletlaw04_UtfBack.l0
      repeat' first
      | (with_reducible exact ih0 _ _ _)
      | (with_reducible exact ih1 _ _ _ _)
      | (with_reducible exact ih2 _ _ _ _)
      | (with_reducible exact annuletlaw04_awake.mono _)
      | (with_reducible exact utf_Unquote.mono _ _)
      | (with_reducible exact LeO.refl _)
      | (with_reducible exact LeO.none _)
      | (with_reducible refine LeO.ite ?_ ?_)
      | (with_reducible refine LeO.bind ?_ (fun _ => ?_))
      | exact ih0 _ _ _
      | exact ih1 _ _ _ _
      | exact ih2 _ _ _ _
      | exact annuletlaw04_awake.mono _
      | exact utf_Unquote.mono _ _
      | exact LeO.none _
      | refine LeO.ite ?_ ?_
      | refine LeO.bind ?_ (fun _ => ?_)
theorem annuletlaw04_UtfBack.mono : ∀ a0 a1 k, LeO (annuletlaw04_UtfBack.f k a0 a1) (annuletlaw04_UtfBack.f (k + 1) a0 a1) := by
  intro a0 a1 k
  obtain ⟨ih0, ih1, ih2⟩ := annuletlaw04_UtfBack.mono_l k
  unfold annuletlaw04_UtfBack.f
  repeat' first
      | (with_reducible exact ih0 _ _ _)
      | (with_reducible exact ih1 _ _ _ _)
      | (with_reducible exact ih2 _ _ _ _)
      | (with_reducible exact annuletlaw04_awake.mono _)
      | (with_reducible exact utf_Unquote.mono _ _)
      | (with_reducible exact LeO.refl _)
      | (with_reducible exact LeO.none _)
      | (with_reducible refine LeO.ite ?_ ?_)
      | (with_reducible refine LeO.bind ?_ (fun _ => ?_))
      | exact ih0 _ _ _
      | exact ih1 _ _ _ _
      | exact ih2 _ _ _ _
      | exact annuletlaw04_awake.mono _
      | exact utf_Unquote.mono _ _
      | exact LeO.none _
      | refine LeO.ite ?_ ?_
      | refine LeO.bind ?_ (fun _ => ?_)
set_option maxHeartbeats 3000000 in
set_option maxRecDepth 100000 in
theorem annuletlaw04_UtfBack.calls (k : Nat) (a0 : ByteArray) (a1 : ByteArray) (r : Bool) (w : World) (ht : Lib.Utf8Tabs 0 1 w) (h : annuletlaw04_UtfBack.f k a0 a1 = some r) :
    Calls Tryd.prog 6 #[.string a0, .string a1] w fun e w' => e = .returned (.bool r) ∧ Below w.heap.size w w' := by
  have HB := Aside0.mk (Below.refl w.heap.size w)
  have HTB := Aside0.mk ht
  clear ht
  have H : (if (a0.size : Int) > 300 then (annuletlaw04_UtfBack.j0 k a0 a1 true) else (annuletlaw04_UtfBack.j0 k a0 a1 (decide ((a1.size : Int) > 300)))) = some r := h
  clear h
  have HC3 := Aside0.mk H
  clear H
  go_enter Tryd.func6, Tryd.ntmps6
  go_upto_region 1 with (fail)
  go_cut [18] (fun v18 wc => ∃ (kq : Nat) (x18_2 : Bool), v18 = .bool x18_2 ∧ Aside0 (annuletlaw04_UtfBack.j0 kq a0 a1 x18_2 = some r) ∧ Aside0 (kq ≤ k) ∧ Aside0 (Below w.heap.size w wc))
  case first =>
    have H := HC3.out
    clear HC3
    by_cases c4 : (a0.size : Int) > 300
    · rw [if_pos c4] at H
      have c4b0 : decide (300 < (a0.size : Int)) = true := decide_eq_true c4
      have c4b1 : decide (300 < a0.size) = true := decide_eq_true (by omega)
      clear c4
      (first | rw [c4b0] | (simp only [i64_w, i32_w]; rw [c4b0]) | skip)
      have H' := Aside0.mk H
      clear H
      go_wp2
      go_meet
      case rel => exact ⟨_, (true), (by first | rfl | (simp; done) | (simp [*]; done)), H', ⟨by first | omega | exact Nat.le_refl _⟩, ⟨by repeat (first | (with_reducible first | exact HB.out | apply below_alloc | apply pw_below_drewN | apply below_drew1) | exact HB.out)⟩⟩
    · rw [if_neg c4] at H
      have c4b0 : decide (300 < (a0.size : Int)) = false := decide_eq_false c4
      have c4b1 : decide (300 < a0.size) = false := decide_eq_false (by omega)
      clear c4
      (first | rw [c4b0] | (simp only [i64_w, i32_w]; rw [c4b0]) | skip)
      have H' := Aside0.mk H
      clear H
      go_wp2
      go_meet
      case rel => exact ⟨_, (decide ((a1.size : Int) > 300)), (by first | rfl | (simp; done) | (simp [*]; done)), H', ⟨by first | omega | exact Nat.le_refl _⟩, ⟨by repeat (first | (with_reducible first | exact HB.out | apply below_alloc | apply pw_below_drewN | apply below_drew1) | exact HB.out)⟩⟩
  case rest =>
    clear HC3
    try clear p2
    try clear c4
    try clear c4b0
    try clear c4b1
    obtain ⟨kq, x18_2, rfl, HA, HJ2, HB⟩ := hcut
    cases kq with
    | zero => exact absurd HA.out (by simp [annuletlaw04_UtfBack.j0])
    | succ kj2 =>
      have H := HA.out
      clear HA
      simp only [annuletlaw04_UtfBack.j0] at H
      by_cases c5 : x18_2 = true
      · subst c5
        have H1 : ((annuletlaw04_awake.f kj2).bind fun t122 => (some t122)) = some r := by rw [if_pos rfl] at H; exact H
        clear H
        have H := H1
        clear H1
        replace H := Option.bind_eq_some_iff.mp H
        obtain ⟨t122, A60, H⟩ := H
        replace H : (some t122) = some r := H
        have A6 := Aside0.mk A60
        clear A60
        obtain rfl := Option.some.inj H
        go_wp2_with (first | ((with_reducible refine gate_callee (f := 7) rfl ?_); refine goesL_ (some 19) rfl rfl Tryd.func7 (by kernel_rfl) rfl #[] rfl (by (try simp only [List.map_toArray, List.map_cons, List.map_nil]); first | done | rfl | (simp only [List.length_drop, List.length_take]; rfl)) ?_; (with_reducible refine (annuletlaw04_awake.calls kj2  t122 _ ?side1 A6.out).mono ?_); (case side1 => refine tabs_later HTB.out ?_; repeat (first | (with_reducible first | exact HB.out | apply below_alloc | apply pw_below_drewN | apply below_drew1) | exact HB.out)); rintro e w7 ⟨rfl, hb⟩; refine ⟨_, rfl, ?_⟩; have n0_ := Aside0.mk (below_step (by repeat (first | (with_reducible first | exact HB.out | apply below_alloc | apply pw_below_drewN | apply below_drew1) | exact HB.out)) hb); clear HB; have HB := n0_; clear n0_; (try clear hb); (try clear hb2); (try clear hk); (try clear hi)))
        all_goals go_ret
        all_goals first | (exact ⟨by first | rfl | (simp [errW_none, errW_some] <;> rfl) | (simp [*, errW_none, errW_some] <;> rfl), by repeat (first | (with_reducible first | exact HB.out | apply below_alloc | apply pw_below_drewN | apply below_drew1) | exact HB.out)⟩) | (exfalso; simp_all; done)
      · replace c5 := Bool.eq_false_iff.mpr c5
        subst c5
        have H1 : ((utf_Quote.f a0).bind fun t123 => ((utf_Unquote.f kj2 t123).bind fun bt124 => (if bt124.1.toList = a0.toList then (if bt124.2 = 0 then (annuletlaw04_UtfBack.j1 kj2 a0 a1 t123 (t123.toList == ([] : List UInt8))) else (annuletlaw04_UtfBack.j1 kj2 a0 a1 t123 true)) else (annuletlaw04_UtfBack.j1 kj2 a0 a1 t123 true)))) = some r := by rw [if_neg (show ¬ (false = true) by decide)] at H; exact H
        clear H
        have H := H1
        clear H1
        replace H := Option.bind_eq_some_iff.mp H
        obtain ⟨t123, A80, H⟩ := H
        replace H : ((utf_Unquote.f kj2 t123).bind fun bt124 => (if bt124.1.toList = a0.toList then (if bt124.2 = 0 then (annuletlaw04_UtfBack.j1 kj2 a0 a1 t123 (t123.toList == ([] : List UInt8))) else (annuletlaw04_UtfBack.j1 kj2 a0 a1 t123 true)) else (annuletlaw04_UtfBack.j1 kj2 a0 a1 t123 true))) = some r := H
        have A8 := Aside0.mk A80
        clear A80
        replace H := Option.bind_eq_some_iff.mp H
        obtain ⟨⟨t124, t125⟩, A90, H⟩ := H
        replace H : (if t124.toList = a0.toList then (if t125 = 0 then (annuletlaw04_UtfBack.j1 kj2 a0 a1 t123 (t123.toList == ([] : List UInt8))) else (annuletlaw04_UtfBack.j1 kj2 a0 a1 t123 true)) else (annuletlaw04_UtfBack.j1 kj2 a0 a1 t123 true)) = some r := H
        have A9 := Aside0.mk A90
        clear A90
        have HC10 := Aside0.mk H
        clear H
        go_upto_region 5 with (first | ((with_reducible refine gate_callee (f := 16) rfl ?_); refine goesL_ (some 21) rfl rfl Tryd.func16 (by kernel_rfl) rfl #[.string a0] rfl (by (try simp only [List.map_toArray, List.map_cons, List.map_nil]); first | done | rfl | (simp only [List.length_drop, List.length_take]; rfl)) ?_; (with_reducible refine (utf_Quote.calls a0 t123 _ ?side1 A8.out).mono ?_); (case side1 => refine tabs_later HTB.out ?_; repeat (first | (with_reducible first | exact HB.out | apply below_alloc | apply pw_below_drewN | apply below_drew1) | exact HB.out)); rintro e w11 ⟨rfl, hb⟩; refine ⟨_, rfl, ?_⟩; have n0_ := Aside0.mk (below_step (by repeat (first | (with_reducible first | exact HB.out | apply below_alloc | apply pw_below_drewN | apply below_drew1) | exact HB.out)) hb); clear HB; have HB := n0_; clear n0_; (try clear hb); (try clear hb2); (try clear hk); (try clear hi)) | ((with_reducible refine gate_callee (f := 14) rfl ?_); refine goesL_ (some 24) rfl rfl Tryd.func14 (by kernel_rfl) rfl #[.string t123] rfl (by (try simp only [List.map_toArray, List.map_cons, List.map_nil]); first | done | rfl | (simp only [List.length_drop, List.length_take]; rfl)) ?_; (with_reducible refine (utf_Unquote.calls kj2 t123 t124 t125 _ ?side1 A9.out).mono ?_); (case side1 => refine tabs_later HTB.out ?_; repeat (first | (with_reducible first | exact HB.out | apply below_alloc | apply pw_below_drewN | apply below_drew1) | exact HB.out)); rintro e w12 ⟨rfl, hb⟩; refine ⟨_, rfl, ?_⟩; have n0_ := Aside0.mk (below_step (by repeat (first | (with_reducible first | exact HB.out | apply below_alloc | apply pw_below_drewN | apply below_drew1) | exact HB.out)) hb); clear HB; have HB := n0_; clear n0_; (try clear hb); (try clear hb2); (try clear hk); (try clear hi)))
        (try simp only [Act.put, List.setIfInBounds_toArray, List.set_cons_zero, List.set_cons_succ])
        go_cut [37] (fun v37 wc => ∃ (kq : Nat) (x37_9 : Bool), v37 = .bool x37_9 ∧ Aside0 (annuletlaw04_UtfBack.j1 kq a0 a1 t123 x37_9 = some r) ∧ Aside0 (kq ≤ kj2) ∧ Aside0 (Below w.heap.size w wc))
        case first =>
          have H := HC10.out
          clear HC10
          by_cases c13 : t124.toList = a0.toList
          · rw [if_pos c13] at H
            have c13b0 : (t124.toList == a0.toList) = true := beq_iff_eq.mpr c13
            have c13b1 : (t124.toList != a0.toList) = false := bne_eq_false_iff_eq.mpr c13
            clear c13
            (first | rw [c13b0] | (simp only [i64_w, i32_w]; rw [c13b0]) | skip)
            by_cases c14 : t125 = 0
            · rw [if_pos c14] at H
              have c14b0 : (t125 == 0) = true := beq_iff_eq.mpr c14
              have c14b1 : (t125 != 0) = false := bne_eq_false_iff_eq.mpr c14
              clear c14
              have H' := Aside0.mk H
              clear H
              go_wp2
              go_meet
              case rel => exact ⟨_, ((t123.toList == ([] : List UInt8))), (by first | rfl | (simp; done) | (simp [*]; done)), H', ⟨by have := HJ2.out; first | omega | exact Nat.le_refl _⟩, ⟨by repeat (first | (with_reducible first | exact HB.out | apply below_alloc | apply pw_below_drewN | apply below_drew1) | exact HB.out)⟩⟩
            · rw [if_neg c14] at H
              have c14b0 : (t125 == 0) = false := beq_eq_false_iff_ne.mpr c14
              have c14b1 : (t125 != 0) = true := bne_iff_ne.mpr c14
              have H' := Aside0.mk H
              clear H
              go_wp2
              go_meet
              case rel => exact ⟨_, (true), (by first | rfl | (simp; done) | (simp [*]; done)), H', ⟨by have := HJ2.out; first | omega | exact Nat.le_refl _⟩, ⟨by repeat (first | (with_reducible first | exact HB.out | apply below_alloc | apply pw_below_drewN | apply below_drew1) | exact HB.out)⟩⟩
          · rw [if_neg c13] at H
            have c13b0 : (t124.toList == a0.toList) = false := beq_eq_false_iff_ne.mpr c13
            have c13b1 : (t124.toList != a0.toList) = true := bne_iff_ne.mpr c13
            (first | rw [c13b0] | (simp only [i64_w, i32_w]; rw [c13b0]) | skip)
            have H' := Aside0.mk H
            clear H
            go_wp2
            go_meet
            case rel => exact ⟨_, (true), (by first | rfl | (simp; done) | (simp [*]; done)), H', ⟨by have := HJ2.out; first | omega | exact Nat.le_refl _⟩, ⟨by repeat (first | (with_reducible first | exact HB.out | apply below_alloc | apply pw_below_drewN | apply below_drew1) | exact HB.out)⟩⟩
        case rest =>
          clear HC10
          try clear c1
          try clear p2
          try clear c4
          try clear c4b0
          try clear c4b1
          try clear c5
          try clear c6
          try clear c7
          try clear c13
          try clear c13b0
          try clear c13b1
          try clear c14
          try clear c14b0
          try clear c14b1
          try clear p2
          obtain ⟨kq, x37_9, rfl, HA, HJ9, HB⟩ := hcut
          cases kq with
          | zero => exact absurd HA.out (by simp [annuletlaw04_UtfBack.j1])
          | succ kj9 =>
            have H := HA.out
            clear HA
            simp only [annuletlaw04_UtfBack.j1] at H
            by_cases c15 : x37_9 = true
            · subst c15
              have H1 : (none) = some r := by rw [if_pos rfl] at H; exact H
              clear H
              have H := H1
              clear H1
              exact absurd H (by simp)
            · replace c15 := Bool.eq_false_iff.mpr c15
              subst c15
              have H1 : (annuletlaw04_UtfBack.l0 kj9 a0 a1 t123 0) = some r := by rw [if_neg (show ¬ (false = true) by decide)] at H; exact H
              clear H
              have H := H1
              clear H1
              have H' := Aside0.mk H
              clear H
              go_wp2
              go_loopg [8] kj9 (fun kq v8 w' => ∃ (x8_3 : Int), v8 = .int .i64 x8_3 ∧ Aside0 (annuletlaw04_UtfBack.l0 kq a0 a1 t123 x8_3 = some r) ∧ Aside0 (kq ≤ kj9) ∧ Aside0 (Below w.heap.size w w'))
              case atStart => exact ⟨(0), (by first | rfl | (simp; done) | (simp [*]; done)), H', ⟨Nat.le_refl _⟩, ⟨by repeat (first | (with_reducible first | exact HB.out | apply below_alloc | apply pw_below_drewN | apply below_drew1) | exact HB.out)⟩⟩
              case round =>
                clear H'
                try clear c1
                try clear p2
                try clear c4
                try clear c4b0
                try clear c4b1
                try clear c5
                try clear c6
                try clear c7
                try clear c13
                try clear c13b0
                try clear c13b1
                try clear c14
                try clear c14b0
                try clear c14b1
                try clear c15
                try clear p2
                obtain ⟨x8_3, rfl, HA, HK3, HB⟩ := hrel
                cases gk with
                | zero => exact absurd HA.out (by simp [annuletlaw04_UtfBack.l0])
                | succ k3 =>
                  have H := HA.out
                  clear HA
                  simp only [annuletlaw04_UtfBack.l0] at H
                  by_cases c16 : x8_3 < (t123.size : Int)
                  · rw [if_pos c16] at H
                    have c16b0 : decide (x8_3 < (t123.size : Int)) = true := decide_eq_true c16
                    clear c16
                    by_cases c17 : 0 ≤ x8_3
                    · rw [if_pos c17] at H
                      have c17b0 : decide (0 ≤ x8_3) = true := decide_eq_true c17
                      clear c17
                      by_cases c19 : (bt t123 x8_3) ≤ 32
                      · rw [if_pos c19] at H
                        exact absurd H (by simp)
                      · rw [if_neg c19] at H
                        have c19b0 : decide ((bt t123 x8_3) ≤ 32) = false := decide_eq_false c19
                        clear c19
                        by_cases c21 : (bt t123 x8_3) = 127
                        · rw [if_pos c21] at H
                          exact absurd H (by simp)
                        · rw [if_neg c21] at H
                          have c21b0 : ((bt t123 x8_3) == 127) = false := beq_eq_false_iff_ne.mpr c21
                          have c21b1 : ((bt t123 x8_3) != 127) = true := bne_iff_ne.mpr c21
                          have H' := Aside0.mk H
                          clear H
                          have p18 : 0 ≤ (x8_3 : Int) := of_decide_eq_true (by first | (with_reducible assumption) | assumption)
                          have q18 : x8_3 < (t123.size : Int) := of_decide_eq_true (by first | (with_reducible assumption) | assumption)
                          have hx18 := bt_at t123 x8_3
                          replace p18 := eq_true p18
                          replace q18 := eq_true q18
                          have p20 : 0 ≤ (x8_3 : Int) := of_decide_eq_true (by first | (with_reducible assumption) | assumption)
                          have q20 : x8_3 < (t123.size : Int) := of_decide_eq_true (by first | (with_reducible assumption) | assumption)
                          have hx20 := bt_at t123 x8_3
                          replace p20 := eq_true p20
                          replace q20 := eq_true q20
                          go_wp2
                          go_roundg k3
                          case measure => have := HJ2.out; have := HJ9.out; have := HK3.out; omega
                          case rel => exact ⟨(wrap64 (x8_3 + 1)), (by first | rfl | (simp; done) | (simp [*]; done)), H', ⟨by have := HJ2.out; have := HJ9.out; have := HK3.out; omega⟩, ⟨by repeat (first | (with_reducible first | exact HB.out | apply below_alloc | apply pw_below_drewN | apply below_drew1) | exact HB.out)⟩⟩
                    · rw [if_neg c17] at H
                      exact absurd H (by simp)
                  · rw [if_neg c16] at H
                    have c16b0 : decide (x8_3 < (t123.size : Int)) = false := decide_eq_false c16
                    clear c16
                    replace H := Option.bind_eq_some_iff.mp H
                    obtain ⟨⟨t126, t127⟩, A220, H⟩ := H
                    replace H : (if t127 = 0 then ((utf_Quote.f t126).bind fun t128 => (if t128.toList = a1.toList then ((utf_Clip.f a0 3).bind fun t129 => ((utf_Count.f t129).bind fun t130 => ((utf_Count.f a0).bind fun t131 => (if t130 = (mn t131 3) then ((annuletlaw04_awake.f k3).bind fun t132 => (some t132)) else (none))))) else (none))) else ((utf_Clip.f a0 3).bind fun t133 => ((utf_Count.f t133).bind fun t134 => ((utf_Count.f a0).bind fun t135 => (if t134 = (mn t135 3) then ((annuletlaw04_awake.f k3).bind fun t136 => (some t136)) else (none)))))) = some r := H
                    have A22 := Aside0.mk A220
                    clear A220
                    by_cases c23 : t127 = 0
                    · rw [if_pos c23] at H
                      have c23b0 : (t127 == 0) = true := beq_iff_eq.mpr c23
                      have c23b1 : (t127 != 0) = false := bne_eq_false_iff_eq.mpr c23
                      clear c23
                      replace H := Option.bind_eq_some_iff.mp H
                      obtain ⟨t128, A240, H⟩ := H
                      replace H : (if t128.toList = a1.toList then ((utf_Clip.f a0 3).bind fun t129 => ((utf_Count.f t129).bind fun t130 => ((utf_Count.f a0).bind fun t131 => (if t130 = (mn t131 3) then ((annuletlaw04_awake.f k3).bind fun t132 => (some t132)) else (none))))) else (none)) = some r := H
                      have A24 := Aside0.mk A240
                      clear A240
                      by_cases c25 : t128.toList = a1.toList
                      · rw [if_pos c25] at H
                        have c25b0 : (t128.toList == a1.toList) = true := beq_iff_eq.mpr c25
                        have c25b1 : (t128.toList != a1.toList) = false := bne_eq_false_iff_eq.mpr c25
                        clear c25
                        replace H := Option.bind_eq_some_iff.mp H
                        obtain ⟨t129, A260, H⟩ := H
                        replace H : ((utf_Count.f t129).bind fun t130 => ((utf_Count.f a0).bind fun t131 => (if t130 = (mn t131 3) then ((annuletlaw04_awake.f k3).bind fun t132 => (some t132)) else (none)))) = some r := H
                        have A26 := Aside0.mk A260
                        clear A260
                        replace H := Option.bind_eq_some_iff.mp H
                        obtain ⟨t130, A270, H⟩ := H
                        replace H : ((utf_Count.f a0).bind fun t131 => (if t130 = (mn t131 3) then ((annuletlaw04_awake.f k3).bind fun t132 => (some t132)) else (none))) = some r := H
                        have A27 := Aside0.mk A270
                        clear A270
                        replace H := Option.bind_eq_some_iff.mp H
                        obtain ⟨t131, A280, H⟩ := H
                        replace H : (if t130 = (mn t131 3) then ((annuletlaw04_awake.f k3).bind fun t132 => (some t132)) else (none)) = some r := H
                        have A28 := Aside0.mk A280
                        clear A280
                        obtain ⟨ji29, hji29⟩ : ∃ j_ : Int, (mn t131 3) = j_ := ⟨_, rfl⟩
                        replace H : (if t130 = (ji29) then ((annuletlaw04_awake.f k3).bind fun t132 => (some t132)) else (none)) = some r := by first | (rw [hji29] at H; exact H) | (simp only [hji29] at H ⊢; exact H)
                        (try rw [hji29] at A22)
                        (try rw [hji29] at A24)
                        (try rw [hji29] at A26)
                        (try rw [hji29] at A27)
                        (try rw [hji29] at A28)
                        (try (have hji29h : ji29 ≤ 3 := by (rw [← hji29]; unfold mn; (repeat' split) <;> omega)))
                        (try (have hji29g : ji29 ≤ 64 := by omega))
                        have hji29_ : (if 3 < t131 then 3 else t131) = ji29 := hji29
                        by_cases c30 : t130 = (ji29)
                        · rw [if_pos c30] at H
                          have c30b0 : (t130 == (ji29)) = true := beq_iff_eq.mpr c30
                          have c30b1 : (t130 != (ji29)) = false := bne_eq_false_iff_eq.mpr c30
                          clear c30
                          replace H := Option.bind_eq_some_iff.mp H
                          obtain ⟨t132, A310, H⟩ := H
                          replace H : (some t132) = some r := H
                          have A31 := Aside0.mk A310
                          clear A310
                          obtain rfl := Option.some.inj H
                          go_wp2_with (first | ((with_reducible refine gate_callee (f := 14) rfl ?_); refine goesL_ (some 56) rfl rfl Tryd.func14 (by kernel_rfl) rfl #[.string a1] rfl (by (try simp only [List.map_toArray, List.map_cons, List.map_nil]); first | done | rfl | (simp only [List.length_drop, List.length_take]; rfl)) ?_; (with_reducible refine (utf_Unquote.calls k3 a1 t126 t127 _ ?side1 A22.out).mono ?_); (case side1 => refine tabs_later HTB.out ?_; repeat (first | (with_reducible first | exact HB.out | apply below_alloc | apply pw_below_drewN | apply below_drew1) | exact HB.out)); rintro e w32 ⟨rfl, hb⟩; refine ⟨_, rfl, ?_⟩; have n0_ := Aside0.mk (below_step (by repeat (first | (with_reducible first | exact HB.out | apply below_alloc | apply pw_below_drewN | apply below_drew1) | exact HB.out)) hb); clear HB; have HB := n0_; clear n0_; (try clear hb); (try clear hb2); (try clear hk); (try clear hi)) | (go_at_call 16; (with_reducible refine (utf_Quote.calls t126 t128 _ ?side1 A24.out).mono ?_); (case side1 => refine tabs_later HTB.out ?_; repeat (first | (with_reducible first | exact HB.out | apply below_alloc | apply pw_below_drewN | apply below_drew1) | exact HB.out)); rintro e w33 ⟨rfl, hb⟩; have n0_ := Aside0.mk (below_step (by repeat (first | (with_reducible first | exact HB.out | apply below_alloc | apply pw_below_drewN | apply below_drew1) | exact HB.out)) hb); clear HB; have HB := n0_; clear n0_; (try clear hb); (try clear hb2); (try clear hk); (try clear hi)) | (go_at_call 12; (with_reducible refine (utf_Clip.calls a0 3 t129 _ A26.out).mono ?_); rintro e w34 ⟨rfl, hb⟩; have n0_ := Aside0.mk (below_step (by repeat (first | (with_reducible first | exact HB.out | apply below_alloc | apply pw_below_drewN | apply below_drew1) | exact HB.out)) hb); clear HB; have HB := n0_; clear n0_; (try clear hb); (try clear hb2); (try clear hk); (try clear hi)) | (go_at_call 10; (with_reducible refine (utf_Count.calls t129 t130 _ A27.out).mono ?_); rintro e w35 ⟨rfl, hb⟩; have n0_ := Aside0.mk (below_step (by repeat (first | (with_reducible first | exact HB.out | apply below_alloc | apply pw_below_drewN | apply below_drew1) | exact HB.out)) hb); clear HB; have HB := n0_; clear n0_; (try clear hb); (try clear hb2); (try clear hk); (try clear hi)) | (go_at_call 10; (with_reducible refine (utf_Count.calls a0 t131 _ A28.out).mono ?_); rintro e w36 ⟨rfl, hb⟩; have n0_ := Aside0.mk (below_step (by repeat (first | (with_reducible first | exact HB.out | apply below_alloc | apply pw_below_drewN | apply below_drew1) | exact HB.out)) hb); clear HB; have HB := n0_; clear n0_; (try clear hb); (try clear hb2); (try clear hk); (try clear hi)) | (go_at_call 7; (with_reducible refine (annuletlaw04_awake.calls k3  t132 _ ?side1 A31.out).mono ?_); (case side1 => refine tabs_later HTB.out ?_; repeat (first | (with_reducible first | exact HB.out | apply below_alloc | apply pw_below_drewN | apply below_drew1) | exact HB.out)); rintro e w37 ⟨rfl, hb⟩; have n0_ := Aside0.mk (below_step (by repeat (first | (with_reducible first | exact HB.out | apply below_alloc | apply pw_below_drewN | apply below_drew1) | exact HB.out)) hb); clear HB; have HB := n0_; clear n0_; (try clear hb); (try clear hb2); (try clear hk); (try clear hi)))
                          all_goals go_ret
                          all_goals first | (exact ⟨by first | rfl | (simp [errW_none, errW_some] <;> rfl) | (simp only [← hji29]; first | rfl | (simp [errW_none, errW_some] <;> rfl)) | (simp [*, errW_none, errW_some] <;> rfl), by repeat (first | (with_reducible first | exact HB.out | apply below_alloc | apply pw_below_drewN | apply below_drew1) | exact HB.out)⟩) | (exfalso; simp_all; done)
                        · rw [if_neg c30] at H
                          exact absurd H (by simp)
                      · rw [if_neg c25] at H
                        exact absurd H (by simp)
                    · rw [if_neg c23] at H
                      have c23b0 : (t127 == 0) = false := beq_eq_false_iff_ne.mpr c23
                      have c23b1 : (t127 != 0) = true := bne_iff_ne.mpr c23
                      replace H := Option.bind_eq_some_iff.mp H
                      obtain ⟨t133, A380, H⟩ := H
                      replace H : ((utf_Count.f t133).bind fun t134 => ((utf_Count.f a0).bind fun t135 => (if t134 = (mn t135 3) then ((annuletlaw04_awake.f k3).bind fun t136 => (some t136)) else (none)))) = some r := H
                      have A38 := Aside0.mk A380
                      clear A380
                      replace H := Option.bind_eq_some_iff.mp H
                      obtain ⟨t134, A390, H⟩ := H
                      replace H : ((utf_Count.f a0).bind fun t135 => (if t134 = (mn t135 3) then ((annuletlaw04_awake.f k3).bind fun t136 => (some t136)) else (none))) = some r := H
                      have A39 := Aside0.mk A390
                      clear A390
                      replace H := Option.bind_eq_some_iff.mp H
                      obtain ⟨t135, A400, H⟩ := H
                      replace H : (if t134 = (mn t135 3) then ((annuletlaw04_awake.f k3).bind fun t136 => (some t136)) else (none)) = some r := H
                      have A40 := Aside0.mk A400
                      clear A400
                      obtain ⟨ji41, hji41⟩ : ∃ j_ : Int, (mn t135 3) = j_ := ⟨_, rfl⟩
                      replace H : (if t134 = (ji41) then ((annuletlaw04_awake.f k3).bind fun t136 => (some t136)) else (none)) = some r := by first | (rw [hji41] at H; exact H) | (simp only [hji41] at H ⊢; exact H)
                      (try rw [hji41] at A22)
                      (try rw [hji41] at A38)
                      (try rw [hji41] at A39)
                      (try rw [hji41] at A40)
                      (try (have hji41h : ji41 ≤ 3 := by (rw [← hji41]; unfold mn; (repeat' split) <;> omega)))
                      (try (have hji41g : ji41 ≤ 64 := by omega))
                      have hji41_ : (if 3 < t135 then 3 else t135) = ji41 := hji41
                      by_cases c42 : t134 = (ji41)
                      · rw [if_pos c42] at H
                        have c42b0 : (t134 == (ji41)) = true := beq_iff_eq.mpr c42
                        have c42b1 : (t134 != (ji41)) = false := bne_eq_false_iff_eq.mpr c42
                        clear c42
                        replace H := Option.bind_eq_some_iff.mp H
                        obtain ⟨t136, A430, H⟩ := H
                        replace H : (some t136) = some r := H
                        have A43 := Aside0.mk A430
                        clear A430
                        obtain rfl := Option.some.inj H
                        go_wp2_with (first | ((with_reducible refine gate_callee (f := 14) rfl ?_); refine goesL_ (some 56) rfl rfl Tryd.func14 (by kernel_rfl) rfl #[.string a1] rfl (by (try simp only [List.map_toArray, List.map_cons, List.map_nil]); first | done | rfl | (simp only [List.length_drop, List.length_take]; rfl)) ?_; (with_reducible refine (utf_Unquote.calls k3 a1 t126 t127 _ ?side1 A22.out).mono ?_); (case side1 => refine tabs_later HTB.out ?_; repeat (first | (with_reducible first | exact HB.out | apply below_alloc | apply pw_below_drewN | apply below_drew1) | exact HB.out)); rintro e w44 ⟨rfl, hb⟩; refine ⟨_, rfl, ?_⟩; have n0_ := Aside0.mk (below_step (by repeat (first | (with_reducible first | exact HB.out | apply below_alloc | apply pw_below_drewN | apply below_drew1) | exact HB.out)) hb); clear HB; have HB := n0_; clear n0_; (try clear hb); (try clear hb2); (try clear hk); (try clear hi)) | (go_at_call 12; (with_reducible refine (utf_Clip.calls a0 3 t133 _ A38.out).mono ?_); rintro e w45 ⟨rfl, hb⟩; have n0_ := Aside0.mk (below_step (by repeat (first | (with_reducible first | exact HB.out | apply below_alloc | apply pw_below_drewN | apply below_drew1) | exact HB.out)) hb); clear HB; have HB := n0_; clear n0_; (try clear hb); (try clear hb2); (try clear hk); (try clear hi)) | (go_at_call 10; (with_reducible refine (utf_Count.calls t133 t134 _ A39.out).mono ?_); rintro e w46 ⟨rfl, hb⟩; have n0_ := Aside0.mk (below_step (by repeat (first | (with_reducible first | exact HB.out | apply below_alloc | apply pw_below_drewN | apply below_drew1) | exact HB.out)) hb); clear HB; have HB := n0_; clear n0_; (try clear hb); (try clear hb2); (try clear hk); (try clear hi)) | (go_at_call 10; (with_reducible refine (utf_Count.calls a0 t135 _ A40.out).mono ?_); rintro e w47 ⟨rfl, hb⟩; have n0_ := Aside0.mk (below_step (by repeat (first | (with_reducible first | exact HB.out | apply below_alloc | apply pw_below_drewN | apply below_drew1) | exact HB.out)) hb); clear HB; have HB := n0_; clear n0_; (try clear hb); (try clear hb2); (try clear hk); (try clear hi)) | (go_at_call 7; (with_reducible refine (annuletlaw04_awake.calls k3  t136 _ ?side1 A43.out).mono ?_); (case side1 => refine tabs_later HTB.out ?_; repeat (first | (with_reducible first | exact HB.out | apply below_alloc | apply pw_below_drewN | apply below_drew1) | exact HB.out)); rintro e w48 ⟨rfl, hb⟩; have n0_ := Aside0.mk (below_step (by repeat (first | (with_reducible first | exact HB.out | apply below_alloc | apply pw_below_drewN | apply below_drew1) | exact HB.out)) hb); clear HB; have HB := n0_; clear n0_; (try clear hb); (try clear hb2); (try clear hk); (try clear hi)))
                        all_goals go_ret
                        all_goals first | (exact ⟨by first | rfl | (simp [errW_none, errW_some] <;> rfl) | (simp only [← hji41]; first | rfl | (simp [errW_none, errW_some] <;> rfl)) | (simp [*, errW_none, errW_some] <;> rfl), by repeat (first | (with_reducible first | exact HB.out | apply below_alloc | apply pw_below_drewN | apply below_drew1) | exact HB.out)⟩) | (exfalso; simp_all; done)
                      · rw [if_neg c42] at H
                        exact absurd H (by simp)

def annuletlaw04_UtfBack.Pure : Prop := ∀ (a0 : ByteArray) (a1 : ByteArray), a0.size ≤ 140737488351232 → a1.size ≤ 140737488351232 → ∃ k, annuletlaw04_UtfBack.f k a0 a1 = some true

end Go.Proofs.YtffhcongfbnbiaaDoor.PUtfBack
