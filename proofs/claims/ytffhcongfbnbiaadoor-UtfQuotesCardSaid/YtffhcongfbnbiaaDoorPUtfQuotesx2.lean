/- Written by a program of this session (a turned copy of the kit's print): functions of the program, each with the Lean function that it comes to, and the row of one law. No condition. -/
import Derived.Test.YtffhcongfbnbiaaDoorPUtfQuotesx0
import Derived.Test.YtffhcongfbnbiaaDoorPUtfQuotesx1
namespace Go.Proofs.YtffhcongfbnbiaaDoor.PUtfQuotes
open Go.RowKit Go.Proofs.YtffhcongfbnbiaaDoorW.PrintWords Go.Proofs.YtffhcongfbnbiaaDoorW.PrintLast Go.Proofs.YtffhcongfbnbiaaDoorW.PrintMore
attribute [local go_sem] max2_int min2_int max_two min_two max_three min_three max_four min_four   -- for this text's walks alone
set_option linter.unusedVariables false
set_option linter.unusedSimpArgs false

/-! ### annuletlaw04_awake: function 7 -/
def annuletlaw04_awake.f (k : Nat)  : Option (Bool) := (utf_Unquote.f k (⟨#[37, 52, 49]⟩ : ByteArray)).bind fun bt112 => ((utf_Unquote.f k (⟨#[37]⟩ : ByteArray)).bind fun bt114 => ((utf_Quote.f (⟨#[97, 32, 98]⟩ : ByteArray)).bind fun t116 => (if t116.toList = ([97, 37, 50, 48, 98] : List UInt8) then (if bt112.2 = 3 then (if bt114.1.toList = ([] : List UInt8) then (if bt114.2 = 0 then ((utf_Count.f (⟨#[195, 169]⟩ : ByteArray)).bind fun t117 => (if t117 = 1 then ((utf_Valid.f (⟨#[255]⟩ : ByteArray)).bind fun t118 => (if t118 = true then (none) else ((utf_Valid.f (⟨#[195, 169]⟩ : ByteArray)).bind fun t119 => (if t119 = true then ((utf_Clip.f (⟨#[195, 169, 97]⟩ : ByteArray) 1).bind fun t120 => (if t120.toList = ([195, 169] : List UInt8) then ((utf_Quote.f (⟨#[]⟩ : ByteArray)).bind fun t121 => (some (t121.toList == ([37] : List UInt8)))) else (none))) else (none))))) else (none))) else (none)) else (none)) else (none)) else (none))))
theorem annuletlaw04_awake.mono : ∀ k, LeO (annuletlaw04_awake.f k ) (annuletlaw04_awake.f (k + 1) ) := by
  intro  k
  unfold annuletlaw04_awake.f
  repeat' first
      | (with_reducible exact utf_Unquote.mono _ _)
      | (with_reducible exact LeO.refl _)
      | (with_reducible exact LeO.none _)
      | (with_reducible refine LeO.ite ?_ ?_)
      | (with_reducible refine LeO.bind ?_ (fun _ => ?_))
      | exact utf_Unquote.mono _ _
      | exact LeO.none _
      | refine LeO.ite ?_ ?_
      | refine LeO.bind ?_ (fun _ => ?_)
set_option maxHeartbeats 3000000 in
set_option maxRecDepth 100000 in
theorem annuletlaw04_awake.calls (k : Nat)  (r : Bool) (w : World) (ht : Lib.Utf8Tabs 0 1 w) (h : annuletlaw04_awake.f k  = some r) :
    Calls Tryd.prog 7 #[] w fun e w' => e = .returned (.bool r) ∧ Below w.heap.size w w' := by
  have HB := Aside0.mk (Below.refl w.heap.size w)
  have HTB := Aside0.mk ht
  clear ht
  have H : ((utf_Unquote.f k (⟨#[37, 52, 49]⟩ : ByteArray)).bind fun bt112 => ((utf_Unquote.f k (⟨#[37]⟩ : ByteArray)).bind fun bt114 => ((utf_Quote.f (⟨#[97, 32, 98]⟩ : ByteArray)).bind fun t116 => (if t116.toList = ([97, 37, 50, 48, 98] : List UInt8) then (if bt112.2 = 3 then (if bt114.1.toList = ([] : List UInt8) then (if bt114.2 = 0 then ((utf_Count.f (⟨#[195, 169]⟩ : ByteArray)).bind fun t117 => (if t117 = 1 then ((utf_Valid.f (⟨#[255]⟩ : ByteArray)).bind fun t118 => (if t118 = true then (none) else ((utf_Valid.f (⟨#[195, 169]⟩ : ByteArray)).bind fun t119 => (if t119 = true then ((utf_Clip.f (⟨#[195, 169, 97]⟩ : ByteArray) 1).bind fun t120 => (if t120.toList = ([195, 169] : List UInt8) then ((utf_Quote.f (⟨#[]⟩ : ByteArray)).bind fun t121 => (some (t121.toList == ([37] : List UInt8)))) else (none))) else (none))))) else (none))) else (none)) else (none)) else (none)) else (none))))) = some r := h
  clear h
  replace H := Option.bind_eq_some_iff.mp H
  obtain ⟨⟨t112, t113⟩, A10, H⟩ := H
  replace H : ((utf_Unquote.f k (⟨#[37]⟩ : ByteArray)).bind fun bt114 => ((utf_Quote.f (⟨#[97, 32, 98]⟩ : ByteArray)).bind fun t116 => (if t116.toList = ([97, 37, 50, 48, 98] : List UInt8) then (if t113 = 3 then (if bt114.1.toList = ([] : List UInt8) then (if bt114.2 = 0 then ((utf_Count.f (⟨#[195, 169]⟩ : ByteArray)).bind fun t117 => (if t117 = 1 then ((utf_Valid.f (⟨#[255]⟩ : ByteArray)).bind fun t118 => (if t118 = true then (none) else ((utf_Valid.f (⟨#[195, 169]⟩ : ByteArray)).bind fun t119 => (if t119 = true then ((utf_Clip.f (⟨#[195, 169, 97]⟩ : ByteArray) 1).bind fun t120 => (if t120.toList = ([195, 169] : List UInt8) then ((utf_Quote.f (⟨#[]⟩ : ByteArray)).bind fun t121 => (some (t121.toList == ([37] : List UInt8)))) else (none))) else (none))))) else (none))) else (none)) else (none)) else (none)) else (none)))) = some r := H
  have A1 := Aside0.mk A10
  clear A10
  replace H := Option.bind_eq_some_iff.mp H
  obtain ⟨⟨t114, t115⟩, A20, H⟩ := H
  replace H : ((utf_Quote.f (⟨#[97, 32, 98]⟩ : ByteArray)).bind fun t116 => (if t116.toList = ([97, 37, 50, 48, 98] : List UInt8) then (if t113 = 3 then (if t114.toList = ([] : List UInt8) then (if t115 = 0 then ((utf_Count.f (⟨#[195, 169]⟩ : ByteArray)).bind fun t117 => (if t117 = 1 then ((utf_Valid.f (⟨#[255]⟩ : ByteArray)).bind fun t118 => (if t118 = true then (none) else ((utf_Valid.f (⟨#[195, 169]⟩ : ByteArray)).bind fun t119 => (if t119 = true then ((utf_Clip.f (⟨#[195, 169, 97]⟩ : ByteArray) 1).bind fun t120 => (if t120.toList = ([195, 169] : List UInt8) then ((utf_Quote.f (⟨#[]⟩ : ByteArray)).bind fun t121 => (some (t121.toList == ([37] : List UInt8)))) else (none))) else (none))))) else (none))) else (none)) else (none)) else (none)) else (none))) = some r := H
  have A2 := Aside0.mk A20
  clear A20
  replace H := Option.bind_eq_some_iff.mp H
  obtain ⟨t116, A30, H⟩ := H
  replace H : (if t116.toList = ([97, 37, 50, 48, 98] : List UInt8) then (if t113 = 3 then (if t114.toList = ([] : List UInt8) then (if t115 = 0 then ((utf_Count.f (⟨#[195, 169]⟩ : ByteArray)).bind fun t117 => (if t117 = 1 then ((utf_Valid.f (⟨#[255]⟩ : ByteArray)).bind fun t118 => (if t118 = true then (none) else ((utf_Valid.f (⟨#[195, 169]⟩ : ByteArray)).bind fun t119 => (if t119 = true then ((utf_Clip.f (⟨#[195, 169, 97]⟩ : ByteArray) 1).bind fun t120 => (if t120.toList = ([195, 169] : List UInt8) then ((utf_Quote.f (⟨#[]⟩ : ByteArray)).bind fun t121 => (some (t121.toList == ([37] : List UInt8)))) else (none))) else (none))))) else (none))) else (none)) else (none)) else (none)) else (none)) = some r := H
  have A3 := Aside0.mk A30
  clear A30
  by_cases c4 : t116.toList = ([97, 37, 50, 48, 98] : List UInt8)
  · rw [if_pos c4] at H
    have c4b0 : (t116.toList == ([97, 37, 50, 48, 98] : List UInt8)) = true := beq_iff_eq.mpr c4
    have c4b1 : (t116.toList != ([97, 37, 50, 48, 98] : List UInt8)) = false := bne_eq_false_iff_eq.mpr c4
    clear c4
    by_cases c5 : t113 = 3
    · rw [if_pos c5] at H
      have c5b0 : (t113 == 3) = true := beq_iff_eq.mpr c5
      have c5b1 : (t113 != 3) = false := bne_eq_false_iff_eq.mpr c5
      clear c5
      by_cases c6 : t114.toList = ([] : List UInt8)
      · rw [if_pos c6] at H
        have c6b0 : (t114.toList == ([] : List UInt8)) = true := beq_iff_eq.mpr c6
        have c6b1 : (t114.toList != ([] : List UInt8)) = false := bne_eq_false_iff_eq.mpr c6
        clear c6
        by_cases c7 : t115 = 0
        · rw [if_pos c7] at H
          have c7b0 : (t115 == 0) = true := beq_iff_eq.mpr c7
          have c7b1 : (t115 != 0) = false := bne_eq_false_iff_eq.mpr c7
          clear c7
          replace H := Option.bind_eq_some_iff.mp H
          obtain ⟨t117, A80, H⟩ := H
          replace H : (if t117 = 1 then ((utf_Valid.f (⟨#[255]⟩ : ByteArray)).bind fun t118 => (if t118 = true then (none) else ((utf_Valid.f (⟨#[195, 169]⟩ : ByteArray)).bind fun t119 => (if t119 = true then ((utf_Clip.f (⟨#[195, 169, 97]⟩ : ByteArray) 1).bind fun t120 => (if t120.toList = ([195, 169] : List UInt8) then ((utf_Quote.f (⟨#[]⟩ : ByteArray)).bind fun t121 => (some (t121.toList == ([37] : List UInt8)))) else (none))) else (none))))) else (none)) = some r := H
          have A8 := Aside0.mk A80
          clear A80
          by_cases c9 : t117 = 1
          · rw [if_pos c9] at H
            have c9b0 : (t117 == 1) = true := beq_iff_eq.mpr c9
            have c9b1 : (t117 != 1) = false := bne_eq_false_iff_eq.mpr c9
            clear c9
            replace H := Option.bind_eq_some_iff.mp H
            obtain ⟨t118, A100, H⟩ := H
            replace H : (if t118 = true then (none) else ((utf_Valid.f (⟨#[195, 169]⟩ : ByteArray)).bind fun t119 => (if t119 = true then ((utf_Clip.f (⟨#[195, 169, 97]⟩ : ByteArray) 1).bind fun t120 => (if t120.toList = ([195, 169] : List UInt8) then ((utf_Quote.f (⟨#[]⟩ : ByteArray)).bind fun t121 => (some (t121.toList == ([37] : List UInt8)))) else (none))) else (none)))) = some r := H
            have A10 := Aside0.mk A100
            clear A100
            by_cases c11 : t118 = true
            · subst c11
              have H1 : (none) = some r := by rw [if_pos rfl] at H; exact H
              clear H
              have H := H1
              clear H1
              exact absurd H (by simp)
            · replace c11 := Bool.eq_false_iff.mpr c11
              subst c11
              have H1 : ((utf_Valid.f (⟨#[195, 169]⟩ : ByteArray)).bind fun t119 => (if t119 = true then ((utf_Clip.f (⟨#[195, 169, 97]⟩ : ByteArray) 1).bind fun t120 => (if t120.toList = ([195, 169] : List UInt8) then ((utf_Quote.f (⟨#[]⟩ : ByteArray)).bind fun t121 => (some (t121.toList == ([37] : List UInt8)))) else (none))) else (none))) = some r := by rw [if_neg (show ¬ (false = true) by decide)] at H; exact H
              clear H
              have H := H1
              clear H1
              replace H := Option.bind_eq_some_iff.mp H
              obtain ⟨t119, A120, H⟩ := H
              replace H : (if t119 = true then ((utf_Clip.f (⟨#[195, 169, 97]⟩ : ByteArray) 1).bind fun t120 => (if t120.toList = ([195, 169] : List UInt8) then ((utf_Quote.f (⟨#[]⟩ : ByteArray)).bind fun t121 => (some (t121.toList == ([37] : List UInt8)))) else (none))) else (none)) = some r := H
              have A12 := Aside0.mk A120
              clear A120
              by_cases c13 : t119 = true
              · subst c13
                have H1 : ((utf_Clip.f (⟨#[195, 169, 97]⟩ : ByteArray) 1).bind fun t120 => (if t120.toList = ([195, 169] : List UInt8) then ((utf_Quote.f (⟨#[]⟩ : ByteArray)).bind fun t121 => (some (t121.toList == ([37] : List UInt8)))) else (none))) = some r := by rw [if_pos rfl] at H; exact H
                clear H
                have H := H1
                clear H1
                replace H := Option.bind_eq_some_iff.mp H
                obtain ⟨t120, A140, H⟩ := H
                replace H : (if t120.toList = ([195, 169] : List UInt8) then ((utf_Quote.f (⟨#[]⟩ : ByteArray)).bind fun t121 => (some (t121.toList == ([37] : List UInt8)))) else (none)) = some r := H
                have A14 := Aside0.mk A140
                clear A140
                by_cases c15 : t120.toList = ([195, 169] : List UInt8)
                · rw [if_pos c15] at H
                  have c15b0 : (t120.toList == ([195, 169] : List UInt8)) = true := beq_iff_eq.mpr c15
                  have c15b1 : (t120.toList != ([195, 169] : List UInt8)) = false := bne_eq_false_iff_eq.mpr c15
                  clear c15
                  replace H := Option.bind_eq_some_iff.mp H
                  obtain ⟨t121, A160, H⟩ := H
                  replace H : (some (t121.toList == ([37] : List UInt8))) = some r := H
                  have A16 := Aside0.mk A160
                  clear A160
                  obtain rfl := Option.some.inj H
                  go_enter Tryd.func7, Tryd.ntmps7
                  go_wp2_with (first | ((with_reducible refine gate_callee (f := 14) rfl ?_); refine goesL_ (some 6) rfl rfl Tryd.func14 (by kernel_rfl) rfl #[.string (⟨#[37, 52, 49]⟩ : ByteArray)] rfl (by (try simp only [List.map_toArray, List.map_cons, List.map_nil]); first | done | rfl | (simp only [List.length_drop, List.length_take]; rfl)) ?_; (with_reducible refine (utf_Unquote.calls k (⟨#[37, 52, 49]⟩ : ByteArray) t112 t113 _ ?side1 A1.out).mono ?_); (case side1 => refine tabs_later HTB.out ?_; repeat (first | (with_reducible first | exact HB.out | apply below_alloc | apply pw_below_drewN | apply below_drew1) | exact HB.out)); rintro e w17 ⟨rfl, hb⟩; refine ⟨_, rfl, ?_⟩; have n0_ := Aside0.mk (below_step (by repeat (first | (with_reducible first | exact HB.out | apply below_alloc | apply pw_below_drewN | apply below_drew1) | exact HB.out)) hb); clear HB; have HB := n0_; clear n0_; (try clear hb); (try clear hb2); (try clear hk); (try clear hi)) | ((with_reducible refine gate_callee (f := 14) rfl ?_); refine goesL_ (some 10) rfl rfl Tryd.func14 (by kernel_rfl) rfl #[.string (⟨#[37]⟩ : ByteArray)] rfl (by (try simp only [List.map_toArray, List.map_cons, List.map_nil]); first | done | rfl | (simp only [List.length_drop, List.length_take]; rfl)) ?_; (with_reducible refine (utf_Unquote.calls k (⟨#[37]⟩ : ByteArray) t114 t115 _ ?side1 A2.out).mono ?_); (case side1 => refine tabs_later HTB.out ?_; repeat (first | (with_reducible first | exact HB.out | apply below_alloc | apply pw_below_drewN | apply below_drew1) | exact HB.out)); rintro e w18 ⟨rfl, hb⟩; refine ⟨_, rfl, ?_⟩; have n0_ := Aside0.mk (below_step (by repeat (first | (with_reducible first | exact HB.out | apply below_alloc | apply pw_below_drewN | apply below_drew1) | exact HB.out)) hb); clear HB; have HB := n0_; clear n0_; (try clear hb); (try clear hb2); (try clear hk); (try clear hi)) | ((with_reducible refine gate_callee (f := 16) rfl ?_); refine goesL_ (some 13) rfl rfl Tryd.func16 (by kernel_rfl) rfl #[.string (⟨#[97, 32, 98]⟩ : ByteArray)] rfl (by (try simp only [List.map_toArray, List.map_cons, List.map_nil]); first | done | rfl | (simp only [List.length_drop, List.length_take]; rfl)) ?_; (with_reducible refine (utf_Quote.calls (⟨#[97, 32, 98]⟩ : ByteArray) t116 _ ?side1 A3.out).mono ?_); (case side1 => refine tabs_later HTB.out ?_; repeat (first | (with_reducible first | exact HB.out | apply below_alloc | apply pw_below_drewN | apply below_drew1) | exact HB.out)); rintro e w19 ⟨rfl, hb⟩; refine ⟨_, rfl, ?_⟩; have n0_ := Aside0.mk (below_step (by repeat (first | (with_reducible first | exact HB.out | apply below_alloc | apply pw_below_drewN | apply below_drew1) | exact HB.out)) hb); clear HB; have HB := n0_; clear n0_; (try clear hb); (try clear hb2); (try clear hk); (try clear hi)) | (go_at_call 10; (with_reducible refine (utf_Count.calls (⟨#[195, 169]⟩ : ByteArray) t117 _ A8.out).mono ?_); rintro e w20 ⟨rfl, hb⟩; have n0_ := Aside0.mk (below_step (by repeat (first | (with_reducible first | exact HB.out | apply below_alloc | apply pw_below_drewN | apply below_drew1) | exact HB.out)) hb); clear HB; have HB := n0_; clear n0_; (try clear hb); (try clear hb2); (try clear hk); (try clear hi)) | (go_at_call 8; (with_reducible refine (utf_Valid.calls (⟨#[255]⟩ : ByteArray) false _ ?side1 A10.out).mono ?_); (case side1 => refine tabs_later HTB.out ?_; repeat (first | (with_reducible first | exact HB.out | apply below_alloc | apply pw_below_drewN | apply below_drew1) | exact HB.out)); rintro e w21 ⟨rfl, hb⟩; have n0_ := Aside0.mk (below_step (by repeat (first | (with_reducible first | exact HB.out | apply below_alloc | apply pw_below_drewN | apply below_drew1) | exact HB.out)) hb); clear HB; have HB := n0_; clear n0_; (try clear hb); (try clear hb2); (try clear hk); (try clear hi)) | (go_at_call 8; (with_reducible refine (utf_Valid.calls (⟨#[195, 169]⟩ : ByteArray) true _ ?side1 A12.out).mono ?_); (case side1 => refine tabs_later HTB.out ?_; repeat (first | (with_reducible first | exact HB.out | apply below_alloc | apply pw_below_drewN | apply below_drew1) | exact HB.out)); rintro e w22 ⟨rfl, hb⟩; have n0_ := Aside0.mk (below_step (by repeat (first | (with_reducible first | exact HB.out | apply below_alloc | apply pw_below_drewN | apply below_drew1) | exact HB.out)) hb); clear HB; have HB := n0_; clear n0_; (try clear hb); (try clear hb2); (try clear hk); (try clear hi)) | (go_at_call 12; (with_reducible refine (utf_Clip.calls (⟨#[195, 169, 97]⟩ : ByteArray) 1 t120 _ A14.out).mono ?_); rintro e w23 ⟨rfl, hb⟩; have n0_ := Aside0.mk (below_step (by repeat (first | (with_reducible first | exact HB.out | apply below_alloc | apply pw_below_drewN | apply below_drew1) | exact HB.out)) hb); clear HB; have HB := n0_; clear n0_; (try clear hb); (try clear hb2); (try clear hk); (try clear hi)) | (go_at_call 16; (with_reducible refine (utf_Quote.calls (⟨#[]⟩ : ByteArray) t121 _ ?side1 A16.out).mono ?_); (case side1 => refine tabs_later HTB.out ?_; repeat (first | (with_reducible first | exact HB.out | apply below_alloc | apply pw_below_drewN | apply below_drew1) | exact HB.out)); rintro e w24 ⟨rfl, hb⟩; have n0_ := Aside0.mk (below_step (by repeat (first | (with_reducible first | exact HB.out | apply below_alloc | apply pw_below_drewN | apply below_drew1) | exact HB.out)) hb); clear HB; have HB := n0_; clear n0_; (try clear hb); (try clear hb2); (try clear hk); (try clear hi)))
                  all_goals go_ret
                  all_goals first | (exact ⟨by first | rfl | (simp [errW_none, errW_some] <;> rfl) | (simp [*, errW_none, errW_some] <;> rfl), by repeat (first | (with_reducible first | exact HB.out | apply below_alloc | apply pw_below_drewN | apply below_drew1) | exact HB.out)⟩) | (exfalso; simp_all; done)
                · rw [if_neg c15] at H
                  exact absurd H (by simp)
              · replace c13 := Bool.eq_false_iff.mpr c13
                subst c13
                have H1 : (none) = some r := by rw [if_neg (show ¬ (false = true) by decide)] at H; exact H
                clear H
                have H := H1
                clear H1
                exact absurd H (by simp)
          · rw [if_neg c9] at H
            exact absurd H (by simp)
        · rw [if_neg c7] at H
          exact absurd H (by simp)
      · rw [if_neg c6] at H
        exact absurd H (by simp)
    · rw [if_neg c5] at H
      exact absurd H (by simp)
  · rw [if_neg c4] at H
    exact absurd H (by simp)

/-! ### annuletref04_tail: function 27 -/
def annuletref04_tail.f (a0 : Int) : Option (Bool) := if a0 ≥ 128 then (some (decide (a0 ≤ 191))) else (some false)
set_option maxHeartbeats 3000000 in
set_option maxRecDepth 100000 in
theorem annuletref04_tail.calls (a0 : Int) (r : Bool) (w : World) (h : annuletref04_tail.f a0 = some r) :
    Calls Tryd.prog 27 #[.int .u8 a0] w fun e w' => e = .returned (.bool r) ∧ Drawn0 w w' := by
  have H : (if a0 ≥ 128 then (some (decide (a0 ≤ 191))) else (some false)) = some r := h
  clear h
  by_cases c2 : a0 ≥ 128
  · rw [if_pos c2] at H
    have c2b0 : decide (128 ≤ a0) = true := decide_eq_true c2
    clear c2
    obtain rfl := Option.some.inj H
    go_enter Tryd.func27, Tryd.ntmps27
    go_wp2
    all_goals go_ret
    all_goals first | (exact ⟨by first | rfl | (simp; done) | (simp [*]; done) | (refine congrArg Ending.returned ?_; show Value.string _ = Value.string _; (first | (congr 2 <;> omega) | (congr 3 <;> omega) | (congr 4 <;> omega))), by repeat (first | exact Drawn0.refl _ | apply Drawn0.step)⟩) | (exfalso; simp_all; done)
  · rw [if_neg c2] at H
    have c2b0 : decide (128 ≤ a0) = false := decide_eq_false c2
    clear c2
    obtain rfl := Option.some.inj H
    go_enter Tryd.func27, Tryd.ntmps27
    go_wp2
    all_goals go_ret
    all_goals first | (exact ⟨by first | rfl | (simp; done) | (simp [*]; done) | (refine congrArg Ending.returned ?_; show Value.string _ = Value.string _; (first | (congr 2 <;> omega) | (congr 3 <;> omega) | (congr 4 <;> omega))), by repeat (first | exact Drawn0.refl _ | apply Drawn0.step)⟩) | (exfalso; simp_all; done)

end Go.Proofs.YtffhcongfbnbiaaDoor.PUtfQuotes
