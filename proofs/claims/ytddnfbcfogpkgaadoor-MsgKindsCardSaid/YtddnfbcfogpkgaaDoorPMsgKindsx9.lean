/- Written by a program of this session (a turned copy of the kit's print): functions of the program, each with the Lean function that it comes to, and the row of one law. No condition. -/
import Derived.Test.YtddnfbcfogpkgaaDoorPMsgKindsx0
import Derived.Test.YtddnfbcfogpkgaaDoorPMsgKindsx3
import Derived.Test.YtddnfbcfogpkgaaDoorPMsgKindsx8
namespace Go.Proofs.YtddnfbcfogpkgaaDoor.PMsgKinds
open Go.RowKit Go.Proofs.YtddnfbcfogpkgaaDoorW.PrintWords Go.Proofs.YtddnfbcfogpkgaaDoorW.PrintLast Go.Proofs.YtddnfbcfogpkgaaDoorW.PrintMore
attribute [local go_sem] max2_int min2_int max_two min_two max_three min_three max_four min_four   -- for this text's walks alone
set_option linter.unusedVariables false
set_option linter.unusedSimpArgs false

/-! ### annuletref08_Asks: function 18 -/
def annuletref08_Asks.l0 : Nat → Int → Int → Option (Bool)
  | 0, _, _ => none
  | k + 1, x0, x3 => if x3 < 13 then ((annuletref08_Answers.f k x0 x3).bind fun t231 => (if t231 = true then (some true) else (annuletref08_Asks.l0 k x0 (wrap64 (x3 + 1))))) else (some false)
def annuletref08_Asks.f (k : Nat) (a0 : Int) : Option (Bool) := annuletref08_Asks.l0 k a0 1
theorem annuletref08_Asks.mono_l : ∀ k, (∀ y0 y1, LeO (annuletref08_Asks.l0 k y0 y1) (annuletref08_Asks.l0 (k + 1) y0 y1))
  | 0 => fun _ _ r h => by simp [annuletref08_Asks.l0] at h
  | k + 1 => by
    have ih0 := annuletref08_Asks.mono_l k
    · intro y0 y1
      unfold annuletref08_Asks.l0
      repeat' first
      | (with_reducible exact ih0 _ _)
      | (with_reducible exact annuletref08_Answers.mono _ _ _)
      | (with_reducible exact LeO.refl _)
      | (with_reducible exact LeO.none _)
      | (with_reducible refine LeO.ite ?_ ?_)
      | (with_reducible refine LeO.bind ?_ (fun _ => ?_))
      | exact ih0 _ _
      | exact annuletref08_Answers.mono _ _ _
      | exact LeO.none _
      | refine LeO.ite ?_ ?_
      | refine LeO.bind ?_ (fun _ => ?_)
theorem annuletref08_Asks.mono : ∀ a0 k, LeO (annuletref08_Asks.f k a0) (annuletref08_Asks.f (k + 1) a0) := by
  intro a0 k
  have ih0 := annuletref08_Asks.mono_l k
  unfold annuletref08_Asks.f
  repeat' first
      | (with_reducible exact ih0 _ _)
      | (with_reducible exact annuletref08_Answers.mono _ _ _)
      | (with_reducible exact LeO.refl _)
      | (with_reducible exact LeO.none _)
      | (with_reducible refine LeO.ite ?_ ?_)
      | (with_reducible refine LeO.bind ?_ (fun _ => ?_))
      | exact ih0 _ _
      | exact annuletref08_Answers.mono _ _ _
      | exact LeO.none _
      | refine LeO.ite ?_ ?_
      | refine LeO.bind ?_ (fun _ => ?_)
set_option maxHeartbeats 3000000 in
set_option maxRecDepth 100000 in
theorem annuletref08_Asks.calls (k : Nat) (a0 : Int) (r : Bool) (w : World) (h : annuletref08_Asks.f k a0 = some r) :
    Calls Tryd.prog 18 #[.int .i64 a0] w fun e w' => e = .returned (.bool r) ∧ Drawn0 w w' := by
  have H : (annuletref08_Asks.l0 k a0 1) = some r := h
  clear h
  have H' := Aside0.mk H
  clear H
  go_enter Tryd.func18, Tryd.ntmps18
  go_wp2
  go_loopg [3] k (fun kq v3 w' => ∃ (x3_1 : Int), v3 = .int .i64 x3_1 ∧ Aside0 (annuletref08_Asks.l0 kq a0 x3_1 = some r) ∧ Aside0 (kq ≤ k) ∧ Drawn0 w w')
  case atStart => exact ⟨(1), (by first | rfl | (simp; done) | (simp [*]; done)), H', ⟨Nat.le_refl _⟩, by repeat (first | exact Drawn0.refl _ | apply Drawn0.step)⟩
  case round =>
    clear H'
    try clear c1
    obtain ⟨x3_1, rfl, HA, HK1, ⟨m1, rfl⟩⟩ := hrel
    cases gk with
    | zero => exact absurd HA.out (by simp [annuletref08_Asks.l0])
    | succ k1 =>
      have H := HA.out
      clear HA
      simp only [annuletref08_Asks.l0] at H
      by_cases c2 : x3_1 < 13
      · rw [if_pos c2] at H
        have c2b0 : decide (x3_1 < 13) = true := decide_eq_true c2
        clear c2
        replace H := Option.bind_eq_some_iff.mp H
        obtain ⟨t231, A30, H⟩ := H
        replace H : (if t231 = true then (some true) else (annuletref08_Asks.l0 k1 a0 (wrap64 (x3_1 + 1)))) = some r := H
        have A3 := Aside0.mk A30
        clear A30
        by_cases c4 : t231 = true
        · subst c4
          have H1 : (some true) = some r := by rw [if_pos rfl] at H; exact H
          clear H
          have H := H1
          clear H1
          obtain rfl := Option.some.inj H
          go_wp2_with (first | ((with_reducible refine gate_callee (f := 20) rfl ?_); refine goesL_ (some 10) rfl rfl Tryd.func20 (by kernel_rfl) rfl #[.int .i64 a0, .int .i64 x3_1] rfl (by (try simp only [List.map_toArray, List.map_cons, List.map_nil]); first | done | rfl | (simp only [List.length_drop, List.length_take]; rfl)) ?_; (with_reducible refine (annuletref08_Answers.calls k1 a0 x3_1 true _ A3.out).mono ?_); rintro e w' ⟨rfl, ⟨nd, rfl⟩⟩; refine ⟨_, rfl, ?_⟩))
          all_goals go_ret
          all_goals first | (exact ⟨by first | rfl | (simp; done) | (simp [*]; done) | (refine congrArg Ending.returned ?_; show Value.string _ = Value.string _; (first | (congr 2 <;> omega) | (congr 3 <;> omega) | (congr 4 <;> omega))), by repeat (first | exact Drawn0.refl _ | apply Drawn0.step)⟩) | (exfalso; simp_all; done)
        · replace c4 := Bool.eq_false_iff.mpr c4
          subst c4
          have H1 : (annuletref08_Asks.l0 k1 a0 (wrap64 (x3_1 + 1))) = some r := by rw [if_neg (show ¬ (false = true) by decide)] at H; exact H
          clear H
          have H := H1
          clear H1
          have H' := Aside0.mk H
          clear H
          go_wp2_with (first | ((with_reducible refine gate_callee (f := 20) rfl ?_); refine goesL_ (some 10) rfl rfl Tryd.func20 (by kernel_rfl) rfl #[.int .i64 a0, .int .i64 x3_1] rfl (by (try simp only [List.map_toArray, List.map_cons, List.map_nil]); first | done | rfl | (simp only [List.length_drop, List.length_take]; rfl)) ?_; (with_reducible refine (annuletref08_Answers.calls k1 a0 x3_1 false _ A3.out).mono ?_); rintro e w' ⟨rfl, ⟨nd, rfl⟩⟩; refine ⟨_, rfl, ?_⟩))
          go_roundg k1
          case measure => have := HK1.out; omega
          case rel => exact ⟨(wrap64 (x3_1 + 1)), (by first | rfl | (simp; done) | (simp [*]; done)), H', ⟨by have := HK1.out; omega⟩, by repeat (first | exact Drawn0.refl _ | apply Drawn0.step)⟩
      · rw [if_neg c2] at H
        have c2b0 : decide (x3_1 < 13) = false := decide_eq_false c2
        clear c2
        obtain rfl := Option.some.inj H
        go_wp2
        all_goals go_ret
        all_goals first | (exact ⟨by first | rfl | (simp; done) | (simp [*]; done) | (refine congrArg Ending.returned ?_; show Value.string _ = Value.string _; (first | (congr 2 <;> omega) | (congr 3 <;> omega) | (congr 4 <;> omega))), by repeat (first | exact Drawn0.refl _ | apply Drawn0.step)⟩) | (exfalso; simp_all; done)

/-! ### annuletlaw08_MsgKinds: function 4 -/
def annuletlaw08_MsgKinds.f (k : Nat) (a0 : Int) (a1 : Int) (a2 : ByteArray) : Option (Bool) := (msg_Name.f a0).bind fun t232 => ((annuletref08_Name.f a0).bind fun t233 => (if t232.toList = t233.toList then ((msg_Kind.f a2).bind fun t234 => ((annuletref08_Kind.f k a2).bind fun t235 => (if t234 = t235 then ((msg_Asks.f a0).bind fun t236 => ((annuletref08_Asks.f k a0).bind fun t237 => (if t236 = true then (if t237 = true then ((msg_Answers.f k a0 a1).bind fun t238 => ((annuletref08_Answers.f k a0 a1).bind fun t239 => (if t238 = true then (if t239 = true then ((annuletlaw08_awake.f k).bind fun t240 => (some t240)) else (none)) else (if t239 = true then (none) else ((annuletlaw08_awake.f k).bind fun t241 => (some t241)))))) else (none)) else (if t237 = true then (none) else ((msg_Answers.f k a0 a1).bind fun t242 => ((annuletref08_Answers.f k a0 a1).bind fun t243 => (if t242 = true then (if t243 = true then ((annuletlaw08_awake.f k).bind fun t244 => (some t244)) else (none)) else (if t243 = true then (none) else ((annuletlaw08_awake.f k).bind fun t245 => (some t245)))))))))) else (none)))) else (none)))
theorem annuletlaw08_MsgKinds.mono : ∀ a0 a1 a2 k, LeO (annuletlaw08_MsgKinds.f k a0 a1 a2) (annuletlaw08_MsgKinds.f (k + 1) a0 a1 a2) := by
  intro a0 a1 a2 k
  unfold annuletlaw08_MsgKinds.f
  repeat' first
      | (with_reducible exact annuletlaw08_awake.mono _)
      | (with_reducible exact annuletref08_Answers.mono _ _ _)
      | (with_reducible exact annuletref08_Asks.mono _ _)
      | (with_reducible exact annuletref08_Kind.mono _ _)
      | (with_reducible exact msg_Answers.mono _ _ _)
      | (with_reducible exact LeO.refl _)
      | (with_reducible exact LeO.none _)
      | (with_reducible refine LeO.ite ?_ ?_)
      | (with_reducible refine LeO.bind ?_ (fun _ => ?_))
      | exact annuletlaw08_awake.mono _
      | exact annuletref08_Answers.mono _ _ _
      | exact annuletref08_Asks.mono _ _
      | exact annuletref08_Kind.mono _ _
      | exact msg_Answers.mono _ _ _
      | exact LeO.none _
      | refine LeO.ite ?_ ?_
      | refine LeO.bind ?_ (fun _ => ?_)
set_option maxHeartbeats 3000000 in
set_option maxRecDepth 100000 in
theorem annuletlaw08_MsgKinds.calls (k : Nat) (a0 : Int) (a1 : Int) (a2 : ByteArray) (r : Bool) (w : World) (ht : Lib.Utf8Tabs 0 1 w) (h : annuletlaw08_MsgKinds.f k a0 a1 a2 = some r) :
    Calls Tryd.prog 4 #[.int .i64 a0, .int .i64 a1, .string a2] w fun e w' => e = .returned (.bool r) ∧ Below w.heap.size w w' := by
  have HB := Aside0.mk (Below.refl w.heap.size w)
  have HTB := Aside0.mk ht
  clear ht
  have H : ((msg_Name.f a0).bind fun t232 => ((annuletref08_Name.f a0).bind fun t233 => (if t232.toList = t233.toList then ((msg_Kind.f a2).bind fun t234 => ((annuletref08_Kind.f k a2).bind fun t235 => (if t234 = t235 then ((msg_Asks.f a0).bind fun t236 => ((annuletref08_Asks.f k a0).bind fun t237 => (if t236 = true then (if t237 = true then ((msg_Answers.f k a0 a1).bind fun t238 => ((annuletref08_Answers.f k a0 a1).bind fun t239 => (if t238 = true then (if t239 = true then ((annuletlaw08_awake.f k).bind fun t240 => (some t240)) else (none)) else (if t239 = true then (none) else ((annuletlaw08_awake.f k).bind fun t241 => (some t241)))))) else (none)) else (if t237 = true then (none) else ((msg_Answers.f k a0 a1).bind fun t242 => ((annuletref08_Answers.f k a0 a1).bind fun t243 => (if t242 = true then (if t243 = true then ((annuletlaw08_awake.f k).bind fun t244 => (some t244)) else (none)) else (if t243 = true then (none) else ((annuletlaw08_awake.f k).bind fun t245 => (some t245)))))))))) else (none)))) else (none)))) = some r := h
  clear h
  replace H := Option.bind_eq_some_iff.mp H
  obtain ⟨t232, A40, H⟩ := H
  replace H : ((annuletref08_Name.f a0).bind fun t233 => (if t232.toList = t233.toList then ((msg_Kind.f a2).bind fun t234 => ((annuletref08_Kind.f k a2).bind fun t235 => (if t234 = t235 then ((msg_Asks.f a0).bind fun t236 => ((annuletref08_Asks.f k a0).bind fun t237 => (if t236 = true then (if t237 = true then ((msg_Answers.f k a0 a1).bind fun t238 => ((annuletref08_Answers.f k a0 a1).bind fun t239 => (if t238 = true then (if t239 = true then ((annuletlaw08_awake.f k).bind fun t240 => (some t240)) else (none)) else (if t239 = true then (none) else ((annuletlaw08_awake.f k).bind fun t241 => (some t241)))))) else (none)) else (if t237 = true then (none) else ((msg_Answers.f k a0 a1).bind fun t242 => ((annuletref08_Answers.f k a0 a1).bind fun t243 => (if t242 = true then (if t243 = true then ((annuletlaw08_awake.f k).bind fun t244 => (some t244)) else (none)) else (if t243 = true then (none) else ((annuletlaw08_awake.f k).bind fun t245 => (some t245)))))))))) else (none)))) else (none))) = some r := H
  have A4 := Aside0.mk A40
  clear A40
  replace H := Option.bind_eq_some_iff.mp H
  obtain ⟨t233, A50, H⟩ := H
  replace H : (if t232.toList = t233.toList then ((msg_Kind.f a2).bind fun t234 => ((annuletref08_Kind.f k a2).bind fun t235 => (if t234 = t235 then ((msg_Asks.f a0).bind fun t236 => ((annuletref08_Asks.f k a0).bind fun t237 => (if t236 = true then (if t237 = true then ((msg_Answers.f k a0 a1).bind fun t238 => ((annuletref08_Answers.f k a0 a1).bind fun t239 => (if t238 = true then (if t239 = true then ((annuletlaw08_awake.f k).bind fun t240 => (some t240)) else (none)) else (if t239 = true then (none) else ((annuletlaw08_awake.f k).bind fun t241 => (some t241)))))) else (none)) else (if t237 = true then (none) else ((msg_Answers.f k a0 a1).bind fun t242 => ((annuletref08_Answers.f k a0 a1).bind fun t243 => (if t242 = true then (if t243 = true then ((annuletlaw08_awake.f k).bind fun t244 => (some t244)) else (none)) else (if t243 = true then (none) else ((annuletlaw08_awake.f k).bind fun t245 => (some t245)))))))))) else (none)))) else (none)) = some r := H
  have A5 := Aside0.mk A50
  clear A50
  by_cases c6 : t232.toList = t233.toList
  · rw [if_pos c6] at H
    have c6b0 : (t232.toList == t233.toList) = true := beq_iff_eq.mpr c6
    have c6b1 : (t232.toList != t233.toList) = false := bne_eq_false_iff_eq.mpr c6
    clear c6
    replace H := Option.bind_eq_some_iff.mp H
    obtain ⟨t234, A70, H⟩ := H
    replace H : ((annuletref08_Kind.f k a2).bind fun t235 => (if t234 = t235 then ((msg_Asks.f a0).bind fun t236 => ((annuletref08_Asks.f k a0).bind fun t237 => (if t236 = true then (if t237 = true then ((msg_Answers.f k a0 a1).bind fun t238 => ((annuletref08_Answers.f k a0 a1).bind fun t239 => (if t238 = true then (if t239 = true then ((annuletlaw08_awake.f k).bind fun t240 => (some t240)) else (none)) else (if t239 = true then (none) else ((annuletlaw08_awake.f k).bind fun t241 => (some t241)))))) else (none)) else (if t237 = true then (none) else ((msg_Answers.f k a0 a1).bind fun t242 => ((annuletref08_Answers.f k a0 a1).bind fun t243 => (if t242 = true then (if t243 = true then ((annuletlaw08_awake.f k).bind fun t244 => (some t244)) else (none)) else (if t243 = true then (none) else ((annuletlaw08_awake.f k).bind fun t245 => (some t245)))))))))) else (none))) = some r := H
    have A7 := Aside0.mk A70
    clear A70
    replace H := Option.bind_eq_some_iff.mp H
    obtain ⟨t235, A80, H⟩ := H
    replace H : (if t234 = t235 then ((msg_Asks.f a0).bind fun t236 => ((annuletref08_Asks.f k a0).bind fun t237 => (if t236 = true then (if t237 = true then ((msg_Answers.f k a0 a1).bind fun t238 => ((annuletref08_Answers.f k a0 a1).bind fun t239 => (if t238 = true then (if t239 = true then ((annuletlaw08_awake.f k).bind fun t240 => (some t240)) else (none)) else (if t239 = true then (none) else ((annuletlaw08_awake.f k).bind fun t241 => (some t241)))))) else (none)) else (if t237 = true then (none) else ((msg_Answers.f k a0 a1).bind fun t242 => ((annuletref08_Answers.f k a0 a1).bind fun t243 => (if t242 = true then (if t243 = true then ((annuletlaw08_awake.f k).bind fun t244 => (some t244)) else (none)) else (if t243 = true then (none) else ((annuletlaw08_awake.f k).bind fun t245 => (some t245)))))))))) else (none)) = some r := H
    have A8 := Aside0.mk A80
    clear A80
    by_cases c9 : t234 = t235
    · rw [if_pos c9] at H
      have c9b0 : (t234 == t235) = true := beq_iff_eq.mpr c9
      have c9b1 : (t234 != t235) = false := bne_eq_false_iff_eq.mpr c9
      clear c9
      replace H := Option.bind_eq_some_iff.mp H
      obtain ⟨t236, A100, H⟩ := H
      replace H : ((annuletref08_Asks.f k a0).bind fun t237 => (if t236 = true then (if t237 = true then ((msg_Answers.f k a0 a1).bind fun t238 => ((annuletref08_Answers.f k a0 a1).bind fun t239 => (if t238 = true then (if t239 = true then ((annuletlaw08_awake.f k).bind fun t240 => (some t240)) else (none)) else (if t239 = true then (none) else ((annuletlaw08_awake.f k).bind fun t241 => (some t241)))))) else (none)) else (if t237 = true then (none) else ((msg_Answers.f k a0 a1).bind fun t242 => ((annuletref08_Answers.f k a0 a1).bind fun t243 => (if t242 = true then (if t243 = true then ((annuletlaw08_awake.f k).bind fun t244 => (some t244)) else (none)) else (if t243 = true then (none) else ((annuletlaw08_awake.f k).bind fun t245 => (some t245))))))))) = some r := H
      have A10 := Aside0.mk A100
      clear A100
      replace H := Option.bind_eq_some_iff.mp H
      obtain ⟨t237, A110, H⟩ := H
      replace H : (if t236 = true then (if t237 = true then ((msg_Answers.f k a0 a1).bind fun t238 => ((annuletref08_Answers.f k a0 a1).bind fun t239 => (if t238 = true then (if t239 = true then ((annuletlaw08_awake.f k).bind fun t240 => (some t240)) else (none)) else (if t239 = true then (none) else ((annuletlaw08_awake.f k).bind fun t241 => (some t241)))))) else (none)) else (if t237 = true then (none) else ((msg_Answers.f k a0 a1).bind fun t242 => ((annuletref08_Answers.f k a0 a1).bind fun t243 => (if t242 = true then (if t243 = true then ((annuletlaw08_awake.f k).bind fun t244 => (some t244)) else (none)) else (if t243 = true then (none) else ((annuletlaw08_awake.f k).bind fun t245 => (some t245)))))))) = some r := H
      have A11 := Aside0.mk A110
      clear A110
      by_cases c12 : t236 = true
      · subst c12
        have H1 : (if t237 = true then ((msg_Answers.f k a0 a1).bind fun t238 => ((annuletref08_Answers.f k a0 a1).bind fun t239 => (if t238 = true then (if t239 = true then ((annuletlaw08_awake.f k).bind fun t240 => (some t240)) else (none)) else (if t239 = true then (none) else ((annuletlaw08_awake.f k).bind fun t241 => (some t241)))))) else (none)) = some r := by rw [if_pos rfl] at H; exact H
        clear H
        have H := H1
        clear H1
        by_cases c13 : t237 = true
        · subst c13
          have H1 : ((msg_Answers.f k a0 a1).bind fun t238 => ((annuletref08_Answers.f k a0 a1).bind fun t239 => (if t238 = true then (if t239 = true then ((annuletlaw08_awake.f k).bind fun t240 => (some t240)) else (none)) else (if t239 = true then (none) else ((annuletlaw08_awake.f k).bind fun t241 => (some t241)))))) = some r := by rw [if_pos rfl] at H; exact H
          clear H
          have H := H1
          clear H1
          replace H := Option.bind_eq_some_iff.mp H
          obtain ⟨t238, A140, H⟩ := H
          replace H : ((annuletref08_Answers.f k a0 a1).bind fun t239 => (if t238 = true then (if t239 = true then ((annuletlaw08_awake.f k).bind fun t240 => (some t240)) else (none)) else (if t239 = true then (none) else ((annuletlaw08_awake.f k).bind fun t241 => (some t241))))) = some r := H
          have A14 := Aside0.mk A140
          clear A140
          replace H := Option.bind_eq_some_iff.mp H
          obtain ⟨t239, A150, H⟩ := H
          replace H : (if t238 = true then (if t239 = true then ((annuletlaw08_awake.f k).bind fun t240 => (some t240)) else (none)) else (if t239 = true then (none) else ((annuletlaw08_awake.f k).bind fun t241 => (some t241)))) = some r := H
          have A15 := Aside0.mk A150
          clear A150
          by_cases c16 : t238 = true
          · subst c16
            have H1 : (if t239 = true then ((annuletlaw08_awake.f k).bind fun t240 => (some t240)) else (none)) = some r := by rw [if_pos rfl] at H; exact H
            clear H
            have H := H1
            clear H1
            by_cases c17 : t239 = true
            · subst c17
              have H1 : ((annuletlaw08_awake.f k).bind fun t240 => (some t240)) = some r := by rw [if_pos rfl] at H; exact H
              clear H
              have H := H1
              clear H1
              replace H := Option.bind_eq_some_iff.mp H
              obtain ⟨t240, A180, H⟩ := H
              replace H : (some t240) = some r := H
              have A18 := Aside0.mk A180
              clear A180
              obtain rfl := Option.some.inj H
              go_enter Tryd.func4, Tryd.ntmps4
              go_wp2_with (first | ((with_reducible refine gate_callee (f := 13) rfl ?_); refine goesL_ (some 8) rfl rfl Tryd.func13 (by kernel_rfl) rfl #[.int .i64 a0] rfl (by (try simp only [List.map_toArray, List.map_cons, List.map_nil]); first | done | rfl | (simp only [List.length_drop, List.length_take]; rfl)) ?_; (with_reducible refine (msg_Name.calls a0 t232 _ A4.out).mono ?_); rintro e w19 ⟨rfl, hb⟩; refine ⟨_, rfl, ?_⟩; have n0_ := Aside0.mk (below_step (by repeat (first | (with_reducible first | exact HB.out | apply below_alloc | apply pw_below_drewN | apply below_drew1) | exact HB.out)) hb); clear HB; have HB := n0_; clear n0_; (try clear hb); (try clear hb2); (try clear hk); (try clear hi)) | ((with_reducible refine gate_callee (f := 14) rfl ?_); refine goesL_ (some 10) rfl rfl Tryd.func14 (by kernel_rfl) rfl #[.int .i64 a0] rfl (by (try simp only [List.map_toArray, List.map_cons, List.map_nil]); first | done | rfl | (simp only [List.length_drop, List.length_take]; rfl)) ?_; (with_reducible refine (annuletref08_Name.calls a0 t233 _ A5.out).mono ?_); rintro e w20 ⟨rfl, hb⟩; refine ⟨_, rfl, ?_⟩; have n0_ := Aside0.mk (below_step (by repeat (first | (with_reducible first | exact HB.out | apply below_alloc | apply pw_below_drewN | apply below_drew1) | exact HB.out)) hb); clear HB; have HB := n0_; clear n0_; (try clear hb); (try clear hb2); (try clear hk); (try clear hi)) | (go_at_call 15; (with_reducible refine (msg_Kind.calls a2 t234 _ A7.out).mono ?_); rintro e w21 ⟨rfl, hb⟩; have n0_ := Aside0.mk (below_step (by repeat (first | (with_reducible first | exact HB.out | apply below_alloc | apply pw_below_drewN | apply below_drew1) | exact HB.out)) hb); clear HB; have HB := n0_; clear n0_; (try clear hb); (try clear hb2); (try clear hk); (try clear hi)) | (go_at_call 16; (with_reducible refine (annuletref08_Kind.calls k a2 t235 _ A8.out).mono ?_); rintro e w22 ⟨rfl, hb⟩; have n0_ := Aside0.mk (below_step (by repeat (first | (with_reducible first | exact HB.out | apply below_alloc | apply pw_below_drewN | apply below_drew1) | exact HB.out)) hb); clear HB; have HB := n0_; clear n0_; (try clear hb); (try clear hb2); (try clear hk); (try clear hi)) | (go_at_call 17; (with_reducible refine (msg_Asks.calls a0 true _ A10.out).mono ?_); rintro e w23 ⟨rfl, hb⟩; have n0_ := Aside0.mk (below_step (by repeat (first | (with_reducible first | exact HB.out | apply below_alloc | apply pw_below_drewN | apply below_drew1) | exact HB.out)) hb); clear HB; have HB := n0_; clear n0_; (try clear hb); (try clear hb2); (try clear hk); (try clear hi)) | (go_at_call 18; (with_reducible refine (annuletref08_Asks.calls k a0 true _ A11.out).mono ?_); rintro e w' ⟨rfl, ⟨nd, rfl⟩⟩) | (go_at_call 19; (with_reducible refine (msg_Answers.calls k a0 a1 true _ A14.out).mono ?_); rintro e w24 ⟨rfl, hb⟩; have n0_ := Aside0.mk (below_step (by repeat (first | (with_reducible first | exact HB.out | apply below_alloc | apply pw_below_drewN | apply below_drew1) | exact HB.out)) hb); clear HB; have HB := n0_; clear n0_; (try clear hb); (try clear hb2); (try clear hk); (try clear hi)) | (go_at_call 20; (with_reducible refine (annuletref08_Answers.calls k a0 a1 true _ A15.out).mono ?_); rintro e w' ⟨rfl, ⟨nd, rfl⟩⟩) | (go_at_call 8; (with_reducible refine (annuletlaw08_awake.calls k  t240 _ ?side1 A18.out).mono ?_); (case side1 => refine tabs_later HTB.out ?_; repeat (first | (with_reducible first | exact HB.out | apply below_alloc | apply pw_below_drewN | apply below_drew1) | exact HB.out)); rintro e w25 ⟨rfl, hb⟩; have n0_ := Aside0.mk (below_step (by repeat (first | (with_reducible first | exact HB.out | apply below_alloc | apply pw_below_drewN | apply below_drew1) | exact HB.out)) hb); clear HB; have HB := n0_; clear n0_; (try clear hb); (try clear hb2); (try clear hk); (try clear hi)))
              all_goals go_ret
              all_goals first | (exact ⟨by first | rfl | (simp [errW_none, errW_some] <;> rfl) | (simp [*, errW_none, errW_some] <;> rfl), by repeat (first | (with_reducible first | exact HB.out | apply below_alloc | apply pw_below_drewN | apply below_drew1) | exact HB.out)⟩) | (exfalso; simp_all; done)
            · replace c17 := Bool.eq_false_iff.mpr c17
              subst c17
              have H1 : (none) = some r := by rw [if_neg (show ¬ (false = true) by decide)] at H; exact H
              clear H
              have H := H1
              clear H1
              exact absurd H (by simp)
          · replace c16 := Bool.eq_false_iff.mpr c16
            subst c16
            have H1 : (if t239 = true then (none) else ((annuletlaw08_awake.f k).bind fun t241 => (some t241))) = some r := by rw [if_neg (show ¬ (false = true) by decide)] at H; exact H
            clear H
            have H := H1
            clear H1
            by_cases c26 : t239 = true
            · subst c26
              have H1 : (none) = some r := by rw [if_pos rfl] at H; exact H
              clear H
              have H := H1
              clear H1
              exact absurd H (by simp)
            · replace c26 := Bool.eq_false_iff.mpr c26
              subst c26
              have H1 : ((annuletlaw08_awake.f k).bind fun t241 => (some t241)) = some r := by rw [if_neg (show ¬ (false = true) by decide)] at H; exact H
              clear H
              have H := H1
              clear H1
              replace H := Option.bind_eq_some_iff.mp H
              obtain ⟨t241, A270, H⟩ := H
              replace H : (some t241) = some r := H
              have A27 := Aside0.mk A270
              clear A270
              obtain rfl := Option.some.inj H
              go_enter Tryd.func4, Tryd.ntmps4
              go_wp2_with (first | ((with_reducible refine gate_callee (f := 13) rfl ?_); refine goesL_ (some 8) rfl rfl Tryd.func13 (by kernel_rfl) rfl #[.int .i64 a0] rfl (by (try simp only [List.map_toArray, List.map_cons, List.map_nil]); first | done | rfl | (simp only [List.length_drop, List.length_take]; rfl)) ?_; (with_reducible refine (msg_Name.calls a0 t232 _ A4.out).mono ?_); rintro e w28 ⟨rfl, hb⟩; refine ⟨_, rfl, ?_⟩; have n0_ := Aside0.mk (below_step (by repeat (first | (with_reducible first | exact HB.out | apply below_alloc | apply pw_below_drewN | apply below_drew1) | exact HB.out)) hb); clear HB; have HB := n0_; clear n0_; (try clear hb); (try clear hb2); (try clear hk); (try clear hi)) | ((with_reducible refine gate_callee (f := 14) rfl ?_); refine goesL_ (some 10) rfl rfl Tryd.func14 (by kernel_rfl) rfl #[.int .i64 a0] rfl (by (try simp only [List.map_toArray, List.map_cons, List.map_nil]); first | done | rfl | (simp only [List.length_drop, List.length_take]; rfl)) ?_; (with_reducible refine (annuletref08_Name.calls a0 t233 _ A5.out).mono ?_); rintro e w29 ⟨rfl, hb⟩; refine ⟨_, rfl, ?_⟩; have n0_ := Aside0.mk (below_step (by repeat (first | (with_reducible first | exact HB.out | apply below_alloc | apply pw_below_drewN | apply below_drew1) | exact HB.out)) hb); clear HB; have HB := n0_; clear n0_; (try clear hb); (try clear hb2); (try clear hk); (try clear hi)) | (go_at_call 15; (with_reducible refine (msg_Kind.calls a2 t234 _ A7.out).mono ?_); rintro e w30 ⟨rfl, hb⟩; have n0_ := Aside0.mk (below_step (by repeat (first | (with_reducible first | exact HB.out | apply below_alloc | apply pw_below_drewN | apply below_drew1) | exact HB.out)) hb); clear HB; have HB := n0_; clear n0_; (try clear hb); (try clear hb2); (try clear hk); (try clear hi)) | (go_at_call 16; (with_reducible refine (annuletref08_Kind.calls k a2 t235 _ A8.out).mono ?_); rintro e w31 ⟨rfl, hb⟩; have n0_ := Aside0.mk (below_step (by repeat (first | (with_reducible first | exact HB.out | apply below_alloc | apply pw_below_drewN | apply below_drew1) | exact HB.out)) hb); clear HB; have HB := n0_; clear n0_; (try clear hb); (try clear hb2); (try clear hk); (try clear hi)) | (go_at_call 17; (with_reducible refine (msg_Asks.calls a0 true _ A10.out).mono ?_); rintro e w32 ⟨rfl, hb⟩; have n0_ := Aside0.mk (below_step (by repeat (first | (with_reducible first | exact HB.out | apply below_alloc | apply pw_below_drewN | apply below_drew1) | exact HB.out)) hb); clear HB; have HB := n0_; clear n0_; (try clear hb); (try clear hb2); (try clear hk); (try clear hi)) | (go_at_call 18; (with_reducible refine (annuletref08_Asks.calls k a0 true _ A11.out).mono ?_); rintro e w' ⟨rfl, ⟨nd, rfl⟩⟩) | (go_at_call 19; (with_reducible refine (msg_Answers.calls k a0 a1 false _ A14.out).mono ?_); rintro e w33 ⟨rfl, hb⟩; have n0_ := Aside0.mk (below_step (by repeat (first | (with_reducible first | exact HB.out | apply below_alloc | apply pw_below_drewN | apply below_drew1) | exact HB.out)) hb); clear HB; have HB := n0_; clear n0_; (try clear hb); (try clear hb2); (try clear hk); (try clear hi)) | (go_at_call 20; (with_reducible refine (annuletref08_Answers.calls k a0 a1 false _ A15.out).mono ?_); rintro e w' ⟨rfl, ⟨nd, rfl⟩⟩) | (go_at_call 8; (with_reducible refine (annuletlaw08_awake.calls k  t241 _ ?side1 A27.out).mono ?_); (case side1 => refine tabs_later HTB.out ?_; repeat (first | (with_reducible first | exact HB.out | apply below_alloc | apply pw_below_drewN | apply below_drew1) | exact HB.out)); rintro e w34 ⟨rfl, hb⟩; have n0_ := Aside0.mk (below_step (by repeat (first | (with_reducible first | exact HB.out | apply below_alloc | apply pw_below_drewN | apply below_drew1) | exact HB.out)) hb); clear HB; have HB := n0_; clear n0_; (try clear hb); (try clear hb2); (try clear hk); (try clear hi)))
              all_goals go_ret
              all_goals first | (exact ⟨by first | rfl | (simp [errW_none, errW_some] <;> rfl) | (simp [*, errW_none, errW_some] <;> rfl), by repeat (first | (with_reducible first | exact HB.out | apply below_alloc | apply pw_below_drewN | apply below_drew1) | exact HB.out)⟩) | (exfalso; simp_all; done)
        · replace c13 := Bool.eq_false_iff.mpr c13
          subst c13
          have H1 : (none) = some r := by rw [if_neg (show ¬ (false = true) by decide)] at H; exact H
          clear H
          have H := H1
          clear H1
          exact absurd H (by simp)
      · replace c12 := Bool.eq_false_iff.mpr c12
        subst c12
        have H1 : (if t237 = true then (none) else ((msg_Answers.f k a0 a1).bind fun t242 => ((annuletref08_Answers.f k a0 a1).bind fun t243 => (if t242 = true then (if t243 = true then ((annuletlaw08_awake.f k).bind fun t244 => (some t244)) else (none)) else (if t243 = true then (none) else ((annuletlaw08_awake.f k).bind fun t245 => (some t245))))))) = some r := by rw [if_neg (show ¬ (false = true) by decide)] at H; exact H
        clear H
        have H := H1
        clear H1
        by_cases c35 : t237 = true
        · subst c35
          have H1 : (none) = some r := by rw [if_pos rfl] at H; exact H
          clear H
          have H := H1
          clear H1
          exact absurd H (by simp)
        · replace c35 := Bool.eq_false_iff.mpr c35
          subst c35
          have H1 : ((msg_Answers.f k a0 a1).bind fun t242 => ((annuletref08_Answers.f k a0 a1).bind fun t243 => (if t242 = true then (if t243 = true then ((annuletlaw08_awake.f k).bind fun t244 => (some t244)) else (none)) else (if t243 = true then (none) else ((annuletlaw08_awake.f k).bind fun t245 => (some t245)))))) = some r := by rw [if_neg (show ¬ (false = true) by decide)] at H; exact H
          clear H
          have H := H1
          clear H1
          replace H := Option.bind_eq_some_iff.mp H
          obtain ⟨t242, A360, H⟩ := H
          replace H : ((annuletref08_Answers.f k a0 a1).bind fun t243 => (if t242 = true then (if t243 = true then ((annuletlaw08_awake.f k).bind fun t244 => (some t244)) else (none)) else (if t243 = true then (none) else ((annuletlaw08_awake.f k).bind fun t245 => (some t245))))) = some r := H
          have A36 := Aside0.mk A360
          clear A360
          replace H := Option.bind_eq_some_iff.mp H
          obtain ⟨t243, A370, H⟩ := H
          replace H : (if t242 = true then (if t243 = true then ((annuletlaw08_awake.f k).bind fun t244 => (some t244)) else (none)) else (if t243 = true then (none) else ((annuletlaw08_awake.f k).bind fun t245 => (some t245)))) = some r := H
          have A37 := Aside0.mk A370
          clear A370
          by_cases c38 : t242 = true
          · subst c38
            have H1 : (if t243 = true then ((annuletlaw08_awake.f k).bind fun t244 => (some t244)) else (none)) = some r := by rw [if_pos rfl] at H; exact H
            clear H
            have H := H1
            clear H1
            by_cases c39 : t243 = true
            · subst c39
              have H1 : ((annuletlaw08_awake.f k).bind fun t244 => (some t244)) = some r := by rw [if_pos rfl] at H; exact H
              clear H
              have H := H1
              clear H1
              replace H := Option.bind_eq_some_iff.mp H
              obtain ⟨t244, A400, H⟩ := H
              replace H : (some t244) = some r := H
              have A40 := Aside0.mk A400
              clear A400
              obtain rfl := Option.some.inj H
              go_enter Tryd.func4, Tryd.ntmps4
              go_wp2_with (first | ((with_reducible refine gate_callee (f := 13) rfl ?_); refine goesL_ (some 8) rfl rfl Tryd.func13 (by kernel_rfl) rfl #[.int .i64 a0] rfl (by (try simp only [List.map_toArray, List.map_cons, List.map_nil]); first | done | rfl | (simp only [List.length_drop, List.length_take]; rfl)) ?_; (with_reducible refine (msg_Name.calls a0 t232 _ A4.out).mono ?_); rintro e w41 ⟨rfl, hb⟩; refine ⟨_, rfl, ?_⟩; have n0_ := Aside0.mk (below_step (by repeat (first | (with_reducible first | exact HB.out | apply below_alloc | apply pw_below_drewN | apply below_drew1) | exact HB.out)) hb); clear HB; have HB := n0_; clear n0_; (try clear hb); (try clear hb2); (try clear hk); (try clear hi)) | ((with_reducible refine gate_callee (f := 14) rfl ?_); refine goesL_ (some 10) rfl rfl Tryd.func14 (by kernel_rfl) rfl #[.int .i64 a0] rfl (by (try simp only [List.map_toArray, List.map_cons, List.map_nil]); first | done | rfl | (simp only [List.length_drop, List.length_take]; rfl)) ?_; (with_reducible refine (annuletref08_Name.calls a0 t233 _ A5.out).mono ?_); rintro e w42 ⟨rfl, hb⟩; refine ⟨_, rfl, ?_⟩; have n0_ := Aside0.mk (below_step (by repeat (first | (with_reducible first | exact HB.out | apply below_alloc | apply pw_below_drewN | apply below_drew1) | exact HB.out)) hb); clear HB; have HB := n0_; clear n0_; (try clear hb); (try clear hb2); (try clear hk); (try clear hi)) | (go_at_call 15; (with_reducible refine (msg_Kind.calls a2 t234 _ A7.out).mono ?_); rintro e w43 ⟨rfl, hb⟩; have n0_ := Aside0.mk (below_step (by repeat (first | (with_reducible first | exact HB.out | apply below_alloc | apply pw_below_drewN | apply below_drew1) | exact HB.out)) hb); clear HB; have HB := n0_; clear n0_; (try clear hb); (try clear hb2); (try clear hk); (try clear hi)) | (go_at_call 16; (with_reducible refine (annuletref08_Kind.calls k a2 t235 _ A8.out).mono ?_); rintro e w44 ⟨rfl, hb⟩; have n0_ := Aside0.mk (below_step (by repeat (first | (with_reducible first | exact HB.out | apply below_alloc | apply pw_below_drewN | apply below_drew1) | exact HB.out)) hb); clear HB; have HB := n0_; clear n0_; (try clear hb); (try clear hb2); (try clear hk); (try clear hi)) | (go_at_call 17; (with_reducible refine (msg_Asks.calls a0 false _ A10.out).mono ?_); rintro e w45 ⟨rfl, hb⟩; have n0_ := Aside0.mk (below_step (by repeat (first | (with_reducible first | exact HB.out | apply below_alloc | apply pw_below_drewN | apply below_drew1) | exact HB.out)) hb); clear HB; have HB := n0_; clear n0_; (try clear hb); (try clear hb2); (try clear hk); (try clear hi)) | (go_at_call 18; (with_reducible refine (annuletref08_Asks.calls k a0 false _ A11.out).mono ?_); rintro e w' ⟨rfl, ⟨nd, rfl⟩⟩) | (go_at_call 19; (with_reducible refine (msg_Answers.calls k a0 a1 true _ A36.out).mono ?_); rintro e w46 ⟨rfl, hb⟩; have n0_ := Aside0.mk (below_step (by repeat (first | (with_reducible first | exact HB.out | apply below_alloc | apply pw_below_drewN | apply below_drew1) | exact HB.out)) hb); clear HB; have HB := n0_; clear n0_; (try clear hb); (try clear hb2); (try clear hk); (try clear hi)) | (go_at_call 20; (with_reducible refine (annuletref08_Answers.calls k a0 a1 true _ A37.out).mono ?_); rintro e w' ⟨rfl, ⟨nd, rfl⟩⟩) | (go_at_call 8; (with_reducible refine (annuletlaw08_awake.calls k  t244 _ ?side1 A40.out).mono ?_); (case side1 => refine tabs_later HTB.out ?_; repeat (first | (with_reducible first | exact HB.out | apply below_alloc | apply pw_below_drewN | apply below_drew1) | exact HB.out)); rintro e w47 ⟨rfl, hb⟩; have n0_ := Aside0.mk (below_step (by repeat (first | (with_reducible first | exact HB.out | apply below_alloc | apply pw_below_drewN | apply below_drew1) | exact HB.out)) hb); clear HB; have HB := n0_; clear n0_; (try clear hb); (try clear hb2); (try clear hk); (try clear hi)))
              all_goals go_ret
              all_goals first | (exact ⟨by first | rfl | (simp [errW_none, errW_some] <;> rfl) | (simp [*, errW_none, errW_some] <;> rfl), by repeat (first | (with_reducible first | exact HB.out | apply below_alloc | apply pw_below_drewN | apply below_drew1) | exact HB.out)⟩) | (exfalso; simp_all; done)
            · replace c39 := Bool.eq_false_iff.mpr c39
              subst c39
              have H1 : (none) = some r := by rw [if_neg (show ¬ (false = true) by decide)] at H; exact H
              clear H
              have H := H1
              clear H1
              exact absurd H (by simp)
          · replace c38 := Bool.eq_false_iff.mpr c38
            subst c38
            have H1 : (if t243 = true then (none) else ((annuletlaw08_awake.f k).bind fun t245 => (some t245))) = some r := by rw [if_neg (show ¬ (false = true) by decide)] at H; exact H
            clear H
            have H := H1
            clear H1
            by_cases c48 : t243 = true
            · subst c48
              have H1 : (none) = some r := by rw [if_pos rfl] at H; exact H
              clear H
              have H := H1
              clear H1
              exact absurd H (by simp)
            · replace c48 := Bool.eq_false_iff.mpr c48
              subst c48
              have H1 : ((annuletlaw08_awake.f k).bind fun t245 => (some t245)) = some r := by rw [if_neg (show ¬ (false = true) by decide)] at H; exact H
              clear H
              have H := H1
              clear H1
              replace H := Option.bind_eq_some_iff.mp H
              obtain ⟨t245, A490, H⟩ := H
              replace H : (some t245) = some r := H
              have A49 := Aside0.mk A490
              clear A490
              obtain rfl := Option.some.inj H
              go_enter Tryd.func4, Tryd.ntmps4
              go_wp2_with (first | ((with_reducible refine gate_callee (f := 13) rfl ?_); refine goesL_ (some 8) rfl rfl Tryd.func13 (by kernel_rfl) rfl #[.int .i64 a0] rfl (by (try simp only [List.map_toArray, List.map_cons, List.map_nil]); first | done | rfl | (simp only [List.length_drop, List.length_take]; rfl)) ?_; (with_reducible refine (msg_Name.calls a0 t232 _ A4.out).mono ?_); rintro e w50 ⟨rfl, hb⟩; refine ⟨_, rfl, ?_⟩; have n0_ := Aside0.mk (below_step (by repeat (first | (with_reducible first | exact HB.out | apply below_alloc | apply pw_below_drewN | apply below_drew1) | exact HB.out)) hb); clear HB; have HB := n0_; clear n0_; (try clear hb); (try clear hb2); (try clear hk); (try clear hi)) | ((with_reducible refine gate_callee (f := 14) rfl ?_); refine goesL_ (some 10) rfl rfl Tryd.func14 (by kernel_rfl) rfl #[.int .i64 a0] rfl (by (try simp only [List.map_toArray, List.map_cons, List.map_nil]); first | done | rfl | (simp only [List.length_drop, List.length_take]; rfl)) ?_; (with_reducible refine (annuletref08_Name.calls a0 t233 _ A5.out).mono ?_); rintro e w51 ⟨rfl, hb⟩; refine ⟨_, rfl, ?_⟩; have n0_ := Aside0.mk (below_step (by repeat (first | (with_reducible first | exact HB.out | apply below_alloc | apply pw_below_drewN | apply below_drew1) | exact HB.out)) hb); clear HB; have HB := n0_; clear n0_; (try clear hb); (try clear hb2); (try clear hk); (try clear hi)) | (go_at_call 15; (with_reducible refine (msg_Kind.calls a2 t234 _ A7.out).mono ?_); rintro e w52 ⟨rfl, hb⟩; have n0_ := Aside0.mk (below_step (by repeat (first | (with_reducible first | exact HB.out | apply below_alloc | apply pw_below_drewN | apply below_drew1) | exact HB.out)) hb); clear HB; have HB := n0_; clear n0_; (try clear hb); (try clear hb2); (try clear hk); (try clear hi)) | (go_at_call 16; (with_reducible refine (annuletref08_Kind.calls k a2 t235 _ A8.out).mono ?_); rintro e w53 ⟨rfl, hb⟩; have n0_ := Aside0.mk (below_step (by repeat (first | (with_reducible first | exact HB.out | apply below_alloc | apply pw_below_drewN | apply below_drew1) | exact HB.out)) hb); clear HB; have HB := n0_; clear n0_; (try clear hb); (try clear hb2); (try clear hk); (try clear hi)) | (go_at_call 17; (with_reducible refine (msg_Asks.calls a0 false _ A10.out).mono ?_); rintro e w54 ⟨rfl, hb⟩; have n0_ := Aside0.mk (below_step (by repeat (first | (with_reducible first | exact HB.out | apply below_alloc | apply pw_below_drewN | apply below_drew1) | exact HB.out)) hb); clear HB; have HB := n0_; clear n0_; (try clear hb); (try clear hb2); (try clear hk); (try clear hi)) | (go_at_call 18; (with_reducible refine (annuletref08_Asks.calls k a0 false _ A11.out).mono ?_); rintro e w' ⟨rfl, ⟨nd, rfl⟩⟩) | (go_at_call 19; (with_reducible refine (msg_Answers.calls k a0 a1 false _ A36.out).mono ?_); rintro e w55 ⟨rfl, hb⟩; have n0_ := Aside0.mk (below_step (by repeat (first | (with_reducible first | exact HB.out | apply below_alloc | apply pw_below_drewN | apply below_drew1) | exact HB.out)) hb); clear HB; have HB := n0_; clear n0_; (try clear hb); (try clear hb2); (try clear hk); (try clear hi)) | (go_at_call 20; (with_reducible refine (annuletref08_Answers.calls k a0 a1 false _ A37.out).mono ?_); rintro e w' ⟨rfl, ⟨nd, rfl⟩⟩) | (go_at_call 8; (with_reducible refine (annuletlaw08_awake.calls k  t245 _ ?side1 A49.out).mono ?_); (case side1 => refine tabs_later HTB.out ?_; repeat (first | (with_reducible first | exact HB.out | apply below_alloc | apply pw_below_drewN | apply below_drew1) | exact HB.out)); rintro e w56 ⟨rfl, hb⟩; have n0_ := Aside0.mk (below_step (by repeat (first | (with_reducible first | exact HB.out | apply below_alloc | apply pw_below_drewN | apply below_drew1) | exact HB.out)) hb); clear HB; have HB := n0_; clear n0_; (try clear hb); (try clear hb2); (try clear hk); (try clear hi)))
              all_goals go_ret
              all_goals first | (exact ⟨by first | rfl | (simp [errW_none, errW_some] <;> rfl) | (simp [*, errW_none, errW_some] <;> rfl), by repeat (first | (with_reducible first | exact HB.out | apply below_alloc | apply pw_below_drewN | apply below_drew1) | exact HB.out)⟩) | (exfalso; simp_all; done)
    · rw [if_neg c9] at H
      exact absurd H (by simp)
  · rw [if_neg c6] at H
    exact absurd H (by simp)

def annuletlaw08_MsgKinds.Pure : Prop := ∀ (a0 : Int) (a1 : Int) (a2 : ByteArray), (Lit.int .i64 a0).wf = true → (Lit.int .i64 a1).wf = true → a2.size ≤ 140737488351232 → ∃ k, annuletlaw08_MsgKinds.f k a0 a1 a2 = some true

end Go.Proofs.YtddnfbcfogpkgaaDoor.PMsgKinds
