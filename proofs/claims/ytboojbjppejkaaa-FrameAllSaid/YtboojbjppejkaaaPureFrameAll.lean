/- FrameAll: bodies put in frames one behind the other are all read and nothing is left, and of what is cut off those ahead are read. No condition. -/
import Derived.Test.YtboojbjppejkaaaPFrameAllx3
import Derived.Test.YtboojbjppejkaaaMath
set_option linter.unusedVariables false
set_option linter.unusedSimpArgs false
namespace Go.Proofs.Ytboojbjppejkaaa.PFrameAll
open Go.RowKit Go.Proofs.YtboojbjppejkaaaW.PrintWords Go.Proofs.YtboojbjppejkaaaW.PrintLast Go.Proofs.YtboojbjppejkaaaW.PrintMore Annulet

/-! ### package uvar: the printed functions and the lists -/
theorem lk_uvar_Put0 (n : Nat) : ∀ b : List Int, b.length + (putL n).length ≤ 140737488355328 → Ev (fun k => uvar_Put.l0 k b (n : Int)) (b ++ putL n) := by
  induction n using putL.induct with
  | case1 n h =>
    intro b hb
    rw [putL_small h] at hb ⊢
    simp only [List.length_singleton] at hb
    refine ev_succ ?_
    simp only [uvar_Put.l0]
    simp only [if_neg (show ¬ (n : Int) ≥ 128 by omega), if_pos (show b.length < 140737488355328 by omega)]
    rw [show (n : Int) % 256 = n by omega]
    exact ev_some _
  | case2 n h ih =>
    intro b hb
    rw [putL_great h] at hb ⊢
    simp only [List.length_cons] at hb
    refine ev_succ ?_
    simp only [uvar_Put.l0]
    simp only [if_pos (show (n : Int) ≥ 128 by omega), if_pos (show b.length < 140737488355328 by omega)]
    rw [or128 (by omega)]
    have := ih (b ++ [(n : Int) % 128 + 128]) (by simp only [List.length_append, List.length_singleton]; omega)
    simp only [List.append_assoc, List.singleton_append] at this
    exact this
theorem lk_uvar_Put (b : List Int) (n : Int) (h0 : 0 ≤ n) (hl : b.length + (putL n.toNat).length ≤ 140737488355328) : Ev (fun k => uvar_Put.f k b n) (b ++ putL n.toNat) := by
  have := lk_uvar_Put0 n.toNat b hl
  rw [show ((n.toNat : Nat) : Int) = n by omega] at this
  exact this
theorem lk_uvar_last0 (b : List Int) (d : Nat) : ∀ i : Nat, i ≤ 10 → i ≤ b.length → min b.length 10 - i = d → (∀ j < i, 128 ≤ rd b (j : Int)) →
    Ev (fun k => uvar_last.l0 k b (mn (b.length : Int) 10) (i : Int)) (if sizeL b = 10 ∨ sizeL b = b.length then -1 else (sizeL b : Int)) := by
  have hm : mn (b.length : Int) 10 = (min b.length 10 : Nat) := by unfold mn; split <;> omega
  rw [hm]
  induction d with
  | zero =>
    intro i h1 h2 hd ha
    refine ev_succ ?_
    simp only [uvar_last.l0]
    simp only [if_neg (show ¬ (i : Int) < ((min b.length 10 : Nat) : Int) by omega)]
    have hs := sizeL_eq b i h1 h2 ha (fun _ _ => by omega)
    rw [hs, if_pos (by omega)]
    exact ev_some _
  | succ d ih =>
    intro i h1 h2 hd ha
    refine ev_succ ?_
    simp only [uvar_last.l0]
    simp only [if_pos (show (i : Int) < ((min b.length 10 : Nat) : Int) by omega), if_pos (show (0 : Int) ≤ (i : Int) by omega), if_pos (show (i : Int) < (b.length : Int) by omega)]
    by_cases hr : rd b (i : Int) < 128
    · simp only [if_pos hr]
      have hs := sizeL_eq b i h1 h2 ha (fun _ _ => hr)
      rw [hs, if_neg (by omega)]
      exact ev_some _
    · simp only [if_neg hr]
      rw [w64 (by omega) (by omega)]
      exact ih (i + 1) (by omega) (by omega) (by omega) (fun j hj => by
        by_cases e : j = i
        · subst e; omega
        · exact ha j (by omega))
theorem lk_uvar_last (b : List Int) : Ev (fun k => uvar_last.f k b) (if sizeL b = 10 ∨ sizeL b = b.length then -1 else (sizeL b : Int)) := by
  unfold uvar_last.f
  exact lk_uvar_last0 b _ 0 (by omega) (by omega) rfl (fun j hj => by omega)
theorem lk_uvar_Get0 (b : List Int) (hb : Bytes b) (x5 : Int) (h5 : 0 ≤ x5) (h5' : x5 < 9223372036854775807) (m : Nat) : ∀ acc : Int, 0 ≤ acc → m ≤ b.length → m ≤ 9223372036854775807 → valL (b.take m) + 128 ^ m * acc < 18446744073709551616 →
    Ev (fun k => uvar_Get.l0 k b x5 acc ((m : Int) - 1)) (valL (b.take m) + 128 ^ m * acc, x5 + 1, 0) := by
  induction m with
  | zero =>
    intro acc h0 hm hmm hv
    refine ev_succ ?_
    simp only [uvar_Get.l0]
    simp only [if_neg (show ¬ ((0 : Nat) : Int) - 1 ≥ 0 by omega)]
    rw [w64 (by omega) (by omega)]
    exact ev_eq (ev_some _) (by simp [valL])
  | succ m ih =>
    intro acc h0 hm hmm hv
    refine ev_succ ?_
    simp only [uvar_Get.l0]
    simp only [if_pos (show (((m + 1 : Nat) : Int) - 1 ≥ 0) by omega), if_pos (show (0 ≤ ((m + 1 : Nat) : Int) - 1) by omega), if_pos (show ((m + 1 : Nat) : Int) - 1 < (b.length : Int) by omega)]
    have e1 : ((m + 1 : Nat) : Int) - 1 = (m : Int) := by omega
    rw [e1]
    have hr := rd_byte hb (m : Int)
    unfold Byte at hr
    rw [and127 hr.1 hr.2]
    have ht := take_succ_rd b m (by omega)
    have hl : (b.take m).length = m := by rw [List.length_take]; omega
    have hv' : valL (b.take (m + 1)) + 128 ^ (m + 1) * acc = valL (b.take m) + 128 ^ m * (acc * 128 + rd b (m : Int) % 128) := by
      rw [ht, valL_append, hl]
      simp only [valL, Int.mul_zero, Int.add_zero]
      rw [Int.pow_succ, Int.mul_add, Int.mul_assoc, Int.mul_comm 128 acc]; omega
    rw [hv'] at hv ⊢
    have hv0 := valL_nonneg (b.take m)
    have hp : (1 : Int) ≤ 128 ^ m := by
      have : (0 : Int) < 128 ^ m := by exact_mod_cast Nat.pow_pos (by decide : 0 < 128)
      omega
    have hge : acc * 128 + rd b (m : Int) % 128 ≤ 128 ^ m * (acc * 128 + rd b (m : Int) % 128) := by
      have := Int.mul_le_mul_of_nonneg_right hp (show 0 ≤ acc * 128 + rd b (m : Int) % 128 by omega)
      omega
    rw [mod128_step h0 (by omega) (by omega) (by omega), w64 (by omega) (by omega)]
    exact ih _ (by omega) (by omega) (by omega) hv
theorem lk_uvar_Get (b : List Int) (hb : Bytes b) : Ev (fun k => uvar_Get.f k b) (getL b) := by
  unfold uvar_Get.f
  have hs := sizeL_le b
  refine ev_bind (lk_uvar_last b) ?_
  by_cases h : sizeL b = 10 ∨ sizeL b = b.length
  · rw [if_pos h]
    simp only [if_pos (show (-1 : Int) < 0 by omega)]
    refine ev_succ ?_
    simp only [uvar_Get.j0]
    by_cases hl : (b.length : Int) ≥ 10
    · rw [decide_eq_true hl]
      simp only [if_true]
      have : sizeL b = 10 := by omega
      unfold getL
      rw [if_pos this]
      exact ev_some _
    · rw [decide_eq_false hl]
      simp only [Bool.false_eq_true, if_false, if_pos (show (-1 : Int) < 0 by omega)]
      unfold getL
      rw [if_neg (by omega), if_pos (by omega)]
      exact ev_some _
  · rw [if_neg h]
    simp only [if_neg (show ¬ (sizeL b : Int) < 0 by omega)]
    refine ev_succ ?_
    simp only [uvar_Get.j0]
    simp only [Bool.false_eq_true, if_false, if_neg (show ¬ (sizeL b : Int) < 0 by omega)]
    have done : ¬ (sizeL b = 9 ∧ rd b (sizeL b) > 1) → ¬ (0 < sizeL b ∧ rd b (sizeL b) = 0) → Ev (fun k => uvar_Get.j2 k b (sizeL b : Int)) (getL b) := fun h9 h0 => by
      refine ev_succ ?_
      simp only [uvar_Get.j2]
      have hv := getL_val_lt b hb h9 (by omega) (by omega)
      have := lk_uvar_Get0 b hb (sizeL b) (by omega) (by omega) (sizeL b + 1) 0 (by omega) (by omega) (by omega) (by omega)
      rw [show (((sizeL b + 1 : Nat) : Int) - 1) = (sizeL b : Int) by omega] at this
      refine ev_eq this ?_
      unfold getL
      rw [if_neg (by omega), if_neg (by omega), if_neg (fun hc => hc.elim h0 h9), Int.mul_zero, Int.add_zero]
    have j1 : ¬ (0 < sizeL b ∧ rd b (sizeL b) = 0) → Ev (fun k => uvar_Get.j1 k b (sizeL b : Int) false) (getL b) := fun h0 => by
      refine ev_succ ?_
      simp only [uvar_Get.j1]
      simp only [Bool.false_eq_true, if_false]
      by_cases h9 : sizeL b = 9
      · simp only [if_pos (show (sizeL b : Int) = 9 by omega), if_pos (show (0 : Int) ≤ (sizeL b : Int) by omega), if_pos (show (sizeL b : Int) < (b.length : Int) by omega)]
        by_cases h1 : rd b (sizeL b : Int) > 1
        · simp only [if_pos h1]
          unfold getL
          rw [if_neg (by omega), if_neg (by omega), if_pos (.inr ⟨h9, h1⟩)]
          exact ev_some _
        · simp only [if_neg h1]
          exact done (fun h => h1 h.2) h0
      · simp only [if_neg (show ¬ (sizeL b : Int) = 9 by omega)]
        exact done (fun h => h9 h.1) h0
    by_cases hp : sizeL b = 0
    · simp only [if_neg (show ¬ (sizeL b : Int) > 0 by omega)]
      exact j1 (fun h => by omega)
    · simp only [if_pos (show (sizeL b : Int) > 0 by omega), if_pos (show (0 : Int) ≤ (sizeL b : Int) by omega), if_pos (show (sizeL b : Int) < (b.length : Int) by omega)]
      by_cases h0 : rd b (sizeL b : Int) = 0
      · simp only [show (rd b (sizeL b : Int) == 0) = true from by simp [h0]]
        refine ev_succ ?_
        simp only [uvar_Get.j1]
        simp only [if_true]
        unfold getL
        rw [if_neg (by omega), if_neg (by omega), if_pos (.inl ⟨by omega, h0⟩)]
        exact ev_some _
      · simp only [show (rd b (sizeL b : Int) == 0) = false from by simp [h0]]
        exact j1 (fun h => h0 h.2)

/-! ### package frame: the printed functions and the lists -/
theorem lk_Clone_byte (b : List Int) (h : b.length < 140737488355328) : slices_Clone_byte_byte.f b = some b := by
  unfold slices_Clone_byte_byte.f
  rw [if_pos h]
theorem lk_frame_Put (b body : List Int) (h : b.length + 10 + body.length < 140737488355328) : Ev (fun k => frame_Put.f k b body) (b ++ frameL body) := by
  have h10 := putL_len10 (n := body.length) (by omega)
  unfold frame_Put.f
  rw [wu64_id (n := (body.length : Int)) (by omega) (by omega)]
  have := lk_uvar_Put b (body.length : Int) (by omega) (by rw [Int.toNat_natCast]; omega)
  rw [Int.toNat_natCast] at this
  refine ev_bind this ?_
  simp only [if_pos (show (b ++ putL body.length).length + body.length < 140737488355328 by rw [List.length_append]; omega)]
  exact ev_eq (ev_some _) (by unfold frameL; rw [List.append_assoc])
theorem lk_frame_Next (b : List Int) (hb : Bytes b) (hl : b.length < 140737488355328) (most : Int) (hm : most < 9223372036854775808) : Ev (fun k => frame_Next.f k b most) (nextL b most) := by
  have hr := getL_range b hb
  unfold frame_Next.f
  refine ev_bind (lk_uvar_Get b hb) ?_
  unfold nextL
  by_cases he : (getL b).2.2 = 0
  · simp only [if_pos he]
    rw [if_neg (by simpa using he)]
    have big : Ev (fun k => frame_Next.j0 k b (getL b).1 (getL b).2.1 true) ([], 0, 5) := by
      refine ev_succ ?_
      simp only [frame_Next.j0, if_true]
      exact ev_some _
    by_cases hm0 : most < 0
    · simp only [if_pos hm0]
      rw [if_pos (.inl hm0)]
      exact big
    · simp only [if_neg hm0]
      rw [wu64_id (n := most) (by omega) (by omega)]
      by_cases hn : most < (getL b).1
      · rw [decide_eq_true (show (getL b).1 > most from hn), if_pos (.inr hn)]
        exact big
      · rw [decide_eq_false (show ¬ (getL b).1 > most from hn), if_neg (by omega)]
        refine ev_succ ?_
        simp only [frame_Next.j0, Bool.false_eq_true, if_false]
        rw [w64 (n := (b.length : Int) - (getL b).2.1) (by omega) (by omega), wu64_id (by omega) (by omega)]
        by_cases hs : (b.length : Int) - (getL b).2.1 < (getL b).1
        · simp only [if_pos (show (getL b).1 > (b.length : Int) - (getL b).2.1 from hs)]
          exact ev_some _
        · simp only [if_neg (show ¬ (getL b).1 > (b.length : Int) - (getL b).2.1 from hs)]
          rw [w64 (n := (getL b).1) (by omega) (by omega), w64 (n := (getL b).2.1 + (getL b).1) (by omega) (by omega)]
          simp only [if_pos (show 0 ≤ (getL b).2.1 by omega), if_pos (show (getL b).2.1 ≤ (getL b).2.1 + (getL b).1 by omega), if_pos (show (getL b).2.1 + (getL b).1 ≤ (b.length : Int) by omega)]
          rw [lk_Clone_byte _ (by rw [List.length_drop, List.length_take]; omega)]
          simp only [Option.bind_some]
          exact ev_some _
  · simp only [if_neg he]
    rw [if_pos (by simpa using he)]
    exact ev_some _
theorem lk_frame_All0 (b : List Int) (hb : Bytes b) (hl : b.length < 1000000000000) (most : Int) (hm : most < 9223372036854775808) (f : Nat) : ∀ (i : Nat) (acc : List (List Int)), i ≤ b.length → b.length - i ≤ f → acc.length + (b.length - i) < 5864062014805 →
    Ev (fun k => frame_All.l0 k b most acc (i : Int)) (allL f (b.drop i) most acc (i : Int)) := by
  induction f with
  | zero =>
    intro i acc hi hf ha
    refine ev_succ ?_
    simp only [frame_All.l0]
    simp only [if_neg (show ¬ (i : Int) < (b.length : Int) by omega)]
    exact ev_some _
  | succ f ih =>
    intro i acc hi hf ha
    refine ev_succ ?_
    simp only [frame_All.l0]
    by_cases h : i < b.length
    · simp only [if_pos (show (i : Int) < (b.length : Int) by omega), if_pos (show (0 : Int) ≤ (i : Int) by omega), if_pos (show (i : Int) ≤ (b.length : Int) by omega), Int.toNat_natCast]
      have hd := bytes_drop hb i
      have hld : (b.drop i).length = b.length - i := List.length_drop
      refine ev_bind (lk_frame_Next _ hd (by omega) most hm) ?_
      have hr := nextL_range _ hd most
      rw [hld] at hr
      have hne : b.drop i ≠ [] := fun hc => by have := congrArg List.length hc; simp at this; omega
      simp only [allL, if_neg hne]
      by_cases h0 : (nextL (b.drop i) most).2.2 = 0
      · have hpos := hr.2.2.1 h0
        simp only [if_pos h0, if_pos (show acc.length < 5864062014805 by omega)]
        rw [w64 (by omega) (by omega)]
        have := ih (i + (nextL (b.drop i) most).2.1.toNat) (acc ++ [(nextL (b.drop i) most).1]) (by omega) (by omega) (by simp only [List.length_append, List.length_singleton]; omega)
        rw [show ((i + (nextL (b.drop i) most).2.1.toNat : Nat) : Int) = (i : Int) + (nextL (b.drop i) most).2.1 by omega] at this
        rw [List.drop_drop]
        exact this
      · simp only [if_neg h0]
        exact ev_some _
    · simp only [if_neg (show ¬ (i : Int) < (b.length : Int) by omega)]
      have he : b.drop i = [] := List.drop_eq_nil_of_le (by omega)
      simp only [allL, he, if_true]
      exact ev_some _
theorem lk_frame_All (b : List Int) (hb : Bytes b) (hl : b.length < 1000000000000) (most : Int) (hm : most < 9223372036854775808) : Ev (fun k => frame_All.f k b most) (allL b.length b most [] 0) := by
  have := lk_frame_All0 b hb hl most hm b.length 0 [] (by omega) (by omega) (by simp; omega)
  exact this
theorem lk_ref15_Same0 (l : List (List Int)) (hl : l.length < 9223372036854775807) (d : Nat) : ∀ i : Nat, i ≤ l.length → l.length - i = d → Ev (fun k => annuletref15_Same.l0 k l l (i : Int)) true := by
  induction d with
  | zero =>
    intro i hi hd
    refine ev_succ ?_
    simp only [annuletref15_Same.l0]
    simp only [if_neg (show ¬ (i : Int) < (l.length : Int) by omega)]
    exact ev_some _
  | succ d ih =>
    intro i hi hd
    refine ev_succ ?_
    simp only [annuletref15_Same.l0]
    simp only [if_pos (show (i : Int) < (l.length : Int) by omega), if_pos (show (0 : Int) ≤ (i : Int) by omega), if_true]
    rw [w64 (by omega) (by omega)]
    exact ih (i + 1) (by omega) (by omega)
theorem lk_ref15_Same (l : List (List Int)) (hl : l.length < 9223372036854775807) : Ev (fun k => annuletref15_Same.f k l l) true := by
  unfold annuletref15_Same.f
  simp only [if_true]
  exact lk_ref15_Same0 l hl _ 0 (by omega) rfl
theorem lk_awake15 : Ev (fun k => annuletlaw15_awake.f k) true := Ev.of annuletlaw15_awake.mono (k := 20) (by decide +kernel)
theorem FrameAll_law : annuletlaw15_FrameAll.Pure := by
  intro l0 a1 hg hw1
  have ha := wf_i64 hw1
  refine Ev.rounds (g := fun k => annuletlaw15_FrameAll.f k l0 a1) ?_
  unfold annuletlaw15_FrameAll.f
  by_cases h0 : (l0.length : Int) > 30
  · simp only [if_pos h0]
    exact ev_bind lk_awake15 (ev_some _)
  simp only [if_neg h0]
  have hb : ∀ x ∈ l0, Bytes x := fun x hx => bytes_of_wf (hg.2 x hx).2
  have loop : ∀ (d i : Nat), i ≤ l0.length → l0.length - i = d → (∀ x ∈ l0.take i, x.length ≤ 300) →
      Ev (fun k => annuletlaw15_FrameAll.l0 k l0 a1 (framesL (l0.take i)) (mostL (l0.take i)) (i : Int)) true := by
    intro d
    induction d with
    | zero =>
      intro i hi hd hs
      have hti : l0.take i = l0 := List.take_of_length_le (by omega)
      rw [hti] at hs ⊢
      have hfl := framesL_len hs (by omega)
      have hge : ∀ x ∈ l0, (x.length : Int) ≤ mostL l0 := fun x hx => by
        have := (mostL_ge l0 l0.length).2
        rw [List.take_length] at this
        exact this x hx
      have hm0 := mostL_le l0 300 hs
      have hbb : Bytes (framesL l0) := framesL_bytes hb
      refine ev_succ ?_
      simp only [annuletlaw15_FrameAll.l0]
      simp only [if_neg (show ¬ (i : Int) < (l0.length : Int) by omega)]
      refine ev_bind (lk_frame_All _ hbb (by omega) _ (by omega)) ?_
      have hall : allL (framesL l0).length (framesL l0) (mostL l0) [] 0 = (l0, ((framesL l0).length : Int), 0) := by
        obtain ⟨j, hj, hr⟩ := all_cut (mostL l0) l0 hge (fun x hx => by have := hs x hx; omega) (framesL l0).length (framesL l0).length [] 0 (Nat.le_refl _) (Nat.le_refl _)
        rw [List.take_length] at hr
        have key : (framesL (l0.take j)).length < (framesL l0).length ∨ l0.take j = l0 := by
          by_cases hjl : j = l0.length
          · exact .inr (by rw [hjl, List.take_length])
          · left
            have e : framesL l0 = framesL (l0.take j) ++ framesL (l0.drop j) := by rw [← framesL_append, List.take_append_drop]
            have hd : l0.drop j = l0[j]'(by omega) :: l0.drop (j + 1) := List.drop_eq_getElem_cons (by omega)
            rw [e, hd, List.length_append]
            have := frameL_pos (l0[j]'(by omega))
            simp only [framesL, List.length_append]
            omega
        rcases hr with ⟨hr, hl⟩ | ⟨hl, hr⟩
        · rcases key with k | k
          · omega
          · rw [hr, k]; simp
        · exfalso
          have e1 : j ≤ l0.length := hj
          -- what is read whole leaves nothing
          obtain ⟨j2, hj2, hr2⟩ := all_cut (mostL l0) l0 hge (fun x hx => by have := hs x hx; omega) (framesL l0).length (framesL l0).length [] 0 (Nat.le_refl _) (Nat.le_refl _)
          have full : ∀ (l : List (List Int)) (f : Nat) (acc : List (List Int)) (at_ : Int), (∀ x ∈ l, (x.length : Int) ≤ mostL l0) → (∀ x ∈ l, x.length ≤ 300) → (framesL l).length ≤ f → (allL f (framesL l) (mostL l0) acc at_).2.2 = 0 := by
            intro l
            induction l with
            | nil => intro f acc at_ _ _ _; cases f <;> simp [allL, framesL]
            | cons x l ih =>
              intro f acc at_ h1 h2 h3
              have hp := frameL_pos x
              have hlen : (framesL (x :: l)).length = (frameL x).length + (framesL l).length := by simp [framesL]
              obtain ⟨f, rfl⟩ : ∃ g, f = g + 1 := ⟨f - 1, by omega⟩
              have hne : framesL (x :: l) ≠ [] := fun h => by have := congrArg List.length h; rw [List.length_nil] at this; omega
              have hx := h2 x (by simp)
              have hn := next_frame x (framesL l) (mostL l0) (h1 x (by simp)) (by omega)
              simp only [allL, if_neg hne]
              have e : framesL (x :: l) = frameL x ++ framesL l := rfl
              rw [e, hn]
              simp only [if_true, Int.toNat_natCast, List.drop_left]
              exact ih f _ _ (fun y hy => h1 y (by simp [hy])) (fun y hy => h2 y (by simp [hy])) (by omega)
          have := full l0 (framesL l0).length [] 0 hge hs (Nat.le_refl _)
          rw [hr] at this
          simp at this
      rw [hall]
      refine ev_bind (lk_ref15_Same l0 (by omega)) ?_
      simp only [if_true, bne_self_eq_false]
      refine ev_succ ?_
      simp only [annuletlaw15_FrameAll.j1, Bool.false_eq_true, if_false]
      have wake : Ev (fun k => annuletlaw15_FrameAll.j2 k l0 a1 (framesL l0) (mostL l0) true) true := by
        refine ev_succ ?_
        simp only [annuletlaw15_FrameAll.j2, if_true]
        exact ev_bind lk_awake15 (ev_some _)
      by_cases hc0 : a1 < 0
      · simp only [if_pos hc0]; exact wake
      simp only [if_neg hc0]
      by_cases hc1 : a1 > ((framesL l0).length : Int)
      · rw [decide_eq_true hc1]; exact wake
      rw [decide_eq_false hc1]
      refine ev_succ ?_
      simp only [annuletlaw15_FrameAll.j2, Bool.false_eq_true, if_false]
      simp only [if_pos (show 0 ≤ a1 by omega), if_pos (show a1 ≤ ((framesL l0).length : Int) by omega)]
      have hlt : ((framesL l0).take a1.toNat).length = a1.toNat := by rw [List.length_take]; omega
      refine ev_bind (lk_frame_All _ (bytes_take hbb _) (by omega) _ (by omega)) ?_
      obtain ⟨j, hj, hr⟩ := all_cut (mostL l0) l0 hge (fun x hx => by have := hs x hx; omega) ((framesL l0).take a1.toNat).length a1.toNat [] 0 (by omega) (by omega)
      have hjl : (l0.take j).length = j := by rw [List.length_take]; omega
      rcases hr with ⟨hr, hl⟩ | ⟨hl, hr⟩
      · rw [hr]
        simp only [List.nil_append, hjl]
        simp only [if_pos (show (j : Int) ≤ (l0.length : Int) by omega), if_pos (show (0 : Int) ≤ (j : Int) by omega), Int.toNat_natCast]
        refine ev_bind (lk_ref15_Same (l0.take j) (by omega)) ?_
        simp only [if_true]
        simp only [if_pos (show (0 : Int) + (a1.toNat : Int) ≤ a1 by omega), if_pos (show (0 : Int) + (a1.toNat : Int) = a1 by omega)]
        exact ev_bind lk_awake15 (ev_some _)
      · rw [hr]
        simp only [List.nil_append, hjl]
        simp only [if_pos (show (j : Int) ≤ (l0.length : Int) by omega), if_pos (show (0 : Int) ≤ (j : Int) by omega), Int.toNat_natCast]
        refine ev_bind (lk_ref15_Same (l0.take j) (by omega)) ?_
        simp only [if_true]
        simp only [if_pos (show (0 : Int) + ((framesL (l0.take j)).length : Int) ≤ a1 by omega), if_neg (show ¬ (2 : Int) = 0 by omega), if_neg (show ¬ (0 : Int) + ((framesL (l0.take j)).length : Int) = a1 by omega)]
        exact ev_bind lk_awake15 (ev_some _)
    | succ d ih =>
      intro i hi hd hs
      refine ev_succ ?_
      simp only [annuletlaw15_FrameAll.l0]
      have hrd : rd_L1 l0 (i : Int) = l0[i]'(by omega) := by simp [rd_L1, List.getD, show i < l0.length by omega]
      have hmem : l0[i]'(by omega) ∈ l0 := List.getElem_mem _
      have hts := List.take_succ_eq_append_getElem (l := l0) (i := i) (by omega)
      simp only [if_pos (show (i : Int) < (l0.length : Int) by omega), if_pos (show (0 : Int) ≤ (i : Int) by omega), hrd]
      by_cases hbig : ((l0[i]'(by omega)).length : Int) > 300
      · simp only [if_pos hbig]
        exact ev_bind lk_awake15 (ev_some _)
      · simp only [if_neg hbig]
        have hfl := framesL_len hs (by omega)
        rw [List.length_take] at hfl
        refine ev_bind (lk_frame_Put _ _ (by omega)) ?_
        rw [w64 (by omega) (by omega)]
        have e1 : framesL (l0.take i) ++ frameL (l0[i]'(by omega)) = framesL (l0.take (i + 1)) := by rw [hts, framesL_append]; simp [framesL]
        have e2 : mx (mostL (l0.take i)) ((l0[i]'(by omega)).length : Int) = mostL (l0.take (i + 1)) := by rw [hts, mostL_snoc]
        rw [e1, e2]
        exact ih (i + 1) (by omega) (by omega) (fun x hx => by
          rw [hts] at hx
          rcases List.mem_append.1 hx with h | h
          · exact hs x h
          · simp at h
            subst h
            omega)
  exact loop _ 0 (by omega) rfl (fun x hx => by simp at hx)
end Go.Proofs.Ytboojbjppejkaaa.PFrameAll
namespace Go.Proofs.Ytboojbjppejkaaa.Pure
open Go.Proofs.Ytboojbjppejkaaa.PFrameAll
theorem FrameAll : annuletlaw15_FrameAll.Pure := FrameAll_law
end Go.Proofs.Ytboojbjppejkaaa.Pure
