/- FrameReads: the frame with which any bytes begin, and all frames in them or the first error, are the document's. No condition. -/
import Derived.Test.YtboojbjppejkaaaPFrameReadsx3
import Derived.Test.YtboojbjppejkaaaMath
set_option linter.unusedVariables false
set_option linter.unusedSimpArgs false
namespace Go.Proofs.Ytboojbjppejkaaa.PFrameReads
open Go.RowKit Go.Proofs.YtboojbjppejkaaaW.PrintWords Go.Proofs.YtboojbjppejkaaaW.PrintLast Go.Proofs.YtboojbjppejkaaaW.PrintMore Annulet

/-! ### package uvar: the printed functions and the lists -/
theorem lk_uvar_Put0 (n : Nat) : ∀ b : List Int, b.length + (putL n).length ≤ 140737488355328 → Ev (fun k => uvar_Put.l0 k b (n : Int)) (b ++ putL n) := by
  induction n using putL.induct with
  | case1 n h =>
    intro b hb
    rw [putL_small h] at hb ⊢
    simp only [List.length_singleton] at hb
    refine ev_succ ?_
    simp only [uvar_Put.l0]
    simp only [if_neg (show ¬ (n : Int) ≥ 128 by omega), if_pos (show b.length < 140737488355328 by omega)]
    rw [show (n : Int) % 256 = n by omega]
    exact ev_some _
  | case2 n h ih =>
    intro b hb
    rw [putL_great h] at hb ⊢
    simp only [List.length_cons] at hb
    refine ev_succ ?_
    simp only [uvar_Put.l0]
    simp only [if_pos (show (n : Int) ≥ 128 by omega), if_pos (show b.length < 140737488355328 by omega)]
    rw [or128 (by omega)]
    have := ih (b ++ [(n : Int) % 128 + 128]) (by simp only [List.length_append, List.length_singleton]; omega)
    simp only [List.append_assoc, List.singleton_append] at this
    exact this
theorem lk_uvar_Put (b : List Int) (n : Int) (h0 : 0 ≤ n) (hl : b.length + (putL n.toNat).length ≤ 140737488355328) : Ev (fun k => uvar_Put.f k b n) (b ++ putL n.toNat) := by
  have := lk_uvar_Put0 n.toNat b hl
  rw [show ((n.toNat : Nat) : Int) = n by omega] at this
  exact this
theorem lk_uvar_last0 (b : List Int) (d : Nat) : ∀ i : Nat, i ≤ 10 → i ≤ b.length → min b.length 10 - i = d → (∀ j < i, 128 ≤ rd b (j : Int)) →
    Ev (fun k => uvar_last.l0 k b (mn (b.length : Int) 10) (i : Int)) (if sizeL b = 10 ∨ sizeL b = b.length then -1 else (sizeL b : Int)) := by
  have hm : mn (b.length : Int) 10 = (min b.length 10 : Nat) := by unfold mn; split <;> omega
  rw [hm]
  induction d with
  | zero =>
    intro i h1 h2 hd ha
    refine ev_succ ?_
    simp only [uvar_last.l0]
    simp only [if_neg (show ¬ (i : Int) < ((min b.length 10 : Nat) : Int) by omega)]
    have hs := sizeL_eq b i h1 h2 ha (fun _ _ => by omega)
    rw [hs, if_pos (by omega)]
    exact ev_some _
  | succ d ih =>
    intro i h1 h2 hd ha
    refine ev_succ ?_
    simp only [uvar_last.l0]
    simp only [if_pos (show (i : Int) < ((min b.length 10 : Nat) : Int) by omega), if_pos (show (0 : Int) ≤ (i : Int) by omega), if_pos (show (i : Int) < (b.length : Int) by omega)]
    by_cases hr : rd b (i : Int) < 128
    · simp only [if_pos hr]
      have hs := sizeL_eq b i h1 h2 ha (fun _ _ => hr)
      rw [hs, if_neg (by omega)]
      exact ev_some _
    · simp only [if_neg hr]
      rw [w64 (by omega) (by omega)]
      exact ih (i + 1) (by omega) (by omega) (by omega) (fun j hj => by
        by_cases e : j = i
        · subst e; omega
        · exact ha j (by omega))
theorem lk_uvar_last (b : List Int) : Ev (fun k => uvar_last.f k b) (if sizeL b = 10 ∨ sizeL b = b.length then -1 else (sizeL b : Int)) := by
  unfold uvar_last.f
  exact lk_uvar_last0 b _ 0 (by omega) (by omega) rfl (fun j hj => by omega)
theorem lk_uvar_Get0 (b : List Int) (hb : Bytes b) (x5 : Int) (h5 : 0 ≤ x5) (h5' : x5 < 9223372036854775807) (m : Nat) : ∀ acc : Int, 0 ≤ acc → m ≤ b.length → m ≤ 9223372036854775807 → valL (b.take m) + 128 ^ m * acc < 18446744073709551616 →
    Ev (fun k => uvar_Get.l0 k b x5 acc ((m : Int) - 1)) (valL (b.take m) + 128 ^ m * acc, x5 + 1, 0) := by
  induction m with
  | zero =>
    intro acc h0 hm hmm hv
    refine ev_succ ?_
    simp only [uvar_Get.l0]
    simp only [if_neg (show ¬ ((0 : Nat) : Int) - 1 ≥ 0 by omega)]
    rw [w64 (by omega) (by omega)]
    exact ev_eq (ev_some _) (by simp [valL])
  | succ m ih =>
    intro acc h0 hm hmm hv
    refine ev_succ ?_
    simp only [uvar_Get.l0]
    simp only [if_pos (show (((m + 1 : Nat) : Int) - 1 ≥ 0) by omega), if_pos (show (0 ≤ ((m + 1 : Nat) : Int) - 1) by omega), if_pos (show ((m + 1 : Nat) : Int) - 1 < (b.length : Int) by omega)]
    have e1 : ((m + 1 : Nat) : Int) - 1 = (m : Int) := by omega
    rw [e1]
    have hr := rd_byte hb (m : Int)
    unfold Byte at hr
    rw [and127 hr.1 hr.2]
    have ht := take_succ_rd b m (by omega)
    have hl : (b.take m).length = m := by rw [List.length_take]; omega
    have hv' : valL (b.take (m + 1)) + 128 ^ (m + 1) * acc = valL (b.take m) + 128 ^ m * (acc * 128 + rd b (m : Int) % 128) := by
      rw [ht, valL_append, hl]
      simp only [valL, Int.mul_zero, Int.add_zero]
      rw [Int.pow_succ, Int.mul_add, Int.mul_assoc, Int.mul_comm 128 acc]; omega
    rw [hv'] at hv ⊢
    have hv0 := valL_nonneg (b.take m)
    have hp : (1 : Int) ≤ 128 ^ m := by
      have : (0 : Int) < 128 ^ m := by exact_mod_cast Nat.pow_pos (by decide : 0 < 128)
      omega
    have hge : acc * 128 + rd b (m : Int) % 128 ≤ 128 ^ m * (acc * 128 + rd b (m : Int) % 128) := by
      have := Int.mul_le_mul_of_nonneg_right hp (show 0 ≤ acc * 128 + rd b (m : Int) % 128 by omega)
      omega
    rw [mod128_step h0 (by omega) (by omega) (by omega), w64 (by omega) (by omega)]
    exact ih _ (by omega) (by omega) (by omega) hv
theorem lk_uvar_Get (b : List Int) (hb : Bytes b) : Ev (fun k => uvar_Get.f k b) (getL b) := by
  unfold uvar_Get.f
  have hs := sizeL_le b
  refine ev_bind (lk_uvar_last b) ?_
  by_cases h : sizeL b = 10 ∨ sizeL b = b.length
  · rw [if_pos h]
    simp only [if_pos (show (-1 : Int) < 0 by omega)]
    refine ev_succ ?_
    simp only [uvar_Get.j0]
    by_cases hl : (b.length : Int) ≥ 10
    · rw [decide_eq_true hl]
      simp only [if_true]
      have : sizeL b = 10 := by omega
      unfold getL
      rw [if_pos this]
      exact ev_some _
    · rw [decide_eq_false hl]
      simp only [Bool.false_eq_true, if_false, if_pos (show (-1 : Int) < 0 by omega)]
      unfold getL
      rw [if_neg (by omega), if_pos (by omega)]
      exact ev_some _
  · rw [if_neg h]
    simp only [if_neg (show ¬ (sizeL b : Int) < 0 by omega)]
    refine ev_succ ?_
    simp only [uvar_Get.j0]
    simp only [Bool.false_eq_true, if_false, if_neg (show ¬ (sizeL b : Int) < 0 by omega)]
    have done : ¬ (sizeL b = 9 ∧ rd b (sizeL b) > 1) → ¬ (0 < sizeL b ∧ rd b (sizeL b) = 0) → Ev (fun k => uvar_Get.j2 k b (sizeL b : Int)) (getL b) := fun h9 h0 => by
      refine ev_succ ?_
      simp only [uvar_Get.j2]
      have hv := getL_val_lt b hb h9 (by omega) (by omega)
      have := lk_uvar_Get0 b hb (sizeL b) (by omega) (by omega) (sizeL b + 1) 0 (by omega) (by omega) (by omega) (by omega)
      rw [show (((sizeL b + 1 : Nat) : Int) - 1) = (sizeL b : Int) by omega] at this
      refine ev_eq this ?_
      unfold getL
      rw [if_neg (by omega), if_neg (by omega), if_neg (fun hc => hc.elim h0 h9), Int.mul_zero, Int.add_zero]
    have j1 : ¬ (0 < sizeL b ∧ rd b (sizeL b) = 0) → Ev (fun k => uvar_Get.j1 k b (sizeL b : Int) false) (getL b) := fun h0 => by
      refine ev_succ ?_
      simp only [uvar_Get.j1]
      simp only [Bool.false_eq_true, if_false]
      by_cases h9 : sizeL b = 9
      · simp only [if_pos (show (sizeL b : Int) = 9 by omega), if_pos (show (0 : Int) ≤ (sizeL b : Int) by omega), if_pos (show (sizeL b : Int) < (b.length : Int) by omega)]
        by_cases h1 : rd b (sizeL b : Int) > 1
        · simp only [if_pos h1]
          unfold getL
          rw [if_neg (by omega), if_neg (by omega), if_pos (.inr ⟨h9, h1⟩)]
          exact ev_some _
        · simp only [if_neg h1]
          exact done (fun h => h1 h.2) h0
      · simp only [if_neg (show ¬ (sizeL b : Int) = 9 by omega)]
        exact done (fun h => h9 h.1) h0
    by_cases hp : sizeL b = 0
    · simp only [if_neg (show ¬ (sizeL b : Int) > 0 by omega)]
      exact j1 (fun h => by omega)
    · simp only [if_pos (show (sizeL b : Int) > 0 by omega), if_pos (show (0 : Int) ≤ (sizeL b : Int) by omega), if_pos (show (sizeL b : Int) < (b.length : Int) by omega)]
      by_cases h0 : rd b (sizeL b : Int) = 0
      · simp only [show (rd b (sizeL b : Int) == 0) = true from by simp [h0]]
        refine ev_succ ?_
        simp only [uvar_Get.j1]
        simp only [if_true]
        unfold getL
        rw [if_neg (by omega), if_neg (by omega), if_pos (.inl ⟨by omega, h0⟩)]
        exact ev_some _
      · simp only [show (rd b (sizeL b : Int) == 0) = false from by simp [h0]]
        exact j1 (fun h => h0 h.2)

/-! ### package frame: the printed functions and the lists -/
theorem lk_Clone_byte (b : List Int) (h : b.length < 140737488355328) : slices_Clone_byte_byte.f b = some b := by
  unfold slices_Clone_byte_byte.f
  rw [if_pos h]
theorem lk_frame_Put (b body : List Int) (h : b.length + 10 + body.length < 140737488355328) : Ev (fun k => frame_Put.f k b body) (b ++ frameL body) := by
  have h10 := putL_len10 (n := body.length) (by omega)
  unfold frame_Put.f
  rw [wu64_id (n := (body.length : Int)) (by omega) (by omega)]
  have := lk_uvar_Put b (body.length : Int) (by omega) (by rw [Int.toNat_natCast]; omega)
  rw [Int.toNat_natCast] at this
  refine ev_bind this ?_
  simp only [if_pos (show (b ++ putL body.length).length + body.length < 140737488355328 by rw [List.length_append]; omega)]
  exact ev_eq (ev_some _) (by unfold frameL; rw [List.append_assoc])
theorem lk_frame_Next (b : List Int) (hb : Bytes b) (hl : b.length < 140737488355328) (most : Int) (hm : most < 9223372036854775808) : Ev (fun k => frame_Next.f k b most) (nextL b most) := by
  have hr := getL_range b hb
  unfold frame_Next.f
  refine ev_bind (lk_uvar_Get b hb) ?_
  unfold nextL
  by_cases he : (getL b).2.2 = 0
  · simp only [if_pos he]
    rw [if_neg (by simpa using he)]
    have big : Ev (fun k => frame_Next.j0 k b (getL b).1 (getL b).2.1 true) ([], 0, 5) := by
      refine ev_succ ?_
      simp only [frame_Next.j0, if_true]
      exact ev_some _
    by_cases hm0 : most < 0
    · simp only [if_pos hm0]
      rw [if_pos (.inl hm0)]
      exact big
    · simp only [if_neg hm0]
      rw [wu64_id (n := most) (by omega) (by omega)]
      by_cases hn : most < (getL b).1
      · rw [decide_eq_true (show (getL b).1 > most from hn), if_pos (.inr hn)]
        exact big
      · rw [decide_eq_false (show ¬ (getL b).1 > most from hn), if_neg (by omega)]
        refine ev_succ ?_
        simp only [frame_Next.j0, Bool.false_eq_true, if_false]
        rw [w64 (n := (b.length : Int) - (getL b).2.1) (by omega) (by omega), wu64_id (by omega) (by omega)]
        by_cases hs : (b.length : Int) - (getL b).2.1 < (getL b).1
        · simp only [if_pos (show (getL b).1 > (b.length : Int) - (getL b).2.1 from hs)]
          exact ev_some _
        · simp only [if_neg (show ¬ (getL b).1 > (b.length : Int) - (getL b).2.1 from hs)]
          rw [w64 (n := (getL b).1) (by omega) (by omega), w64 (n := (getL b).2.1 + (getL b).1) (by omega) (by omega)]
          simp only [if_pos (show 0 ≤ (getL b).2.1 by omega), if_pos (show (getL b).2.1 ≤ (getL b).2.1 + (getL b).1 by omega), if_pos (show (getL b).2.1 + (getL b).1 ≤ (b.length : Int) by omega)]
          rw [lk_Clone_byte _ (by rw [List.length_drop, List.length_take]; omega)]
          simp only [Option.bind_some]
          exact ev_some _
  · simp only [if_neg he]
    rw [if_pos (by simpa using he)]
    exact ev_some _
theorem lk_frame_All0 (b : List Int) (hb : Bytes b) (hl : b.length < 1000000000000) (most : Int) (hm : most < 9223372036854775808) (f : Nat) : ∀ (i : Nat) (acc : List (List Int)), i ≤ b.length → b.length - i ≤ f → acc.length + (b.length - i) < 5864062014805 →
    Ev (fun k => frame_All.l0 k b most acc (i : Int)) (allL f (b.drop i) most acc (i : Int)) := by
  induction f with
  | zero =>
    intro i acc hi hf ha
    refine ev_succ ?_
    simp only [frame_All.l0]
    simp only [if_neg (show ¬ (i : Int) < (b.length : Int) by omega)]
    exact ev_some _
  | succ f ih =>
    intro i acc hi hf ha
    refine ev_succ ?_
    simp only [frame_All.l0]
    by_cases h : i < b.length
    · simp only [if_pos (show (i : Int) < (b.length : Int) by omega), if_pos (show (0 : Int) ≤ (i : Int) by omega), if_pos (show (i : Int) ≤ (b.length : Int) by omega), Int.toNat_natCast]
      have hd := bytes_drop hb i
      have hld : (b.drop i).length = b.length - i := List.length_drop
      refine ev_bind (lk_frame_Next _ hd (by omega) most hm) ?_
      have hr := nextL_range _ hd most
      rw [hld] at hr
      have hne : b.drop i ≠ [] := fun hc => by have := congrArg List.length hc; simp at this; omega
      simp only [allL, if_neg hne]
      by_cases h0 : (nextL (b.drop i) most).2.2 = 0
      · have hpos := hr.2.2.1 h0
        simp only [if_pos h0, if_pos (show acc.length < 5864062014805 by omega)]
        rw [w64 (by omega) (by omega)]
        have := ih (i + (nextL (b.drop i) most).2.1.toNat) (acc ++ [(nextL (b.drop i) most).1]) (by omega) (by omega) (by simp only [List.length_append, List.length_singleton]; omega)
        rw [show ((i + (nextL (b.drop i) most).2.1.toNat : Nat) : Int) = (i : Int) + (nextL (b.drop i) most).2.1 by omega] at this
        rw [List.drop_drop]
        exact this
      · simp only [if_neg h0]
        exact ev_some _
    · simp only [if_neg (show ¬ (i : Int) < (b.length : Int) by omega)]
      have he : b.drop i = [] := List.drop_eq_nil_of_le (by omega)
      simp only [allL, he, if_true]
      exact ev_some _
theorem lk_frame_All (b : List Int) (hb : Bytes b) (hl : b.length < 1000000000000) (most : Int) (hm : most < 9223372036854775808) : Ev (fun k => frame_All.f k b most) (allL b.length b most [] 0) := by
  have := lk_frame_All0 b hb hl most hm b.length 0 [] (by omega) (by omega) (by simp; omega)
  exact this
theorem lk_ref01_Get1 (b : List Int) (hb : Bytes b) (h10 : sizeL b < 10) (hlen : sizeL b < b.length) (d : Nat) : ∀ i : Nat, sizeL b + 1 - i = d → i ≤ sizeL b + 1 → ((9 : Nat) < i → ¬ (sizeL b = 9 ∧ rd b (sizeL b) > 1)) →
    Ev (fun k => annuletref01_Get.l1 k b (sizeL b : Int) (valL (b.take i)) (IntKind.u64.wrap (128 ^ i)) (i : Int)) (getL b) := by
  induction d with
  | zero =>
    intro i hd hi h9
    obtain rfl : i = sizeL b + 1 := by omega
    refine ev_succ ?_
    simp only [annuletref01_Get.l1]
    simp only [if_neg (show ¬ ((sizeL b + 1 : Nat) : Int) ≤ (sizeL b : Int) by omega)]
    have h9' : ¬ (sizeL b = 9 ∧ rd b (sizeL b) > 1) := by
      by_cases h : sizeL b = 9
      · exact h9 (by omega)
      · exact fun hc => h hc.1
    by_cases hp : sizeL b = 0
    · simp only [if_neg (show ¬ (sizeL b : Int) > 0 by omega)]
      rw [getL_ok h10 hlen (fun h => by omega) h9', w64 (by omega) (by omega)]
      exact ev_some _
    · simp only [if_pos (show (sizeL b : Int) > 0 by omega), if_pos (show (0 : Int) ≤ (sizeL b : Int) by omega), if_pos (show (sizeL b : Int) < (b.length : Int) by omega)]
      by_cases h0 : rd b (sizeL b : Int) = 0
      · simp only [if_pos h0]
        rw [getL_bad h10 hlen (.inl ⟨by omega, h0⟩)]
        exact ev_some _
      · simp only [if_neg h0]
        rw [getL_ok h10 hlen (fun h => h0 h.2) h9', w64 (by omega) (by omega)]
        exact ev_some _
  | succ d ih =>
    intro i hd hi h9
    have hr := rd_byte hb (i : Int)
    unfold Byte at hr
    refine ev_succ ?_
    simp only [annuletref01_Get.l1]
    simp only [if_pos (show (i : Int) ≤ (sizeL b : Int) by omega), if_pos (show (0 : Int) ≤ (i : Int) by omega), if_pos (show (i : Int) < (b.length : Int) by omega)]
    rw [tmod_nat hr.1, wu64_id (n := rd b (i : Int) % 128) (by omega) (by omega)]
    have hl : (b.take i).length = i := by rw [List.length_take]; omega
    have hstep : ¬ (i = 9 ∧ rd b (i : Int) % 128 > 1) → Ev (fun k => annuletref01_Get.l1 k b (sizeL b : Int) (IntKind.u64.wrap (valL (b.take i) + (IntKind.u64.wrap ((rd b (i : Int) % 128) * (IntKind.u64.wrap (128 ^ i)))))) (IntKind.u64.wrap ((IntKind.u64.wrap (128 ^ i)) * 128)) (wrap64 ((i : Int) + 1))) (getL b) := fun hn => by
      have hv : valL (b.take (i + 1)) = valL (b.take i) + 128 ^ i * (rd b (i : Int) % 128) := by
        rw [take_succ_rd b i (by omega), valL_append, hl]
        simp [valL]
      have hv0 := valL_nonneg (b.take (i + 1))
      have hlt := valL_lt (b.take i)
      rw [hl] at hlt
      have hbound : valL (b.take (i + 1)) < 18446744073709551616 := by
        by_cases h9' : i = 9
        · subst h9'
          rw [hv]
          have : rd b (9 : Nat) % 128 ≤ 1 := by omega
          omega
        · have hlt' := valL_lt (b.take (i + 1))
          rw [List.length_take] at hlt'
          have hle : min (i + 1) b.length ≤ 9 := by omega
          have hp : (128 : Int) ^ (min (i + 1) b.length) ≤ 128 ^ 9 := by
            have := Nat.pow_le_pow_right (n := 128) (by decide) hle
            exact_mod_cast this
          omega
      have e1 : IntKind.u64.wrap (valL (b.take i) + (IntKind.u64.wrap ((rd b (i : Int) % 128) * (IntKind.u64.wrap (128 ^ i))))) = valL (b.take (i + 1)) := by
        have e : IntKind.u64.wrap (valL (b.take i) + (IntKind.u64.wrap ((rd b (i : Int) % 128) * (IntKind.u64.wrap (128 ^ i))))) = IntKind.u64.wrap (valL (b.take (i + 1))) := by
          rw [hv, wu64, wu64, wu64, wu64, Int.mul_comm (128 ^ i)]
          simp [Int.add_emod, Int.mul_emod]
        rw [e, wu64_id hv0 hbound]
      have e2 : IntKind.u64.wrap ((IntKind.u64.wrap (128 ^ i)) * 128) = IntKind.u64.wrap (128 ^ (i + 1)) := by
        rw [wu64, wu64, wu64, Int.pow_succ]
        simp [Int.mul_emod]
      rw [e1, e2, w64 (by omega) (by omega)]
      refine ih (i + 1) (by omega) (by omega) (fun h => ?_)
      by_cases hi9 : i = 9
      · subst hi9
        have hsz : sizeL b = 9 := by omega
        have hst := sizeL_stop b h10 hlen
        rw [hsz] at hst ⊢
        exact fun hc => hn ⟨rfl, by omega⟩
      · exact h9 (by omega)
    by_cases h9' : i = 9
    · simp only [if_pos (show (i : Int) = 9 by omega)]
      by_cases h1 : rd b (i : Int) % 128 > 1
      · simp only [if_pos h1]
        have hsz : sizeL b = 9 := by omega
        unfold getL
        rw [if_neg (by omega), if_neg (by omega), if_pos]
        · exact ev_some _
        · refine .inr ⟨hsz, ?_⟩
          rw [hsz]
          subst h9'
          omega
      · simp only [if_neg h1]
        exact hstep (fun h => h1 h.2)
    · simp only [if_neg (show ¬ (i : Int) = 9 by omega)]
      exact hstep (fun h => h9' h.1)
theorem lk_ref01_Getj (b : List Int) (hb : Bytes b) : Ev (fun k => annuletref01_Get.j1 k b (sizeL b : Int)) (getL b) := by
  have hs := sizeL_le b
  refine ev_succ ?_
  simp only [annuletref01_Get.j1]
  by_cases h10 : sizeL b = 10
  · simp only [if_pos (show (sizeL b : Int) = 10 by omega)]
    unfold getL
    rw [if_pos h10]
    exact ev_some _
  · simp only [if_neg (show ¬ (sizeL b : Int) = 10 by omega)]
    by_cases hl : sizeL b = b.length
    · simp only [if_pos (show (sizeL b : Int) = (b.length : Int) by omega)]
      unfold getL
      rw [if_neg h10, if_pos hl]
      exact ev_some _
    · simp only [if_neg (show ¬ (sizeL b : Int) = (b.length : Int) by omega)]
      have := lk_ref01_Get1 b hb (by omega) (by omega) _ 0 rfl (by omega) (fun h => by omega)
      exact this
theorem lk_ref01_Get0 (b : List Int) (hb : Bytes b) (d : Nat) : ∀ i : Nat, i ≤ 10 → i ≤ b.length → min b.length 10 - i = d → (∀ j < i, 128 ≤ rd b (j : Int)) →
    Ev (fun k => annuletref01_Get.l0 k b (i : Int)) (getL b) := by
  induction d with
  | zero =>
    intro i h1 h2 hd ha
    have hs := sizeL_eq b i h1 h2 ha (fun _ _ => by omega)
    refine ev_succ ?_
    simp only [annuletref01_Get.l0]
    by_cases hi : i < b.length
    · simp only [if_pos (show (i : Int) < (b.length : Int) by omega), if_neg (show ¬ (i : Int) < 10 by omega)]
      rw [← hs]
      exact lk_ref01_Getj b hb
    · simp only [if_neg (show ¬ (i : Int) < (b.length : Int) by omega)]
      rw [← hs]
      exact lk_ref01_Getj b hb
  | succ d ih =>
    intro i h1 h2 hd ha
    refine ev_succ ?_
    simp only [annuletref01_Get.l0]
    simp only [if_pos (show (i : Int) < (b.length : Int) by omega), if_pos (show (i : Int) < 10 by omega), if_pos (show (0 : Int) ≤ (i : Int) by omega)]
    by_cases hr : rd b (i : Int) ≥ 128
    · simp only [if_pos hr]
      rw [w64 (by omega) (by omega)]
      exact ih (i + 1) (by omega) (by omega) (by omega) (fun j hj => by
        by_cases e : j = i
        · subst e; omega
        · exact ha j (by omega))
    · simp only [if_neg hr]
      have hs := sizeL_eq b i h1 h2 ha (fun _ _ => by omega)
      rw [← hs]
      exact lk_ref01_Getj b hb
theorem lk_ref01_Get (b : List Int) (hb : Bytes b) : Ev (fun k => annuletref01_Get.f k b) (getL b) :=
  lk_ref01_Get0 b hb _ 0 (by omega) (by omega) rfl (fun j hj => by omega)
theorem lk_ref15_Next (b : List Int) (hb : Bytes b) (hl : b.length < 140737488355328) (most : Int) (hm : most < 9223372036854775808) : Ev (fun k => annuletref15_Next.f k b most) (nextL b most) := by
  have hr := getL_range b hb
  unfold annuletref15_Next.f
  refine ev_bind (lk_ref01_Get b hb) ?_
  unfold nextL
  by_cases he : (getL b).2.2 = 0
  · simp only [if_pos he]
    rw [if_neg (by simpa using he)]
    have big : Ev (fun k => annuletref15_Next.j0 k b (getL b).1 (getL b).2.1 true) ([], 0, 5) := by
      refine ev_succ ?_
      simp only [annuletref15_Next.j0, if_true]
      exact ev_some _
    by_cases hm0 : most < 0
    · simp only [if_pos hm0]
      rw [if_pos (.inl hm0)]
      exact big
    · simp only [if_neg hm0]
      rw [wu64_id (n := most) (by omega) (by omega)]
      by_cases hn : most < (getL b).1
      · rw [decide_eq_true (show (getL b).1 > most from hn), if_pos (.inr hn)]
        exact big
      · rw [decide_eq_false (show ¬ (getL b).1 > most from hn), if_neg (by omega)]
        refine ev_succ ?_
        simp only [annuletref15_Next.j0, Bool.false_eq_true, if_false]
        rw [w64 (n := (b.length : Int) - (getL b).2.1) (by omega) (by omega), wu64_id (by omega) (by omega)]
        by_cases hs : (b.length : Int) - (getL b).2.1 < (getL b).1
        · simp only [if_pos hs]
          exact ev_some _
        · simp only [if_neg hs, Option.bind_some]
          rw [w64 (n := (getL b).1) (by omega) (by omega), w64 (n := (getL b).2.1 + (getL b).1) (by omega) (by omega)]
          simp only [if_pos (show 0 ≤ (getL b).2.1 by omega), if_pos (show (getL b).2.1 ≤ (getL b).2.1 + (getL b).1 by omega), if_pos (show (getL b).2.1 + (getL b).1 ≤ (b.length : Int) by omega)]
          simp only [List.length_nil, List.nil_append]
          simp only [if_pos (show 0 + ((b.take ((getL b).2.1 + (getL b).1).toNat).drop (getL b).2.1.toNat).length < 140737488355328 by rw [List.length_drop, List.length_take]; omega)]
          exact ev_some _
  · simp only [if_neg he]
    rw [if_pos (by simpa using he)]
    exact ev_some _
theorem lk_ref15_All0 (b : List Int) (hb : Bytes b) (hl : b.length < 1000000000000) (most : Int) (hm : most < 9223372036854775808) (f : Nat) : ∀ (i : Nat) (acc : List (List Int)), i ≤ b.length → b.length - i ≤ f → acc.length + (b.length - i) < 5864062014805 →
    Ev (fun k => annuletref15_All.l0 k b most acc (i : Int)) (allL f (b.drop i) most acc (i : Int)) := by
  induction f with
  | zero =>
    intro i acc hi hf ha
    refine ev_succ ?_
    simp only [annuletref15_All.l0]
    simp only [if_neg (show ¬ (i : Int) < (b.length : Int) by omega)]
    exact ev_some _
  | succ f ih =>
    intro i acc hi hf ha
    refine ev_succ ?_
    simp only [annuletref15_All.l0]
    by_cases h : i < b.length
    · simp only [if_pos (show (i : Int) < (b.length : Int) by omega), if_pos (show (0 : Int) ≤ (i : Int) by omega), if_pos (show (i : Int) ≤ (b.length : Int) by omega), Int.toNat_natCast]
      have hd := bytes_drop hb i
      have hld : (b.drop i).length = b.length - i := List.length_drop
      refine ev_bind (lk_ref15_Next _ hd (by omega) most hm) ?_
      have hr := nextL_range _ hd most
      rw [hld] at hr
      have hne : b.drop i ≠ [] := fun hc => by have := congrArg List.length hc; simp at this; omega
      simp only [allL, if_neg hne]
      by_cases h0 : (nextL (b.drop i) most).2.2 = 0
      · have hpos := hr.2.2.1 h0
        simp only [if_pos h0, if_pos (show acc.length < 5864062014805 by omega)]
        rw [w64 (by omega) (by omega)]
        have := ih (i + (nextL (b.drop i) most).2.1.toNat) (acc ++ [(nextL (b.drop i) most).1]) (by omega) (by omega) (by simp only [List.length_append, List.length_singleton]; omega)
        rw [show ((i + (nextL (b.drop i) most).2.1.toNat : Nat) : Int) = (i : Int) + (nextL (b.drop i) most).2.1 by omega] at this
        rw [List.drop_drop]
        exact this
      · simp only [if_neg h0]
        exact ev_some _
    · simp only [if_neg (show ¬ (i : Int) < (b.length : Int) by omega)]
      have he : b.drop i = [] := List.drop_eq_nil_of_le (by omega)
      simp only [allL, he, if_true]
      exact ev_some _
theorem lk_ref15_All (b : List Int) (hb : Bytes b) (hl : b.length < 1000000000000) (most : Int) (hm : most < 9223372036854775808) : Ev (fun k => annuletref15_All.f k b most) (allL b.length b most [] 0) := by
  have := lk_ref15_All0 b hb hl most hm b.length 0 [] (by omega) (by omega) (by simp; omega)
  exact this
theorem lk_ref15_Same0 (l : List (List Int)) (hl : l.length < 9223372036854775807) (d : Nat) : ∀ i : Nat, i ≤ l.length → l.length - i = d → Ev (fun k => annuletref15_Same.l0 k l l (i : Int)) true := by
  induction d with
  | zero =>
    intro i hi hd
    refine ev_succ ?_
    simp only [annuletref15_Same.l0]
    simp only [if_neg (show ¬ (i : Int) < (l.length : Int) by omega)]
    exact ev_some _
  | succ d ih =>
    intro i hi hd
    refine ev_succ ?_
    simp only [annuletref15_Same.l0]
    simp only [if_pos (show (i : Int) < (l.length : Int) by omega), if_pos (show (0 : Int) ≤ (i : Int) by omega), if_true]
    rw [w64 (by omega) (by omega)]
    exact ih (i + 1) (by omega) (by omega)
theorem lk_ref15_Same (l : List (List Int)) (hl : l.length < 9223372036854775807) : Ev (fun k => annuletref15_Same.f k l l) true := by
  unfold annuletref15_Same.f
  simp only [if_true]
  exact lk_ref15_Same0 l hl _ 0 (by omega) rfl
theorem lk_awake15 : Ev (fun k => annuletlaw15_awake.f k) true := Ev.of annuletlaw15_awake.mono (k := 20) (by decide +kernel)
theorem FrameReads_law : annuletlaw15_FrameReads.Pure := by
  intro l0 a1 _ _ hw hw1
  have hb := bytes_of_wf hw
  have ha := wf_i64 hw1
  refine Ev.rounds (g := fun k => annuletlaw15_FrameReads.f k l0 a1) ?_
  unfold annuletlaw15_FrameReads.f
  by_cases h0 : (l0.length : Int) > 600
  · simp only [if_pos h0]
    exact ev_bind lk_awake15 (ev_some _)
  simp only [if_neg h0]
  refine ev_bind (lk_frame_Next l0 hb (by omega) a1 ha.2) ?_
  refine ev_bind (lk_ref15_Next l0 hb (by omega) a1 ha.2) ?_
  refine ev_bind (lk_frame_All l0 hb (by omega) a1 ha.2) ?_
  refine ev_bind (lk_ref15_All l0 hb (by omega) a1 ha.2) ?_
  simp only [if_true]
  have := allL_len l0.length l0 a1 [] 0
  refine ev_bind (lk_ref15_Same _ (by simp at this; omega)) ?_
  simp only [if_true]
  exact ev_bind lk_awake15 (ev_some _)
end Go.Proofs.Ytboojbjppejkaaa.PFrameReads
namespace Go.Proofs.Ytboojbjppejkaaa.Pure
open Go.Proofs.Ytboojbjppejkaaa.PFrameReads
theorem FrameReads : annuletlaw15_FrameReads.Pure := FrameReads_law
end Go.Proofs.Ytboojbjppejkaaa.Pure
