/- BufStuck: behind an error a reader tells nothing any more, and that error still. No condition. -/
import Derived.Test.YtopjffhmfgnedaaPBufStuckx6
import Derived.Test.YtopjffhmfgnedaaMath
set_option linter.unusedVariables false
set_option linter.unusedSimpArgs false
namespace Go.Proofs.Ytopjffhmfgnedaa.PBufStuck
open Go.RowKit Go.Proofs.YtopjffhmfgnedaaW.PrintWords Go.Proofs.YtopjffhmfgnedaaW.PrintLast Go.Proofs.YtopjffhmfgnedaaW.PrintMore Annulet

/-! ### package uvar: the printed functions and the lists -/
theorem lk_uvar_Put0 (n : Nat) : ∀ b : List Int, b.length + (putL n).length ≤ 140737488355328 → Ev (fun k => uvar_Put.l0 k b (n : Int)) (b ++ putL n) := by
  induction n using putL.induct with
  | case1 n h =>
    intro b hb
    rw [putL_small h] at hb ⊢
    simp only [List.length_singleton] at hb
    refine ev_succ ?_
    simp only [uvar_Put.l0]
    simp only [if_neg (show ¬ (n : Int) ≥ 128 by omega), if_pos (show b.length < 140737488355328 by omega)]
    rw [show (n : Int) % 256 = n by omega]
    exact ev_some _
  | case2 n h ih =>
    intro b hb
    rw [putL_great h] at hb ⊢
    simp only [List.length_cons] at hb
    refine ev_succ ?_
    simp only [uvar_Put.l0]
    simp only [if_pos (show (n : Int) ≥ 128 by omega), if_pos (show b.length < 140737488355328 by omega)]
    rw [or128 (by omega)]
    have := ih (b ++ [(n : Int) % 128 + 128]) (by simp only [List.length_append, List.length_singleton]; omega)
    simp only [List.append_assoc, List.singleton_append] at this
    exact this
theorem lk_uvar_Put (b : List Int) (n : Int) (h0 : 0 ≤ n) (hl : b.length + (putL n.toNat).length ≤ 140737488355328) : Ev (fun k => uvar_Put.f k b n) (b ++ putL n.toNat) := by
  have := lk_uvar_Put0 n.toNat b hl
  rw [show ((n.toNat : Nat) : Int) = n by omega] at this
  exact this
theorem lk_uvar_last0 (b : List Int) (d : Nat) : ∀ i : Nat, i ≤ 10 → i ≤ b.length → min b.length 10 - i = d → (∀ j < i, 128 ≤ rd b (j : Int)) →
    Ev (fun k => uvar_last.l0 k b (mn (b.length : Int) 10) (i : Int)) (if sizeL b = 10 ∨ sizeL b = b.length then -1 else (sizeL b : Int)) := by
  have hm : mn (b.length : Int) 10 = (min b.length 10 : Nat) := by unfold mn; split <;> omega
  rw [hm]
  induction d with
  | zero =>
    intro i h1 h2 hd ha
    refine ev_succ ?_
    simp only [uvar_last.l0]
    simp only [if_neg (show ¬ (i : Int) < ((min b.length 10 : Nat) : Int) by omega)]
    have hs := sizeL_eq b i h1 h2 ha (fun _ _ => by omega)
    rw [hs, if_pos (by omega)]
    exact ev_some _
  | succ d ih =>
    intro i h1 h2 hd ha
    refine ev_succ ?_
    simp only [uvar_last.l0]
    simp only [if_pos (show (i : Int) < ((min b.length 10 : Nat) : Int) by omega), if_pos (show (0 : Int) ≤ (i : Int) by omega), if_pos (show (i : Int) < (b.length : Int) by omega)]
    by_cases hr : rd b (i : Int) < 128
    · simp only [if_pos hr]
      have hs := sizeL_eq b i h1 h2 ha (fun _ _ => hr)
      rw [hs, if_neg (by omega)]
      exact ev_some _
    · simp only [if_neg hr]
      rw [w64 (by omega) (by omega)]
      exact ih (i + 1) (by omega) (by omega) (by omega) (fun j hj => by
        by_cases e : j = i
        · subst e; omega
        · exact ha j (by omega))
theorem lk_uvar_last (b : List Int) : Ev (fun k => uvar_last.f k b) (if sizeL b = 10 ∨ sizeL b = b.length then -1 else (sizeL b : Int)) := by
  unfold uvar_last.f
  exact lk_uvar_last0 b _ 0 (by omega) (by omega) rfl (fun j hj => by omega)
theorem lk_uvar_Get0 (b : List Int) (hb : Bytes b) (x5 : Int) (h5 : 0 ≤ x5) (h5' : x5 < 9223372036854775807) (m : Nat) : ∀ acc : Int, 0 ≤ acc → m ≤ b.length → m ≤ 9223372036854775807 → valL (b.take m) + 128 ^ m * acc < 18446744073709551616 →
    Ev (fun k => uvar_Get.l0 k b x5 acc ((m : Int) - 1)) (valL (b.take m) + 128 ^ m * acc, x5 + 1, 0) := by
  induction m with
  | zero =>
    intro acc h0 hm hmm hv
    refine ev_succ ?_
    simp only [uvar_Get.l0]
    simp only [if_neg (show ¬ ((0 : Nat) : Int) - 1 ≥ 0 by omega)]
    rw [w64 (by omega) (by omega)]
    exact ev_eq (ev_some _) (by simp [valL])
  | succ m ih =>
    intro acc h0 hm hmm hv
    refine ev_succ ?_
    simp only [uvar_Get.l0]
    simp only [if_pos (show (((m + 1 : Nat) : Int) - 1 ≥ 0) by omega), if_pos (show (0 ≤ ((m + 1 : Nat) : Int) - 1) by omega), if_pos (show ((m + 1 : Nat) : Int) - 1 < (b.length : Int) by omega)]
    have e1 : ((m + 1 : Nat) : Int) - 1 = (m : Int) := by omega
    rw [e1]
    have hr := rd_byte hb (m : Int)
    unfold Byte at hr
    rw [and127 hr.1 hr.2]
    have ht := take_succ_rd b m (by omega)
    have hl : (b.take m).length = m := by rw [List.length_take]; omega
    have hv' : valL (b.take (m + 1)) + 128 ^ (m + 1) * acc = valL (b.take m) + 128 ^ m * (acc * 128 + rd b (m : Int) % 128) := by
      rw [ht, valL_append, hl]
      simp only [valL, Int.mul_zero, Int.add_zero]
      rw [Int.pow_succ, Int.mul_add, Int.mul_assoc, Int.mul_comm 128 acc]; omega
    rw [hv'] at hv ⊢
    have hv0 := valL_nonneg (b.take m)
    have hp : (1 : Int) ≤ 128 ^ m := by
      have : (0 : Int) < 128 ^ m := by exact_mod_cast Nat.pow_pos (by decide : 0 < 128)
      omega
    have hge : acc * 128 + rd b (m : Int) % 128 ≤ 128 ^ m * (acc * 128 + rd b (m : Int) % 128) := by
      have := Int.mul_le_mul_of_nonneg_right hp (show 0 ≤ acc * 128 + rd b (m : Int) % 128 by omega)
      omega
    rw [mod128_step h0 (by omega) (by omega) (by omega), w64 (by omega) (by omega)]
    exact ih _ (by omega) (by omega) (by omega) hv
theorem lk_uvar_Get (b : List Int) (hb : Bytes b) : Ev (fun k => uvar_Get.f k b) (getL b) := by
  unfold uvar_Get.f
  have hs := sizeL_le b
  refine ev_bind (lk_uvar_last b) ?_
  by_cases h : sizeL b = 10 ∨ sizeL b = b.length
  · rw [if_pos h]
    simp only [if_pos (show (-1 : Int) < 0 by omega)]
    refine ev_succ ?_
    simp only [uvar_Get.j0]
    by_cases hl : (b.length : Int) ≥ 10
    · rw [decide_eq_true hl]
      simp only [if_true]
      have : sizeL b = 10 := by omega
      unfold getL
      rw [if_pos this]
      exact ev_some _
    · rw [decide_eq_false hl]
      simp only [Bool.false_eq_true, if_false, if_pos (show (-1 : Int) < 0 by omega)]
      unfold getL
      rw [if_neg (by omega), if_pos (by omega)]
      exact ev_some _
  · rw [if_neg h]
    simp only [if_neg (show ¬ (sizeL b : Int) < 0 by omega)]
    refine ev_succ ?_
    simp only [uvar_Get.j0]
    simp only [Bool.false_eq_true, if_false, if_neg (show ¬ (sizeL b : Int) < 0 by omega)]
    have done : ¬ (sizeL b = 9 ∧ rd b (sizeL b) > 1) → ¬ (0 < sizeL b ∧ rd b (sizeL b) = 0) → Ev (fun k => uvar_Get.j2 k b (sizeL b : Int)) (getL b) := fun h9 h0 => by
      refine ev_succ ?_
      simp only [uvar_Get.j2]
      have hv := getL_val_lt b hb h9 (by omega) (by omega)
      have := lk_uvar_Get0 b hb (sizeL b) (by omega) (by omega) (sizeL b + 1) 0 (by omega) (by omega) (by omega) (by omega)
      rw [show (((sizeL b + 1 : Nat) : Int) - 1) = (sizeL b : Int) by omega] at this
      refine ev_eq this ?_
      unfold getL
      rw [if_neg (by omega), if_neg (by omega), if_neg (fun hc => hc.elim h0 h9), Int.mul_zero, Int.add_zero]
    have j1 : ¬ (0 < sizeL b ∧ rd b (sizeL b) = 0) → Ev (fun k => uvar_Get.j1 k b (sizeL b : Int) false) (getL b) := fun h0 => by
      refine ev_succ ?_
      simp only [uvar_Get.j1]
      simp only [Bool.false_eq_true, if_false]
      by_cases h9 : sizeL b = 9
      · simp only [if_pos (show (sizeL b : Int) = 9 by omega), if_pos (show (0 : Int) ≤ (sizeL b : Int) by omega), if_pos (show (sizeL b : Int) < (b.length : Int) by omega)]
        by_cases h1 : rd b (sizeL b : Int) > 1
        · simp only [if_pos h1]
          unfold getL
          rw [if_neg (by omega), if_neg (by omega), if_pos (.inr ⟨h9, h1⟩)]
          exact ev_some _
        · simp only [if_neg h1]
          exact done (fun h => h1 h.2) h0
      · simp only [if_neg (show ¬ (sizeL b : Int) = 9 by omega)]
        exact done (fun h => h9 h.1) h0
    by_cases hp : sizeL b = 0
    · simp only [if_neg (show ¬ (sizeL b : Int) > 0 by omega)]
      exact j1 (fun h => by omega)
    · simp only [if_pos (show (sizeL b : Int) > 0 by omega), if_pos (show (0 : Int) ≤ (sizeL b : Int) by omega), if_pos (show (sizeL b : Int) < (b.length : Int) by omega)]
      by_cases h0 : rd b (sizeL b : Int) = 0
      · simp only [show (rd b (sizeL b : Int) == 0) = true from by simp [h0]]
        refine ev_succ ?_
        simp only [uvar_Get.j1]
        simp only [if_true]
        unfold getL
        rw [if_neg (by omega), if_neg (by omega), if_pos (.inl ⟨by omega, h0⟩)]
        exact ev_some _
      · simp only [show (rd b (sizeL b : Int) == 0) = false from by simp [h0]]
        exact j1 (fun h => h0 h.2)
theorem lk_ref01_Get1 (b : List Int) (hb : Bytes b) (h10 : sizeL b < 10) (hlen : sizeL b < b.length) (d : Nat) : ∀ i : Nat, sizeL b + 1 - i = d → i ≤ sizeL b + 1 → ((9 : Nat) < i → ¬ (sizeL b = 9 ∧ rd b (sizeL b) > 1)) →
    Ev (fun k => annuletref01_Get.l1 k b (sizeL b : Int) (valL (b.take i)) (IntKind.u64.wrap (128 ^ i)) (i : Int)) (getL b) := by
  induction d with
  | zero =>
    intro i hd hi h9
    obtain rfl : i = sizeL b + 1 := by omega
    refine ev_succ ?_
    simp only [annuletref01_Get.l1]
    simp only [if_neg (show ¬ ((sizeL b + 1 : Nat) : Int) ≤ (sizeL b : Int) by omega)]
    have h9' : ¬ (sizeL b = 9 ∧ rd b (sizeL b) > 1) := by
      by_cases h : sizeL b = 9
      · exact h9 (by omega)
      · exact fun hc => h hc.1
    by_cases hp : sizeL b = 0
    · simp only [if_neg (show ¬ (sizeL b : Int) > 0 by omega)]
      rw [getL_ok h10 hlen (fun h => by omega) h9', w64 (by omega) (by omega)]
      exact ev_some _
    · simp only [if_pos (show (sizeL b : Int) > 0 by omega), if_pos (show (0 : Int) ≤ (sizeL b : Int) by omega), if_pos (show (sizeL b : Int) < (b.length : Int) by omega)]
      by_cases h0 : rd b (sizeL b : Int) = 0
      · simp only [if_pos h0]
        rw [getL_bad h10 hlen (.inl ⟨by omega, h0⟩)]
        exact ev_some _
      · simp only [if_neg h0]
        rw [getL_ok h10 hlen (fun h => h0 h.2) h9', w64 (by omega) (by omega)]
        exact ev_some _
  | succ d ih =>
    intro i hd hi h9
    have hr := rd_byte hb (i : Int)
    unfold Byte at hr
    refine ev_succ ?_
    simp only [annuletref01_Get.l1]
    simp only [if_pos (show (i : Int) ≤ (sizeL b : Int) by omega), if_pos (show (0 : Int) ≤ (i : Int) by omega), if_pos (show (i : Int) < (b.length : Int) by omega)]
    rw [tmod_nat hr.1, wu64_id (n := rd b (i : Int) % 128) (by omega) (by omega)]
    have hl : (b.take i).length = i := by rw [List.length_take]; omega
    have hstep : ¬ (i = 9 ∧ rd b (i : Int) % 128 > 1) → Ev (fun k => annuletref01_Get.l1 k b (sizeL b : Int) (IntKind.u64.wrap (valL (b.take i) + (IntKind.u64.wrap ((rd b (i : Int) % 128) * (IntKind.u64.wrap (128 ^ i)))))) (IntKind.u64.wrap ((IntKind.u64.wrap (128 ^ i)) * 128)) (wrap64 ((i : Int) + 1))) (getL b) := fun hn => by
      have hv : valL (b.take (i + 1)) = valL (b.take i) + 128 ^ i * (rd b (i : Int) % 128) := by
        rw [take_succ_rd b i (by omega), valL_append, hl]
        simp [valL]
      have hv0 := valL_nonneg (b.take (i + 1))
      have hlt := valL_lt (b.take i)
      rw [hl] at hlt
      have hbound : valL (b.take (i + 1)) < 18446744073709551616 := by
        by_cases h9' : i = 9
        · subst h9'
          rw [hv]
          have : rd b (9 : Nat) % 128 ≤ 1 := by omega
          omega
        · have hlt' := valL_lt (b.take (i + 1))
          rw [List.length_take] at hlt'
          have hle : min (i + 1) b.length ≤ 9 := by omega
          have hp : (128 : Int) ^ (min (i + 1) b.length) ≤ 128 ^ 9 := by
            have := Nat.pow_le_pow_right (n := 128) (by decide) hle
            exact_mod_cast this
          omega
      have e1 : IntKind.u64.wrap (valL (b.take i) + (IntKind.u64.wrap ((rd b (i : Int) % 128) * (IntKind.u64.wrap (128 ^ i))))) = valL (b.take (i + 1)) := by
        have e : IntKind.u64.wrap (valL (b.take i) + (IntKind.u64.wrap ((rd b (i : Int) % 128) * (IntKind.u64.wrap (128 ^ i))))) = IntKind.u64.wrap (valL (b.take (i + 1))) := by
          rw [hv, wu64, wu64, wu64, wu64, Int.mul_comm (128 ^ i)]
          simp [Int.add_emod, Int.mul_emod]
        rw [e, wu64_id hv0 hbound]
      have e2 : IntKind.u64.wrap ((IntKind.u64.wrap (128 ^ i)) * 128) = IntKind.u64.wrap (128 ^ (i + 1)) := by
        rw [wu64, wu64, wu64, Int.pow_succ]
        simp [Int.mul_emod]
      rw [e1, e2, w64 (by omega) (by omega)]
      refine ih (i + 1) (by omega) (by omega) (fun h => ?_)
      by_cases hi9 : i = 9
      · subst hi9
        have hsz : sizeL b = 9 := by omega
        have hst := sizeL_stop b h10 hlen
        rw [hsz] at hst ⊢
        exact fun hc => hn ⟨rfl, by omega⟩
      · exact h9 (by omega)
    by_cases h9' : i = 9
    · simp only [if_pos (show (i : Int) = 9 by omega)]
      by_cases h1 : rd b (i : Int) % 128 > 1
      · simp only [if_pos h1]
        have hsz : sizeL b = 9 := by omega
        unfold getL
        rw [if_neg (by omega), if_neg (by omega), if_pos]
        · exact ev_some _
        · refine .inr ⟨hsz, ?_⟩
          rw [hsz]
          subst h9'
          omega
      · simp only [if_neg h1]
        exact hstep (fun h => h1 h.2)
    · simp only [if_neg (show ¬ (i : Int) = 9 by omega)]
      exact hstep (fun h => h9' h.1)
theorem lk_ref01_Getj (b : List Int) (hb : Bytes b) : Ev (fun k => annuletref01_Get.j1 k b (sizeL b : Int)) (getL b) := by
  have hs := sizeL_le b
  refine ev_succ ?_
  simp only [annuletref01_Get.j1]
  by_cases h10 : sizeL b = 10
  · simp only [if_pos (show (sizeL b : Int) = 10 by omega)]
    unfold getL
    rw [if_pos h10]
    exact ev_some _
  · simp only [if_neg (show ¬ (sizeL b : Int) = 10 by omega)]
    by_cases hl : sizeL b = b.length
    · simp only [if_pos (show (sizeL b : Int) = (b.length : Int) by omega)]
      unfold getL
      rw [if_neg h10, if_pos hl]
      exact ev_some _
    · simp only [if_neg (show ¬ (sizeL b : Int) = (b.length : Int) by omega)]
      have := lk_ref01_Get1 b hb (by omega) (by omega) _ 0 rfl (by omega) (fun h => by omega)
      exact this
theorem lk_ref01_Get0 (b : List Int) (hb : Bytes b) (d : Nat) : ∀ i : Nat, i ≤ 10 → i ≤ b.length → min b.length 10 - i = d → (∀ j < i, 128 ≤ rd b (j : Int)) →
    Ev (fun k => annuletref01_Get.l0 k b (i : Int)) (getL b) := by
  induction d with
  | zero =>
    intro i h1 h2 hd ha
    have hs := sizeL_eq b i h1 h2 ha (fun _ _ => by omega)
    refine ev_succ ?_
    simp only [annuletref01_Get.l0]
    by_cases hi : i < b.length
    · simp only [if_pos (show (i : Int) < (b.length : Int) by omega), if_neg (show ¬ (i : Int) < 10 by omega)]
      rw [← hs]
      exact lk_ref01_Getj b hb
    · simp only [if_neg (show ¬ (i : Int) < (b.length : Int) by omega)]
      rw [← hs]
      exact lk_ref01_Getj b hb
  | succ d ih =>
    intro i h1 h2 hd ha
    refine ev_succ ?_
    simp only [annuletref01_Get.l0]
    simp only [if_pos (show (i : Int) < (b.length : Int) by omega), if_pos (show (i : Int) < 10 by omega), if_pos (show (0 : Int) ≤ (i : Int) by omega)]
    by_cases hr : rd b (i : Int) ≥ 128
    · simp only [if_pos hr]
      rw [w64 (by omega) (by omega)]
      exact ih (i + 1) (by omega) (by omega) (by omega) (fun j hj => by
        by_cases e : j = i
        · subst e; omega
        · exact ha j (by omega))
    · simp only [if_neg hr]
      have hs := sizeL_eq b i h1 h2 ha (fun _ _ => by omega)
      rw [← hs]
      exact lk_ref01_Getj b hb
theorem lk_ref01_Get (b : List Int) (hb : Bytes b) : Ev (fun k => annuletref01_Get.f k b) (getL b) :=
  lk_ref01_Get0 b hb _ 0 (by omega) (by omega) rfl (fun j hj => by omega)
theorem lk_buf_Text (l : List Int) (s : ByteArray) (hs : s.size ≤ 1000000000) (hl : l.length ≤ 1000000000) : Ev (fun k => buf_Text.f k l s) (l ++ putL s.size ++ bytesOf s) := by
  have h10 := putL_len10 (n := s.size) (by omega)
  unfold buf_Text.f
  rw [wu64_id (n := (s.size : Int)) (by omega) (by omega)]
  refine ev_bind (lk_uvar_Put l (s.size : Int) (by omega) (by rw [Int.toNat_natCast]; omega)) ?_
  rw [Int.toNat_natCast]
  simp only [if_pos (show (l ++ putL s.size).length + s.size < 140737488355328 by rw [List.length_append]; omega)]
  exact ev_some _
theorem lk_rd_Text (m : Bool) (l : List Int) (hb : Bytes l) (most : Int) (h0 : -9223372036854775808 ≤ most) (h1 : most ≤ 9223372036854775807) (met : Int) :
    Ev (fun k => buf_Reader_Text.f k m l met most) ((textR most l met (getL l).1 (getL l).2.1 (getL l).2.2).1, m, (textR most l met (getL l).1 (getL l).2.1 (getL l).2.2).2.1, (textR most l met (getL l).1 (getL l).2.1 (getL l).2.2).2.2) := by
  have hr := getL_range l hb
  unfold buf_Reader_Text.f
  refine ev_bind (lk_uvar_Get l hb) ?_
  simp only [if_pos (show 0 ≤ (getL l).2.1 ∧ (getL l).2.1 ≤ (l.length : Int) ∧ 0 ≤ (getL l).1 ∧ -9223372036854775808 ≤ most ∧ most ≤ 9223372036854775807 from ⟨hr.2.2.1, hr.2.2.2.1, hr.1, h0, h1⟩)]
  exact ev_some _
theorem textR_put (s : ByteArray) (hs : s.size ≤ 1000000000) (R : List Int) (most : Int) (hm : (s.size : Int) ≤ most) :
    textR most (putL s.size ++ (bytesOf s ++ R)) 0 (getL (putL s.size ++ (bytesOf s ++ R))).1 (getL (putL s.size ++ (bytesOf s ++ R))).2.1 (getL (putL s.size ++ (bytesOf s ++ R))).2.2 = (s, R, 0) := by
  rw [get_put s.size (by omega)]
  have hn : (bytesOf s).length = s.size := bytesOf_length s
  unfold textR
  simp only [ne_eq, not_true_eq_false, if_false]
  rw [if_neg (by omega), if_neg (by simp only [List.length_append]; omega)]
  rw [Int.toNat_natCast, Int.toNat_natCast, List.drop_left' rfl, List.take_left' hn, List.drop_left' hn, str_bytesOf]
theorem lk_cur_left (B : List Int) (a : Nat) (Met : Int) (ha : a ≤ B.length) (hB : B.length ≤ 300) : annuletref06_Cur_left.f B (a : Int) Met = some (((B.drop a).length : Int), (a : Int), Met) := by
  unfold annuletref06_Cur_left.f
  rw [w64 (by omega) (by omega), List.length_drop]
  congr 2
  omega
def leftR (l : List Int) (met : Int) : Int := if met = 0 then (l.length : Int) else 0
theorem lk_cur_Left (B : List Int) (a : Nat) (Met : Int) (ha : a ≤ B.length) (hB : B.length ≤ 300) : annuletref06_Cur_Left.f B (a : Int) Met = some (leftR (B.drop a) Met, (a : Int), Met) := by
  unfold annuletref06_Cur_Left.f leftR
  by_cases h : Met = 0
  · rw [if_pos h, if_pos h, lk_cur_left B a Met ha hB]
    rfl
  · rw [if_neg h, if_neg h]
theorem lk_cur_End (B : List Int) (a : Nat) (Met : Int) (ha : a ≤ B.length) (hB : B.length ≤ 300) : annuletref06_Cur_End.f B (a : Int) Met = some (endR (B.drop a) Met, (a : Int), Met) := by
  unfold annuletref06_Cur_End.f endR
  by_cases h : Met = 0
  · rw [if_pos h, if_neg (not_not_intro h), lk_cur_left B a Met ha hB]
    simp only [Option.bind_some]
    by_cases h2 : B.drop a = []
    · rw [if_pos h2, h2, if_neg (by simp), h]
    · rw [if_neg h2, if_pos]
      have : 0 < (B.drop a).length := List.length_pos_iff.mpr h2
      omega
  · rw [if_neg h, if_pos h]
theorem lk_cur_Take (B : List Int) (a : Nat) (Met N : Int) (ha : a ≤ B.length) (hB : B.length ≤ 300) (h0 : -9223372036854775808 ≤ N) (h1 : N ≤ 9223372036854775807) :
    ∃ a' : Nat, a' ≤ B.length ∧ annuletref06_Cur_Take.f B (a : Int) Met N = some ((takeR N (B.drop a) Met).1, (a' : Int), (takeR N (B.drop a) Met).2.2) ∧ B.drop a' = (takeR N (B.drop a) Met).2.1 := by
  unfold annuletref06_Cur_Take.f takeR
  by_cases h : Met = 0
  · rw [if_pos h, if_neg (not_not_intro h)]
    by_cases h2 : N < 0
    · rw [if_pos h2, if_pos h2]
      exact ⟨a, ha, rfl, rfl⟩
    · rw [if_neg h2, if_neg h2, lk_cur_left B a Met ha hB]
      simp only [Option.bind_some]
      by_cases h3 : ((B.drop a).length : Int) < N
      · rw [if_pos h3, if_pos h3]
        exact ⟨a, ha, rfl, rfl⟩
      · rw [if_neg h3, if_neg h3]
        have hl : (B.drop a).length = B.length - a := List.length_drop
        obtain ⟨n, rfl⟩ := Int.eq_ofNat_of_zero_le (show 0 ≤ N by omega)
        rw [w64 (n := (a : Int) + n) (by omega) (by omega), w64 (n := (a : Int) + n - n) (by omega) (by omega)]
        rw [if_pos (by omega), if_pos (by omega), if_pos (by omega)]
        rw [show ((a : Int) + n).toNat = a + n by omega, show ((a : Int) + n - n).toNat = a by omega, Int.toNat_natCast]
        have e : (B.take (a + n)).drop a = (B.drop a).take n := by
          rw [List.drop_take]
          congr 1
          omega
        rw [e]
        rw [if_pos (by simp only [List.length_nil, List.length_take]; omega)]
        refine ⟨a + n, by omega, by simp, ?_⟩
        rw [List.drop_drop]
  · rw [if_neg h, if_pos h]
    exact ⟨a, ha, rfl, rfl⟩
theorem lk_cur_Fix0 (L : List Int) (hb : Bytes L) (hl : L.length ≤ 300) (B : List Int) (At Met : Int) : ∀ (d i n : Nat), i + d = L.length → (n + 1) * 256 ^ d ≤ 18446744073709551616 →
    Ev (fun k => annuletref06_Cur_Fix.l0 k L (n : Int) (i : Int) B At Met) (((ofBe (L.drop i) n : Nat) : Int), At, Met) := by
  intro d
  induction d with
  | zero =>
    intro i n hi _
    refine ev_const fun k => ?_
    rw [annuletref06_Cur_Fix.l0, if_neg (by omega), List.drop_of_length_le (by omega)]
    rfl
  | succ d ih =>
    intro i n hi hn
    have hr := rd_byte hb (i : Int)
    unfold Byte at hr
    rw [Nat.pow_succ, Nat.mul_comm (256 ^ d) 256, ← Nat.mul_assoc] at hn
    have hp : 1 ≤ 256 ^ d := Nat.pow_pos (by omega)
    have hn' : (n + 1) * 256 ≤ 18446744073709551616 := Nat.le_trans (Nat.le_mul_of_pos_right _ hp) hn
    refine ev_succ ?_
    simp only [annuletref06_Cur_Fix.l0, if_pos (show (i : Int) < (L.length : Int) by omega), if_pos (show (0 : Int) ≤ (i : Int) by omega)]
    rw [wu64_id (n := (n : Int) * 256) (by omega) (by omega), wu64_id (n := rd L (i : Int)) (by omega) (by omega), wu64_id (n := (n : Int) * 256 + rd L (i : Int)) (by omega) (by omega), w64 (by omega) (by omega)]
    have := ih (i + 1) (n * 256 + (rd L (i : Int)).toNat) (by omega) (by
      refine Nat.le_trans (Nat.mul_le_mul_right _ ?_) hn
      omega)
    rw [drop_rd L i (by omega), ofBe]
    rw [show ((n * 256 + (rd L (i : Int)).toNat : Nat) : Int) = (n : Int) * 256 + rd L (i : Int) by omega] at this
    exact this
theorem lk_cur_Fix (B : List Int) (hb : Bytes B) (a : Nat) (Met N : Int) (ha : a ≤ B.length) (hB : B.length ≤ 300) (h0 : -9223372036854775808 ≤ N) (h1 : N ≤ 9223372036854775807) :
    ∃ a' : Nat, a' ≤ B.length ∧ Ev (fun k => annuletref06_Cur_Fix.f k B (a : Int) Met N) ((fixR N (B.drop a) Met).1, (a' : Int), (fixR N (B.drop a) Met).2.2) ∧ B.drop a' = (fixR N (B.drop a) Met).2.1 := by
  have zero : ∀ (A M : Int), Ev (fun k => annuletref06_Cur_Fix.l0 k [] 0 0 B A M) (0, A, M) := fun A M => ev_const fun k => by rw [annuletref06_Cur_Fix.l0, if_neg (by simp)]
  have dead : ∀ (M : Int), M ≠ 0 → Ev (fun k => annuletref06_Cur_Fix.j1 k N B (a : Int) M) (0, (a : Int), M) := fun M hM => by
    refine ev_succ ?_
    simp only [annuletref06_Cur_Fix.j1]
    unfold annuletref06_Cur_Take.f
    rw [if_neg hM]
    simp only [Option.bind_some]
    exact zero _ _
  unfold annuletref06_Cur_Fix.f fixR
  by_cases h : Met = 0
  · simp only [if_pos h]
    rw [if_neg (not_not_intro h)]
    have out : N < 1 ∨ 8 < N → Ev (fun k => annuletref06_Cur_Fix.j0 k N true B (a : Int) Met) (0, (a : Int), 1) := fun _ => by
      refine ev_succ ?_
      simp only [annuletref06_Cur_Fix.j0, if_true]
      exact dead 1 (by decide)
    by_cases h2 : N < 1
    · simp only [if_pos h2]
      rw [if_pos (Or.inl h2)]
      exact ⟨a, ha, out (Or.inl h2), rfl⟩
    · simp only [if_neg h2]
      by_cases h3 : 8 < N
      · rw [if_pos (Or.inr h3), decide_eq_true h3]
        exact ⟨a, ha, out (Or.inr h3), rfl⟩
      · rw [if_neg (fun h => h.elim h2 h3), decide_eq_false h3]
        obtain ⟨a', ha', hT, hd⟩ := lk_cur_Take B a Met N ha hB h0 h1
        have go : Ev (fun k => annuletref06_Cur_Fix.l0 k (takeR N (B.drop a) Met).1 0 0 B (a' : Int) (takeR N (B.drop a) Met).2.2) (beI (takeR N (B.drop a) Met).1 0, (a' : Int), (takeR N (B.drop a) Met).2.2) → Ev (fun k => annuletref06_Cur_Fix.j0 k N false B (a : Int) Met) (beI (takeR N (B.drop a) Met).1 0, (a' : Int), (takeR N (B.drop a) Met).2.2) := fun hh => by
          refine ev_succ ?_
          simp only [annuletref06_Cur_Fix.j0, Bool.false_eq_true, if_false]
          refine ev_succ ?_
          simp only [annuletref06_Cur_Fix.j1]
          rw [hT]
          simp only [Option.bind_some]
          exact hh
        by_cases h4 : ((B.drop a).length : Int) < N
        · rw [if_pos h4]
          have e : takeR N (B.drop a) Met = ([], B.drop a, 2) := by
            unfold takeR
            rw [if_neg (not_not_intro h), if_neg (show ¬ N < 0 by omega), if_pos h4]
          rw [e] at go hd
          exact ⟨a', ha', go (zero _ _), hd⟩
        · rw [if_neg h4]
          have e : takeR N (B.drop a) Met = ((B.drop a).take N.toNat, (B.drop a).drop N.toNat, 0) := by
            unfold takeR
            rw [if_neg (not_not_intro h), if_neg (show ¬ N < 0 by omega), if_neg h4, h]
          rw [e] at go hd
          have hbt := bytes_take (bytes_drop hb a) N.toNat
          have hlt : ((B.drop a).take N.toNat).length ≤ 8 := by rw [List.length_take]; omega
          have hz := lk_cur_Fix0 ((B.drop a).take N.toNat) hbt (by omega) B (a' : Int) 0 _ 0 0 (Nat.zero_add _) (by
            rw [Nat.zero_add, Nat.one_mul]
            exact Nat.pow_le_pow_right (by omega) hlt)
          rw [List.drop_zero] at hz
          have hz' := go (by rw [beI_zero _ hbt hlt]; exact hz)
          exact ⟨a', ha', hz', hd⟩
  · simp only [if_neg h]
    rw [if_pos h]
    refine ⟨a, ha, ?_, rfl⟩
    refine ev_succ ?_
    simp only [annuletref06_Cur_Fix.j0, Bool.false_eq_true, if_false]
    exact dead Met h
theorem lk_cur_Uvar (B : List Int) (hb : Bytes B) (a : Nat) (Met U : Int) (ha : a ≤ B.length) (hB : B.length ≤ 300) :
    ∃ a' : Nat, a' ≤ B.length ∧ Ev (fun k => annuletref06_Cur_Uvar.f k B (a : Int) Met U) ((uvarR U (B.drop a) Met (getL (B.drop a)).1 (getL (B.drop a)).2.1 (getL (B.drop a)).2.2).1, (a' : Int), (uvarR U (B.drop a) Met (getL (B.drop a)).1 (getL (B.drop a)).2.1 (getL (B.drop a)).2.2).2.2) ∧ B.drop a' = (uvarR U (B.drop a) Met (getL (B.drop a)).1 (getL (B.drop a)).2.1 (getL (B.drop a)).2.2).2.1 := by
  have hr := getL_range (B.drop a) (bytes_drop hb a)
  have hG := lk_ref01_Get (B.drop a) (bytes_drop hb a)
  unfold annuletref06_Cur_Uvar.f uvarR
  by_cases h : Met = 0
  · simp only [if_pos h, if_pos (show (0 : Int) ≤ (a : Int) by omega), if_pos (show (a : Int) ≤ (B.length : Int) by omega), Int.toNat_natCast]
    rw [if_neg (not_not_intro h)]
    by_cases h2 : (getL (B.drop a)).2.2 = 0
    · rw [if_neg (not_not_intro h2)]
      by_cases h3 : (getL (B.drop a)).1 > U
      · rw [if_pos h3]
        refine ⟨a, ha, ev_bind hG ?_, rfl⟩
        simp only [if_pos h2, decide_eq_true h3]
        refine ev_const fun k => ?_
        rw [annuletref06_Cur_Uvar.j0, if_pos rfl]
      · rw [if_neg h3]
        have hl : (B.drop a).length = B.length - a := List.length_drop
        refine ⟨a + (getL (B.drop a)).2.1.toNat, by omega, ev_bind hG ?_, by rw [List.drop_drop]⟩
        simp only [if_pos h2, decide_eq_false h3]
        refine ev_const fun k => ?_
        rw [annuletref06_Cur_Uvar.j0, if_neg (by decide), if_pos h2, w64 (by omega) (by omega), h2]
        congr 3
        omega
    · rw [if_pos h2]
      refine ⟨a, ha, ev_bind hG ?_, rfl⟩
      simp only [if_neg h2]
      refine ev_const fun k => ?_
      rw [annuletref06_Cur_Uvar.j0, if_neg (by decide), if_neg h2]
  · simp only [if_neg h]
    rw [if_pos h]
    exact ⟨a, ha, ev_some _, rfl⟩
theorem lk_cur_Flag (B : List Int) (hb : Bytes B) (a : Nat) (Met : Int) (ha : a ≤ B.length) (hB : B.length ≤ 300) :
    ∃ a' : Nat, a' ≤ B.length ∧ annuletref06_Cur_Flag.f B (a : Int) Met = some ((flagR (B.drop a) Met).1, (a' : Int), (flagR (B.drop a) Met).2.2) ∧ B.drop a' = (flagR (B.drop a) Met).2.1 := by
  have hl : (B.drop a).length = B.length - a := List.length_drop
  unfold annuletref06_Cur_Flag.f flagR
  by_cases h : Met = 0
  · rw [if_pos h, if_neg (not_not_intro h), lk_cur_left B a Met ha hB]
    simp only [Option.bind_some]
    by_cases h2 : (B.drop a).length < 1
    · rw [if_pos (by omega), if_pos h2]
      exact ⟨a, ha, rfl, rfl⟩
    · rw [if_neg (by omega), if_neg h2]
      have e : rd (B.drop a) 0 = rd B (a : Int) := by
        rw [show (0 : Int) = ((0 : Nat) : Int) from rfl, rd_nat, rd_nat]
        simp [List.getD]
      rw [if_pos (by omega), if_pos (by omega), e]
      by_cases h3 : rd B (a : Int) > 1
      · rw [if_pos h3, if_pos h3]
        exact ⟨a, ha, rfl, rfl⟩
      · rw [if_neg h3, if_neg h3]
        rw [w64 (n := (a : Int) + 1) (by omega) (by omega), w64 (n := (a : Int) + 1 - 1) (by omega) (by omega), show (a : Int) + 1 - 1 = (a : Int) by omega]
        rw [if_pos (by omega), if_pos (by omega)]
        exact ⟨a + 1, by omega, rfl, by rw [List.drop_drop]⟩
  · rw [if_neg h, if_pos h]
    exact ⟨a, ha, rfl, rfl⟩
theorem lk_cur_Text (B : List Int) (hb : Bytes B) (a : Nat) (Met N : Int) (ha : a ≤ B.length) (hB : B.length ≤ 300) (h0 : -9223372036854775808 ≤ N) (h1 : N ≤ 9223372036854775807) :
    ∃ a' : Nat, a' ≤ B.length ∧ Ev (fun k => annuletref06_Cur_Text.f k B (a : Int) Met N) ((textR N (B.drop a) Met (getL (B.drop a)).1 (getL (B.drop a)).2.1 (getL (B.drop a)).2.2).1, (a' : Int), (textR N (B.drop a) Met (getL (B.drop a)).1 (getL (B.drop a)).2.1 (getL (B.drop a)).2.2).2.2) ∧ B.drop a' = (textR N (B.drop a) Met (getL (B.drop a)).1 (getL (B.drop a)).2.1 (getL (B.drop a)).2.2).2.1 := by
  have hr := getL_range (B.drop a) (bytes_drop hb a)
  have hG := lk_ref01_Get (B.drop a) (bytes_drop hb a)
  have hl : (B.drop a).length = B.length - a := List.length_drop
  unfold annuletref06_Cur_Text.f textR
  by_cases h : Met = 0
  · simp only [if_pos h, if_pos (show (0 : Int) ≤ (a : Int) by omega), if_pos (show (a : Int) ≤ (B.length : Int) by omega), Int.toNat_natCast]
    rw [if_neg (not_not_intro h)]
    generalize hg : getL (B.drop a) = G at *
    obtain ⟨n, s, e⟩ := G
    simp only at hr ⊢
    by_cases h2 : e = 0
    · rw [if_neg (not_not_intro h2)]
      have long : Ev (fun k => annuletref06_Cur_Text.j0 k n s e true B (a : Int) Met) ((⟨#[]⟩ : ByteArray), (a : Int), 5) := by
        refine ev_succ ?_
        simp only [annuletref06_Cur_Text.j0, if_true]
        refine ev_succ ?_
        simp only [annuletref06_Cur_Text.j1, if_neg (show ¬ (5 : Int) = 0 by decide)]
        refine ev_const fun k => ?_
        rw [annuletref06_Cur_Text.j2, if_neg (by decide), if_neg (by decide)]
      by_cases h3 : N < 0
      · rw [if_pos (Or.inl h3)]
        refine ⟨a, ha, ev_bind hG ?_, rfl⟩
        simp only [if_pos h2, if_pos h3]
        exact long
      · have hw : IntKind.u64.wrap N = N := wu64_id (by omega) (by omega)
        by_cases h4 : n > N
        · rw [if_pos (Or.inr h4)]
          refine ⟨a, ha, ev_bind hG ?_, rfl⟩
          simp only [if_pos h2, if_neg h3]
          rw [hw, decide_eq_true h4]
          exact long
        · rw [if_neg (fun h => h.elim h3 h4)]
          have j0 : ∀ {r}, Ev (fun k => annuletref06_Cur_Text.j2 k n s e (decide ((B.drop a).length - s < n)) B (a : Int) Met) r → Ev (fun k => annuletref06_Cur_Text.j0 k n s e false B (a : Int) Met) r := fun {r} hh => by
            refine ev_succ ?_
            simp only [annuletref06_Cur_Text.j0, Bool.false_eq_true, if_false]
            refine ev_succ ?_
            simp only [annuletref06_Cur_Text.j1, if_pos h2, lk_cur_left B a Met ha hB, Option.bind_some]
            rw [w64 (n := ((B.drop a).length : Int) - s) (by omega) (by omega), wu64_id (n := ((B.drop a).length : Int) - s) (by omega) (by omega)]
            exact hh
          by_cases h5 : n > (B.drop a).length - s
          · rw [if_pos h5]
            refine ⟨a, ha, ev_bind hG ?_, rfl⟩
            simp only [if_pos h2, if_neg h3]
            rw [hw, decide_eq_false h4]
            refine j0 ?_
            rw [decide_eq_true (by omega)]
            refine ev_const fun k => ?_
            rw [annuletref06_Cur_Text.j2, if_pos rfl]
          · rw [if_neg h5]
            have hs : (s.toNat : Int) = s := by omega
            have hd : (B.drop a).drop s.toNat = B.drop (a + s.toNat) := by rw [List.drop_drop]
            obtain ⟨a', ha', hT, hd'⟩ := lk_cur_Take B (a + s.toNat) 0 n (by omega) hB (by omega) (by omega)
            have hl2 : (B.drop (a + s.toNat)).length = B.length - (a + s.toNat) := List.length_drop
            have e2 : takeR n (B.drop (a + s.toNat)) 0 = ((B.drop (a + s.toNat)).take n.toNat, (B.drop (a + s.toNat)).drop n.toNat, 0) := by
              unfold takeR
              rw [if_neg (show ¬ (0 : Int) ≠ 0 by simp), if_neg (show ¬ n < 0 by omega), if_neg (show ¬ ((B.drop (a + s.toNat)).length : Int) < n by omega)]
            rw [e2] at hT hd'
            rw [hd]
            refine ⟨a', ha', ev_bind hG ?_, hd'⟩
            simp only [if_pos h2, if_neg h3]
            rw [hw, decide_eq_false h4]
            refine j0 ?_
            rw [decide_eq_false (by omega)]
            refine ev_const fun k => ?_
            rw [annuletref06_Cur_Text.j2, if_neg (by decide), if_pos h2, h2, w64 (n := (a : Int) + s) (by omega) (by omega), w64 (n := n) (by omega) (by omega)]
            rw [show (a : Int) + s = ((a + s.toNat : Nat) : Int) by omega, hT]
            rfl
    · rw [if_pos h2]
      refine ⟨a, ha, ev_bind hG ?_, rfl⟩
      simp only [if_neg h2]
      refine ev_succ ?_
      simp only [annuletref06_Cur_Text.j0, Bool.false_eq_true, if_false]
      refine ev_succ ?_
      simp only [annuletref06_Cur_Text.j1, if_neg h2]
      refine ev_const fun k => ?_
      rw [annuletref06_Cur_Text.j2, if_neg (by decide), if_neg h2]
  · simp only [if_neg h]
    rw [if_pos h]
    exact ⟨a, ha, ev_some _, rfl⟩
theorem lk_rd_Uvar (m : Bool) (l : List Int) (hb : Bytes l) (U : Int) (met : Int) :
    Ev (fun k => buf_Reader_Uvar.f k m l met U) ((uvarR U l met (getL l).1 (getL l).2.1 (getL l).2.2).1, m, (uvarR U l met (getL l).1 (getL l).2.1 (getL l).2.2).2.1, (uvarR U l met (getL l).1 (getL l).2.1 (getL l).2.2).2.2) := by
  have hr := getL_range l hb
  unfold buf_Reader_Uvar.f
  refine ev_bind (lk_uvar_Get l hb) ?_
  simp only [if_pos hr.2.2.1, if_pos hr.2.2.2.1]
  exact ev_some _
def Suf (l' l : List Int) : Prop := ∃ n, l' = l.drop n
theorem Suf.refl (l : List Int) : Suf l l := ⟨0, rfl⟩
theorem Suf.drop (l : List Int) (n : Nat) : Suf (l.drop n) l := ⟨n, rfl⟩
theorem Suf.drop2 (l : List Int) (n m : Nat) : Suf ((l.drop n).drop m) l := ⟨n + m, by rw [List.drop_drop]⟩
theorem suf_take (N : Int) (l : List Int) (met : Int) : Suf (takeR N l met).2.1 l := by
  unfold takeR
  split
  · exact Suf.refl _
  split
  · exact Suf.refl _
  split
  · exact Suf.refl _
  · exact Suf.drop _ _
theorem suf_fix (N : Int) (l : List Int) (met : Int) : Suf (fixR N l met).2.1 l := by
  unfold fixR
  split
  · exact Suf.refl _
  split
  · exact Suf.refl _
  split
  · exact Suf.refl _
  · exact Suf.drop _ _
theorem suf_uvar (U : Int) (l : List Int) (met n s e : Int) : Suf (uvarR U l met n s e).2.1 l := by
  unfold uvarR
  split
  · exact Suf.refl _
  split
  · exact Suf.refl _
  split
  · exact Suf.refl _
  · exact Suf.drop _ _
theorem suf_flag (l : List Int) (met : Int) : Suf (flagR l met).2.1 l := by
  unfold flagR
  split
  · exact Suf.refl _
  split
  · exact Suf.refl _
  split
  · exact Suf.refl _
  · exact Suf.drop _ _
theorem suf_text (U : Int) (l : List Int) (met n s e : Int) : Suf (textR U l met n s e).2.1 l := by
  unfold textR
  split
  · exact Suf.refl _
  split
  · exact Suf.refl _
  split
  · exact Suf.refl _
  split
  · exact Suf.refl _
  · exact Suf.drop2 _ _ _
/-- what one deed does to both -/
theorem lk_one (kind N U : Int) (hN0 : -9223372036854775808 ≤ N) (hN1 : N ≤ 9223372036854775807) (m : Bool) (l : List Int) (met : Int) (hb : Bytes l) (B : List Int) (hB : Bytes B) (a : Nat) (Met : Int) (ha : a ≤ B.length) (hl : B.length ≤ 300) :
    ∃ (b : Bool) (l' : List Int) (met' : Int) (a' : Nat) (Met' : Int), Ev (fun k => annuletlaw06_one.f k kind N U m l met B (a : Int) Met) (b, (m, l', met'), ((a' : Int), Met')) ∧ Suf l' l ∧ a' ≤ B.length ∧ (l = B.drop a → met = Met → b = true ∧ l' = B.drop a' ∧ met' = Met') := by
  unfold annuletlaw06_one.f
  by_cases c0 : kind = 0
  · simp only [if_pos c0]
    obtain ⟨a', ha', h1, h2⟩ := lk_cur_Fix B hB a Met N ha hl hN0 hN1
    refine ⟨_, _, _, a', _, ev_bind (ev_some ((fixR N l met).1, m, (fixR N l met).2.1, (fixR N l met).2.2)) (ev_bind h1 (ev_some _)), suf_fix _ _ _, ha', fun e1 e2 => ?_⟩
    subst e1 e2
    exact ⟨beq_self_eq_true _, h2.symm, rfl⟩
  simp only [if_neg c0]
  by_cases c1 : kind = 1
  · simp only [if_pos c1]
    obtain ⟨a', ha', h1, h2⟩ := lk_cur_Uvar B hB a Met U ha hl
    refine ⟨_, _, _, a', _, ev_bind (lk_rd_Uvar m l hb U met) (ev_bind h1 (ev_some _)), suf_uvar _ _ _ _ _ _, ha', fun e1 e2 => ?_⟩
    subst e1 e2
    exact ⟨beq_self_eq_true _, h2.symm, rfl⟩
  simp only [if_neg c1]
  by_cases c2 : kind = 2
  · simp only [if_pos c2]
    obtain ⟨a', ha', h1, h2⟩ := lk_cur_Flag B hB a Met ha hl
    refine ⟨_, _, _, a', _, ev_bind (ev_some ((flagR l met).1, m, (flagR l met).2.1, (flagR l met).2.2)) (ev_bind (ev_const (fun _ => h1)) (ev_some _)), suf_flag _ _, ha', fun e1 e2 => ?_⟩
    subst e1 e2
    exact ⟨beq_self_eq_true _, h2.symm, rfl⟩
  simp only [if_neg c2]
  by_cases c3 : kind = 3
  · simp only [if_pos c3]
    obtain ⟨a', ha', h1, h2⟩ := lk_cur_Take B a Met N ha hl hN0 hN1
    refine ⟨_, _, _, a', _, ev_bind (ev_some ((takeR N l met).1, m, (takeR N l met).2.1, (takeR N l met).2.2)) (ev_bind (ev_const (fun _ => h1)) (ev_some _)), suf_take _ _ _, ha', fun e1 e2 => ?_⟩
    subst e1 e2
    exact ⟨beq_self_eq_true _, h2.symm, rfl⟩
  simp only [if_neg c3]
  by_cases c4 : kind = 4
  · simp only [if_pos c4]
    obtain ⟨a', ha', h1, h2⟩ := lk_cur_Text B hB a Met N ha hl hN0 hN1
    refine ⟨_, _, _, a', _, ev_bind (lk_rd_Text m l hb N hN0 hN1 met) (ev_bind h1 (ev_some _)), suf_text _ _ _ _ _ _, ha', fun e1 e2 => ?_⟩
    subst e1 e2
    exact ⟨beq_self_eq_true _, h2.symm, rfl⟩
  simp only [if_neg c4]
  by_cases c5 : kind = 5
  · simp only [if_pos c5]
    refine ⟨_, l, met, a, Met, ev_bind (ev_some (leftR l met, m, met)) (ev_bind (ev_const (fun _ => lk_cur_Left B a Met ha hl)) (ev_some _)), Suf.refl _, ha, fun e1 e2 => ?_⟩
    subst e1 e2
    exact ⟨beq_self_eq_true _, rfl, rfl⟩
  simp only [if_neg c5]
  by_cases c6 : kind = 6
  · simp only [if_pos c6]
    have hc : annuletref06_Cur_Fail.f B (a : Int) Met N = some ((a : Int), if Met = 0 then N else Met) := by
      unfold annuletref06_Cur_Fail.f
      split <;> rfl
    refine ⟨_, l, _, a, _, ev_bind (ev_some (m, if met = 0 then N else met)) (ev_bind (ev_const (fun _ => hc)) (ev_some _)), Suf.refl _, ha, fun e1 e2 => ?_⟩
    subst e1 e2
    exact ⟨rfl, rfl, rfl⟩
  simp only [if_neg c6]
  by_cases c7 : kind = 7
  · simp only [if_pos c7]
    refine ⟨_, l, met, a, Met, ev_bind (ev_some (met, m, met)) (ev_some _), Suf.refl _, ha, fun e1 e2 => ?_⟩
    subst e1 e2
    exact ⟨beq_self_eq_true _, rfl, rfl⟩
  simp only [if_neg c7]
  refine ⟨_, l, met, a, Met, ev_bind (ev_some (endR l met, m, met)) (ev_bind (ev_const (fun _ => lk_cur_End B a Met ha hl)) (ev_some _)), Suf.refl _, ha, fun e1 e2 => ?_⟩
  subst e1 e2
  exact ⟨beq_self_eq_true _, rfl, rfl⟩
theorem lk_stuck_go : ∀ (ds : List S41), (∀ d ∈ ds, (Lit.int .i64 d.f0).wf = true ∧ (Lit.int .i64 d.f1).wf = true ∧ (Lit.int .u64 d.f2).wf = true) → ∀ (l : List Int), Bytes l → ∀ (met Met : Int) (m : Bool),
    Ev (fun k => annuletlaw06_BufStuck.go k ds m l met [] 0 Met) true
  | [], _, l, hb, met, Met, m => by
    simp only [annuletlaw06_BufStuck.go]
    exact ev_some _
  | d :: ds, hw, l, hb, met, Met, m => by
    have hd := hw d (by simp)
    have hN := wf_i64 hd.2.1
    obtain ⟨b, l', met', a', Met', h1, ⟨n, hs⟩, ha', _⟩ := lk_one d.f0 d.f1 d.f2 hN.1 (by omega) m l met hb [] bytes_nil 0 Met (Nat.zero_le _) (by simp)
    obtain rfl : a' = 0 := by simpa using ha'
    have ih := lk_stuck_go ds (fun x hx => hw x (by simp [hx])) l' (hs ▸ bytes_drop hb n) met' Met' m
    have go : Ev (fun k => (annuletlaw06_one.f k d.f0 d.f1 d.f2 m l met [] 0 Met).bind fun t => annuletlaw06_BufStuck.go k ds t.2.1.1 t.2.1.2.1 t.2.1.2.2 [] t.2.2.1 t.2.2.2) true := ev_bind h1 ih
    by_cases hm : met = 0
    · simp only [annuletlaw06_BufStuck.go, if_pos (show met = 0 ∨ _ from Or.inl hm)]
      exact go
    · obtain ⟨K, hK⟩ := lk_rd_Uvar m l hb 9 met
      obtain ⟨L, hL⟩ := lk_rd_Text m l hb 9 (by decide) (by decide) met
      obtain ⟨M, hM⟩ := go
      have e1 : uvarR 9 l met (getL l).1 (getL l).2.1 (getL l).2.2 = (0, l, met) := by unfold uvarR; rw [if_pos hm]
      have e2 : textR 9 l met (getL l).1 (getL l).2.1 (getL l).2.2 = ((⟨#[]⟩ : ByteArray), l, met) := by unfold textR; rw [if_pos hm]
      rw [e1] at hK
      rw [e2] at hL
      refine ⟨max K (max L M), fun k hk => ?_⟩
      have a1 := hK k (by omega)
      have a2 := hL k (by omega)
      simp only [annuletlaw06_BufStuck.go]
      rw [if_pos (Or.inr ⟨a1, a2⟩)]
      exact hM k (by omega)
theorem BufStuck_law : annuletlaw06_BufStuck.Pure := by
  intro l0 l1 h0 h1
  have hb := bytes_of_wf h0.2
  refine Ev.rounds (g := fun k => annuletlaw06_BufStuck.f k l0 l1) ?_
  unfold annuletlaw06_BufStuck.f
  by_cases c : (l0.length : Int) > 300 ∨ (l1.length : Int) > 30
  · simp only [if_pos c]
    exact ev_some _
  simp only [if_neg c]
  exact lk_stuck_go l1 h1.2 l0 hb 0 0 true
end Go.Proofs.Ytopjffhmfgnedaa.PBufStuck
namespace Go.Proofs.Ytopjffhmfgnedaa.Pure
open Go.Proofs.Ytopjffhmfgnedaa.PBufStuck
theorem BufStuck : annuletlaw06_BufStuck.Pure := BufStuck_law
end Go.Proofs.Ytopjffhmfgnedaa.Pure
