/- UvarBack: a number that is put is got whatever stands behind it, and what is got is put as it was. No condition. -/
import Derived.Test.YtdfjhfopcihcjaaPUvarBackx3
import Derived.Test.YtdfjhfopcihcjaaMath
set_option linter.unusedVariables false
set_option linter.unusedSimpArgs false
namespace Go.Proofs.Ytdfjhfopcihcjaa.PUvarBack
open Go.RowKit Go.Proofs.YtdfjhfopcihcjaaW.PrintWords Go.Proofs.YtdfjhfopcihcjaaW.PrintLast Go.Proofs.YtdfjhfopcihcjaaW.PrintMore Annulet

/-! ### package uvar: the printed functions and the lists -/
theorem lk_uvar_Put0 (n : Nat) : ∀ b : List Int, b.length + (putL n).length ≤ 140737488355328 → Ev (fun k => uvar_Put.l0 k b (n : Int)) (b ++ putL n) := by
  induction n using putL.induct with
  | case1 n h =>
    intro b hb
    rw [putL_small h] at hb ⊢
    simp only [List.length_singleton] at hb
    refine ev_succ ?_
    simp only [uvar_Put.l0]
    simp only [if_neg (show ¬ (n : Int) ≥ 128 by omega), if_pos (show b.length < 140737488355328 by omega)]
    rw [show (n : Int) % 256 = n by omega]
    exact ev_some _
  | case2 n h ih =>
    intro b hb
    rw [putL_great h] at hb ⊢
    simp only [List.length_cons] at hb
    refine ev_succ ?_
    simp only [uvar_Put.l0]
    simp only [if_pos (show (n : Int) ≥ 128 by omega), if_pos (show b.length < 140737488355328 by omega)]
    rw [or128 (by omega)]
    have := ih (b ++ [(n : Int) % 128 + 128]) (by simp only [List.length_append, List.length_singleton]; omega)
    simp only [List.append_assoc, List.singleton_append] at this
    exact this
theorem lk_uvar_Put (b : List Int) (n : Int) (h0 : 0 ≤ n) (hl : b.length + (putL n.toNat).length ≤ 140737488355328) : Ev (fun k => uvar_Put.f k b n) (b ++ putL n.toNat) := by
  have := lk_uvar_Put0 n.toNat b hl
  rw [show ((n.toNat : Nat) : Int) = n by omega] at this
  exact this
theorem lk_uvar_Size0 (n : Nat) : ∀ s : Int, 0 ≤ s → s + (putL n).length ≤ 9223372036854775807 → Ev (fun k => uvar_Size.l0 k (n : Int) s) (s + if n = 0 then 0 else (putL n).length) := by
  induction n using putL.induct with
  | case1 n h =>
    intro s h0 hs
    rw [putL_small h] at hs ⊢
    simp only [List.length_singleton] at hs ⊢
    refine ev_succ ?_
    simp only [uvar_Size.l0]
    by_cases hn : n = 0
    · subst hn
      simp only [if_neg (show ¬ ((0 : Nat) : Int) > 0 by omega)]
      exact ev_eq (ev_some _) (by simp)
    · simp only [if_pos (show (n : Int) > 0 by omega), if_neg hn]
      refine ev_succ ?_
      simp only [uvar_Size.l0]
      simp only [if_neg (show ¬ (n : Int) / 128 > 0 by omega)]
      exact ev_eq (ev_some _) (by rw [w64 (by omega) (by omega)]; simp)
  | case2 n h ih =>
    intro s h0 hs
    rw [putL_great h] at hs ⊢
    simp only [List.length_cons] at hs ⊢
    refine ev_succ ?_
    simp only [uvar_Size.l0]
    simp only [if_pos (show (n : Int) > 0 by omega)]
    rw [w64 (by omega) (by omega)]
    refine ev_eq (ih (s + 1) (by omega) (by omega)) ?_
    rw [if_neg (by omega), if_neg (by omega)]
    omega
theorem lk_uvar_Size (n : Int) (h0 : 0 ≤ n) (h1 : n < 18446744073709551616) : Ev (fun k => uvar_Size.f k n) ((putL n.toNat).length : Int) := by
  unfold uvar_Size.f
  have hl := putL_len10 (n := n.toNat / 128) (by omega)
  have := lk_uvar_Size0 (n.toNat / 128) 1 (by omega) (by omega)
  rw [show ((n.toNat / 128 : Nat) : Int) = n / 128 by omega] at this
  refine ev_eq this ?_
  by_cases h : n.toNat < 128
  · rw [putL_small h, if_pos (by omega)]; simp
  · rw [putL_great h, if_neg (by omega)]; simp; omega
theorem lk_uvar_last0 (b : List Int) (d : Nat) : ∀ i : Nat, i ≤ 10 → i ≤ b.length → min b.length 10 - i = d → (∀ j < i, 128 ≤ rd b (j : Int)) →
    Ev (fun k => uvar_last.l0 k b (mn (b.length : Int) 10) (i : Int)) (if sizeL b = 10 ∨ sizeL b = b.length then -1 else (sizeL b : Int)) := by
  have hm : mn (b.length : Int) 10 = (min b.length 10 : Nat) := by unfold mn; split <;> omega
  rw [hm]
  induction d with
  | zero =>
    intro i h1 h2 hd ha
    refine ev_succ ?_
    simp only [uvar_last.l0]
    simp only [if_neg (show ¬ (i : Int) < ((min b.length 10 : Nat) : Int) by omega)]
    have hs := sizeL_eq b i h1 h2 ha (fun _ _ => by omega)
    rw [hs, if_pos (by omega)]
    exact ev_some _
  | succ d ih =>
    intro i h1 h2 hd ha
    refine ev_succ ?_
    simp only [uvar_last.l0]
    simp only [if_pos (show (i : Int) < ((min b.length 10 : Nat) : Int) by omega), if_pos (show (0 : Int) ≤ (i : Int) by omega), if_pos (show (i : Int) < (b.length : Int) by omega)]
    by_cases hr : rd b (i : Int) < 128
    · simp only [if_pos hr]
      have hs := sizeL_eq b i h1 h2 ha (fun _ _ => hr)
      rw [hs, if_neg (by omega)]
      exact ev_some _
    · simp only [if_neg hr]
      rw [w64 (by omega) (by omega)]
      exact ih (i + 1) (by omega) (by omega) (by omega) (fun j hj => by
        by_cases e : j = i
        · subst e; omega
        · exact ha j (by omega))
theorem lk_uvar_last (b : List Int) : Ev (fun k => uvar_last.f k b) (if sizeL b = 10 ∨ sizeL b = b.length then -1 else (sizeL b : Int)) := by
  unfold uvar_last.f
  exact lk_uvar_last0 b _ 0 (by omega) (by omega) rfl (fun j hj => by omega)
theorem lk_uvar_Get0 (b : List Int) (hb : Bytes b) (x5 : Int) (h5 : 0 ≤ x5) (h5' : x5 < 9223372036854775807) (m : Nat) : ∀ acc : Int, 0 ≤ acc → m ≤ b.length → m ≤ 9223372036854775807 → valL (b.take m) + 128 ^ m * acc < 18446744073709551616 →
    Ev (fun k => uvar_Get.l0 k b x5 acc ((m : Int) - 1)) (valL (b.take m) + 128 ^ m * acc, x5 + 1, 0) := by
  induction m with
  | zero =>
    intro acc h0 hm hmm hv
    refine ev_succ ?_
    simp only [uvar_Get.l0]
    simp only [if_neg (show ¬ ((0 : Nat) : Int) - 1 ≥ 0 by omega)]
    rw [w64 (by omega) (by omega)]
    exact ev_eq (ev_some _) (by simp [valL])
  | succ m ih =>
    intro acc h0 hm hmm hv
    refine ev_succ ?_
    simp only [uvar_Get.l0]
    simp only [if_pos (show (((m + 1 : Nat) : Int) - 1 ≥ 0) by omega), if_pos (show (0 ≤ ((m + 1 : Nat) : Int) - 1) by omega), if_pos (show ((m + 1 : Nat) : Int) - 1 < (b.length : Int) by omega)]
    have e1 : ((m + 1 : Nat) : Int) - 1 = (m : Int) := by omega
    rw [e1]
    have hr := rd_byte hb (m : Int)
    unfold Byte at hr
    rw [and127 hr.1 hr.2]
    have ht := take_succ_rd b m (by omega)
    have hl : (b.take m).length = m := by rw [List.length_take]; omega
    have hv' : valL (b.take (m + 1)) + 128 ^ (m + 1) * acc = valL (b.take m) + 128 ^ m * (acc * 128 + rd b (m : Int) % 128) := by
      rw [ht, valL_append, hl]
      simp only [valL, Int.mul_zero, Int.add_zero]
      rw [Int.pow_succ, Int.mul_add, Int.mul_assoc, Int.mul_comm 128 acc]; omega
    rw [hv'] at hv ⊢
    have hv0 := valL_nonneg (b.take m)
    have hp : (1 : Int) ≤ 128 ^ m := by
      have : (0 : Int) < 128 ^ m := by exact_mod_cast Nat.pow_pos (by decide : 0 < 128)
      omega
    have hge : acc * 128 + rd b (m : Int) % 128 ≤ 128 ^ m * (acc * 128 + rd b (m : Int) % 128) := by
      have := Int.mul_le_mul_of_nonneg_right hp (show 0 ≤ acc * 128 + rd b (m : Int) % 128 by omega)
      omega
    rw [mod128_step h0 (by omega) (by omega) (by omega), w64 (by omega) (by omega)]
    exact ih _ (by omega) (by omega) (by omega) hv
theorem lk_uvar_Get (b : List Int) (hb : Bytes b) : Ev (fun k => uvar_Get.f k b) (getL b) := by
  unfold uvar_Get.f
  have hs := sizeL_le b
  refine ev_bind (lk_uvar_last b) ?_
  by_cases h : sizeL b = 10 ∨ sizeL b = b.length
  · rw [if_pos h]
    simp only [if_pos (show (-1 : Int) < 0 by omega)]
    refine ev_succ ?_
    simp only [uvar_Get.j0]
    by_cases hl : (b.length : Int) ≥ 10
    · rw [decide_eq_true hl]
      simp only [if_true]
      have : sizeL b = 10 := by omega
      unfold getL
      rw [if_pos this]
      exact ev_some _
    · rw [decide_eq_false hl]
      simp only [Bool.false_eq_true, if_false, if_pos (show (-1 : Int) < 0 by omega)]
      unfold getL
      rw [if_neg (by omega), if_pos (by omega)]
      exact ev_some _
  · rw [if_neg h]
    simp only [if_neg (show ¬ (sizeL b : Int) < 0 by omega)]
    refine ev_succ ?_
    simp only [uvar_Get.j0]
    simp only [Bool.false_eq_true, if_false, if_neg (show ¬ (sizeL b : Int) < 0 by omega)]
    have done : ¬ (sizeL b = 9 ∧ rd b (sizeL b) > 1) → ¬ (0 < sizeL b ∧ rd b (sizeL b) = 0) → Ev (fun k => uvar_Get.j2 k b (sizeL b : Int)) (getL b) := fun h9 h0 => by
      refine ev_succ ?_
      simp only [uvar_Get.j2]
      have hv := getL_val_lt b hb h9 (by omega) (by omega)
      have := lk_uvar_Get0 b hb (sizeL b) (by omega) (by omega) (sizeL b + 1) 0 (by omega) (by omega) (by omega) (by omega)
      rw [show (((sizeL b + 1 : Nat) : Int) - 1) = (sizeL b : Int) by omega] at this
      refine ev_eq this ?_
      unfold getL
      rw [if_neg (by omega), if_neg (by omega), if_neg (fun hc => hc.elim h0 h9), Int.mul_zero, Int.add_zero]
    have j1 : ¬ (0 < sizeL b ∧ rd b (sizeL b) = 0) → Ev (fun k => uvar_Get.j1 k b (sizeL b : Int) false) (getL b) := fun h0 => by
      refine ev_succ ?_
      simp only [uvar_Get.j1]
      simp only [Bool.false_eq_true, if_false]
      by_cases h9 : sizeL b = 9
      · simp only [if_pos (show (sizeL b : Int) = 9 by omega), if_pos (show (0 : Int) ≤ (sizeL b : Int) by omega), if_pos (show (sizeL b : Int) < (b.length : Int) by omega)]
        by_cases h1 : rd b (sizeL b : Int) > 1
        · simp only [if_pos h1]
          unfold getL
          rw [if_neg (by omega), if_neg (by omega), if_pos (.inr ⟨h9, h1⟩)]
          exact ev_some _
        · simp only [if_neg h1]
          exact done (fun h => h1 h.2) h0
      · simp only [if_neg (show ¬ (sizeL b : Int) = 9 by omega)]
        exact done (fun h => h9 h.1) h0
    by_cases hp : sizeL b = 0
    · simp only [if_neg (show ¬ (sizeL b : Int) > 0 by omega)]
      exact j1 (fun h => by omega)
    · simp only [if_pos (show (sizeL b : Int) > 0 by omega), if_pos (show (0 : Int) ≤ (sizeL b : Int) by omega), if_pos (show (sizeL b : Int) < (b.length : Int) by omega)]
      by_cases h0 : rd b (sizeL b : Int) = 0
      · simp only [show (rd b (sizeL b : Int) == 0) = true from by simp [h0]]
        refine ev_succ ?_
        simp only [uvar_Get.j1]
        simp only [if_true]
        unfold getL
        rw [if_neg (by omega), if_neg (by omega), if_pos (.inl ⟨by omega, h0⟩)]
        exact ev_some _
      · simp only [show (rd b (sizeL b : Int) == 0) = false from by simp [h0]]
        exact j1 (fun h => h0 h.2)
theorem lk_awake01 : Ev (fun k => annuletlaw01_awake.f k) true := Ev.of annuletlaw01_awake.mono (k := 20) (by decide +kernel)
theorem UvarBack_law : annuletlaw01_UvarBack.Pure := by
  intro a0 l1 hw0 _ _ hw
  have hb := bytes_of_wf hw
  have ha := wf_u64 hw0
  refine Ev.rounds (g := fun k => annuletlaw01_UvarBack.f k a0 l1) ?_
  unfold annuletlaw01_UvarBack.f
  by_cases h0 : (l1.length : Int) > 300
  · simp only [if_pos h0]
    exact ev_bind lk_awake01 (ev_some _)
  simp only [if_neg h0]
  have h10 := putL_len10 (n := a0.toNat) (by omega)
  refine ev_bind (lk_uvar_Put [] a0 ha.1 (by simp; omega)) ?_
  simp only [List.nil_append]
  simp only [if_pos (show (putL a0.toNat).length + l1.length < 140737488355328 by omega)]
  refine ev_bind (lk_uvar_Get _ (bytes_append (putL_bytes _) hb)) ?_
  rw [get_put a0.toNat (by omega) l1]
  simp only [if_true]
  simp only [if_pos (show ((a0.toNat : Nat) : Int) = a0 by omega)]
  refine ev_bind (lk_uvar_Size a0 ha.1 ha.2) ?_
  simp only [bne_self_eq_false]
  refine ev_succ ?_
  simp only [annuletlaw01_UvarBack.j0, Bool.false_eq_true, if_false]
  refine ev_bind (lk_uvar_Get l1 hb) ?_
  have hr := getL_range l1 hb
  by_cases he : (getL l1).2.2 = 0
  · have hp := put_get l1 hb (getL l1).1 (getL l1).2.1 (by rw [← he])
    have hl := putL_len10 (n := (getL l1).1.toNat) (by omega)
    simp only [if_pos he, if_pos hr.2.2.2.1, if_pos hr.2.2.1]
    refine ev_bind (lk_uvar_Put [] _ hr.1 (by simp; omega)) ?_
    simp only [List.nil_append, hp.2.2.2.2.2, if_true]
    exact ev_bind lk_awake01 (ev_some _)
  · simp only [if_neg he]
    exact ev_bind lk_awake01 (ev_some _)
end Go.Proofs.Ytdfjhfopcihcjaa.PUvarBack
namespace Go.Proofs.Ytdfjhfopcihcjaa.Pure
open Go.Proofs.Ytdfjhfopcihcjaa.PUvarBack
theorem UvarBack : annuletlaw01_UvarBack.Pure := UvarBack_law
end Go.Proofs.Ytdfjhfopcihcjaa.Pure
