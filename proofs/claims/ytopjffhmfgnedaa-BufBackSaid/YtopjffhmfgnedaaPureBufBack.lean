/- BufBack: numbers and texts that were put are read as they were, and nothing is left. No condition. -/
import Derived.Test.YtopjffhmfgnedaaPBufBackx3
import Derived.Test.YtopjffhmfgnedaaMath
set_option linter.unusedVariables false
set_option linter.unusedSimpArgs false
namespace Go.Proofs.Ytopjffhmfgnedaa.PBufBack
open Go.RowKit Go.Proofs.YtopjffhmfgnedaaW.PrintWords Go.Proofs.YtopjffhmfgnedaaW.PrintLast Go.Proofs.YtopjffhmfgnedaaW.PrintMore Annulet

/-! ### package uvar: the printed functions and the lists -/
theorem lk_uvar_Put0 (n : Nat) : ∀ b : List Int, b.length + (putL n).length ≤ 140737488355328 → Ev (fun k => uvar_Put.l0 k b (n : Int)) (b ++ putL n) := by
  induction n using putL.induct with
  | case1 n h =>
    intro b hb
    rw [putL_small h] at hb ⊢
    simp only [List.length_singleton] at hb
    refine ev_succ ?_
    simp only [uvar_Put.l0]
    simp only [if_neg (show ¬ (n : Int) ≥ 128 by omega), if_pos (show b.length < 140737488355328 by omega)]
    rw [show (n : Int) % 256 = n by omega]
    exact ev_some _
  | case2 n h ih =>
    intro b hb
    rw [putL_great h] at hb ⊢
    simp only [List.length_cons] at hb
    refine ev_succ ?_
    simp only [uvar_Put.l0]
    simp only [if_pos (show (n : Int) ≥ 128 by omega), if_pos (show b.length < 140737488355328 by omega)]
    rw [or128 (by omega)]
    have := ih (b ++ [(n : Int) % 128 + 128]) (by simp only [List.length_append, List.length_singleton]; omega)
    simp only [List.append_assoc, List.singleton_append] at this
    exact this
theorem lk_uvar_Put (b : List Int) (n : Int) (h0 : 0 ≤ n) (hl : b.length + (putL n.toNat).length ≤ 140737488355328) : Ev (fun k => uvar_Put.f k b n) (b ++ putL n.toNat) := by
  have := lk_uvar_Put0 n.toNat b hl
  rw [show ((n.toNat : Nat) : Int) = n by omega] at this
  exact this
theorem lk_uvar_last0 (b : List Int) (d : Nat) : ∀ i : Nat, i ≤ 10 → i ≤ b.length → min b.length 10 - i = d → (∀ j < i, 128 ≤ rd b (j : Int)) →
    Ev (fun k => uvar_last.l0 k b (mn (b.length : Int) 10) (i : Int)) (if sizeL b = 10 ∨ sizeL b = b.length then -1 else (sizeL b : Int)) := by
  have hm : mn (b.length : Int) 10 = (min b.length 10 : Nat) := by unfold mn; split <;> omega
  rw [hm]
  induction d with
  | zero =>
    intro i h1 h2 hd ha
    refine ev_succ ?_
    simp only [uvar_last.l0]
    simp only [if_neg (show ¬ (i : Int) < ((min b.length 10 : Nat) : Int) by omega)]
    have hs := sizeL_eq b i h1 h2 ha (fun _ _ => by omega)
    rw [hs, if_pos (by omega)]
    exact ev_some _
  | succ d ih =>
    intro i h1 h2 hd ha
    refine ev_succ ?_
    simp only [uvar_last.l0]
    simp only [if_pos (show (i : Int) < ((min b.length 10 : Nat) : Int) by omega), if_pos (show (0 : Int) ≤ (i : Int) by omega), if_pos (show (i : Int) < (b.length : Int) by omega)]
    by_cases hr : rd b (i : Int) < 128
    · simp only [if_pos hr]
      have hs := sizeL_eq b i h1 h2 ha (fun _ _ => hr)
      rw [hs, if_neg (by omega)]
      exact ev_some _
    · simp only [if_neg hr]
      rw [w64 (by omega) (by omega)]
      exact ih (i + 1) (by omega) (by omega) (by omega) (fun j hj => by
        by_cases e : j = i
        · subst e; omega
        · exact ha j (by omega))
theorem lk_uvar_last (b : List Int) : Ev (fun k => uvar_last.f k b) (if sizeL b = 10 ∨ sizeL b = b.length then -1 else (sizeL b : Int)) := by
  unfold uvar_last.f
  exact lk_uvar_last0 b _ 0 (by omega) (by omega) rfl (fun j hj => by omega)
theorem lk_uvar_Get0 (b : List Int) (hb : Bytes b) (x5 : Int) (h5 : 0 ≤ x5) (h5' : x5 < 9223372036854775807) (m : Nat) : ∀ acc : Int, 0 ≤ acc → m ≤ b.length → m ≤ 9223372036854775807 → valL (b.take m) + 128 ^ m * acc < 18446744073709551616 →
    Ev (fun k => uvar_Get.l0 k b x5 acc ((m : Int) - 1)) (valL (b.take m) + 128 ^ m * acc, x5 + 1, 0) := by
  induction m with
  | zero =>
    intro acc h0 hm hmm hv
    refine ev_succ ?_
    simp only [uvar_Get.l0]
    simp only [if_neg (show ¬ ((0 : Nat) : Int) - 1 ≥ 0 by omega)]
    rw [w64 (by omega) (by omega)]
    exact ev_eq (ev_some _) (by simp [valL])
  | succ m ih =>
    intro acc h0 hm hmm hv
    refine ev_succ ?_
    simp only [uvar_Get.l0]
    simp only [if_pos (show (((m + 1 : Nat) : Int) - 1 ≥ 0) by omega), if_pos (show (0 ≤ ((m + 1 : Nat) : Int) - 1) by omega), if_pos (show ((m + 1 : Nat) : Int) - 1 < (b.length : Int) by omega)]
    have e1 : ((m + 1 : Nat) : Int) - 1 = (m : Int) := by omega
    rw [e1]
    have hr := rd_byte hb (m : Int)
    unfold Byte at hr
    rw [and127 hr.1 hr.2]
    have ht := take_succ_rd b m (by omega)
    have hl : (b.take m).length = m := by rw [List.length_take]; omega
    have hv' : valL (b.take (m + 1)) + 128 ^ (m + 1) * acc = valL (b.take m) + 128 ^ m * (acc * 128 + rd b (m : Int) % 128) := by
      rw [ht, valL_append, hl]
      simp only [valL, Int.mul_zero, Int.add_zero]
      rw [Int.pow_succ, Int.mul_add, Int.mul_assoc, Int.mul_comm 128 acc]; omega
    rw [hv'] at hv ⊢
    have hv0 := valL_nonneg (b.take m)
    have hp : (1 : Int) ≤ 128 ^ m := by
      have : (0 : Int) < 128 ^ m := by exact_mod_cast Nat.pow_pos (by decide : 0 < 128)
      omega
    have hge : acc * 128 + rd b (m : Int) % 128 ≤ 128 ^ m * (acc * 128 + rd b (m : Int) % 128) := by
      have := Int.mul_le_mul_of_nonneg_right hp (show 0 ≤ acc * 128 + rd b (m : Int) % 128 by omega)
      omega
    rw [mod128_step h0 (by omega) (by omega) (by omega), w64 (by omega) (by omega)]
    exact ih _ (by omega) (by omega) (by omega) hv
theorem lk_uvar_Get (b : List Int) (hb : Bytes b) : Ev (fun k => uvar_Get.f k b) (getL b) := by
  unfold uvar_Get.f
  have hs := sizeL_le b
  refine ev_bind (lk_uvar_last b) ?_
  by_cases h : sizeL b = 10 ∨ sizeL b = b.length
  · rw [if_pos h]
    simp only [if_pos (show (-1 : Int) < 0 by omega)]
    refine ev_succ ?_
    simp only [uvar_Get.j0]
    by_cases hl : (b.length : Int) ≥ 10
    · rw [decide_eq_true hl]
      simp only [if_true]
      have : sizeL b = 10 := by omega
      unfold getL
      rw [if_pos this]
      exact ev_some _
    · rw [decide_eq_false hl]
      simp only [Bool.false_eq_true, if_false, if_pos (show (-1 : Int) < 0 by omega)]
      unfold getL
      rw [if_neg (by omega), if_pos (by omega)]
      exact ev_some _
  · rw [if_neg h]
    simp only [if_neg (show ¬ (sizeL b : Int) < 0 by omega)]
    refine ev_succ ?_
    simp only [uvar_Get.j0]
    simp only [Bool.false_eq_true, if_false, if_neg (show ¬ (sizeL b : Int) < 0 by omega)]
    have done : ¬ (sizeL b = 9 ∧ rd b (sizeL b) > 1) → ¬ (0 < sizeL b ∧ rd b (sizeL b) = 0) → Ev (fun k => uvar_Get.j2 k b (sizeL b : Int)) (getL b) := fun h9 h0 => by
      refine ev_succ ?_
      simp only [uvar_Get.j2]
      have hv := getL_val_lt b hb h9 (by omega) (by omega)
      have := lk_uvar_Get0 b hb (sizeL b) (by omega) (by omega) (sizeL b + 1) 0 (by omega) (by omega) (by omega) (by omega)
      rw [show (((sizeL b + 1 : Nat) : Int) - 1) = (sizeL b : Int) by omega] at this
      refine ev_eq this ?_
      unfold getL
      rw [if_neg (by omega), if_neg (by omega), if_neg (fun hc => hc.elim h0 h9), Int.mul_zero, Int.add_zero]
    have j1 : ¬ (0 < sizeL b ∧ rd b (sizeL b) = 0) → Ev (fun k => uvar_Get.j1 k b (sizeL b : Int) false) (getL b) := fun h0 => by
      refine ev_succ ?_
      simp only [uvar_Get.j1]
      simp only [Bool.false_eq_true, if_false]
      by_cases h9 : sizeL b = 9
      · simp only [if_pos (show (sizeL b : Int) = 9 by omega), if_pos (show (0 : Int) ≤ (sizeL b : Int) by omega), if_pos (show (sizeL b : Int) < (b.length : Int) by omega)]
        by_cases h1 : rd b (sizeL b : Int) > 1
        · simp only [if_pos h1]
          unfold getL
          rw [if_neg (by omega), if_neg (by omega), if_pos (.inr ⟨h9, h1⟩)]
          exact ev_some _
        · simp only [if_neg h1]
          exact done (fun h => h1 h.2) h0
      · simp only [if_neg (show ¬ (sizeL b : Int) = 9 by omega)]
        exact done (fun h => h9 h.1) h0
    by_cases hp : sizeL b = 0
    · simp only [if_neg (show ¬ (sizeL b : Int) > 0 by omega)]
      exact j1 (fun h => by omega)
    · simp only [if_pos (show (sizeL b : Int) > 0 by omega), if_pos (show (0 : Int) ≤ (sizeL b : Int) by omega), if_pos (show (sizeL b : Int) < (b.length : Int) by omega)]
      by_cases h0 : rd b (sizeL b : Int) = 0
      · simp only [show (rd b (sizeL b : Int) == 0) = true from by simp [h0]]
        refine ev_succ ?_
        simp only [uvar_Get.j1]
        simp only [if_true]
        unfold getL
        rw [if_neg (by omega), if_neg (by omega), if_pos (.inl ⟨by omega, h0⟩)]
        exact ev_some _
      · simp only [show (rd b (sizeL b : Int) == 0) = false from by simp [h0]]
        exact j1 (fun h => h0 h.2)
theorem lk_buf_Fix0 (x s : Nat) (hs : s ≤ 8) : ∀ (c : Nat) (l : List Int), c ≤ s → l.length + c < 100000000000000 → Ev (fun k => buf_Fix.l0 k l (x : Int) ((c : Int) - 1)) (l ++ beL c x) := by
  intro c
  induction c with
  | zero =>
    intro l hc hl
    refine ev_const fun k => ?_
    rw [buf_Fix.l0, if_neg (by omega), beL, List.append_nil]
  | succ c ih =>
    intro l hc hl
    refine ev_succ ?_
    simp only [buf_Fix.l0]
    rw [show ((c + 1 : Nat) : Int) - 1 = (c : Int) by omega, w64 (n := 8 * (c : Int)) (by omega) (by omega), w64 (n := (c : Int) - 1) (by omega) (by omega), shr8_byte x c (by omega)]
    simp only [if_pos (show (c : Int) ≥ 0 by omega), if_pos (show (0 : Int) ≤ 8 * (c : Int) by omega), if_pos (show l.length < 140737488355328 by omega)]
    have := ih (l ++ [((x / 256 ^ c % 256 : Nat) : Int)]) (by omega) (by simp; omega)
    rw [beL_head]
    rw [List.append_assoc] at this
    exact this
theorem lk_buf_Fix (l : List Int) (x s : Nat) (h1 : 1 ≤ s) (h8 : s ≤ 8) (hl : l.length < 10000000000000) : Ev (fun k => buf_Fix.f k l (x : Int) (s : Int)) (l ++ beL s x) := by
  unfold buf_Fix.f
  simp only [if_neg (show ¬ (s : Int) < 1 by omega), decide_eq_false (show ¬ (s : Int) > 8 by omega)]
  refine ev_succ ?_
  simp only [buf_Fix.j0]
  rw [w64 (by omega) (by omega)]
  simp only [Bool.false_eq_true, if_false]
  exact lk_buf_Fix0 x s h8 s l (Nat.le_refl _) (by omega)
theorem lk_buf_Text (l : List Int) (s : ByteArray) (hs : s.size ≤ 1000000000) (hl : l.length ≤ 1000000000) : Ev (fun k => buf_Text.f k l s) (l ++ putL s.size ++ bytesOf s) := by
  have h10 := putL_len10 (n := s.size) (by omega)
  unfold buf_Text.f
  rw [wu64_id (n := (s.size : Int)) (by omega) (by omega)]
  refine ev_bind (lk_uvar_Put l (s.size : Int) (by omega) (by rw [Int.toNat_natCast]; omega)) ?_
  rw [Int.toNat_natCast]
  simp only [if_pos (show (l ++ putL s.size).length + s.size < 140737488355328 by rw [List.length_append]; omega)]
  exact ev_some _
theorem lk_rd_Text (m : Bool) (l : List Int) (hb : Bytes l) (most : Int) (h0 : -9223372036854775808 ≤ most) (h1 : most ≤ 9223372036854775807) (met : Int) :
    Ev (fun k => buf_Reader_Text.f k m l met most) ((textR most l met (getL l).1 (getL l).2.1 (getL l).2.2).1, m, (textR most l met (getL l).1 (getL l).2.1 (getL l).2.2).2.1, (textR most l met (getL l).1 (getL l).2.1 (getL l).2.2).2.2) := by
  have hr := getL_range l hb
  unfold buf_Reader_Text.f
  refine ev_bind (lk_uvar_Get l hb) ?_
  simp only [if_pos (show 0 ≤ (getL l).2.1 ∧ (getL l).2.1 ≤ (l.length : Int) ∧ 0 ≤ (getL l).1 ∧ -9223372036854775808 ≤ most ∧ most ≤ 9223372036854775807 from ⟨hr.2.2.1, hr.2.2.2.1, hr.1, h0, h1⟩)]
  exact ev_some _
theorem textR_put (s : ByteArray) (hs : s.size ≤ 1000000000) (R : List Int) (most : Int) (hm : (s.size : Int) ≤ most) :
    textR most (putL s.size ++ (bytesOf s ++ R)) 0 (getL (putL s.size ++ (bytesOf s ++ R))).1 (getL (putL s.size ++ (bytesOf s ++ R))).2.1 (getL (putL s.size ++ (bytesOf s ++ R))).2.2 = (s, R, 0) := by
  rw [get_put s.size (by omega)]
  have hn : (bytesOf s).length = s.size := bytesOf_length s
  unfold textR
  simp only [ne_eq, not_true_eq_false, if_false]
  rw [if_neg (by omega), if_neg (by simp only [List.length_append]; omega)]
  rw [Int.toNat_natCast, Int.toNat_natCast, List.drop_left' rfl, List.take_left' hn, List.drop_left' hn, str_bytesOf]
theorem backL_eq : ∀ (m : Nat) (x : Nat), x < 18446744073709551616 → backL m (x : Int) = ((x * 256 ^ m % 18446744073709551616 : Nat) : Int)
  | 0, x, h => by rw [backL, Nat.pow_zero, Nat.mul_one, Nat.mod_eq_of_lt h]
  | m + 1, x, h => by
    rw [backL, wu64]
    rw [show ((x : Int) * 256 % 18446744073709551616) = ((x * 256 % 18446744073709551616 : Nat) : Int) by omega]
    rw [backL_eq m _ (Nat.mod_lt _ (by decide))]
    congr 1
    rw [Nat.mod_mul_mod, Nat.mul_assoc, Nat.pow_succ, Nat.mul_comm 256]
theorem BufBack_law : annuletlaw06_BufBack.Pure := by
  intro n size s t hw0 hw1 _ _
  have hn := wf_u64 hw0
  refine Ev.rounds (g := fun k => annuletlaw06_BufBack.f k n size s t) ?_
  unfold annuletlaw06_BufBack.f
  by_cases c : (s.size : Int) > 300 ∨ (t.size : Int) > 300 ∨ size < 1 ∨ size > 8
  · simp only [if_pos c]
    exact ev_some _
  simp only [if_neg c]
  obtain ⟨x, rfl⟩ := Int.eq_ofNat_of_zero_le hn.1
  obtain ⟨z, rfl⟩ := Int.eq_ofNat_of_zero_le (show 0 ≤ size by omega)
  have hs : s.size ≤ 300 := by omega
  have ht : t.size ≤ 300 := by omega
  have ls := putL_len10 (n := s.size) (by omega)
  have lt := putL_len10 (n := t.size) (by omega)
  have bs := bytesOf_length s
  have bt_ := bytesOf_length t
  refine ev_bind (lk_buf_Text [] s (by omega) (by simp)) ?_
  refine ev_bind (lk_buf_Fix _ x z (by omega) (by omega) (by simp only [List.length_append, List.length_nil]; omega)) ?_
  refine ev_bind (lk_buf_Text _ t (by omega) (by simp only [List.length_append, List.length_nil, beL_len]; omega)) ?_
  have e : [] ++ putL s.size ++ bytesOf s ++ beL z x ++ putL t.size ++ bytesOf t = putL s.size ++ (bytesOf s ++ (beL z x ++ (putL t.size ++ (bytesOf t ++ [])))) := by simp
  rw [e]
  simp only [if_pos (show (putL s.size ++ (bytesOf s ++ (beL z x ++ (putL t.size ++ (bytesOf t ++ []))))).length < 140737488355328 by simp only [List.length_append, List.length_nil, beL_len]; omega)]
  have B3 : Bytes (putL t.size ++ (bytesOf t ++ [])) := bytes_append (putL_bytes _) (bytes_append (bytesOf_bytes _) bytes_nil)
  have B1 : Bytes (putL s.size ++ (bytesOf s ++ (beL z x ++ (putL t.size ++ (bytesOf t ++ []))))) := bytes_append (putL_bytes _) (bytes_append (bytesOf_bytes _) (bytes_append (beL_bytes _ _) B3))
  refine ev_bind (lk_rd_Text true _ B1 (s.size : Int) (by omega) (by omega) 0) ?_
  rw [textR_put s (by omega) _ _ (Int.le_refl _)]
  simp only
  unfold buf_Reader_Fix.f
  simp only [Option.bind_some]
  have hF : fixR (z : Int) (beL z x ++ (putL t.size ++ (bytesOf t ++ []))) 0 = (((x % 256 ^ z : Nat) : Int), putL t.size ++ (bytesOf t ++ []), 0) := by
    unfold fixR
    simp only [ne_eq, not_true_eq_false, if_false]
    rw [if_neg (by omega), if_neg (by rw [List.length_append, beL_len]; omega), Int.toNat_natCast, List.take_left' (beL_len z x), List.drop_left' (beL_len z x)]
    rw [beI_zero _ (beL_bytes _ _) (by rw [beL_len]; omega), ofBe_be, Nat.zero_mul, Nat.zero_add]
  rw [hF]
  simp only
  refine ev_bind (lk_rd_Text true _ B3 300 (by omega) (by omega) 0) ?_
  rw [textR_put t (by omega) _ _ (by omega)]
  simp only
  have hB : backL (8 - (z : Int)).toNat ((x % 256 ^ z : Nat) : Int) = backL (8 - (z : Int)).toNat (x : Int) := by
    have hp : 0 < 256 ^ z := Nat.pow_pos (by decide)
    have hx : x < 18446744073709551616 := by have := hn.2; omega
    have hle := Nat.mod_le x (256 ^ z)
    rw [show (8 - (z : Int)).toNat = 8 - z by omega, backL_eq _ _ (by omega), backL_eq _ _ hx]
    congr 1
    have h8 : 18446744073709551616 = 256 ^ z * 256 ^ (8 - z) := by
      rw [← Nat.pow_add, show z + (8 - z) = 8 by omega]
    rw [h8, Nat.mul_mod_mul_right, Nat.mul_mod_mul_right, Nat.mod_mod]
  rw [if_pos ⟨trivial, hB, trivial, by unfold endR; simp⟩]
  exact ev_some _
end Go.Proofs.Ytopjffhmfgnedaa.PBufBack
namespace Go.Proofs.Ytopjffhmfgnedaa.Pure
open Go.Proofs.Ytopjffhmfgnedaa.PBufBack
theorem BufBack : annuletlaw06_BufBack.Pure := BufBack_law
end Go.Proofs.Ytopjffhmfgnedaa.Pure
