/- SplitBack: all parts may be, none has more bytes than it may have, and their bodies are the body that was split. No condition. -/
import Derived.Test.YtplloiinedbnlaaPSplitBackx7
import Derived.Test.YtplloiinedbnlaaMath
set_option linter.unusedVariables false
set_option linter.unusedSimpArgs false
namespace Go.Proofs.Ytplloiinedbnlaa.PSplitBack
open Go.RowKit Go.Proofs.YtplloiinedbnlaaW.PrintWords Go.Proofs.YtplloiinedbnlaaW.PrintLast Go.Proofs.YtplloiinedbnlaaW.PrintMore Annulet

/-! ### package crc -/
theorem lk_crc_Step (s : Int) (l : List Int) (h0 : 0 ≤ s) (h1 : s < 4294967296) (hb : Bytes l) : crc_Step.f s l = some ((stepN s.toNat l : Nat) : Int) := by
  obtain ⟨n, rfl⟩ := Int.eq_ofNat_of_zero_le h0
  unfold crc_Step.f
  rw [Int.toNat_natCast]
  split
  · rw [stepSmall_nat l hb n (by omega)]
  · rw [stepTab_nat l hb n (by omega)]
theorem lk_crc_Sum (l : List Int) (hb : Bytes l) : crc_Sum.f l = some ((sumN l : Nat) : Int) := by
  unfold crc_Sum.f
  rw [lk_crc_Step 4294967295 l (by omega) (by omega) hb]
  have hl := stepN_lt l hb 4294967295 (by decide)
  simp only [Option.bind_some]
  rw [show (4294967295 : Int).toNat = 4294967295 from rfl, show (4294967295 : Int) = ((4294967295 : Nat) : Int) from rfl, u32_xor_nat _ _ (by decide) hl]
  rfl
theorem lk_ref02_step (s : Nat) (b : Bool) (h : s < 4294967296) : annuletref02_step.f (s : Int) b = some ((refN s b : Nat) : Int) := by
  unfold annuletref02_step.f refN
  rw [tmod_nat (by omega), tdiv_nat (by omega), show (s : Int) / 2 % 4294967296 = ((s / 2 : Nat) : Int) by omega, show (2197175160 : Int) = ((2197175160 : Nat) : Int) from rfl, u32_xor_nat _ _ (by omega) (by decide)]
  rcases Nat.mod_two_eq_zero_or_one s with h0 | h0
  · have hi : ¬ (s : Int) % 2 = 1 := by omega
    cases b <;> simp [h0, hi]
  · have hi : (s : Int) % 2 = 1 := by omega
    cases b <;> simp [h0, hi]
theorem lk_ref02_Step1 (l : List Int) (i : Nat) (hi : i < l.length) (hl : l.length < 1000000000000) (r : Int) (d : Nat) : ∀ (s c j : Nat), j ≤ 8 → 8 - j = d → s < 4294967296 → c < 256 →
    Ev (fun k => annuletref02_Step.l0 k ((refIt (8 - j) s c : Nat) : Int) l ((i + 1 : Nat) : Int)) r → Ev (fun k => annuletref02_Step.l1 k (s : Int) l (i : Int) (c : Int) (j : Int)) r := by
  induction d with
  | zero =>
    intro s c j hj hd hs hc h
    obtain rfl : j = 8 := by omega
    refine ev_succ ?_
    simp only [annuletref02_Step.l1]
    rw [w64 (n := (i : Int) + 1) (by omega) (by omega)]
    simp only [if_neg (show ¬ ((8 : Nat) : Int) < 8 by omega)]
    exact h
  | succ d ih =>
    intro s c j hj hd hs hc h
    refine ev_succ ?_
    simp only [annuletref02_Step.l1]
    rw [tmod_nat (by omega), tdiv_nat (by omega), w64 (n := (c : Int) / 2) (by omega) (by omega), w64 (n := (j : Int) + 1) (by omega) (by omega), show ((c : Int) % 2 == 1) = decide (c % 2 = 1) by rw [Bool.eq_iff_iff]; simp; omega, lk_ref02_step s _ hs]
    simp only [if_pos (show (j : Int) < 8 by omega), Option.bind_some]
    have := ih (refN s (decide (c % 2 = 1))) (c / 2) (j + 1) (by omega) (by omega) (refN_lt hs _) (by omega) (by
      rw [show 8 - j = (8 - (j + 1)) + 1 by omega, refIt] at h
      exact h)
    rw [show ((c / 2 : Nat) : Int) = (c : Int) / 2 by omega] at this
    exact this
theorem lk_ref02_Step0 (l : List Int) (hb : Bytes l) (hl : l.length < 1000000000000) (d : Nat) : ∀ (i s : Nat), i ≤ l.length → l.length - i = d → s < 4294967296 →
    Ev (fun k => annuletref02_Step.l0 k (s : Int) l (i : Int)) ((stepN s (l.drop i) : Nat) : Int) := by
  induction d with
  | zero =>
    intro i s hi hd hs
    rw [List.drop_eq_nil_of_le (by omega)]
    refine ev_succ ?_
    simp only [annuletref02_Step.l0]
    simp only [if_neg (show ¬ (i : Int) < (l.length : Int) by omega)]
    exact ev_some _
  | succ d ih =>
    intro i s hi hd hs
    have hr := rd_byte hb (i : Int)
    unfold Byte at hr
    have hx : s ^^^ (rd l (i : Int)).toNat < 4294967296 := Nat.xor_lt_two_pow (n := 32) (by omega) (by omega)
    rw [drop_rd l i (by omega), stepN]
    refine ev_succ ?_
    simp only [annuletref02_Step.l0]
    rw [w64 (by omega) (by omega)]
    simp only [if_pos (show (i : Int) < (l.length : Int) by omega), if_pos (show (0 : Int) ≤ (i : Int) by omega)]
    have := lk_ref02_Step1 l i (by omega) hl ((stepN (iterN bitN 8 (s ^^^ (rd l (i : Int)).toNat)) (l.drop (i + 1)) : Nat) : Int) 8 s (rd l (i : Int)).toNat 0 (by omega) rfl hs (by omega) (by
      rw [show 8 - 0 = 8 from rfl, refIt_byte _ _ (by omega)]
      exact ih (i + 1) _ (by omega) (by omega) (iterN_lt hx 8))
    rw [show (((rd l (i : Int)).toNat : Nat) : Int) = rd l (i : Int) by omega] at this
    exact this
theorem lk_ref02_Step (s : Int) (l : List Int) (h0 : 0 ≤ s) (h1 : s < 4294967296) (hb : Bytes l) (hl : l.length < 1000000000000) : Ev (fun k => annuletref02_Step.f k s l) ((stepN s.toNat l : Nat) : Int) := by
  unfold annuletref02_Step.f
  have := lk_ref02_Step0 l hb hl _ 0 s.toNat (by omega) rfl (by omega)
  rw [show ((s.toNat : Nat) : Int) = s by omega] at this
  exact this
theorem lk_ref02_Sum (l : List Int) (hb : Bytes l) (hl : l.length < 1000000000000) : Ev (fun k => annuletref02_Sum.f k l) ((sumN l : Nat) : Int) := by
  unfold annuletref02_Sum.f
  refine ev_bind (lk_ref02_Step 4294967295 l (by omega) (by omega) hb hl) ?_
  have h := stepN_lt l hb 4294967295 (by decide)
  rw [show (4294967295 : Int).toNat = 4294967295 from rfl]
  unfold sumN
  rw [xor_full h]
  rw [show (4294967295 - ((stepN 4294967295 l : Nat) : Int)) % 4294967296 = ((4294967295 - stepN 4294967295 l : Nat) : Int) by omega]
  exact ev_some _
theorem lk_buf_Fix0 (x s : Nat) (hs : s ≤ 8) : ∀ (c : Nat) (l : List Int), c ≤ s → l.length + c < 100000000000000 → Ev (fun k => buf_Fix.l0 k l (x : Int) ((c : Int) - 1)) (l ++ beL c x) := by
  intro c
  induction c with
  | zero =>
    intro l hc hl
    refine ev_const fun k => ?_
    rw [buf_Fix.l0, if_neg (by omega), beL, List.append_nil]
  | succ c ih =>
    intro l hc hl
    refine ev_succ ?_
    simp only [buf_Fix.l0]
    rw [show ((c + 1 : Nat) : Int) - 1 = (c : Int) by omega, w64 (n := 8 * (c : Int)) (by omega) (by omega), w64 (n := (c : Int) - 1) (by omega) (by omega), shr8_byte x c (by omega)]
    simp only [if_pos (show (c : Int) ≥ 0 by omega), if_pos (show (0 : Int) ≤ 8 * (c : Int) by omega), if_pos (show l.length < 140737488355328 by omega)]
    have := ih (l ++ [((x / 256 ^ c % 256 : Nat) : Int)]) (by omega) (by simp; omega)
    rw [beL_head]
    rw [List.append_assoc] at this
    exact this
theorem lk_buf_Fix (l : List Int) (x s : Nat) (h1 : 1 ≤ s) (h8 : s ≤ 8) (hl : l.length < 10000000000000) : Ev (fun k => buf_Fix.f k l (x : Int) (s : Int)) (l ++ beL s x) := by
  unfold buf_Fix.f
  simp only [if_neg (show ¬ (s : Int) < 1 by omega), decide_eq_false (show ¬ (s : Int) > 8 by omega)]
  refine ev_succ ?_
  simp only [buf_Fix.j0]
  rw [w64 (by omega) (by omega)]
  simp only [Bool.false_eq_true, if_false]
  exact lk_buf_Fix0 x s h8 s l (Nat.le_refl _) (by omega)
theorem lk_reverse4 (a b c d : Int) : Ev (fun k => slices_Reverse_byte_byte.f k [a, b, c, d]) [d, c, b, a] := by
  unfold slices_Reverse_byte_byte.f
  have e1 : wrap64 ((([a, b, c, d] : List Int).length : Int) - 1) = 3 := by rw [w64 (by simp) (by simp)]; rfl
  have e2 : wrap64 (1 : Int) = 1 := w64 (by omega) (by omega)
  have e3 : wrap64 (2 : Int) = 2 := w64 (by omega) (by omega)
  rw [e1]
  refine ⟨3, fun k hk => ?_⟩
  obtain ⟨k, rfl⟩ : ∃ m, k = m + 3 := ⟨k - 3, by omega⟩
  simp [slices_Reverse_byte_byte.l0, e2, e3, rd]
theorem lk_gram_sum (l : List Int) (hb : Bytes l) : Ev (fun k => gram_sum.f k l) (leL 4 (sumN l)) := by
  unfold gram_sum.f
  rw [lk_crc_Sum l hb]
  have hs := sumN_lt l hb
  simp only [Option.bind_some]
  rw [wu64_id (by omega) (by omega)]
  refine ev_bind (lk_buf_Fix [] (sumN l) 4 (by omega) (by omega) (by simp)) ?_
  have e : ([] : List Int) ++ beL 4 (sumN l) = [((sumN l / 256 / 256 / 256 % 256 : Nat) : Int), ((sumN l / 256 / 256 % 256 : Nat) : Int), ((sumN l / 256 % 256 : Nat) : Int), ((sumN l % 256 : Nat) : Int)] := by simp [beL]
  rw [e]
  refine ev_bind (lk_reverse4 _ _ _ _) ?_
  exact ev_eq (ev_some _) (by simp [leL])
theorem lk_gram_Right (k v e i x c : Int) (body : List Int) : Ev (fun n => gram_Right.f n k v e i x c body) (rightG k x c body.length) := by
  unfold gram_Right.f
  have hj : ∀ b, b = decide (k < 1 ∨ 2 < k) → Ev (fun n => gram_Right.j0 n b k v e i x c body) (rightG k x c body.length) := by
    intro b hb
    refine ev_const fun n => ?_
    rw [gram_Right.j0]
    unfold rightG
    by_cases h : k < 1 ∨ 2 < k
    · rw [hb, decide_eq_true h, if_pos rfl, if_pos h]
    · rw [hb, decide_eq_false h, if_neg (by decide), if_neg h]
      by_cases h2 : x ≥ c
      · rw [if_pos h2, if_pos h2]
      · rw [if_neg h2, if_neg h2]
        by_cases h3 : (body.length : Int) > 65487
        · rw [if_pos h3, if_pos (by omega)]
        · rw [if_neg h3, if_neg (by omega)]
  by_cases h1 : k = 1
  · simp only [if_pos h1]
    exact hj false (decide_eq_false (by omega)).symm
  · simp only [if_neg h1]
    by_cases h2 : k = 2
    · have : (k != 2) = false := by rw [h2]; rfl
      rw [this]
      exact hj false (decide_eq_false (by omega)).symm
    · have : (k != 2) = true := by simp [h2]
      rw [this]
      exact hj true (decide_eq_true (by omega)).symm
theorem lk_gram_Put (k v e i x c : Int) (body : List Int) (hk : Byte k) (hv : Byte v) (he : 0 ≤ e ∧ e < 4294967296) (hi : 0 ≤ i ∧ i < 4294967296) (hx : 0 ≤ x ∧ x < 65536) (hc : 0 ≤ c ∧ c < 65536) (hb : Bytes body) (hl : body.length < 1000000000) :
    Ev (fun n => gram_Put.f n k v e i x c body) (if rightG k x c body.length = 0 then (bytesG k v e i x c body, 0) else ([], rightG k x c body.length)) := by
  unfold gram_Put.f
  refine ev_bind (lk_gram_Right k v e i x c body) ?_
  by_cases hr : rightG k x c body.length = 0
  · simp only [if_pos hr]
    refine ev_bind (lk_buf_Fix [] 42830 2 (by omega) (by omega) (by simp)) ?_
    simp only [Option.bind_some]
    have e0 : ([] : List Int) ++ beL 2 42830 = [167, 78] := by simp [beL]
    rw [e0, wu64_id (n := e) (by omega) (by omega), wu64_id (n := i) (by omega) (by omega), wu64_id (n := x) (by omega) (by omega), wu64_id (n := c) (by omega) (by omega)]
    have ee : ((e.toNat : Nat) : Int) = e := by omega
    have ei : ((i.toNat : Nat) : Int) = i := by omega
    have ex : ((x.toNat : Nat) : Int) = x := by omega
    have ec : ((c.toNat : Nat) : Int) = c := by omega
    have f1 := lk_buf_Fix ([167, 78] ++ [k, v]) e.toNat 4 (by omega) (by omega) (by simp)
    have f2 := lk_buf_Fix ([167, 78] ++ [k, v] ++ beL 4 e.toNat) i.toNat 4 (by omega) (by omega) (by simp [beL_len])
    have f3 := lk_buf_Fix ([167, 78] ++ [k, v] ++ beL 4 e.toNat ++ beL 4 i.toNat) x.toNat 2 (by omega) (by omega) (by simp [beL_len])
    have f4 := lk_buf_Fix ([167, 78] ++ [k, v] ++ beL 4 e.toNat ++ beL 4 i.toNat ++ beL 2 x.toNat) c.toNat 2 (by omega) (by omega) (by simp [beL_len])
    rw [ee] at f1
    rw [ei] at f2
    rw [ex] at f3
    rw [ec] at f4
    simp only [if_pos (show ([167, 78] : List Int).length + ([k, v] : List Int).length < 140737488355328 by simp)]
    refine ev_bind f1 ?_
    refine ev_bind f2 ?_
    refine ev_bind f3 ?_
    refine ev_bind f4 ?_
    have eh : [167, 78] ++ [k, v] ++ beL 4 e.toNat ++ beL 4 i.toNat ++ beL 2 x.toNat ++ beL 2 c.toNat = headG k v e i x c := rfl
    rw [eh]
    simp only [if_pos (show (headG k v e i x c).length + body.length < 140737488355328 by rw [headG_len]; omega), Option.bind_some]
    have hB := bytes_append (headG_bytes hk hv e i x c) hb
    refine ev_bind (lk_gram_sum _ hB) ?_
    simp only [if_pos (show (headG k v e i x c ++ body).length + (leL 4 (sumN (headG k v e i x c ++ body))).length < 140737488355328 by rw [List.length_append, headG_len, leL_len]; omega)]
    exact ev_some _
  · simp only [if_neg hr]
    exact ev_some _
theorem lk_ref18_Sum0 (d : Nat) : ∀ (i x : Nat) (acc : List Int), i + d = 4 → x < 4294967296 → acc.length + d < 1000000000000 → Ev (fun k => annuletref18_Sum.l0 k (x : Int) acc (i : Int)) (acc ++ leL d x) := by
  induction d with
  | zero =>
    intro i x acc hi hx hl
    refine ev_const fun k => ?_
    rw [annuletref18_Sum.l0, if_neg (by omega), leL, List.append_nil]
  | succ d ih =>
    intro i x acc hi hx hl
    refine ev_succ ?_
    simp only [annuletref18_Sum.l0]
    rw [tmod_nat (by omega), tdiv_nat (by omega), w64 (by omega) (by omega)]
    simp only [if_pos (show (i : Int) < 4 by omega), if_pos (show acc.length < 140737488355328 by omega)]
    have e1 : (x : Int) / 256 % 4294967296 = ((x / 256 : Nat) : Int) := by omega
    have e2 : (x : Int) % 256 % 256 = ((x % 256 : Nat) : Int) := by omega
    rw [e1, e2]
    have := ih (i + 1) (x / 256) (acc ++ [((x % 256 : Nat) : Int)]) (by omega) (by omega) (by simp; omega)
    rw [List.append_assoc] at this
    exact this
theorem lk_ref18_Sum (l : List Int) (hb : Bytes l) (hl : l.length < 1000000000000) : Ev (fun k => annuletref18_Sum.f k l) (leL 4 (sumN l)) := by
  unfold annuletref18_Sum.f
  refine ev_bind (lk_ref02_Sum l hb hl) ?_
  exact lk_ref18_Sum0 4 0 (sumN l) [] (by omega) (sumN_lt l hb) (by simp)
theorem lk_split_Room (m : Int) : split_Room.f m = some (roomI m) := by
  unfold split_Room.f roomI
  by_cases h1 : m < 32
  · rw [if_pos h1, if_neg (by omega)]
  · rw [if_neg h1]
    by_cases h2 : m > 65507
    · rw [if_pos h2, if_neg (by omega)]
    · rw [if_neg h2, if_pos (by omega), w64 (by omega) (by omega)]
theorem lk_split_Count (m n : Int) (h0 : -9223372036854775808 ≤ n) (h1 : n < 9223372036854775808) : Ev (fun k => split_Count.f k m n) (countI m n) := by
  unfold split_Count.f
  rw [lk_split_Room]
  simp only [Option.bind_some]
  have hj : ∀ b, b = decide (roomI m = 0 ∨ n < 0) → Ev (fun k => split_Count.j0 k n (roomI m) b) (countI m n) := by
    intro b hb
    refine ev_const fun k => ?_
    rw [split_Count.j0]
    unfold countI
    by_cases hc : roomI m = 0 ∨ n < 0
    · rw [hb, decide_eq_true hc, if_pos rfl, if_pos hc]
    · have hr := room_range m
      rw [hb, decide_eq_false hc, if_neg (by decide), if_neg hc, if_neg (by omega), many_prog n (roomI m) (by omega) h1 (by omega)]
      by_cases h5 : manyI n (roomI m) > 65535
      · rw [if_pos h5, if_pos h5]
      · rw [if_neg h5, if_neg h5]
  by_cases h : roomI m = 0
  · simp only [if_pos h]
    exact hj true (by rw [decide_eq_true (Or.inl h)])
  · simp only [if_neg h]
    exact hj _ (decide_eq_decide.2 (by simp [h]))
theorem lk_split_Split0 (m many k v e i : Int) (body : List Int) (hr : 12 ≤ roomI m) (hr' : roomI m ≤ 65487) (hm : many ≤ 65535) (hmany : many = manyI body.length (roomI m)) (hk : 1 ≤ k ∧ k ≤ 2) (hv : Byte v) (he : 0 ≤ e ∧ e < 4294967296) (hi : 0 ≤ i ∧ i < 4294967296) (hb : Bytes body) (hl : body.length < 1000000000)
    (x y : Int) (d : Nat) : ∀ (j : Nat) (acc : List (List Int)), (j : Int) ≤ many → (many - j).toNat = d → acc.length ≤ j →
    Ev (fun n => split_Split.l0 n m many acc (body.drop (j * (roomI m).toNat)) many (j : Int) k v e i x y body) (acc ++ (List.range' j d).map (partG (roomI m).toNat many k v e i body), 0) := by
  induction d with
  | zero =>
    intro j acc hj hd ha
    refine ev_const fun n => ?_
    rw [split_Split.l0, if_neg (by omega)]
    simp
  | succ d ih =>
    intro j acc hj hd ha
    refine ev_succ ?_
    simp only [split_Split.l0]
    have hat := many_at (show 0 < roomI m by omega) (j := j) (n := body.length) (by omega)
    generalize hR : body.drop (j * (roomI m).toNat) = R
    have hRl : R.length = body.length - j * (roomI m).toNat := by rw [← hR, List.length_drop]
    have hmn : mn (roomI m) (R.length : Int) = ((min (roomI m).toNat R.length : Nat) : Int) := by unfold mn; split <;> omega
    rw [lk_split_Room, w64 (n := (j : Int) + 1) (by omega) (by omega), wu16_id (n := (j : Int)) (by omega) (by omega), wu16_id (n := many) (by omega) (by omega)]
    simp only [if_pos (show (j : Int) < many by omega), Option.bind_some]
    rw [hmn, Int.toNat_natCast]
    have hT : R.take (min (roomI m).toNat R.length) = R.take (roomI m).toNat := by
      by_cases h : (roomI m).toNat ≤ R.length
      · rw [Nat.min_eq_left h]
      · rw [Nat.min_eq_right (by omega), List.take_of_length_le (Nat.le_refl _), List.take_of_length_le (by omega)]
    have hTl : (R.take (roomI m).toNat).length = min (roomI m).toNat R.length := List.length_take
    rw [hT, hTl, Int.toNat_natCast]
    simp only [if_pos (show (0 : Int) ≤ ((min (roomI m).toNat R.length : Nat) : Int) by omega), if_pos (show ((min (roomI m).toNat R.length : Nat) : Int) ≤ (R.length : Int) by omega)]
    have hTb : Bytes (R.take (roomI m).toNat) := bytes_take (by rw [← hR]; exact bytes_drop hb _) _
    have hput := lk_gram_Put k v e i (j : Int) many (R.take (roomI m).toNat) ⟨by omega, by omega⟩ hv he hi ⟨by omega, by omega⟩ ⟨by omega, by omega⟩ hTb (by rw [hTl]; omega)
    have hg : rightG k (j : Int) many (R.take (roomI m).toNat).length = 0 := by
      unfold rightG
      rw [if_neg (by omega), if_neg (by omega), if_neg (by rw [hTl]; omega)]
    rw [if_pos hg] at hput
    refine ev_bind hput ?_
    simp only [if_true, if_pos (show acc.length < 5864062014805 by omega)]
    have hD : R.drop (min (roomI m).toNat R.length) = body.drop ((j + 1) * (roomI m).toNat) := by
      have e1 : R.drop (min (roomI m).toNat R.length) = R.drop (roomI m).toNat := by
        by_cases h : (roomI m).toNat ≤ R.length
        · rw [Nat.min_eq_left h]
        · rw [Nat.min_eq_right (by omega), List.drop_eq_nil_of_le (Nat.le_refl _), List.drop_eq_nil_of_le (by omega)]
      rw [e1, ← hR, List.drop_drop, Nat.succ_mul]
    rw [hD]
    have hp : bytesG k v e i (j : Int) many (R.take (roomI m).toNat) = partG (roomI m).toNat many k v e i body j := by
      unfold partG
      rw [hR]
    rw [hp]
    have := ih (j + 1) (acc ++ [partG (roomI m).toNat many k v e i body j]) (by omega) (by omega) (by simp; omega)
    rw [List.append_assoc] at this
    rw [List.range'_succ, List.map_cons]
    exact this
theorem lk_split_Split (m k v e i x y : Int) (body : List Int) (hk : Byte k) (hv : Byte v) (he : 0 ≤ e ∧ e < 4294967296) (hi : 0 ≤ i ∧ i < 4294967296) (hb : Bytes body) (hl : body.length < 1000000000) :
    Ev (fun n => split_Split.f n m k v e i x y body) (splitI m k v e i body) := by
  unfold split_Split.f
  refine ev_bind (lk_split_Count m body.length (by omega) (by omega)) ?_
  unfold splitI
  by_cases hc : (countI m body.length).2 = 0
  · obtain ⟨h1, h2, h3, h4, h5⟩ := count_ok hc
    simp only [if_pos hc]
    rw [h3]
    by_cases hkk : k < 1 ∨ 2 < k
    · simp only [if_pos hkk]
      refine ev_succ ?_
      simp only [split_Split.l0]
      have hmn : mn (roomI m) (body.length : Int) = ((min (roomI m).toNat body.length : Nat) : Int) := by unfold mn; split <;> omega
      rw [lk_split_Room, wu16_id (n := (0 : Int)) (by omega) (by omega), wu16_id (n := manyI body.length (roomI m)) (by omega) (by omega)]
      simp only [if_pos (show (0 : Int) < manyI body.length (roomI m) by omega), Option.bind_some]
      rw [hmn, Int.toNat_natCast]
      have hTl : (body.take (min (roomI m).toNat body.length)).length = min (roomI m).toNat body.length := by rw [List.length_take]; omega
      rw [hTl]
      simp only [if_pos (show (0 : Int) ≤ ((min (roomI m).toNat body.length : Nat) : Int) by omega), if_pos (show ((min (roomI m).toNat body.length : Nat) : Int) ≤ (body.length : Int) by omega)]
      have hput := lk_gram_Put k v e i 0 (manyI body.length (roomI m)) (body.take (min (roomI m).toNat body.length)) hk hv he hi ⟨by omega, by omega⟩ ⟨by omega, by omega⟩ (bytes_take hb _) (by rw [hTl]; omega)
      have hg : rightG k 0 (manyI body.length (roomI m)) (body.take (min (roomI m).toNat body.length)).length = 9 := by
        unfold rightG
        rw [if_pos hkk]
      rw [hg, if_neg (by decide)] at hput
      refine ev_bind hput ?_
      simp only [if_neg (show ¬ (9 : Int) = 0 by decide)]
      exact ev_some _
    · simp only [if_neg hkk]
      have := lk_split_Split0 m (manyI body.length (roomI m)) k v e i body h1 h2 h5 rfl (by omega) hv he hi hb hl x y (manyI body.length (roomI m)).toNat 0 [] (by omega) (by omega) (by simp)
      simp only [Nat.zero_mul, List.drop_zero, List.nil_append] at this
      exact this
  · simp only [if_neg hc]
    exact ev_some _
theorem lk_cur_Take (l : List Int) (i n : Nat) (h : i + n ≤ l.length) (hl : l.length < 1000000000) : annuletref06_Cur_Take.f l (i : Int) 0 (n : Int) = some ((l.drop i).take n, ((i + n : Nat) : Int), 0) := by
  unfold annuletref06_Cur_Take.f annuletref06_Cur_left.f
  simp only [if_true, if_neg (show ¬ (n : Int) < 0 by omega), Option.bind_some]
  rw [w64 (n := (l.length : Int) - i) (by omega) (by omega), w64 (n := (i : Int) + n) (by omega) (by omega), w64 (n := (i : Int) + n - n) (by omega) (by omega)]
  rw [if_neg (by omega), if_pos (by omega), if_pos (by omega), if_pos (by omega)]
  have e1 : ((i : Int) + n).toNat = i + n := by omega
  have e2 : ((i : Int) + n - n).toNat = i := by omega
  have e3 : (l.take (i + n)).drop i = (l.drop i).take n := by rw [List.drop_take]; congr 1; omega
  rw [e1, e2, e3, List.nil_append, if_pos (by rw [List.length_take, List.length_drop, List.length_nil]; omega), show (i : Int) + n = ((i + n : Nat) : Int) by omega]
theorem lk_cur_Left (l : List Int) (i : Nat) (h : i ≤ l.length) (hl : l.length < 1000000000) : annuletref06_Cur_Left.f l (i : Int) 0 = some (((l.length - i : Nat) : Int), (i : Int), 0) := by
  unfold annuletref06_Cur_Left.f annuletref06_Cur_left.f
  simp only [if_true, Option.bind_some]
  rw [w64 (n := (l.length : Int) - i) (by omega) (by omega), show (l.length : Int) - i = ((l.length - i : Nat) : Int) by omega]
theorem lk_cur_Fix0 (X : List Int) (hX : Bytes X) (h8 : X.length ≤ 8) (l : List Int) (a e : Int) (d : Nat) : ∀ (i m : Nat), i + d = X.length → m < 256 ^ i → Ev (fun k => annuletref06_Cur_Fix.l0 k X (m : Int) (i : Int) l a e) (((ofBe (X.drop i) m : Nat) : Int), a, e) := by
  induction d with
  | zero =>
    intro i m hi hm
    refine ev_const fun k => ?_
    rw [annuletref06_Cur_Fix.l0, if_neg (by omega), List.drop_eq_nil_of_le (by omega)]
    rfl
  | succ d ih =>
    intro i m hi hm
    refine ev_succ ?_
    simp only [annuletref06_Cur_Fix.l0]
    have hc := rd_byte hX (i : Int)
    have hD : X.drop i = rd X (i : Int) :: X.drop (i + 1) := by
      rw [List.drop_eq_getElem_cons (show i < X.length by omega), rd_nat, List.getD_eq_getElem?_getD, List.getElem?_eq_getElem (by omega)]
      rfl
    rw [hD, ofBe]
    generalize rd X (i : Int) = c at hc ⊢
    unfold Byte at hc
    have hp : 256 ^ (i + 1) ≤ 256 ^ 8 := Nat.pow_le_pow_right (by omega) (by omega)
    rw [Nat.pow_succ] at hp
    have hq : m * 256 + c.toNat < 256 ^ (i + 1) := by rw [Nat.pow_succ]; omega
    have h64 : (256 : Nat) ^ 8 = 18446744073709551616 := by decide
    rw [h64] at hp
    have hq2 := hq
    rw [Nat.pow_succ] at hq2
    rw [wu64_id (n := (m : Int) * 256) (by omega) (by omega), wu64_id (n := c) (by omega) (by omega), wu64_id (by omega) (by omega), w64 (by omega) (by omega), show (m : Int) * 256 + c = ((m * 256 + c.toNat : Nat) : Int) by omega]
    simp only [if_pos (show (i : Int) < (X.length : Int) by omega), if_pos (show (0 : Int) ≤ (i : Int) by omega)]
    exact ih (i + 1) (m * 256 + c.toNat) (by omega) hq
theorem lk_cur_Fix (l : List Int) (hb : Bytes l) (i s : Nat) (h1 : 1 ≤ s) (h8 : s ≤ 8) (h : i + s ≤ l.length) (hl : l.length < 1000000000) : Ev (fun k => annuletref06_Cur_Fix.f k l (i : Int) 0 (s : Int)) (cutG l i s, ((i + s : Nat) : Int), 0) := by
  unfold annuletref06_Cur_Fix.f
  simp only [if_true, if_neg (show ¬ (s : Int) < 1 by omega), decide_eq_false (show ¬ (s : Int) > 8 by omega)]
  refine ev_succ ?_
  simp only [annuletref06_Cur_Fix.j0, Bool.false_eq_true, if_false]
  refine ev_succ ?_
  simp only [annuletref06_Cur_Fix.j1]
  rw [lk_cur_Take l i s h hl]
  simp only [Option.bind_some]
  exact lk_cur_Fix0 _ (bytes_take (bytes_drop hb _) _) (by rw [List.length_take]; omega) l _ _ _ 0 0 (Nat.zero_add _) (by decide)
theorem lk_ref18_Right (k v e i x c : Int) (body : List Int) (hx : 0 ≤ x) : Ev (fun n => annuletref18_Right.f n k v e i x c body) (rightG k x c body.length) := by
  unfold annuletref18_Right.f
  have h1 : ∀ b, b = decide (c ≤ x) → ¬ (k < 1 ∨ 2 < k) → Ev (fun n => annuletref18_Right.j1 n b k v e i x c body) (rightG k x c body.length) := by
    intro b hb hk
    refine ev_const fun n => ?_
    rw [annuletref18_Right.j1]
    unfold rightG
    rw [if_neg hk]
    by_cases h : c ≤ x
    · rw [hb, decide_eq_true h, if_pos rfl, if_pos h]
    · rw [hb, decide_eq_false h, if_neg (by decide), if_neg h]
      by_cases h3 : (body.length : Int) > 65487
      · rw [if_pos h3, if_pos (by omega)]
      · rw [if_neg h3, if_neg (by omega)]
  have h0 : ∀ b, b = decide (k < 1 ∨ 2 < k) → Ev (fun n => annuletref18_Right.j0 n b k v e i x c body) (rightG k x c body.length) := by
    intro b hb
    refine ev_succ ?_
    simp only [annuletref18_Right.j0]
    by_cases h : k < 1 ∨ 2 < k
    · rw [hb, decide_eq_true h]
      simp only [if_true]
      refine ev_eq (ev_some _) ?_
      unfold rightG
      rw [if_pos h]
    · rw [hb, decide_eq_false h]
      simp only [Bool.false_eq_true, if_false]
      by_cases hc : c = 0
      · simp only [if_pos hc]
        exact h1 true (decide_eq_true (by omega)).symm h
      · simp only [if_neg hc]
        exact h1 _ (decide_eq_decide.2 (by omega)) h
  by_cases hk : k < 1
  · simp only [if_pos hk]
    exact h0 true (decide_eq_true (Or.inl hk)).symm
  · simp only [if_neg hk]
    exact h0 _ (decide_eq_decide.2 (by omega))
theorem lk_ref18_Get (l : List Int) (hb : Bytes l) : Ev (fun k => annuletref18_Get.f k l) (getG l) := by
  unfold annuletref18_Get.f getG
  by_cases c1 : l.length < 20
  · simp only [if_pos c1, if_pos (show (l.length : Int) < 20 by omega)]
    exact ev_some _
  simp only [if_neg c1, if_neg (show ¬ (l.length : Int) < 20 by omega)]
  by_cases c2 : 65507 < l.length
  · simp only [if_pos c2, if_pos (show (l.length : Int) > 65507 by omega)]
    exact ev_some _
  simp only [if_neg c2, if_neg (show ¬ (l.length : Int) > 65507 by omega)]
  have hw : wrap64 ((l.length : Int) - 4) = ((l.length - 4 : Nat) : Int) := by rw [w64 (by omega) (by omega)]; omega
  rw [hw, Int.toNat_natCast]
  simp only [if_pos (show (0 : Int) ≤ ((l.length - 4 : Nat) : Int) by omega), if_pos (show ((l.length - 4 : Nat) : Int) ≤ (l.length : Int) by omega)]
  refine ev_bind (lk_ref18_Sum _ (bytes_take hb _) (by rw [List.length_take]; omega)) ?_
  simp only [str_eq (leL_bytes _ _) (bytes_drop hb _)]
  by_cases c3 : leL 4 (sumN (l.take (l.length - 4))) = l.drop (l.length - 4)
  · simp only [if_pos c3, if_neg (fun h : ¬ leL 4 (sumN (l.take (l.length - 4))) = l.drop (l.length - 4) => h c3), if_pos (show (0 : Int) < (l.length : Int) by omega), if_pos (show (1 : Int) < (l.length : Int) by omega)]
    have hbad : ∀ b, b = true → Ev (fun k => annuletref18_Get.j0 k l (l.length : Int) b 0 0 0 0 0 0) ((0, 0, 0, 0, 0, 0, [], 3) : Int × Int × Int × Int × Int × Int × List Int × Int) := by
      intro b hb2
      refine ev_const fun k => ?_
      rw [annuletref18_Get.j0, hb2, if_pos rfl]
    by_cases c4 : rd l 0 = 167
    · simp only [if_pos c4]
      by_cases c5 : rd l 1 = 78
      · have e5 : (rd l 1 != 78) = false := by rw [c5]; rfl
        rw [e5, if_neg (by rw [c4, c5]; simp)]
        refine ev_succ ?_
        simp only [annuletref18_Get.j0, Bool.false_eq_true, if_false]
        rw [hw, Int.toNat_natCast]
        simp only [if_pos (show (2 : Int) ≤ ((l.length - 4 : Nat) : Int) by omega), if_pos (show ((l.length - 4 : Nat) : Int) ≤ (l.length : Int) by omega)]
        have hB : (l.take (l.length - 4)).drop 2 = bodyG l := rfl
        rw [hB]
        have hBl : (bodyG l).length = l.length - 6 := by rw [← hB, List.length_drop, List.length_take]; omega
        have hBb : Bytes (bodyG l) := bytes_drop (bytes_take hb _) _
        generalize bodyG l = B at hBl hBb ⊢
        have f0 := lk_cur_Fix B hBb 0 1 (by omega) (by omega) (by omega) (by omega)
        have f1 := lk_cur_Fix B hBb 1 1 (by omega) (by omega) (by omega) (by omega)
        have f2 := lk_cur_Fix B hBb 2 4 (by omega) (by omega) (by omega) (by omega)
        have f6 := lk_cur_Fix B hBb 6 4 (by omega) (by omega) (by omega) (by omega)
        have f10 := lk_cur_Fix B hBb 10 2 (by omega) (by omega) (by omega) (by omega)
        have f12 := lk_cur_Fix B hBb 12 2 (by omega) (by omega) (by omega) (by omega)
        have hl := lk_cur_Left B 14 (by omega) (by omega)
        have ht := lk_cur_Take B 14 (B.length - 14) (by omega) (by omega)
        rw [List.take_of_length_le (by rw [List.length_drop]; omega)] at ht
        have b0 := cut_bounds hBb 0 1
        have b1 := cut_bounds hBb 1 1
        have b2 := cut_bounds hBb 2 4
        have b6 := cut_bounds hBb 6 4
        have b10 := cut_bounds hBb 10 2
        have b12 := cut_bounds hBb 12 2
        refine ev_bind f0 ?_
        refine ev_bind f1 ?_
        refine ev_bind f2 ?_
        refine ev_bind f6 ?_
        refine ev_bind f10 ?_
        refine ev_bind f12 ?_
        have hl' : annuletref06_Cur_Left.f B ((12 + 2 : Nat) : Int) 0 = some (((B.length - 14 : Nat) : Int), ((14 : Nat) : Int), 0) := hl
        simp only [hl', Option.bind_some, ht]
        have n1 : ((256 ^ 1 : Nat) : Int) = 256 := by decide
        have n2 : ((256 ^ 2 : Nat) : Int) = 65536 := by decide
        have n4 : ((256 ^ 4 : Nat) : Int) = 4294967296 := by decide
        rw [n1] at b0 b1
        rw [n4] at b2 b6
        rw [n2] at b10 b12
        rw [Int.emod_eq_of_lt b0.1 b0.2, Int.emod_eq_of_lt b1.1 b1.2, Int.emod_eq_of_lt b2.1 b2.2, Int.emod_eq_of_lt b6.1 b6.2, wu16_id b10.1 b10.2, wu16_id b12.1 b12.2]
        refine ev_bind (lk_ref18_Right _ _ _ _ _ _ _ b10.1) ?_
        by_cases hr : rightG (cutG B 0 1) (cutG B 10 2) (cutG B 12 2) (B.drop 14).length = 0
        · simp only [if_pos hr]
          exact ev_some _
        · simp only [if_neg hr]
          exact ev_some _
      · rw [if_pos (Or.inr c5)]
        exact hbad _ (by simpa using c5)
    · simp only [if_neg c4]
      rw [if_pos (Or.inl c4)]
      exact hbad _ rfl
  · simp only [if_neg c3, if_pos c3]
    exact ev_some _
theorem lk_awake19 : Ev (fun k => annuletlaw19_awake.f k) true := Ev.of annuletlaw19_awake.mono (k := 60) (by decide +kernel)
theorem many_cover {n : Nat} {r : Int} (hr : 0 < r) : (n : Int) ≤ manyI n r * r := by
  unfold manyI
  by_cases hn : (0 : Int) < n
  · rw [if_pos hn]
    have h1 := Int.emod_add_mul_ediv ((n : Int) - 1) r
    have h2 := Int.emod_lt_of_pos ((n : Int) - 1) hr
    have h3 : (((n : Int) - 1) / r + 1) * r = r * (((n : Int) - 1) / r) + r := by rw [Int.add_mul, Int.one_mul, Int.mul_comm]
    omega
  · rw [if_neg hn, Int.one_mul]
    omega
theorem partsAt (r : Nat) (many k v e i : Int) (body : List Int) (d : Nat) (j : Nat) (h : j < d) : rd_L1 ((List.range' 0 d).map (partG r many k v e i body)) (j : Int) = partG r many k v e i body j := by
  unfold rd_L1
  rw [Int.toNat_natCast, List.getD_eq_getElem?_getD, List.getElem?_map, List.getElem?_range' (by omega)]
  simp
theorem SplitBack_l0 (m many k v e i x y : Int) (body : List Int) (hr : 12 ≤ roomI m) (hr' : roomI m ≤ 65487) (hm : many ≤ 65535) (hmany : many = manyI body.length (roomI m)) (hk : 1 ≤ k ∧ k ≤ 2) (hv : Byte v) (he : 0 ≤ e ∧ e < 4294967296) (hi : 0 ≤ i ∧ i < 4294967296) (hb : Bytes body) (hl : body.length ≤ 1500) (d : Nat) :
    ∀ j : Nat, (j : Int) ≤ many → (many - j).toNat = d → Ev (fun n => annuletlaw19_SplitBack.l0 n m ((List.range' 0 many.toNat).map (partG (roomI m).toNat many k v e i body)) (body.take (j * (roomI m).toNat)) (j : Int) k v e i x y body) true := by
  have hmp := many_pos body.length (roomI m) (by omega)
  have hL : ((List.range' 0 many.toNat).map (partG (roomI m).toNat many k v e i body)).length = many.toNat := by rw [List.length_map, List.length_range']
  induction d with
  | zero =>
    intro j hj hd
    refine ev_succ ?_
    simp only [annuletlaw19_SplitBack.l0]
    rw [hL]
    have hcov := many_cover (n := body.length) (r := roomI m) (by omega)
    have hT : body.take (j * (roomI m).toNat) = body := by
      refine List.take_of_length_le ?_
      have e1 : (j : Int) = manyI body.length (roomI m) := by omega
      rw [← e1, show roomI m = (((roomI m).toNat : Nat) : Int) by omega, ← Int.natCast_mul] at hcov
      omega
    rw [hT]
    simp only [if_neg (show ¬ (j : Int) < (many.toNat : Int) by omega), if_pos (show ((many.toNat : Nat) : Int) > 0 by omega), if_true]
    exact ev_bind lk_awake19 (ev_some _)
  | succ d ih =>
    intro j hj hd
    refine ev_succ ?_
    simp only [annuletlaw19_SplitBack.l0]
    rw [hL, partsAt _ _ _ _ _ _ _ _ j (by omega)]
    simp only [if_pos (show (j : Int) < (many.toNat : Int) by omega), if_pos (show (0 : Int) ≤ (j : Int) by omega)]
    have hpl : ((body.drop (j * (roomI m).toNat)).take (roomI m).toNat).length ≤ (roomI m).toNat := by rw [List.length_take]; omega
    have hpb : Bytes ((body.drop (j * (roomI m).toNat)).take (roomI m).toNat) := bytes_take (bytes_drop hb _) _
    have hgr : rightG k (j : Int) many ((body.drop (j * (roomI m).toNat)).take (roomI m).toNat).length = 0 := by
      unfold rightG
      rw [if_neg (by omega), if_neg (by omega), if_neg (by omega)]
    have hg := getG_bytes k v e i (j : Int) many ((body.drop (j * (roomI m).toNat)).take (roomI m).toNat) ⟨by omega, by omega⟩ hv he hi ⟨by omega, by omega⟩ ⟨by omega, by omega⟩ hgr
    have hbb := bytesG_bytes (k := k) (v := v) ⟨by omega, by omega⟩ hv e i (j : Int) many hpb
    have hget := lk_ref18_Get _ hbb
    rw [hg] at hget
    have hbl := bytesG_len k v e i (j : Int) many ((body.drop (j * (roomI m).toNat)).take (roomI m).toNat)
    have hrm : roomI m = m - 20 := by
      unfold roomI at hr ⊢
      split at hr
      · rename_i h; rw [if_pos h]
      · omega
    unfold partG
    refine ev_bind hget ?_
    rw [hbl, w64 (n := (j : Int)) (by omega) (by omega), w64 (n := many) (by omega) (by omega), w64 (n := (j : Int) + 1) (by omega) (by omega)]
    have htl : (body.take (j * (roomI m).toNat)).length ≤ body.length := by rw [List.length_take]; omega
    have hlen2 : (body.take (j * (roomI m).toNat)).length + ((body.drop (j * (roomI m).toNat)).take (roomI m).toNat).length < 140737488355328 := by omega
    simp only [if_true, if_neg (show ¬ (((((body.drop (j * (roomI m).toNat)).take (roomI m).toNat).length + 20 : Nat) : Int) > m) by omega), if_pos (show many = ((many.toNat : Nat) : Int) by omega), if_pos hlen2]
    have := ih (j + 1) (by omega) (by omega)
    rw [Nat.succ_mul, List.take_add] at this
    exact this
theorem SplitBack_law : annuletlaw19_SplitBack.Pure := by
  intro a0 k v e i x y body hw0 hk hv he hi _ _ hb
  have hb := bytes_of_wf hb.2
  refine Ev.rounds (g := fun n => annuletlaw19_SplitBack.f n a0 k v e i x y body) ?_
  unfold annuletlaw19_SplitBack.f
  by_cases c1 : (body.length : Int) > 1500
  · simp only [if_pos c1]
    exact ev_bind lk_awake19 (ev_some _)
  simp only [if_neg c1]
  refine ev_bind (lk_split_Split a0 k v e i x y body (wf_u8 hk) (wf_u8 hv) (wf_u32 he) (wf_u32 hi) hb (by omega)) ?_
  unfold splitI
  by_cases hc : (countI a0 body.length).2 = 0
  · obtain ⟨h1, h2, h3, h4, h5⟩ := count_ok hc
    simp only [if_pos hc]
    by_cases hkk : k < 1 ∨ 2 < k
    · simp only [if_pos hkk, if_neg (show ¬ (9 : Int) = 0 by decide), List.length_nil]
      exact ev_bind lk_awake19 (ev_some _)
    · simp only [if_neg hkk, if_true]
      rw [h3]
      have := SplitBack_l0 a0 (manyI body.length (roomI a0)) k v e i x y body h1 h2 h5 rfl (by omega) (wf_u8 hv) (wf_u32 he) (wf_u32 hi) hb (by omega) (manyI body.length (roomI a0)).toNat 0 (by omega) (by omega)
      rw [Nat.zero_mul, List.take_zero] at this
      exact this
  · simp only [if_neg hc, List.length_nil]
    exact ev_bind lk_awake19 (ev_some _)
end Go.Proofs.Ytplloiinedbnlaa.PSplitBack
namespace Go.Proofs.Ytplloiinedbnlaa.Pure
open Go.Proofs.Ytplloiinedbnlaa.PSplitBack
theorem SplitBack : annuletlaw19_SplitBack.Pure := SplitBack_law
end Go.Proofs.Ytplloiinedbnlaa.Pure
