/- GramGets: the datagram that any bytes are, or why they are none, is the document's. No condition. -/
import Derived.Test.YtdadpfdmgjnamaaPGramGetsx9
import Derived.Test.YtdadpfdmgjnamaaMath
set_option linter.unusedVariables false
set_option linter.unusedSimpArgs false
namespace Go.Proofs.Ytdadpfdmgjnamaa.PGramGets
open Go.RowKit Go.Proofs.YtdadpfdmgjnamaaW.PrintWords Go.Proofs.YtdadpfdmgjnamaaW.PrintLast Go.Proofs.YtdadpfdmgjnamaaW.PrintMore Annulet

/-! ### package crc -/
theorem lk_crc_Step (s : Int) (l : List Int) (h0 : 0 ≤ s) (h1 : s < 4294967296) (hb : Bytes l) : crc_Step.f s l = some ((stepN s.toNat l : Nat) : Int) := by
  obtain ⟨n, rfl⟩ := Int.eq_ofNat_of_zero_le h0
  unfold crc_Step.f
  rw [Int.toNat_natCast]
  split
  · rw [stepSmall_nat l hb n (by omega)]
  · rw [stepTab_nat l hb n (by omega)]
theorem lk_crc_Sum (l : List Int) (hb : Bytes l) : crc_Sum.f l = some ((sumN l : Nat) : Int) := by
  unfold crc_Sum.f
  rw [lk_crc_Step 4294967295 l (by omega) (by omega) hb]
  have hl := stepN_lt l hb 4294967295 (by decide)
  simp only [Option.bind_some]
  rw [show (4294967295 : Int).toNat = 4294967295 from rfl, show (4294967295 : Int) = ((4294967295 : Nat) : Int) from rfl, u32_xor_nat _ _ (by decide) hl]
  rfl
theorem lk_ref02_step (s : Nat) (b : Bool) (h : s < 4294967296) : annuletref02_step.f (s : Int) b = some ((refN s b : Nat) : Int) := by
  unfold annuletref02_step.f refN
  rw [tmod_nat (by omega), tdiv_nat (by omega), show (s : Int) / 2 % 4294967296 = ((s / 2 : Nat) : Int) by omega, show (2197175160 : Int) = ((2197175160 : Nat) : Int) from rfl, u32_xor_nat _ _ (by omega) (by decide)]
  rcases Nat.mod_two_eq_zero_or_one s with h0 | h0
  · have hi : ¬ (s : Int) % 2 = 1 := by omega
    cases b <;> simp [h0, hi]
  · have hi : (s : Int) % 2 = 1 := by omega
    cases b <;> simp [h0, hi]
theorem lk_ref02_Step1 (l : List Int) (i : Nat) (hi : i < l.length) (hl : l.length < 1000000000000) (r : Int) (d : Nat) : ∀ (s c j : Nat), j ≤ 8 → 8 - j = d → s < 4294967296 → c < 256 →
    Ev (fun k => annuletref02_Step.l0 k ((refIt (8 - j) s c : Nat) : Int) l ((i + 1 : Nat) : Int)) r → Ev (fun k => annuletref02_Step.l1 k (s : Int) l (i : Int) (c : Int) (j : Int)) r := by
  induction d with
  | zero =>
    intro s c j hj hd hs hc h
    obtain rfl : j = 8 := by omega
    refine ev_succ ?_
    simp only [annuletref02_Step.l1]
    rw [w64 (n := (i : Int) + 1) (by omega) (by omega)]
    simp only [if_neg (show ¬ ((8 : Nat) : Int) < 8 by omega)]
    exact h
  | succ d ih =>
    intro s c j hj hd hs hc h
    refine ev_succ ?_
    simp only [annuletref02_Step.l1]
    rw [tmod_nat (by omega), tdiv_nat (by omega), w64 (n := (c : Int) / 2) (by omega) (by omega), w64 (n := (j : Int) + 1) (by omega) (by omega), show ((c : Int) % 2 == 1) = decide (c % 2 = 1) by rw [Bool.eq_iff_iff]; simp; omega, lk_ref02_step s _ hs]
    simp only [if_pos (show (j : Int) < 8 by omega), Option.bind_some]
    have := ih (refN s (decide (c % 2 = 1))) (c / 2) (j + 1) (by omega) (by omega) (refN_lt hs _) (by omega) (by
      rw [show 8 - j = (8 - (j + 1)) + 1 by omega, refIt] at h
      exact h)
    rw [show ((c / 2 : Nat) : Int) = (c : Int) / 2 by omega] at this
    exact this
theorem lk_ref02_Step0 (l : List Int) (hb : Bytes l) (hl : l.length < 1000000000000) (d : Nat) : ∀ (i s : Nat), i ≤ l.length → l.length - i = d → s < 4294967296 →
    Ev (fun k => annuletref02_Step.l0 k (s : Int) l (i : Int)) ((stepN s (l.drop i) : Nat) : Int) := by
  induction d with
  | zero =>
    intro i s hi hd hs
    rw [List.drop_eq_nil_of_le (by omega)]
    refine ev_succ ?_
    simp only [annuletref02_Step.l0]
    simp only [if_neg (show ¬ (i : Int) < (l.length : Int) by omega)]
    exact ev_some _
  | succ d ih =>
    intro i s hi hd hs
    have hr := rd_byte hb (i : Int)
    unfold Byte at hr
    have hx : s ^^^ (rd l (i : Int)).toNat < 4294967296 := Nat.xor_lt_two_pow (n := 32) (by omega) (by omega)
    rw [drop_rd l i (by omega), stepN]
    refine ev_succ ?_
    simp only [annuletref02_Step.l0]
    rw [w64 (by omega) (by omega)]
    simp only [if_pos (show (i : Int) < (l.length : Int) by omega), if_pos (show (0 : Int) ≤ (i : Int) by omega)]
    have := lk_ref02_Step1 l i (by omega) hl ((stepN (iterN bitN 8 (s ^^^ (rd l (i : Int)).toNat)) (l.drop (i + 1)) : Nat) : Int) 8 s (rd l (i : Int)).toNat 0 (by omega) rfl hs (by omega) (by
      rw [show 8 - 0 = 8 from rfl, refIt_byte _ _ (by omega)]
      exact ih (i + 1) _ (by omega) (by omega) (iterN_lt hx 8))
    rw [show (((rd l (i : Int)).toNat : Nat) : Int) = rd l (i : Int) by omega] at this
    exact this
theorem lk_ref02_Step (s : Int) (l : List Int) (h0 : 0 ≤ s) (h1 : s < 4294967296) (hb : Bytes l) (hl : l.length < 1000000000000) : Ev (fun k => annuletref02_Step.f k s l) ((stepN s.toNat l : Nat) : Int) := by
  unfold annuletref02_Step.f
  have := lk_ref02_Step0 l hb hl _ 0 s.toNat (by omega) rfl (by omega)
  rw [show ((s.toNat : Nat) : Int) = s by omega] at this
  exact this
theorem lk_ref02_Sum (l : List Int) (hb : Bytes l) (hl : l.length < 1000000000000) : Ev (fun k => annuletref02_Sum.f k l) ((sumN l : Nat) : Int) := by
  unfold annuletref02_Sum.f
  refine ev_bind (lk_ref02_Step 4294967295 l (by omega) (by omega) hb hl) ?_
  have h := stepN_lt l hb 4294967295 (by decide)
  rw [show (4294967295 : Int).toNat = 4294967295 from rfl]
  unfold sumN
  rw [xor_full h]
  rw [show (4294967295 - ((stepN 4294967295 l : Nat) : Int)) % 4294967296 = ((4294967295 - stepN 4294967295 l : Nat) : Int) by omega]
  exact ev_some _
theorem lk_buf_Fix0 (x s : Nat) (hs : s ≤ 8) : ∀ (c : Nat) (l : List Int), c ≤ s → l.length + c < 100000000000000 → Ev (fun k => buf_Fix.l0 k l (x : Int) ((c : Int) - 1)) (l ++ beL c x) := by
  intro c
  induction c with
  | zero =>
    intro l hc hl
    refine ev_const fun k => ?_
    rw [buf_Fix.l0, if_neg (by omega), beL, List.append_nil]
  | succ c ih =>
    intro l hc hl
    refine ev_succ ?_
    simp only [buf_Fix.l0]
    rw [show ((c + 1 : Nat) : Int) - 1 = (c : Int) by omega, w64 (n := 8 * (c : Int)) (by omega) (by omega), w64 (n := (c : Int) - 1) (by omega) (by omega), shr8_byte x c (by omega)]
    simp only [if_pos (show (c : Int) ≥ 0 by omega), if_pos (show (0 : Int) ≤ 8 * (c : Int) by omega), if_pos (show l.length < 140737488355328 by omega)]
    have := ih (l ++ [((x / 256 ^ c % 256 : Nat) : Int)]) (by omega) (by simp; omega)
    rw [beL_head]
    rw [List.append_assoc] at this
    exact this
theorem lk_buf_Fix (l : List Int) (x s : Nat) (h1 : 1 ≤ s) (h8 : s ≤ 8) (hl : l.length < 10000000000000) : Ev (fun k => buf_Fix.f k l (x : Int) (s : Int)) (l ++ beL s x) := by
  unfold buf_Fix.f
  simp only [if_neg (show ¬ (s : Int) < 1 by omega), decide_eq_false (show ¬ (s : Int) > 8 by omega)]
  refine ev_succ ?_
  simp only [buf_Fix.j0]
  rw [w64 (by omega) (by omega)]
  simp only [Bool.false_eq_true, if_false]
  exact lk_buf_Fix0 x s h8 s l (Nat.le_refl _) (by omega)
theorem lk_reverse4 (a b c d : Int) : Ev (fun k => slices_Reverse_byte_byte.f k [a, b, c, d]) [d, c, b, a] := by
  unfold slices_Reverse_byte_byte.f
  have e1 : wrap64 ((([a, b, c, d] : List Int).length : Int) - 1) = 3 := by rw [w64 (by simp) (by simp)]; rfl
  have e2 : wrap64 (1 : Int) = 1 := w64 (by omega) (by omega)
  have e3 : wrap64 (2 : Int) = 2 := w64 (by omega) (by omega)
  rw [e1]
  refine ⟨3, fun k hk => ?_⟩
  obtain ⟨k, rfl⟩ : ∃ m, k = m + 3 := ⟨k - 3, by omega⟩
  simp [slices_Reverse_byte_byte.l0, e2, e3, rd]
theorem lk_gram_sum (l : List Int) (hb : Bytes l) : Ev (fun k => gram_sum.f k l) (leL 4 (sumN l)) := by
  unfold gram_sum.f
  rw [lk_crc_Sum l hb]
  have hs := sumN_lt l hb
  simp only [Option.bind_some]
  rw [wu64_id (by omega) (by omega)]
  refine ev_bind (lk_buf_Fix [] (sumN l) 4 (by omega) (by omega) (by simp)) ?_
  have e : ([] : List Int) ++ beL 4 (sumN l) = [((sumN l / 256 / 256 / 256 % 256 : Nat) : Int), ((sumN l / 256 / 256 % 256 : Nat) : Int), ((sumN l / 256 % 256 : Nat) : Int), ((sumN l % 256 : Nat) : Int)] := by simp [beL]
  rw [e]
  refine ev_bind (lk_reverse4 _ _ _ _) ?_
  exact ev_eq (ev_some _) (by simp [leL])
theorem lk_gram_Right (k v e i x c : Int) (body : List Int) : Ev (fun n => gram_Right.f n k v e i x c body) (rightG k x c body.length) := by
  unfold gram_Right.f
  have hj : ∀ b, b = decide (k < 1 ∨ 2 < k) → Ev (fun n => gram_Right.j0 n b k v e i x c body) (rightG k x c body.length) := by
    intro b hb
    refine ev_const fun n => ?_
    rw [gram_Right.j0]
    unfold rightG
    by_cases h : k < 1 ∨ 2 < k
    · rw [hb, decide_eq_true h, if_pos rfl, if_pos h]
    · rw [hb, decide_eq_false h, if_neg (by decide), if_neg h]
      by_cases h2 : x ≥ c
      · rw [if_pos h2, if_pos h2]
      · rw [if_neg h2, if_neg h2]
        by_cases h3 : (body.length : Int) > 65487
        · rw [if_pos h3, if_pos (by omega)]
        · rw [if_neg h3, if_neg (by omega)]
  by_cases h1 : k = 1
  · simp only [if_pos h1]
    exact hj false (decide_eq_false (by omega)).symm
  · simp only [if_neg h1]
    by_cases h2 : k = 2
    · have : (k != 2) = false := by rw [h2]; rfl
      rw [this]
      exact hj false (decide_eq_false (by omega)).symm
    · have : (k != 2) = true := by simp [h2]
      rw [this]
      exact hj true (decide_eq_true (by omega)).symm
theorem lk_gram_Put (k v e i x c : Int) (body : List Int) (hk : Byte k) (hv : Byte v) (he : 0 ≤ e ∧ e < 4294967296) (hi : 0 ≤ i ∧ i < 4294967296) (hx : 0 ≤ x ∧ x < 65536) (hc : 0 ≤ c ∧ c < 65536) (hb : Bytes body) (hl : body.length < 1000000000) :
    Ev (fun n => gram_Put.f n k v e i x c body) (if rightG k x c body.length = 0 then (bytesG k v e i x c body, 0) else ([], rightG k x c body.length)) := by
  unfold gram_Put.f
  refine ev_bind (lk_gram_Right k v e i x c body) ?_
  by_cases hr : rightG k x c body.length = 0
  · simp only [if_pos hr]
    refine ev_bind (lk_buf_Fix [] 42830 2 (by omega) (by omega) (by simp)) ?_
    simp only [Option.bind_some]
    have e0 : ([] : List Int) ++ beL 2 42830 = [167, 78] := by simp [beL]
    rw [e0, wu64_id (n := e) (by omega) (by omega), wu64_id (n := i) (by omega) (by omega), wu64_id (n := x) (by omega) (by omega), wu64_id (n := c) (by omega) (by omega)]
    have ee : ((e.toNat : Nat) : Int) = e := by omega
    have ei : ((i.toNat : Nat) : Int) = i := by omega
    have ex : ((x.toNat : Nat) : Int) = x := by omega
    have ec : ((c.toNat : Nat) : Int) = c := by omega
    have f1 := lk_buf_Fix ([167, 78] ++ [k, v]) e.toNat 4 (by omega) (by omega) (by simp)
    have f2 := lk_buf_Fix ([167, 78] ++ [k, v] ++ beL 4 e.toNat) i.toNat 4 (by omega) (by omega) (by simp [beL_len])
    have f3 := lk_buf_Fix ([167, 78] ++ [k, v] ++ beL 4 e.toNat ++ beL 4 i.toNat) x.toNat 2 (by omega) (by omega) (by simp [beL_len])
    have f4 := lk_buf_Fix ([167, 78] ++ [k, v] ++ beL 4 e.toNat ++ beL 4 i.toNat ++ beL 2 x.toNat) c.toNat 2 (by omega) (by omega) (by simp [beL_len])
    rw [ee] at f1
    rw [ei] at f2
    rw [ex] at f3
    rw [ec] at f4
    simp only [if_pos (show ([167, 78] : List Int).length + ([k, v] : List Int).length < 140737488355328 by simp)]
    refine ev_bind f1 ?_
    refine ev_bind f2 ?_
    refine ev_bind f3 ?_
    refine ev_bind f4 ?_
    have eh : [167, 78] ++ [k, v] ++ beL 4 e.toNat ++ beL 4 i.toNat ++ beL 2 x.toNat ++ beL 2 c.toNat = headG k v e i x c := rfl
    rw [eh]
    simp only [if_pos (show (headG k v e i x c).length + body.length < 140737488355328 by rw [headG_len]; omega), Option.bind_some]
    have hB := bytes_append (headG_bytes hk hv e i x c) hb
    refine ev_bind (lk_gram_sum _ hB) ?_
    simp only [if_pos (show (headG k v e i x c ++ body).length + (leL 4 (sumN (headG k v e i x c ++ body))).length < 140737488355328 by rw [List.length_append, headG_len, leL_len]; omega)]
    exact ev_some _
  · simp only [if_neg hr]
    exact ev_some _
theorem fixR_ok (s : Nat) (l : List Int) (hb : Bytes l) (h1 : 1 ≤ s) (h8 : s ≤ 8) (h : s ≤ l.length) : fixR (s : Int) l 0 = (((ofBe (l.take s) 0 : Nat) : Int), l.drop s, 0) := by
  unfold fixR
  rw [if_neg (by simp), if_neg (by omega), if_neg (by omega), Int.toNat_natCast, beI_zero _ (bytes_take hb _) (by rw [List.length_take]; omega)]
theorem lk_Rd_Fix (s : Nat) (ok : Bool) (l : List Int) (hb : Bytes l) (h1 : 1 ≤ s) (h8 : s ≤ 8) (h : s ≤ l.length) : buf_Reader_Fix.f ok l 0 (s : Int) = some (((ofBe (l.take s) 0 : Nat) : Int), ok, l.drop s, 0) := by
  unfold buf_Reader_Fix.f
  rw [fixR_ok s l hb h1 h8 h]
theorem lk_Rd_Left (ok : Bool) (l : List Int) : buf_Reader_Left.f ok l 0 = some ((l.length : Int), ok, 0) := by
  unfold buf_Reader_Left.f
  rw [if_pos rfl]
theorem lk_Rd_Take (ok : Bool) (l : List Int) : buf_Reader_Take.f ok l 0 (l.length : Int) = some (l, ok, [], 0) := by
  unfold buf_Reader_Take.f takeR
  rw [if_neg (by simp), if_neg (by omega), if_neg (by omega), Int.toNat_natCast, List.take_of_length_le (Nat.le_refl _), List.drop_eq_nil_of_le (Nat.le_refl _)]
theorem lk_gram_Get (l : List Int) (hb : Bytes l) : Ev (fun k => gram_Get.f k l) (getG l) := by
  unfold gram_Get.f getG
  by_cases c1 : l.length < 20
  · simp only [if_pos c1, if_pos (show (l.length : Int) < 20 by omega)]
    exact ev_some _
  simp only [if_neg c1, if_neg (show ¬ (l.length : Int) < 20 by omega)]
  by_cases c2 : 65507 < l.length
  · simp only [if_pos c2, if_pos (show (l.length : Int) > 65507 by omega)]
    exact ev_some _
  simp only [if_neg c2, if_neg (show ¬ (l.length : Int) > 65507 by omega)]
  have hw : wrap64 ((l.length : Int) - 4) = ((l.length - 4 : Nat) : Int) := by rw [w64 (by omega) (by omega)]; omega
  rw [hw, Int.toNat_natCast]
  simp only [if_pos (show (0 : Int) ≤ ((l.length - 4 : Nat) : Int) by omega), if_pos (show ((l.length - 4 : Nat) : Int) ≤ (l.length : Int) by omega)]
  refine ev_bind (lk_gram_sum _ (bytes_take hb _)) ?_
  unfold bytes_Equal.f
  simp only [Option.bind_some]
  by_cases c3 : leL 4 (sumN (l.take (l.length - 4))) = l.drop (l.length - 4)
  · have e3 : ((strOfNums (leL 4 (sumN (l.take (l.length - 4))))).toList == (strOfNums (l.drop (l.length - 4))).toList) = true := by rw [beq_iff_eq, str_eq (leL_bytes _ _) (bytes_drop hb _)]; exact c3
    simp only [e3, if_true, if_neg (fun h : ¬ leL 4 (sumN (l.take (l.length - 4))) = l.drop (l.length - 4) => h c3)]
    have hTl : (l.take (l.length - 4)).length = l.length - 4 := by rw [List.length_take]; omega
    have hTb : Bytes (l.take (l.length - 4)) := bytes_take hb _
    unfold buf_Open.f
    rw [if_pos (show (l.take (l.length - 4)).length < 140737488355328 by omega)]
    simp only [Option.bind_some]
    have f0 := lk_Rd_Fix 2 true _ hTb (by omega) (by omega) (by omega)
    have hf0 : buf_Reader_Fix.f true (l.take (l.length - 4)) 0 2 = some (((ofBe ((l.take (l.length - 4)).take 2) 0 : Nat) : Int), true, bodyG l, 0) := f0
    rw [hf0]
    simp only [Option.bind_some]
    have h2 : ((ofBe ((l.take (l.length - 4)).take 2) 0 : Nat) : Int) = rd l 0 * 256 + rd l 1 ∧ Byte (rd l 0) ∧ Byte (rd l 1) := by
      refine ⟨?_, rd_byte hb 0, rd_byte hb 1⟩
      have b0 := rd_byte hb 0
      have b1 := rd_byte hb 1
      match l, c1, b0, b1 with
      | a :: b :: r, c1, b0, b1 =>
        have : (a :: b :: r).length - 4 = (r.length - 4) + 2 := by
          simp only [List.length_cons] at c1 ⊢
          omega
        rw [this]
        have e0 : rd (a :: b :: r) 0 = a := rfl
        have e1 : rd (a :: b :: r) 1 = b := rfl
        rw [e0] at b0 ⊢
        rw [e1] at b1 ⊢
        unfold Byte at b0 b1
        simp [ofBe]
        omega
      | [a], c1, _, _ => simp at c1
      | [], c1, _, _ => simp at c1
    rw [h2.1]
    have hb0 := h2.2.1
    have hb1 := h2.2.2
    unfold Byte at hb0 hb1
    by_cases c4 : ¬ rd l 0 = 167 ∨ ¬ rd l 1 = 78
    · rw [if_pos c4]
      simp only [if_neg (show ¬ rd l 0 * 256 + rd l 1 = 42830 by omega)]
      exact ev_some _
    · rw [if_neg c4]
      simp only [if_pos (show rd l 0 * 256 + rd l 1 = 42830 by omega)]
      have hBl : (bodyG l).length = l.length - 6 := by unfold bodyG; rw [List.length_drop, List.length_take]; omega
      have hBb : Bytes (bodyG l) := bytes_drop (bytes_take hb _) _
      generalize bodyG l = B at hBl hBb ⊢
      have g0 : buf_Reader_Fix.f true B 0 1 = some (cutG B 0 1, true, B.drop 1, 0) := lk_Rd_Fix 1 true B hBb (by omega) (by omega) (by omega)
      have g1 : buf_Reader_Fix.f true (B.drop 1) 0 1 = some (cutG B 1 1, true, B.drop 2, 0) := by
        have := lk_Rd_Fix 1 true (B.drop 1) (bytes_drop hBb _) (by omega) (by omega) (by rw [List.length_drop]; omega)
        rw [List.drop_drop] at this
        exact this
      have g2 : buf_Reader_Fix.f true (B.drop 2) 0 4 = some (cutG B 2 4, true, B.drop 6, 0) := by
        have := lk_Rd_Fix 4 true (B.drop 2) (bytes_drop hBb _) (by omega) (by omega) (by rw [List.length_drop]; omega)
        rw [List.drop_drop] at this
        exact this
      have g6 : buf_Reader_Fix.f true (B.drop 6) 0 4 = some (cutG B 6 4, true, B.drop 10, 0) := by
        have := lk_Rd_Fix 4 true (B.drop 6) (bytes_drop hBb _) (by omega) (by omega) (by rw [List.length_drop]; omega)
        rw [List.drop_drop] at this
        exact this
      have g10 : buf_Reader_Fix.f true (B.drop 10) 0 2 = some (cutG B 10 2, true, B.drop 12, 0) := by
        have := lk_Rd_Fix 2 true (B.drop 10) (bytes_drop hBb _) (by omega) (by omega) (by rw [List.length_drop]; omega)
        rw [List.drop_drop] at this
        exact this
      have g12 : buf_Reader_Fix.f true (B.drop 12) 0 2 = some (cutG B 12 2, true, B.drop 14, 0) := by
        have := lk_Rd_Fix 2 true (B.drop 12) (bytes_drop hBb _) (by omega) (by omega) (by rw [List.length_drop]; omega)
        rw [List.drop_drop] at this
        exact this
      have gl := lk_Rd_Left true (B.drop 14)
      have gt := lk_Rd_Take true (B.drop 14)
      simp only [g0, g1, g2, g6, g10, g12, gl, gt, Option.bind_some]
      have b0 := cut_bounds hBb 0 1
      have b1 := cut_bounds hBb 1 1
      have b2 := cut_bounds hBb 2 4
      have b6 := cut_bounds hBb 6 4
      have b10 := cut_bounds hBb 10 2
      have b12 := cut_bounds hBb 12 2
      have n1 : ((256 ^ 1 : Nat) : Int) = 256 := by decide
      have n2 : ((256 ^ 2 : Nat) : Int) = 65536 := by decide
      have n4 : ((256 ^ 4 : Nat) : Int) = 4294967296 := by decide
      rw [n1] at b0 b1
      rw [n4] at b2 b6
      rw [n2] at b10 b12
      rw [Int.emod_eq_of_lt b0.1 b0.2, Int.emod_eq_of_lt b1.1 b1.2, Int.emod_eq_of_lt b2.1 b2.2, Int.emod_eq_of_lt b6.1 b6.2, wu16_id b10.1 b10.2, wu16_id b12.1 b12.2]
      refine ev_bind (lk_gram_Right _ _ _ _ _ _ _) ?_
      by_cases hr : rightG (cutG B 0 1) (cutG B 10 2) (cutG B 12 2) (B.drop 14).length = 0
      · simp only [if_pos hr]
        exact ev_some _
      · simp only [if_neg hr]
        exact ev_some _
  · have e3 : ((strOfNums (leL 4 (sumN (l.take (l.length - 4))))).toList == (strOfNums (l.drop (l.length - 4))).toList) = false := by rw [beq_eq_false_iff_ne]; intro h; rw [str_eq (leL_bytes _ _) (bytes_drop hb _)] at h; exact c3 h
    simp only [e3, Bool.false_eq_true, if_false, if_pos c3]
    exact ev_some _
theorem lk_ref18_Sum0 (d : Nat) : ∀ (i x : Nat) (acc : List Int), i + d = 4 → x < 4294967296 → acc.length + d < 1000000000000 → Ev (fun k => annuletref18_Sum.l0 k (x : Int) acc (i : Int)) (acc ++ leL d x) := by
  induction d with
  | zero =>
    intro i x acc hi hx hl
    refine ev_const fun k => ?_
    rw [annuletref18_Sum.l0, if_neg (by omega), leL, List.append_nil]
  | succ d ih =>
    intro i x acc hi hx hl
    refine ev_succ ?_
    simp only [annuletref18_Sum.l0]
    rw [tmod_nat (by omega), tdiv_nat (by omega), w64 (by omega) (by omega)]
    simp only [if_pos (show (i : Int) < 4 by omega), if_pos (show acc.length < 140737488355328 by omega)]
    have e1 : (x : Int) / 256 % 4294967296 = ((x / 256 : Nat) : Int) := by omega
    have e2 : (x : Int) % 256 % 256 = ((x % 256 : Nat) : Int) := by omega
    rw [e1, e2]
    have := ih (i + 1) (x / 256) (acc ++ [((x % 256 : Nat) : Int)]) (by omega) (by omega) (by simp; omega)
    rw [List.append_assoc] at this
    exact this
theorem lk_ref18_Sum (l : List Int) (hb : Bytes l) (hl : l.length < 1000000000000) : Ev (fun k => annuletref18_Sum.f k l) (leL 4 (sumN l)) := by
  unfold annuletref18_Sum.f
  refine ev_bind (lk_ref02_Sum l hb hl) ?_
  exact lk_ref18_Sum0 4 0 (sumN l) [] (by omega) (sumN_lt l hb) (by simp)
theorem lk_cur_Take (l : List Int) (i n : Nat) (h : i + n ≤ l.length) (hl : l.length < 1000000000) : annuletref06_Cur_Take.f l (i : Int) 0 (n : Int) = some ((l.drop i).take n, ((i + n : Nat) : Int), 0) := by
  unfold annuletref06_Cur_Take.f annuletref06_Cur_left.f
  simp only [if_true, if_neg (show ¬ (n : Int) < 0 by omega), Option.bind_some]
  rw [w64 (n := (l.length : Int) - i) (by omega) (by omega), w64 (n := (i : Int) + n) (by omega) (by omega), w64 (n := (i : Int) + n - n) (by omega) (by omega)]
  rw [if_neg (by omega), if_pos (by omega), if_pos (by omega), if_pos (by omega)]
  have e1 : ((i : Int) + n).toNat = i + n := by omega
  have e2 : ((i : Int) + n - n).toNat = i := by omega
  have e3 : (l.take (i + n)).drop i = (l.drop i).take n := by rw [List.drop_take]; congr 1; omega
  rw [e1, e2, e3, List.nil_append, if_pos (by rw [List.length_take, List.length_drop, List.length_nil]; omega), show (i : Int) + n = ((i + n : Nat) : Int) by omega]
theorem lk_cur_Left (l : List Int) (i : Nat) (h : i ≤ l.length) (hl : l.length < 1000000000) : annuletref06_Cur_Left.f l (i : Int) 0 = some (((l.length - i : Nat) : Int), (i : Int), 0) := by
  unfold annuletref06_Cur_Left.f annuletref06_Cur_left.f
  simp only [if_true, Option.bind_some]
  rw [w64 (n := (l.length : Int) - i) (by omega) (by omega), show (l.length : Int) - i = ((l.length - i : Nat) : Int) by omega]
theorem lk_cur_Fix0 (X : List Int) (hX : Bytes X) (h8 : X.length ≤ 8) (l : List Int) (a e : Int) (d : Nat) : ∀ (i m : Nat), i + d = X.length → m < 256 ^ i → Ev (fun k => annuletref06_Cur_Fix.l0 k X (m : Int) (i : Int) l a e) (((ofBe (X.drop i) m : Nat) : Int), a, e) := by
  induction d with
  | zero =>
    intro i m hi hm
    refine ev_const fun k => ?_
    rw [annuletref06_Cur_Fix.l0, if_neg (by omega), List.drop_eq_nil_of_le (by omega)]
    rfl
  | succ d ih =>
    intro i m hi hm
    refine ev_succ ?_
    simp only [annuletref06_Cur_Fix.l0]
    have hc := rd_byte hX (i : Int)
    have hD : X.drop i = rd X (i : Int) :: X.drop (i + 1) := by
      rw [List.drop_eq_getElem_cons (show i < X.length by omega), rd_nat, List.getD_eq_getElem?_getD, List.getElem?_eq_getElem (by omega)]
      rfl
    rw [hD, ofBe]
    generalize rd X (i : Int) = c at hc ⊢
    unfold Byte at hc
    have hp : 256 ^ (i + 1) ≤ 256 ^ 8 := Nat.pow_le_pow_right (by omega) (by omega)
    rw [Nat.pow_succ] at hp
    have hq : m * 256 + c.toNat < 256 ^ (i + 1) := by rw [Nat.pow_succ]; omega
    have h64 : (256 : Nat) ^ 8 = 18446744073709551616 := by decide
    rw [h64] at hp
    have hq2 := hq
    rw [Nat.pow_succ] at hq2
    rw [wu64_id (n := (m : Int) * 256) (by omega) (by omega), wu64_id (n := c) (by omega) (by omega), wu64_id (by omega) (by omega), w64 (by omega) (by omega), show (m : Int) * 256 + c = ((m * 256 + c.toNat : Nat) : Int) by omega]
    simp only [if_pos (show (i : Int) < (X.length : Int) by omega), if_pos (show (0 : Int) ≤ (i : Int) by omega)]
    exact ih (i + 1) (m * 256 + c.toNat) (by omega) hq
theorem lk_cur_Fix (l : List Int) (hb : Bytes l) (i s : Nat) (h1 : 1 ≤ s) (h8 : s ≤ 8) (h : i + s ≤ l.length) (hl : l.length < 1000000000) : Ev (fun k => annuletref06_Cur_Fix.f k l (i : Int) 0 (s : Int)) (cutG l i s, ((i + s : Nat) : Int), 0) := by
  unfold annuletref06_Cur_Fix.f
  simp only [if_true, if_neg (show ¬ (s : Int) < 1 by omega), decide_eq_false (show ¬ (s : Int) > 8 by omega)]
  refine ev_succ ?_
  simp only [annuletref06_Cur_Fix.j0, Bool.false_eq_true, if_false]
  refine ev_succ ?_
  simp only [annuletref06_Cur_Fix.j1]
  rw [lk_cur_Take l i s h hl]
  simp only [Option.bind_some]
  exact lk_cur_Fix0 _ (bytes_take (bytes_drop hb _) _) (by rw [List.length_take]; omega) l _ _ _ 0 0 (Nat.zero_add _) (by decide)
theorem lk_ref18_Right (k v e i x c : Int) (body : List Int) (hx : 0 ≤ x) : Ev (fun n => annuletref18_Right.f n k v e i x c body) (rightG k x c body.length) := by
  unfold annuletref18_Right.f
  have h1 : ∀ b, b = decide (c ≤ x) → ¬ (k < 1 ∨ 2 < k) → Ev (fun n => annuletref18_Right.j1 n b k v e i x c body) (rightG k x c body.length) := by
    intro b hb hk
    refine ev_const fun n => ?_
    rw [annuletref18_Right.j1]
    unfold rightG
    rw [if_neg hk]
    by_cases h : c ≤ x
    · rw [hb, decide_eq_true h, if_pos rfl, if_pos h]
    · rw [hb, decide_eq_false h, if_neg (by decide), if_neg h]
      by_cases h3 : (body.length : Int) > 65487
      · rw [if_pos h3, if_pos (by omega)]
      · rw [if_neg h3, if_neg (by omega)]
  have h0 : ∀ b, b = decide (k < 1 ∨ 2 < k) → Ev (fun n => annuletref18_Right.j0 n b k v e i x c body) (rightG k x c body.length) := by
    intro b hb
    refine ev_succ ?_
    simp only [annuletref18_Right.j0]
    by_cases h : k < 1 ∨ 2 < k
    · rw [hb, decide_eq_true h]
      simp only [if_true]
      refine ev_eq (ev_some _) ?_
      unfold rightG
      rw [if_pos h]
    · rw [hb, decide_eq_false h]
      simp only [Bool.false_eq_true, if_false]
      by_cases hc : c = 0
      · simp only [if_pos hc]
        exact h1 true (decide_eq_true (by omega)).symm h
      · simp only [if_neg hc]
        exact h1 _ (decide_eq_decide.2 (by omega)) h
  by_cases hk : k < 1
  · simp only [if_pos hk]
    exact h0 true (decide_eq_true (Or.inl hk)).symm
  · simp only [if_neg hk]
    exact h0 _ (decide_eq_decide.2 (by omega))
theorem lk_ref18_Get (l : List Int) (hb : Bytes l) : Ev (fun k => annuletref18_Get.f k l) (getG l) := by
  unfold annuletref18_Get.f getG
  by_cases c1 : l.length < 20
  · simp only [if_pos c1, if_pos (show (l.length : Int) < 20 by omega)]
    exact ev_some _
  simp only [if_neg c1, if_neg (show ¬ (l.length : Int) < 20 by omega)]
  by_cases c2 : 65507 < l.length
  · simp only [if_pos c2, if_pos (show (l.length : Int) > 65507 by omega)]
    exact ev_some _
  simp only [if_neg c2, if_neg (show ¬ (l.length : Int) > 65507 by omega)]
  have hw : wrap64 ((l.length : Int) - 4) = ((l.length - 4 : Nat) : Int) := by rw [w64 (by omega) (by omega)]; omega
  rw [hw, Int.toNat_natCast]
  simp only [if_pos (show (0 : Int) ≤ ((l.length - 4 : Nat) : Int) by omega), if_pos (show ((l.length - 4 : Nat) : Int) ≤ (l.length : Int) by omega)]
  refine ev_bind (lk_ref18_Sum _ (bytes_take hb _) (by rw [List.length_take]; omega)) ?_
  simp only [str_eq (leL_bytes _ _) (bytes_drop hb _)]
  by_cases c3 : leL 4 (sumN (l.take (l.length - 4))) = l.drop (l.length - 4)
  · simp only [if_pos c3, if_neg (fun h : ¬ leL 4 (sumN (l.take (l.length - 4))) = l.drop (l.length - 4) => h c3), if_pos (show (0 : Int) < (l.length : Int) by omega), if_pos (show (1 : Int) < (l.length : Int) by omega)]
    have hbad : ∀ b, b = true → Ev (fun k => annuletref18_Get.j0 k l (l.length : Int) b 0 0 0 0 0 0) ((0, 0, 0, 0, 0, 0, [], 3) : Int × Int × Int × Int × Int × Int × List Int × Int) := by
      intro b hb2
      refine ev_const fun k => ?_
      rw [annuletref18_Get.j0, hb2, if_pos rfl]
    by_cases c4 : rd l 0 = 167
    · simp only [if_pos c4]
      by_cases c5 : rd l 1 = 78
      · have e5 : (rd l 1 != 78) = false := by rw [c5]; rfl
        rw [e5, if_neg (by rw [c4, c5]; simp)]
        refine ev_succ ?_
        simp only [annuletref18_Get.j0, Bool.false_eq_true, if_false]
        rw [hw, Int.toNat_natCast]
        simp only [if_pos (show (2 : Int) ≤ ((l.length - 4 : Nat) : Int) by omega), if_pos (show ((l.length - 4 : Nat) : Int) ≤ (l.length : Int) by omega)]
        have hB : (l.take (l.length - 4)).drop 2 = bodyG l := rfl
        rw [hB]
        have hBl : (bodyG l).length = l.length - 6 := by rw [← hB, List.length_drop, List.length_take]; omega
        have hBb : Bytes (bodyG l) := bytes_drop (bytes_take hb _) _
        generalize bodyG l = B at hBl hBb ⊢
        have f0 := lk_cur_Fix B hBb 0 1 (by omega) (by omega) (by omega) (by omega)
        have f1 := lk_cur_Fix B hBb 1 1 (by omega) (by omega) (by omega) (by omega)
        have f2 := lk_cur_Fix B hBb 2 4 (by omega) (by omega) (by omega) (by omega)
        have f6 := lk_cur_Fix B hBb 6 4 (by omega) (by omega) (by omega) (by omega)
        have f10 := lk_cur_Fix B hBb 10 2 (by omega) (by omega) (by omega) (by omega)
        have f12 := lk_cur_Fix B hBb 12 2 (by omega) (by omega) (by omega) (by omega)
        have hl := lk_cur_Left B 14 (by omega) (by omega)
        have ht := lk_cur_Take B 14 (B.length - 14) (by omega) (by omega)
        rw [List.take_of_length_le (by rw [List.length_drop]; omega)] at ht
        have b0 := cut_bounds hBb 0 1
        have b1 := cut_bounds hBb 1 1
        have b2 := cut_bounds hBb 2 4
        have b6 := cut_bounds hBb 6 4
        have b10 := cut_bounds hBb 10 2
        have b12 := cut_bounds hBb 12 2
        refine ev_bind f0 ?_
        refine ev_bind f1 ?_
        refine ev_bind f2 ?_
        refine ev_bind f6 ?_
        refine ev_bind f10 ?_
        refine ev_bind f12 ?_
        have hl' : annuletref06_Cur_Left.f B ((12 + 2 : Nat) : Int) 0 = some (((B.length - 14 : Nat) : Int), ((14 : Nat) : Int), 0) := hl
        simp only [hl', Option.bind_some, ht]
        have n1 : ((256 ^ 1 : Nat) : Int) = 256 := by decide
        have n2 : ((256 ^ 2 : Nat) : Int) = 65536 := by decide
        have n4 : ((256 ^ 4 : Nat) : Int) = 4294967296 := by decide
        rw [n1] at b0 b1
        rw [n4] at b2 b6
        rw [n2] at b10 b12
        rw [Int.emod_eq_of_lt b0.1 b0.2, Int.emod_eq_of_lt b1.1 b1.2, Int.emod_eq_of_lt b2.1 b2.2, Int.emod_eq_of_lt b6.1 b6.2, wu16_id b10.1 b10.2, wu16_id b12.1 b12.2]
        refine ev_bind (lk_ref18_Right _ _ _ _ _ _ _ b10.1) ?_
        by_cases hr : rightG (cutG B 0 1) (cutG B 10 2) (cutG B 12 2) (B.drop 14).length = 0
        · simp only [if_pos hr]
          exact ev_some _
        · simp only [if_neg hr]
          exact ev_some _
      · rw [if_pos (Or.inr c5)]
        exact hbad _ (by simpa using c5)
    · simp only [if_neg c4]
      rw [if_pos (Or.inl c4)]
      exact hbad _ rfl
  · simp only [if_neg c3, if_pos c3]
    exact ev_some _
theorem lk_ref18_SameOf (k v e i x c : Int) (b : List Int) : annuletref18_Same.f k v e i x c b k v e i x c b = some true := by
  unfold annuletref18_Same.f
  simp only [if_true, beq_self_eq_true]
theorem lk_awake18 : Ev (fun k => annuletlaw18_awake.f k) true := Ev.of annuletlaw18_awake.mono (k := 80) (by decide +kernel)
theorem GramGets_law : annuletlaw18_GramGets.Pure := by
  intro l _ _ hw
  have hb := bytes_of_wf hw
  refine Ev.rounds (g := fun n => annuletlaw18_GramGets.f n l) ?_
  unfold annuletlaw18_GramGets.f
  have hall : ∀ b, Ev (fun n => annuletlaw18_GramGets.j0 n l b) true := by
    intro b
    refine ev_succ ?_
    simp only [annuletlaw18_GramGets.j0]
    cases b with
    | true =>
      simp only [if_true]
      exact ev_bind lk_awake18 (ev_some _)
    | false =>
      simp only [Bool.false_eq_true, if_false]
      refine ev_bind (lk_gram_Get l hb) ?_
      refine ev_bind (lk_ref18_Get l hb) ?_
      simp only [lk_ref18_SameOf, Option.bind_some, if_true]
      exact ev_bind lk_awake18 (ev_some _)
  by_cases c1 : (l.length : Int) > 1500
  · simp only [if_pos c1]
    by_cases c2 : (l.length : Int) ≤ 65507
    · simp only [if_pos c2]
      exact hall _
    · simp only [if_neg c2]
      exact hall _
  · simp only [if_neg c1]
    exact hall _
end Go.Proofs.Ytdadpfdmgjnamaa.PGramGets
namespace Go.Proofs.Ytdadpfdmgjnamaa.Pure
open Go.Proofs.Ytdadpfdmgjnamaa.PGramGets
theorem GramGets : annuletlaw18_GramGets.Pure := GramGets_law
end Go.Proofs.Ytdadpfdmgjnamaa.Pure
