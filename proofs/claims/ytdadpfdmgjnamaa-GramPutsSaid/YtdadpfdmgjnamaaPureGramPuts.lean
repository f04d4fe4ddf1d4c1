/- GramPuts: the bytes of any datagram, or why there are none, are the document's, and so is any two held against one another. No condition. -/
import Derived.Test.YtdadpfdmgjnamaaPGramPutsx7
import Derived.Test.YtdadpfdmgjnamaaMath
set_option linter.unusedVariables false
set_option linter.unusedSimpArgs false
namespace Go.Proofs.Ytdadpfdmgjnamaa.PGramPuts
open Go.RowKit Go.Proofs.YtdadpfdmgjnamaaW.PrintWords Go.Proofs.YtdadpfdmgjnamaaW.PrintLast Go.Proofs.YtdadpfdmgjnamaaW.PrintMore Annulet

/-! ### package crc -/
theorem lk_crc_Step (s : Int) (l : List Int) (h0 : 0 ≤ s) (h1 : s < 4294967296) (hb : Bytes l) : crc_Step.f s l = some ((stepN s.toNat l : Nat) : Int) := by
  obtain ⟨n, rfl⟩ := Int.eq_ofNat_of_zero_le h0
  unfold crc_Step.f
  rw [Int.toNat_natCast]
  split
  · rw [stepSmall_nat l hb n (by omega)]
  · rw [stepTab_nat l hb n (by omega)]
theorem lk_crc_Sum (l : List Int) (hb : Bytes l) : crc_Sum.f l = some ((sumN l : Nat) : Int) := by
  unfold crc_Sum.f
  rw [lk_crc_Step 4294967295 l (by omega) (by omega) hb]
  have hl := stepN_lt l hb 4294967295 (by decide)
  simp only [Option.bind_some]
  rw [show (4294967295 : Int).toNat = 4294967295 from rfl, show (4294967295 : Int) = ((4294967295 : Nat) : Int) from rfl, u32_xor_nat _ _ (by decide) hl]
  rfl
theorem lk_ref02_step (s : Nat) (b : Bool) (h : s < 4294967296) : annuletref02_step.f (s : Int) b = some ((refN s b : Nat) : Int) := by
  unfold annuletref02_step.f refN
  rw [tmod_nat (by omega), tdiv_nat (by omega), show (s : Int) / 2 % 4294967296 = ((s / 2 : Nat) : Int) by omega, show (2197175160 : Int) = ((2197175160 : Nat) : Int) from rfl, u32_xor_nat _ _ (by omega) (by decide)]
  rcases Nat.mod_two_eq_zero_or_one s with h0 | h0
  · have hi : ¬ (s : Int) % 2 = 1 := by omega
    cases b <;> simp [h0, hi]
  · have hi : (s : Int) % 2 = 1 := by omega
    cases b <;> simp [h0, hi]
theorem lk_ref02_Step1 (l : List Int) (i : Nat) (hi : i < l.length) (hl : l.length < 1000000000000) (r : Int) (d : Nat) : ∀ (s c j : Nat), j ≤ 8 → 8 - j = d → s < 4294967296 → c < 256 →
    Ev (fun k => annuletref02_Step.l0 k ((refIt (8 - j) s c : Nat) : Int) l ((i + 1 : Nat) : Int)) r → Ev (fun k => annuletref02_Step.l1 k (s : Int) l (i : Int) (c : Int) (j : Int)) r := by
  induction d with
  | zero =>
    intro s c j hj hd hs hc h
    obtain rfl : j = 8 := by omega
    refine ev_succ ?_
    simp only [annuletref02_Step.l1]
    rw [w64 (n := (i : Int) + 1) (by omega) (by omega)]
    simp only [if_neg (show ¬ ((8 : Nat) : Int) < 8 by omega)]
    exact h
  | succ d ih =>
    intro s c j hj hd hs hc h
    refine ev_succ ?_
    simp only [annuletref02_Step.l1]
    rw [tmod_nat (by omega), tdiv_nat (by omega), w64 (n := (c : Int) / 2) (by omega) (by omega), w64 (n := (j : Int) + 1) (by omega) (by omega), show ((c : Int) % 2 == 1) = decide (c % 2 = 1) by rw [Bool.eq_iff_iff]; simp; omega, lk_ref02_step s _ hs]
    simp only [if_pos (show (j : Int) < 8 by omega), Option.bind_some]
    have := ih (refN s (decide (c % 2 = 1))) (c / 2) (j + 1) (by omega) (by omega) (refN_lt hs _) (by omega) (by
      rw [show 8 - j = (8 - (j + 1)) + 1 by omega, refIt] at h
      exact h)
    rw [show ((c / 2 : Nat) : Int) = (c : Int) / 2 by omega] at this
    exact this
theorem lk_ref02_Step0 (l : List Int) (hb : Bytes l) (hl : l.length < 1000000000000) (d : Nat) : ∀ (i s : Nat), i ≤ l.length → l.length - i = d → s < 4294967296 →
    Ev (fun k => annuletref02_Step.l0 k (s : Int) l (i : Int)) ((stepN s (l.drop i) : Nat) : Int) := by
  induction d with
  | zero =>
    intro i s hi hd hs
    rw [List.drop_eq_nil_of_le (by omega)]
    refine ev_succ ?_
    simp only [annuletref02_Step.l0]
    simp only [if_neg (show ¬ (i : Int) < (l.length : Int) by omega)]
    exact ev_some _
  | succ d ih =>
    intro i s hi hd hs
    have hr := rd_byte hb (i : Int)
    unfold Byte at hr
    have hx : s ^^^ (rd l (i : Int)).toNat < 4294967296 := Nat.xor_lt_two_pow (n := 32) (by omega) (by omega)
    rw [drop_rd l i (by omega), stepN]
    refine ev_succ ?_
    simp only [annuletref02_Step.l0]
    rw [w64 (by omega) (by omega)]
    simp only [if_pos (show (i : Int) < (l.length : Int) by omega), if_pos (show (0 : Int) ≤ (i : Int) by omega)]
    have := lk_ref02_Step1 l i (by omega) hl ((stepN (iterN bitN 8 (s ^^^ (rd l (i : Int)).toNat)) (l.drop (i + 1)) : Nat) : Int) 8 s (rd l (i : Int)).toNat 0 (by omega) rfl hs (by omega) (by
      rw [show 8 - 0 = 8 from rfl, refIt_byte _ _ (by omega)]
      exact ih (i + 1) _ (by omega) (by omega) (iterN_lt hx 8))
    rw [show (((rd l (i : Int)).toNat : Nat) : Int) = rd l (i : Int) by omega] at this
    exact this
theorem lk_ref02_Step (s : Int) (l : List Int) (h0 : 0 ≤ s) (h1 : s < 4294967296) (hb : Bytes l) (hl : l.length < 1000000000000) : Ev (fun k => annuletref02_Step.f k s l) ((stepN s.toNat l : Nat) : Int) := by
  unfold annuletref02_Step.f
  have := lk_ref02_Step0 l hb hl _ 0 s.toNat (by omega) rfl (by omega)
  rw [show ((s.toNat : Nat) : Int) = s by omega] at this
  exact this
theorem lk_ref02_Sum (l : List Int) (hb : Bytes l) (hl : l.length < 1000000000000) : Ev (fun k => annuletref02_Sum.f k l) ((sumN l : Nat) : Int) := by
  unfold annuletref02_Sum.f
  refine ev_bind (lk_ref02_Step 4294967295 l (by omega) (by omega) hb hl) ?_
  have h := stepN_lt l hb 4294967295 (by decide)
  rw [show (4294967295 : Int).toNat = 4294967295 from rfl]
  unfold sumN
  rw [xor_full h]
  rw [show (4294967295 - ((stepN 4294967295 l : Nat) : Int)) % 4294967296 = ((4294967295 - stepN 4294967295 l : Nat) : Int) by omega]
  exact ev_some _
theorem lk_buf_Fix0 (x s : Nat) (hs : s ≤ 8) : ∀ (c : Nat) (l : List Int), c ≤ s → l.length + c < 100000000000000 → Ev (fun k => buf_Fix.l0 k l (x : Int) ((c : Int) - 1)) (l ++ beL c x) := by
  intro c
  induction c with
  | zero =>
    intro l hc hl
    refine ev_const fun k => ?_
    rw [buf_Fix.l0, if_neg (by omega), beL, List.append_nil]
  | succ c ih =>
    intro l hc hl
    refine ev_succ ?_
    simp only [buf_Fix.l0]
    rw [show ((c + 1 : Nat) : Int) - 1 = (c : Int) by omega, w64 (n := 8 * (c : Int)) (by omega) (by omega), w64 (n := (c : Int) - 1) (by omega) (by omega), shr8_byte x c (by omega)]
    simp only [if_pos (show (c : Int) ≥ 0 by omega), if_pos (show (0 : Int) ≤ 8 * (c : Int) by omega), if_pos (show l.length < 140737488355328 by omega)]
    have := ih (l ++ [((x / 256 ^ c % 256 : Nat) : Int)]) (by omega) (by simp; omega)
    rw [beL_head]
    rw [List.append_assoc] at this
    exact this
theorem lk_buf_Fix (l : List Int) (x s : Nat) (h1 : 1 ≤ s) (h8 : s ≤ 8) (hl : l.length < 10000000000000) : Ev (fun k => buf_Fix.f k l (x : Int) (s : Int)) (l ++ beL s x) := by
  unfold buf_Fix.f
  simp only [if_neg (show ¬ (s : Int) < 1 by omega), decide_eq_false (show ¬ (s : Int) > 8 by omega)]
  refine ev_succ ?_
  simp only [buf_Fix.j0]
  rw [w64 (by omega) (by omega)]
  simp only [Bool.false_eq_true, if_false]
  exact lk_buf_Fix0 x s h8 s l (Nat.le_refl _) (by omega)
theorem lk_reverse4 (a b c d : Int) : Ev (fun k => slices_Reverse_byte_byte.f k [a, b, c, d]) [d, c, b, a] := by
  unfold slices_Reverse_byte_byte.f
  have e1 : wrap64 ((([a, b, c, d] : List Int).length : Int) - 1) = 3 := by rw [w64 (by simp) (by simp)]; rfl
  have e2 : wrap64 (1 : Int) = 1 := w64 (by omega) (by omega)
  have e3 : wrap64 (2 : Int) = 2 := w64 (by omega) (by omega)
  rw [e1]
  refine ⟨3, fun k hk => ?_⟩
  obtain ⟨k, rfl⟩ : ∃ m, k = m + 3 := ⟨k - 3, by omega⟩
  simp [slices_Reverse_byte_byte.l0, e2, e3, rd]
theorem lk_gram_sum (l : List Int) (hb : Bytes l) : Ev (fun k => gram_sum.f k l) (leL 4 (sumN l)) := by
  unfold gram_sum.f
  rw [lk_crc_Sum l hb]
  have hs := sumN_lt l hb
  simp only [Option.bind_some]
  rw [wu64_id (by omega) (by omega)]
  refine ev_bind (lk_buf_Fix [] (sumN l) 4 (by omega) (by omega) (by simp)) ?_
  have e : ([] : List Int) ++ beL 4 (sumN l) = [((sumN l / 256 / 256 / 256 % 256 : Nat) : Int), ((sumN l / 256 / 256 % 256 : Nat) : Int), ((sumN l / 256 % 256 : Nat) : Int), ((sumN l % 256 : Nat) : Int)] := by simp [beL]
  rw [e]
  refine ev_bind (lk_reverse4 _ _ _ _) ?_
  exact ev_eq (ev_some _) (by simp [leL])
theorem lk_gram_Right (k v e i x c : Int) (body : List Int) : Ev (fun n => gram_Right.f n k v e i x c body) (rightG k x c body.length) := by
  unfold gram_Right.f
  have hj : ∀ b, b = decide (k < 1 ∨ 2 < k) → Ev (fun n => gram_Right.j0 n b k v e i x c body) (rightG k x c body.length) := by
    intro b hb
    refine ev_const fun n => ?_
    rw [gram_Right.j0]
    unfold rightG
    by_cases h : k < 1 ∨ 2 < k
    · rw [hb, decide_eq_true h, if_pos rfl, if_pos h]
    · rw [hb, decide_eq_false h, if_neg (by decide), if_neg h]
      by_cases h2 : x ≥ c
      · rw [if_pos h2, if_pos h2]
      · rw [if_neg h2, if_neg h2]
        by_cases h3 : (body.length : Int) > 65487
        · rw [if_pos h3, if_pos (by omega)]
        · rw [if_neg h3, if_neg (by omega)]
  by_cases h1 : k = 1
  · simp only [if_pos h1]
    exact hj false (decide_eq_false (by omega)).symm
  · simp only [if_neg h1]
    by_cases h2 : k = 2
    · have : (k != 2) = false := by rw [h2]; rfl
      rw [this]
      exact hj false (decide_eq_false (by omega)).symm
    · have : (k != 2) = true := by simp [h2]
      rw [this]
      exact hj true (decide_eq_true (by omega)).symm
theorem lk_gram_Put (k v e i x c : Int) (body : List Int) (hk : Byte k) (hv : Byte v) (he : 0 ≤ e ∧ e < 4294967296) (hi : 0 ≤ i ∧ i < 4294967296) (hx : 0 ≤ x ∧ x < 65536) (hc : 0 ≤ c ∧ c < 65536) (hb : Bytes body) (hl : body.length < 1000000000) :
    Ev (fun n => gram_Put.f n k v e i x c body) (if rightG k x c body.length = 0 then (bytesG k v e i x c body, 0) else ([], rightG k x c body.length)) := by
  unfold gram_Put.f
  refine ev_bind (lk_gram_Right k v e i x c body) ?_
  by_cases hr : rightG k x c body.length = 0
  · simp only [if_pos hr]
    refine ev_bind (lk_buf_Fix [] 42830 2 (by omega) (by omega) (by simp)) ?_
    simp only [Option.bind_some]
    have e0 : ([] : List Int) ++ beL 2 42830 = [167, 78] := by simp [beL]
    rw [e0, wu64_id (n := e) (by omega) (by omega), wu64_id (n := i) (by omega) (by omega), wu64_id (n := x) (by omega) (by omega), wu64_id (n := c) (by omega) (by omega)]
    have ee : ((e.toNat : Nat) : Int) = e := by omega
    have ei : ((i.toNat : Nat) : Int) = i := by omega
    have ex : ((x.toNat : Nat) : Int) = x := by omega
    have ec : ((c.toNat : Nat) : Int) = c := by omega
    have f1 := lk_buf_Fix ([167, 78] ++ [k, v]) e.toNat 4 (by omega) (by omega) (by simp)
    have f2 := lk_buf_Fix ([167, 78] ++ [k, v] ++ beL 4 e.toNat) i.toNat 4 (by omega) (by omega) (by simp [beL_len])
    have f3 := lk_buf_Fix ([167, 78] ++ [k, v] ++ beL 4 e.toNat ++ beL 4 i.toNat) x.toNat 2 (by omega) (by omega) (by simp [beL_len])
    have f4 := lk_buf_Fix ([167, 78] ++ [k, v] ++ beL 4 e.toNat ++ beL 4 i.toNat ++ beL 2 x.toNat) c.toNat 2 (by omega) (by omega) (by simp [beL_len])
    rw [ee] at f1
    rw [ei] at f2
    rw [ex] at f3
    rw [ec] at f4
    simp only [if_pos (show ([167, 78] : List Int).length + ([k, v] : List Int).length < 140737488355328 by simp)]
    refine ev_bind f1 ?_
    refine ev_bind f2 ?_
    refine ev_bind f3 ?_
    refine ev_bind f4 ?_
    have eh : [167, 78] ++ [k, v] ++ beL 4 e.toNat ++ beL 4 i.toNat ++ beL 2 x.toNat ++ beL 2 c.toNat = headG k v e i x c := rfl
    rw [eh]
    simp only [if_pos (show (headG k v e i x c).length + body.length < 140737488355328 by rw [headG_len]; omega), Option.bind_some]
    have hB := bytes_append (headG_bytes hk hv e i x c) hb
    refine ev_bind (lk_gram_sum _ hB) ?_
    simp only [if_pos (show (headG k v e i x c ++ body).length + (leL 4 (sumN (headG k v e i x c ++ body))).length < 140737488355328 by rw [List.length_append, headG_len, leL_len]; omega)]
    exact ev_some _
  · simp only [if_neg hr]
    exact ev_some _
theorem lk_ref18_Sum0 (d : Nat) : ∀ (i x : Nat) (acc : List Int), i + d = 4 → x < 4294967296 → acc.length + d < 1000000000000 → Ev (fun k => annuletref18_Sum.l0 k (x : Int) acc (i : Int)) (acc ++ leL d x) := by
  induction d with
  | zero =>
    intro i x acc hi hx hl
    refine ev_const fun k => ?_
    rw [annuletref18_Sum.l0, if_neg (by omega), leL, List.append_nil]
  | succ d ih =>
    intro i x acc hi hx hl
    refine ev_succ ?_
    simp only [annuletref18_Sum.l0]
    rw [tmod_nat (by omega), tdiv_nat (by omega), w64 (by omega) (by omega)]
    simp only [if_pos (show (i : Int) < 4 by omega), if_pos (show acc.length < 140737488355328 by omega)]
    have e1 : (x : Int) / 256 % 4294967296 = ((x / 256 : Nat) : Int) := by omega
    have e2 : (x : Int) % 256 % 256 = ((x % 256 : Nat) : Int) := by omega
    rw [e1, e2]
    have := ih (i + 1) (x / 256) (acc ++ [((x % 256 : Nat) : Int)]) (by omega) (by omega) (by simp; omega)
    rw [List.append_assoc] at this
    exact this
theorem lk_ref18_Sum (l : List Int) (hb : Bytes l) (hl : l.length < 1000000000000) : Ev (fun k => annuletref18_Sum.f k l) (leL 4 (sumN l)) := by
  unfold annuletref18_Sum.f
  refine ev_bind (lk_ref02_Sum l hb hl) ?_
  exact lk_ref18_Sum0 4 0 (sumN l) [] (by omega) (sumN_lt l hb) (by simp)
theorem lk_ref06_Fix0 (s : Nat) (hs : s ≤ 8) (d : Nat) : ∀ (i x : Nat) (acc : List Int), i + d = s → x < 18446744073709551616 → acc.length ≤ i → Ev (fun k => annuletref06_Fix.l0 k (x : Int) (s : Int) acc (i : Int)) (beL d x ++ acc) := by
  induction d with
  | zero =>
    intro i x acc hi hx hl
    refine ev_const fun k => ?_
    rw [annuletref06_Fix.l0, if_neg (by omega)]
    rfl
  | succ d ih =>
    intro i x acc hi hx hl
    refine ev_succ ?_
    simp only [annuletref06_Fix.l0]
    rw [tmod_nat (by omega), tdiv_nat (by omega), w64 (by omega) (by omega), wu64_id (by omega) (by omega)]
    have e2 : (x : Int) % 256 % 256 = ((x % 256 : Nat) : Int) := by omega
    rw [e2]
    simp only [if_pos (show (i : Int) < (s : Int) by omega), Option.bind_some, if_pos (show ([((x % 256 : Nat) : Int)] : List Int).length + acc.length < 140737488355328 by simp; omega)]
    have := ih (i + 1) (x / 256) ([((x % 256 : Nat) : Int)] ++ acc) (by omega) (by omega) (by simp; omega)
    rw [← List.append_assoc] at this
    exact this
theorem lk_ref06_Fix (x s : Nat) (hs : s ≤ 8) (hx : x < 18446744073709551616) : Ev (fun k => annuletref06_Fix.f k (x : Int) (s : Int)) (beL s x) := by
  unfold annuletref06_Fix.f
  simp only [if_neg (show ¬ (s : Int) > 8 by omega)]
  have := lk_ref06_Fix0 s hs s 0 x [] (by omega) hx (by simp)
  rw [List.append_nil] at this
  exact this
theorem lk_ref18_Bytes (k v e i x c : Int) (body : List Int) (hk : Byte k) (hv : Byte v) (he : 0 ≤ e ∧ e < 4294967296) (hi : 0 ≤ i ∧ i < 4294967296) (hx : 0 ≤ x ∧ x < 65536) (hc : 0 ≤ c ∧ c < 65536) (hb : Bytes body) (hl : body.length < 1000000000) :
    Ev (fun n => annuletref18_Bytes.f n k v e i x c body) (bytesG k v e i x c body) := by
  unfold annuletref18_Bytes.f
  rw [wu64_id (n := e) (by omega) (by omega), wu64_id (n := i) (by omega) (by omega), wu64_id (n := x) (by omega) (by omega), wu64_id (n := c) (by omega) (by omega)]
  have f1 := lk_ref06_Fix e.toNat 4 (by omega) (by omega)
  have f2 := lk_ref06_Fix i.toNat 4 (by omega) (by omega)
  have f3 := lk_ref06_Fix x.toNat 2 (by omega) (by omega)
  have f4 := lk_ref06_Fix c.toNat 2 (by omega) (by omega)
  rw [show ((e.toNat : Nat) : Int) = e by omega] at f1
  rw [show ((i.toNat : Nat) : Int) = i by omega] at f2
  rw [show ((x.toNat : Nat) : Int) = x by omega] at f3
  rw [show ((c.toNat : Nat) : Int) = c by omega] at f4
  simp only [Option.bind_some]
  refine ev_bind f1 ?_
  simp only [if_pos (show ([167, 78, k, v] : List Int).length + (beL 4 e.toNat).length < 140737488355328 by simp [beL_len])]
  refine ev_bind f2 ?_
  simp only [if_pos (show ([167, 78, k, v] ++ beL 4 e.toNat : List Int).length + (beL 4 i.toNat).length < 140737488355328 by simp [beL_len])]
  refine ev_bind f3 ?_
  simp only [if_pos (show ([167, 78, k, v] ++ beL 4 e.toNat ++ beL 4 i.toNat : List Int).length + (beL 2 x.toNat).length < 140737488355328 by simp [beL_len])]
  refine ev_bind f4 ?_
  simp only [if_pos (show ([167, 78, k, v] ++ beL 4 e.toNat ++ beL 4 i.toNat ++ beL 2 x.toNat : List Int).length + (beL 2 c.toNat).length < 140737488355328 by simp [beL_len])]
  have eh : [167, 78, k, v] ++ beL 4 e.toNat ++ beL 4 i.toNat ++ beL 2 x.toNat ++ beL 2 c.toNat = headG k v e i x c := rfl
  rw [eh]
  simp only [if_pos (show (headG k v e i x c).length + body.length < 140737488355328 by rw [headG_len]; omega)]
  have hB := bytes_append (headG_bytes hk hv e i x c) hb
  refine ev_bind (lk_ref18_Sum _ hB (by rw [List.length_append, headG_len]; omega)) ?_
  simp only [if_pos (show (headG k v e i x c ++ body).length + (leL 4 (sumN (headG k v e i x c ++ body))).length < 140737488355328 by rw [List.length_append, headG_len, leL_len]; omega)]
  exact ev_some _
theorem lk_ref18_Right (k v e i x c : Int) (body : List Int) (hx : 0 ≤ x) : Ev (fun n => annuletref18_Right.f n k v e i x c body) (rightG k x c body.length) := by
  unfold annuletref18_Right.f
  have h1 : ∀ b, b = decide (c ≤ x) → ¬ (k < 1 ∨ 2 < k) → Ev (fun n => annuletref18_Right.j1 n b k v e i x c body) (rightG k x c body.length) := by
    intro b hb hk
    refine ev_const fun n => ?_
    rw [annuletref18_Right.j1]
    unfold rightG
    rw [if_neg hk]
    by_cases h : c ≤ x
    · rw [hb, decide_eq_true h, if_pos rfl, if_pos h]
    · rw [hb, decide_eq_false h, if_neg (by decide), if_neg h]
      by_cases h3 : (body.length : Int) > 65487
      · rw [if_pos h3, if_pos (by omega)]
      · rw [if_neg h3, if_neg (by omega)]
  have h0 : ∀ b, b = decide (k < 1 ∨ 2 < k) → Ev (fun n => annuletref18_Right.j0 n b k v e i x c body) (rightG k x c body.length) := by
    intro b hb
    refine ev_succ ?_
    simp only [annuletref18_Right.j0]
    by_cases h : k < 1 ∨ 2 < k
    · rw [hb, decide_eq_true h]
      simp only [if_true]
      refine ev_eq (ev_some _) ?_
      unfold rightG
      rw [if_pos h]
    · rw [hb, decide_eq_false h]
      simp only [Bool.false_eq_true, if_false]
      by_cases hc : c = 0
      · simp only [if_pos hc]
        exact h1 true (decide_eq_true (by omega)).symm h
      · simp only [if_neg hc]
        exact h1 _ (decide_eq_decide.2 (by omega)) h
  by_cases hk : k < 1
  · simp only [if_pos hk]
    exact h0 true (decide_eq_true (Or.inl hk)).symm
  · simp only [if_neg hk]
    exact h0 _ (decide_eq_decide.2 (by omega))
theorem lk_ref18_Put (k v e i x c : Int) (body : List Int) (hk : Byte k) (hv : Byte v) (he : 0 ≤ e ∧ e < 4294967296) (hi : 0 ≤ i ∧ i < 4294967296) (hx : 0 ≤ x ∧ x < 65536) (hc : 0 ≤ c ∧ c < 65536) (hb : Bytes body) (hl : body.length < 1000000000) :
    Ev (fun n => annuletref18_Put.f n k v e i x c body) (if rightG k x c body.length = 0 then (bytesG k v e i x c body, 0) else ([], rightG k x c body.length)) := by
  unfold annuletref18_Put.f
  refine ev_bind (lk_ref18_Right k v e i x c body hx.1) ?_
  by_cases hr : rightG k x c body.length = 0
  · simp only [if_pos hr]
    exact ev_bind (lk_ref18_Bytes k v e i x c body hk hv he hi hx hc hb hl) (ev_some _)
  · simp only [if_neg hr]
    exact ev_some _
theorem lk_ref18_SameOf (k v e i x c : Int) (b : List Int) : annuletref18_Same.f k v e i x c b k v e i x c b = some true := by
  unfold annuletref18_Same.f
  simp only [if_true, beq_self_eq_true]
theorem lk_awake18 : Ev (fun k => annuletlaw18_awake.f k) true := Ev.of annuletlaw18_awake.mono (k := 80) (by decide +kernel)
theorem gram_Same_ref (k v e i x c : Int) (b : List Int) (k' v' e' i' x' c' : Int) (b' : List Int) : gram_Same.f k v e i x c b k' v' e' i' x' c' b' = annuletref18_Same.f k v e i x c b k' v' e' i' x' c' b' := by
  unfold gram_Same.f annuletref18_Same.f bytes_Equal.f
  rfl
theorem ref18_Same_some (k v e i x c : Int) (b : List Int) (k' v' e' i' x' c' : Int) (b' : List Int) : ∃ r, annuletref18_Same.f k v e i x c b k' v' e' i' x' c' b' = some r := by
  unfold annuletref18_Same.f
  split
  · split
    · split
      · split
        · split
          · split
            · exact ⟨_, rfl⟩
            · exact ⟨_, rfl⟩
          · exact ⟨_, rfl⟩
        · exact ⟨_, rfl⟩
      · exact ⟨_, rfl⟩
    · exact ⟨_, rfl⟩
  · exact ⟨_, rfl⟩
theorem GramPuts_law : annuletlaw18_GramPuts.Pure := by
  intro k v e i x c body k' v' e' i' x' c' body' hk hv he hi hx hc hb hk' hv' he' hi' hx' hc' hb'
  have hk := wf_u8 hk
  have hv := wf_u8 hv
  have he := wf_u32 he
  have hi := wf_u32 hi
  have hx := wf_u16 hx
  have hc := wf_u16 hc
  have hb := bytes_of_wf hb.2
  refine Ev.rounds (g := fun n => annuletlaw18_GramPuts.f n k v e i x c body k' v' e' i' x' c' body') ?_
  unfold annuletlaw18_GramPuts.f
  have htrue : Ev (fun n => annuletlaw18_GramPuts.j0 n true k v e i x c body k' v' e' i' x' c' body') true := by
    refine ev_succ ?_
    simp only [annuletlaw18_GramPuts.j0, if_true]
    exact ev_bind lk_awake18 (ev_some _)
  by_cases c1 : (body.length : Int) > 1500
  · simp only [if_pos c1]
    exact htrue
  simp only [if_neg c1]
  by_cases c2 : (body'.length : Int) > 1500
  · simp only [decide_eq_true c2]
    exact htrue
  simp only [decide_eq_false c2]
  refine ev_succ ?_
  simp only [annuletlaw18_GramPuts.j0, Bool.false_eq_true, if_false]
  refine ev_bind (lk_gram_Put k v e i x c body hk hv he hi hx hc hb (by omega)) ?_
  refine ev_bind (lk_ref18_Put k v e i x c body hk hv he hi hx hc hb (by omega)) ?_
  simp only [if_true]
  refine ev_bind (lk_gram_Right k v e i x c body) ?_
  refine ev_bind (lk_ref18_Right k v e i x c body hx.1) ?_
  simp only [if_true]
  obtain ⟨r, hr⟩ := ref18_Same_some k v e i x c body k' v' e' i' x' c' body'
  rw [gram_Same_ref, hr]
  simp only [Option.bind_some]
  cases r with
  | true =>
    simp only [if_true]
    exact ev_bind lk_awake18 (ev_some _)
  | false =>
    simp only [Bool.false_eq_true, if_false]
    exact ev_bind lk_awake18 (ev_some _)
end Go.Proofs.Ytdadpfdmgjnamaa.PGramPuts
namespace Go.Proofs.Ytdadpfdmgjnamaa.Pure
open Go.Proofs.Ytdadpfdmgjnamaa.PGramPuts
theorem GramPuts : annuletlaw18_GramPuts.Pure := GramPuts_law
end Go.Proofs.Ytdadpfdmgjnamaa.Pure
