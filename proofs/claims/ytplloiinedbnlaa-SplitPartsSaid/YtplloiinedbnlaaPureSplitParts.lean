/- SplitParts: the datagrams of any body, or why there are none, are the document's. No condition. -/
import Derived.Test.YtplloiinedbnlaaPSplitPartsx6
import Derived.Test.YtplloiinedbnlaaMath
set_option linter.unusedVariables false
set_option linter.unusedSimpArgs false
namespace Go.Proofs.Ytplloiinedbnlaa.PSplitParts
open Go.RowKit Go.Proofs.YtplloiinedbnlaaW.PrintWords Go.Proofs.YtplloiinedbnlaaW.PrintLast Go.Proofs.YtplloiinedbnlaaW.PrintMore Annulet

/-! ### package crc -/
theorem lk_crc_Step (s : Int) (l : List Int) (h0 : 0 ≤ s) (h1 : s < 4294967296) (hb : Bytes l) : crc_Step.f s l = some ((stepN s.toNat l : Nat) : Int) := by
  obtain ⟨n, rfl⟩ := Int.eq_ofNat_of_zero_le h0
  unfold crc_Step.f
  rw [Int.toNat_natCast]
  split
  · rw [stepSmall_nat l hb n (by omega)]
  · rw [stepTab_nat l hb n (by omega)]
theorem lk_crc_Sum (l : List Int) (hb : Bytes l) : crc_Sum.f l = some ((sumN l : Nat) : Int) := by
  unfold crc_Sum.f
  rw [lk_crc_Step 4294967295 l (by omega) (by omega) hb]
  have hl := stepN_lt l hb 4294967295 (by decide)
  simp only [Option.bind_some]
  rw [show (4294967295 : Int).toNat = 4294967295 from rfl, show (4294967295 : Int) = ((4294967295 : Nat) : Int) from rfl, u32_xor_nat _ _ (by decide) hl]
  rfl
theorem lk_ref02_step (s : Nat) (b : Bool) (h : s < 4294967296) : annuletref02_step.f (s : Int) b = some ((refN s b : Nat) : Int) := by
  unfold annuletref02_step.f refN
  rw [tmod_nat (by omega), tdiv_nat (by omega), show (s : Int) / 2 % 4294967296 = ((s / 2 : Nat) : Int) by omega, show (2197175160 : Int) = ((2197175160 : Nat) : Int) from rfl, u32_xor_nat _ _ (by omega) (by decide)]
  rcases Nat.mod_two_eq_zero_or_one s with h0 | h0
  · have hi : ¬ (s : Int) % 2 = 1 := by omega
    cases b <;> simp [h0, hi]
  · have hi : (s : Int) % 2 = 1 := by omega
    cases b <;> simp [h0, hi]
theorem lk_ref02_Step1 (l : List Int) (i : Nat) (hi : i < l.length) (hl : l.length < 1000000000000) (r : Int) (d : Nat) : ∀ (s c j : Nat), j ≤ 8 → 8 - j = d → s < 4294967296 → c < 256 →
    Ev (fun k => annuletref02_Step.l0 k ((refIt (8 - j) s c : Nat) : Int) l ((i + 1 : Nat) : Int)) r → Ev (fun k => annuletref02_Step.l1 k (s : Int) l (i : Int) (c : Int) (j : Int)) r := by
  induction d with
  | zero =>
    intro s c j hj hd hs hc h
    obtain rfl : j = 8 := by omega
    refine ev_succ ?_
    simp only [annuletref02_Step.l1]
    rw [w64 (n := (i : Int) + 1) (by omega) (by omega)]
    simp only [if_neg (show ¬ ((8 : Nat) : Int) < 8 by omega)]
    exact h
  | succ d ih =>
    intro s c j hj hd hs hc h
    refine ev_succ ?_
    simp only [annuletref02_Step.l1]
    rw [tmod_nat (by omega), tdiv_nat (by omega), w64 (n := (c : Int) / 2) (by omega) (by omega), w64 (n := (j : Int) + 1) (by omega) (by omega), show ((c : Int) % 2 == 1) = decide (c % 2 = 1) by rw [Bool.eq_iff_iff]; simp; omega, lk_ref02_step s _ hs]
    simp only [if_pos (show (j : Int) < 8 by omega), Option.bind_some]
    have := ih (refN s (decide (c % 2 = 1))) (c / 2) (j + 1) (by omega) (by omega) (refN_lt hs _) (by omega) (by
      rw [show 8 - j = (8 - (j + 1)) + 1 by omega, refIt] at h
      exact h)
    rw [show ((c / 2 : Nat) : Int) = (c : Int) / 2 by omega] at this
    exact this
theorem lk_ref02_Step0 (l : List Int) (hb : Bytes l) (hl : l.length < 1000000000000) (d : Nat) : ∀ (i s : Nat), i ≤ l.length → l.length - i = d → s < 4294967296 →
    Ev (fun k => annuletref02_Step.l0 k (s : Int) l (i : Int)) ((stepN s (l.drop i) : Nat) : Int) := by
  induction d with
  | zero =>
    intro i s hi hd hs
    rw [List.drop_eq_nil_of_le (by omega)]
    refine ev_succ ?_
    simp only [annuletref02_Step.l0]
    simp only [if_neg (show ¬ (i : Int) < (l.length : Int) by omega)]
    exact ev_some _
  | succ d ih =>
    intro i s hi hd hs
    have hr := rd_byte hb (i : Int)
    unfold Byte at hr
    have hx : s ^^^ (rd l (i : Int)).toNat < 4294967296 := Nat.xor_lt_two_pow (n := 32) (by omega) (by omega)
    rw [drop_rd l i (by omega), stepN]
    refine ev_succ ?_
    simp only [annuletref02_Step.l0]
    rw [w64 (by omega) (by omega)]
    simp only [if_pos (show (i : Int) < (l.length : Int) by omega), if_pos (show (0 : Int) ≤ (i : Int) by omega)]
    have := lk_ref02_Step1 l i (by omega) hl ((stepN (iterN bitN 8 (s ^^^ (rd l (i : Int)).toNat)) (l.drop (i + 1)) : Nat) : Int) 8 s (rd l (i : Int)).toNat 0 (by omega) rfl hs (by omega) (by
      rw [show 8 - 0 = 8 from rfl, refIt_byte _ _ (by omega)]
      exact ih (i + 1) _ (by omega) (by omega) (iterN_lt hx 8))
    rw [show (((rd l (i : Int)).toNat : Nat) : Int) = rd l (i : Int) by omega] at this
    exact this
theorem lk_ref02_Step (s : Int) (l : List Int) (h0 : 0 ≤ s) (h1 : s < 4294967296) (hb : Bytes l) (hl : l.length < 1000000000000) : Ev (fun k => annuletref02_Step.f k s l) ((stepN s.toNat l : Nat) : Int) := by
  unfold annuletref02_Step.f
  have := lk_ref02_Step0 l hb hl _ 0 s.toNat (by omega) rfl (by omega)
  rw [show ((s.toNat : Nat) : Int) = s by omega] at this
  exact this
theorem lk_ref02_Sum (l : List Int) (hb : Bytes l) (hl : l.length < 1000000000000) : Ev (fun k => annuletref02_Sum.f k l) ((sumN l : Nat) : Int) := by
  unfold annuletref02_Sum.f
  refine ev_bind (lk_ref02_Step 4294967295 l (by omega) (by omega) hb hl) ?_
  have h := stepN_lt l hb 4294967295 (by decide)
  rw [show (4294967295 : Int).toNat = 4294967295 from rfl]
  unfold sumN
  rw [xor_full h]
  rw [show (4294967295 - ((stepN 4294967295 l : Nat) : Int)) % 4294967296 = ((4294967295 - stepN 4294967295 l : Nat) : Int) by omega]
  exact ev_some _
theorem lk_buf_Fix0 (x s : Nat) (hs : s ≤ 8) : ∀ (c : Nat) (l : List Int), c ≤ s → l.length + c < 100000000000000 → Ev (fun k => buf_Fix.l0 k l (x : Int) ((c : Int) - 1)) (l ++ beL c x) := by
  intro c
  induction c with
  | zero =>
    intro l hc hl
    refine ev_const fun k => ?_
    rw [buf_Fix.l0, if_neg (by omega), beL, List.append_nil]
  | succ c ih =>
    intro l hc hl
    refine ev_succ ?_
    simp only [buf_Fix.l0]
    rw [show ((c + 1 : Nat) : Int) - 1 = (c : Int) by omega, w64 (n := 8 * (c : Int)) (by omega) (by omega), w64 (n := (c : Int) - 1) (by omega) (by omega), shr8_byte x c (by omega)]
    simp only [if_pos (show (c : Int) ≥ 0 by omega), if_pos (show (0 : Int) ≤ 8 * (c : Int) by omega), if_pos (show l.length < 140737488355328 by omega)]
    have := ih (l ++ [((x / 256 ^ c % 256 : Nat) : Int)]) (by omega) (by simp; omega)
    rw [beL_head]
    rw [List.append_assoc] at this
    exact this
theorem lk_buf_Fix (l : List Int) (x s : Nat) (h1 : 1 ≤ s) (h8 : s ≤ 8) (hl : l.length < 10000000000000) : Ev (fun k => buf_Fix.f k l (x : Int) (s : Int)) (l ++ beL s x) := by
  unfold buf_Fix.f
  simp only [if_neg (show ¬ (s : Int) < 1 by omega), decide_eq_false (show ¬ (s : Int) > 8 by omega)]
  refine ev_succ ?_
  simp only [buf_Fix.j0]
  rw [w64 (by omega) (by omega)]
  simp only [Bool.false_eq_true, if_false]
  exact lk_buf_Fix0 x s h8 s l (Nat.le_refl _) (by omega)
theorem lk_reverse4 (a b c d : Int) : Ev (fun k => slices_Reverse_byte_byte.f k [a, b, c, d]) [d, c, b, a] := by
  unfold slices_Reverse_byte_byte.f
  have e1 : wrap64 ((([a, b, c, d] : List Int).length : Int) - 1) = 3 := by rw [w64 (by simp) (by simp)]; rfl
  have e2 : wrap64 (1 : Int) = 1 := w64 (by omega) (by omega)
  have e3 : wrap64 (2 : Int) = 2 := w64 (by omega) (by omega)
  rw [e1]
  refine ⟨3, fun k hk => ?_⟩
  obtain ⟨k, rfl⟩ : ∃ m, k = m + 3 := ⟨k - 3, by omega⟩
  simp [slices_Reverse_byte_byte.l0, e2, e3, rd]
theorem lk_gram_sum (l : List Int) (hb : Bytes l) : Ev (fun k => gram_sum.f k l) (leL 4 (sumN l)) := by
  unfold gram_sum.f
  rw [lk_crc_Sum l hb]
  have hs := sumN_lt l hb
  simp only [Option.bind_some]
  rw [wu64_id (by omega) (by omega)]
  refine ev_bind (lk_buf_Fix [] (sumN l) 4 (by omega) (by omega) (by simp)) ?_
  have e : ([] : List Int) ++ beL 4 (sumN l) = [((sumN l / 256 / 256 / 256 % 256 : Nat) : Int), ((sumN l / 256 / 256 % 256 : Nat) : Int), ((sumN l / 256 % 256 : Nat) : Int), ((sumN l % 256 : Nat) : Int)] := by simp [beL]
  rw [e]
  refine ev_bind (lk_reverse4 _ _ _ _) ?_
  exact ev_eq (ev_some _) (by simp [leL])
theorem lk_gram_Right (k v e i x c : Int) (body : List Int) : Ev (fun n => gram_Right.f n k v e i x c body) (rightG k x c body.length) := by
  unfold gram_Right.f
  have hj : ∀ b, b = decide (k < 1 ∨ 2 < k) → Ev (fun n => gram_Right.j0 n b k v e i x c body) (rightG k x c body.length) := by
    intro b hb
    refine ev_const fun n => ?_
    rw [gram_Right.j0]
    unfold rightG
    by_cases h : k < 1 ∨ 2 < k
    · rw [hb, decide_eq_true h, if_pos rfl, if_pos h]
    · rw [hb, decide_eq_false h, if_neg (by decide), if_neg h]
      by_cases h2 : x ≥ c
      · rw [if_pos h2, if_pos h2]
      · rw [if_neg h2, if_neg h2]
        by_cases h3 : (body.length : Int) > 65487
        · rw [if_pos h3, if_pos (by omega)]
        · rw [if_neg h3, if_neg (by omega)]
  by_cases h1 : k = 1
  · simp only [if_pos h1]
    exact hj false (decide_eq_false (by omega)).symm
  · simp only [if_neg h1]
    by_cases h2 : k = 2
    · have : (k != 2) = false := by rw [h2]; rfl
      rw [this]
      exact hj false (decide_eq_false (by omega)).symm
    · have : (k != 2) = true := by simp [h2]
      rw [this]
      exact hj true (decide_eq_true (by omega)).symm
theorem lk_gram_Put (k v e i x c : Int) (body : List Int) (hk : Byte k) (hv : Byte v) (he : 0 ≤ e ∧ e < 4294967296) (hi : 0 ≤ i ∧ i < 4294967296) (hx : 0 ≤ x ∧ x < 65536) (hc : 0 ≤ c ∧ c < 65536) (hb : Bytes body) (hl : body.length < 1000000000) :
    Ev (fun n => gram_Put.f n k v e i x c body) (if rightG k x c body.length = 0 then (bytesG k v e i x c body, 0) else ([], rightG k x c body.length)) := by
  unfold gram_Put.f
  refine ev_bind (lk_gram_Right k v e i x c body) ?_
  by_cases hr : rightG k x c body.length = 0
  · simp only [if_pos hr]
    refine ev_bind (lk_buf_Fix [] 42830 2 (by omega) (by omega) (by simp)) ?_
    simp only [Option.bind_some]
    have e0 : ([] : List Int) ++ beL 2 42830 = [167, 78] := by simp [beL]
    rw [e0, wu64_id (n := e) (by omega) (by omega), wu64_id (n := i) (by omega) (by omega), wu64_id (n := x) (by omega) (by omega), wu64_id (n := c) (by omega) (by omega)]
    have ee : ((e.toNat : Nat) : Int) = e := by omega
    have ei : ((i.toNat : Nat) : Int) = i := by omega
    have ex : ((x.toNat : Nat) : Int) = x := by omega
    have ec : ((c.toNat : Nat) : Int) = c := by omega
    have f1 := lk_buf_Fix ([167, 78] ++ [k, v]) e.toNat 4 (by omega) (by omega) (by simp)
    have f2 := lk_buf_Fix ([167, 78] ++ [k, v] ++ beL 4 e.toNat) i.toNat 4 (by omega) (by omega) (by simp [beL_len])
    have f3 := lk_buf_Fix ([167, 78] ++ [k, v] ++ beL 4 e.toNat ++ beL 4 i.toNat) x.toNat 2 (by omega) (by omega) (by simp [beL_len])
    have f4 := lk_buf_Fix ([167, 78] ++ [k, v] ++ beL 4 e.toNat ++ beL 4 i.toNat ++ beL 2 x.toNat) c.toNat 2 (by omega) (by omega) (by simp [beL_len])
    rw [ee] at f1
    rw [ei] at f2
    rw [ex] at f3
    rw [ec] at f4
    simp only [if_pos (show ([167, 78] : List Int).length + ([k, v] : List Int).length < 140737488355328 by simp)]
    refine ev_bind f1 ?_
    refine ev_bind f2 ?_
    refine ev_bind f3 ?_
    refine ev_bind f4 ?_
    have eh : [167, 78] ++ [k, v] ++ beL 4 e.toNat ++ beL 4 i.toNat ++ beL 2 x.toNat ++ beL 2 c.toNat = headG k v e i x c := rfl
    rw [eh]
    simp only [if_pos (show (headG k v e i x c).length + body.length < 140737488355328 by rw [headG_len]; omega), Option.bind_some]
    have hB := bytes_append (headG_bytes hk hv e i x c) hb
    refine ev_bind (lk_gram_sum _ hB) ?_
    simp only [if_pos (show (headG k v e i x c ++ body).length + (leL 4 (sumN (headG k v e i x c ++ body))).length < 140737488355328 by rw [List.length_append, headG_len, leL_len]; omega)]
    exact ev_some _
  · simp only [if_neg hr]
    exact ev_some _
theorem lk_ref18_Sum0 (d : Nat) : ∀ (i x : Nat) (acc : List Int), i + d = 4 → x < 4294967296 → acc.length + d < 1000000000000 → Ev (fun k => annuletref18_Sum.l0 k (x : Int) acc (i : Int)) (acc ++ leL d x) := by
  induction d with
  | zero =>
    intro i x acc hi hx hl
    refine ev_const fun k => ?_
    rw [annuletref18_Sum.l0, if_neg (by omega), leL, List.append_nil]
  | succ d ih =>
    intro i x acc hi hx hl
    refine ev_succ ?_
    simp only [annuletref18_Sum.l0]
    rw [tmod_nat (by omega), tdiv_nat (by omega), w64 (by omega) (by omega)]
    simp only [if_pos (show (i : Int) < 4 by omega), if_pos (show acc.length < 140737488355328 by omega)]
    have e1 : (x : Int) / 256 % 4294967296 = ((x / 256 : Nat) : Int) := by omega
    have e2 : (x : Int) % 256 % 256 = ((x % 256 : Nat) : Int) := by omega
    rw [e1, e2]
    have := ih (i + 1) (x / 256) (acc ++ [((x % 256 : Nat) : Int)]) (by omega) (by omega) (by simp; omega)
    rw [List.append_assoc] at this
    exact this
theorem lk_ref18_Sum (l : List Int) (hb : Bytes l) (hl : l.length < 1000000000000) : Ev (fun k => annuletref18_Sum.f k l) (leL 4 (sumN l)) := by
  unfold annuletref18_Sum.f
  refine ev_bind (lk_ref02_Sum l hb hl) ?_
  exact lk_ref18_Sum0 4 0 (sumN l) [] (by omega) (sumN_lt l hb) (by simp)
theorem lk_ref06_Fix0 (s : Nat) (hs : s ≤ 8) (d : Nat) : ∀ (i x : Nat) (acc : List Int), i + d = s → x < 18446744073709551616 → acc.length ≤ i → Ev (fun k => annuletref06_Fix.l0 k (x : Int) (s : Int) acc (i : Int)) (beL d x ++ acc) := by
  induction d with
  | zero =>
    intro i x acc hi hx hl
    refine ev_const fun k => ?_
    rw [annuletref06_Fix.l0, if_neg (by omega)]
    rfl
  | succ d ih =>
    intro i x acc hi hx hl
    refine ev_succ ?_
    simp only [annuletref06_Fix.l0]
    rw [tmod_nat (by omega), tdiv_nat (by omega), w64 (by omega) (by omega), wu64_id (by omega) (by omega)]
    have e2 : (x : Int) % 256 % 256 = ((x % 256 : Nat) : Int) := by omega
    rw [e2]
    simp only [if_pos (show (i : Int) < (s : Int) by omega), Option.bind_some, if_pos (show ([((x % 256 : Nat) : Int)] : List Int).length + acc.length < 140737488355328 by simp; omega)]
    have := ih (i + 1) (x / 256) ([((x % 256 : Nat) : Int)] ++ acc) (by omega) (by omega) (by simp; omega)
    rw [← List.append_assoc] at this
    exact this
theorem lk_ref06_Fix (x s : Nat) (hs : s ≤ 8) (hx : x < 18446744073709551616) : Ev (fun k => annuletref06_Fix.f k (x : Int) (s : Int)) (beL s x) := by
  unfold annuletref06_Fix.f
  simp only [if_neg (show ¬ (s : Int) > 8 by omega)]
  have := lk_ref06_Fix0 s hs s 0 x [] (by omega) hx (by simp)
  rw [List.append_nil] at this
  exact this
theorem lk_ref18_Bytes (k v e i x c : Int) (body : List Int) (hk : Byte k) (hv : Byte v) (he : 0 ≤ e ∧ e < 4294967296) (hi : 0 ≤ i ∧ i < 4294967296) (hx : 0 ≤ x ∧ x < 65536) (hc : 0 ≤ c ∧ c < 65536) (hb : Bytes body) (hl : body.length < 1000000000) :
    Ev (fun n => annuletref18_Bytes.f n k v e i x c body) (bytesG k v e i x c body) := by
  unfold annuletref18_Bytes.f
  rw [wu64_id (n := e) (by omega) (by omega), wu64_id (n := i) (by omega) (by omega), wu64_id (n := x) (by omega) (by omega), wu64_id (n := c) (by omega) (by omega)]
  have f1 := lk_ref06_Fix e.toNat 4 (by omega) (by omega)
  have f2 := lk_ref06_Fix i.toNat 4 (by omega) (by omega)
  have f3 := lk_ref06_Fix x.toNat 2 (by omega) (by omega)
  have f4 := lk_ref06_Fix c.toNat 2 (by omega) (by omega)
  rw [show ((e.toNat : Nat) : Int) = e by omega] at f1
  rw [show ((i.toNat : Nat) : Int) = i by omega] at f2
  rw [show ((x.toNat : Nat) : Int) = x by omega] at f3
  rw [show ((c.toNat : Nat) : Int) = c by omega] at f4
  simp only [Option.bind_some]
  refine ev_bind f1 ?_
  simp only [if_pos (show ([167, 78, k, v] : List Int).length + (beL 4 e.toNat).length < 140737488355328 by simp [beL_len])]
  refine ev_bind f2 ?_
  simp only [if_pos (show ([167, 78, k, v] ++ beL 4 e.toNat : List Int).length + (beL 4 i.toNat).length < 140737488355328 by simp [beL_len])]
  refine ev_bind f3 ?_
  simp only [if_pos (show ([167, 78, k, v] ++ beL 4 e.toNat ++ beL 4 i.toNat : List Int).length + (beL 2 x.toNat).length < 140737488355328 by simp [beL_len])]
  refine ev_bind f4 ?_
  simp only [if_pos (show ([167, 78, k, v] ++ beL 4 e.toNat ++ beL 4 i.toNat ++ beL 2 x.toNat : List Int).length + (beL 2 c.toNat).length < 140737488355328 by simp [beL_len])]
  have eh : [167, 78, k, v] ++ beL 4 e.toNat ++ beL 4 i.toNat ++ beL 2 x.toNat ++ beL 2 c.toNat = headG k v e i x c := rfl
  rw [eh]
  simp only [if_pos (show (headG k v e i x c).length + body.length < 140737488355328 by rw [headG_len]; omega)]
  have hB := bytes_append (headG_bytes hk hv e i x c) hb
  refine ev_bind (lk_ref18_Sum _ hB (by rw [List.length_append, headG_len]; omega)) ?_
  simp only [if_pos (show (headG k v e i x c ++ body).length + (leL 4 (sumN (headG k v e i x c ++ body))).length < 140737488355328 by rw [List.length_append, headG_len, leL_len]; omega)]
  exact ev_some _
theorem lk_split_Room (m : Int) : split_Room.f m = some (roomI m) := by
  unfold split_Room.f roomI
  by_cases h1 : m < 32
  · rw [if_pos h1, if_neg (by omega)]
  · rw [if_neg h1]
    by_cases h2 : m > 65507
    · rw [if_pos h2, if_neg (by omega)]
    · rw [if_neg h2, if_pos (by omega), w64 (by omega) (by omega)]
theorem lk_split_Count (m n : Int) (h0 : -9223372036854775808 ≤ n) (h1 : n < 9223372036854775808) : Ev (fun k => split_Count.f k m n) (countI m n) := by
  unfold split_Count.f
  rw [lk_split_Room]
  simp only [Option.bind_some]
  have hj : ∀ b, b = decide (roomI m = 0 ∨ n < 0) → Ev (fun k => split_Count.j0 k n (roomI m) b) (countI m n) := by
    intro b hb
    refine ev_const fun k => ?_
    rw [split_Count.j0]
    unfold countI
    by_cases hc : roomI m = 0 ∨ n < 0
    · rw [hb, decide_eq_true hc, if_pos rfl, if_pos hc]
    · have hr := room_range m
      rw [hb, decide_eq_false hc, if_neg (by decide), if_neg hc, if_neg (by omega), many_prog n (roomI m) (by omega) h1 (by omega)]
      by_cases h5 : manyI n (roomI m) > 65535
      · rw [if_pos h5, if_pos h5]
      · rw [if_neg h5, if_neg h5]
  by_cases h : roomI m = 0
  · simp only [if_pos h]
    exact hj true (by rw [decide_eq_true (Or.inl h)])
  · simp only [if_neg h]
    exact hj _ (decide_eq_decide.2 (by simp [h]))
theorem lk_ref19_Room (m : Int) : annuletref19_Room.f m = some (roomI m) := by
  unfold annuletref19_Room.f roomI
  by_cases h1 : m ≥ 32
  · rw [if_pos h1]
    by_cases h2 : m ≤ 65507
    · rw [if_pos h2, if_pos (by omega), w64 (by omega) (by omega)]
    · rw [if_neg h2, if_neg (by omega)]
  · rw [if_neg h1, if_neg (by omega)]
theorem lk_ref19_Count (m n : Int) (h0 : -9223372036854775808 ≤ n) (h1 : n < 9223372036854775808) : Ev (fun k => annuletref19_Count.f k m n) (countI m n) := by
  unfold annuletref19_Count.f
  rw [lk_ref19_Room]
  simp only [Option.bind_some]
  have hj : ∀ b, b = decide (roomI m = 0 ∨ n < 0) → Ev (fun k => annuletref19_Count.j0 k n (roomI m) b) (countI m n) := by
    intro b hb
    refine ev_succ (g := fun k => annuletref19_Count.j0 k n (roomI m) b) ?_
    by_cases hc : roomI m = 0 ∨ n < 0
    · refine Ev.congr (f := fun _ => some (countI m n)) (fun k => ?_) (ev_some _)
      rw [annuletref19_Count.j0, hb, decide_eq_true hc, if_pos rfl]
      unfold countI
      rw [if_pos hc]
    · have hr := room_range m
      have a := Int.ediv_nonneg (show 0 ≤ n by omega) (show 0 ≤ roomI m by omega)
      have c := Int.ediv_le_self (roomI m) (show 0 ≤ n by omega)
      have hd : n / roomI m ≤ n / 2 := by
        apply Int.le_ediv_of_mul_le (by omega)
        have h2 := Int.emod_add_mul_ediv n (roomI m)
        have h3 := Int.emod_nonneg n (show roomI m ≠ 0 by omega)
        have h4 : n / roomI m * 2 ≤ n / roomI m * roomI m := Int.mul_le_mul_of_nonneg_left (by omega) a
        rw [Int.mul_comm (n / roomI m) (roomI m)] at h4
        omega
      have hm := many_ref n (roomI m) (by omega) (by omega)
      have key : ∀ d, d = decide (n % roomI m > 0 ∨ n / roomI m = 0) → Ev (fun k => annuletref19_Count.j1 k (n / roomI m) d) (countI m n) := by
        intro d hd'
        refine ev_const fun k => ?_
        rw [annuletref19_Count.j1]
        unfold countI
        rw [if_neg hc, ← hm]
        by_cases hq : n % roomI m > 0 ∨ n / roomI m = 0
        · rw [hd', decide_eq_true hq, if_pos rfl, if_pos hq, w64 (by omega) (by omega)]
          by_cases h5 : n / roomI m + 1 > 65535
          · rw [if_pos h5, if_pos h5]
          · rw [if_neg h5, if_neg h5]
        · rw [hd', decide_eq_false hq, if_neg (by decide), if_neg hq]
          by_cases h5 : n / roomI m > 65535
          · rw [if_pos h5, if_pos h5]
          · rw [if_neg h5, if_neg h5]
      by_cases hs : n % roomI m > 0
      · refine Ev.congr (f := fun k => annuletref19_Count.j1 k (n / roomI m) true) (fun k => ?_) (key true (by rw [decide_eq_true (Or.inl hs)]))
        show annuletref19_Count.j0 (k + 1) n (roomI m) b = _
        rw [annuletref19_Count.j0, hb, decide_eq_false hc, if_neg (by decide), if_neg (by omega), tmod_nat (by omega), tdiv_nat (by omega), w64 (by omega) (by omega), if_pos hs]
      · refine Ev.congr (f := fun k => annuletref19_Count.j1 k (n / roomI m) (n / roomI m == 0)) (fun k => ?_) (key _ (by rw [Bool.eq_iff_iff]; simp [hs]))
        show annuletref19_Count.j0 (k + 1) n (roomI m) b = _
        rw [annuletref19_Count.j0, hb, decide_eq_false hc, if_neg (by decide), if_neg (by omega), tmod_nat (by omega), tdiv_nat (by omega), w64 (by omega) (by omega), if_neg hs]
  by_cases h : roomI m = 0
  · simp only [if_pos h]
    exact hj true (by rw [decide_eq_true (Or.inl h)])
  · simp only [if_neg h]
    exact hj _ (decide_eq_decide.2 (by simp [h]))
theorem lk_split_Split0 (m many k v e i : Int) (body : List Int) (hr : 12 ≤ roomI m) (hr' : roomI m ≤ 65487) (hm : many ≤ 65535) (hmany : many = manyI body.length (roomI m)) (hk : 1 ≤ k ∧ k ≤ 2) (hv : Byte v) (he : 0 ≤ e ∧ e < 4294967296) (hi : 0 ≤ i ∧ i < 4294967296) (hb : Bytes body) (hl : body.length < 1000000000)
    (x y : Int) (d : Nat) : ∀ (j : Nat) (acc : List (List Int)), (j : Int) ≤ many → (many - j).toNat = d → acc.length ≤ j →
    Ev (fun n => split_Split.l0 n m many acc (body.drop (j * (roomI m).toNat)) many (j : Int) k v e i x y body) (acc ++ (List.range' j d).map (partG (roomI m).toNat many k v e i body), 0) := by
  induction d with
  | zero =>
    intro j acc hj hd ha
    refine ev_const fun n => ?_
    rw [split_Split.l0, if_neg (by omega)]
    simp
  | succ d ih =>
    intro j acc hj hd ha
    refine ev_succ ?_
    simp only [split_Split.l0]
    have hat := many_at (show 0 < roomI m by omega) (j := j) (n := body.length) (by omega)
    generalize hR : body.drop (j * (roomI m).toNat) = R
    have hRl : R.length = body.length - j * (roomI m).toNat := by rw [← hR, List.length_drop]
    have hmn : mn (roomI m) (R.length : Int) = ((min (roomI m).toNat R.length : Nat) : Int) := by unfold mn; split <;> omega
    rw [lk_split_Room, w64 (n := (j : Int) + 1) (by omega) (by omega), wu16_id (n := (j : Int)) (by omega) (by omega), wu16_id (n := many) (by omega) (by omega)]
    simp only [if_pos (show (j : Int) < many by omega), Option.bind_some]
    rw [hmn, Int.toNat_natCast]
    have hT : R.take (min (roomI m).toNat R.length) = R.take (roomI m).toNat := by
      by_cases h : (roomI m).toNat ≤ R.length
      · rw [Nat.min_eq_left h]
      · rw [Nat.min_eq_right (by omega), List.take_of_length_le (Nat.le_refl _), List.take_of_length_le (by omega)]
    have hTl : (R.take (roomI m).toNat).length = min (roomI m).toNat R.length := List.length_take
    rw [hT, hTl, Int.toNat_natCast]
    simp only [if_pos (show (0 : Int) ≤ ((min (roomI m).toNat R.length : Nat) : Int) by omega), if_pos (show ((min (roomI m).toNat R.length : Nat) : Int) ≤ (R.length : Int) by omega)]
    have hTb : Bytes (R.take (roomI m).toNat) := bytes_take (by rw [← hR]; exact bytes_drop hb _) _
    have hput := lk_gram_Put k v e i (j : Int) many (R.take (roomI m).toNat) ⟨by omega, by omega⟩ hv he hi ⟨by omega, by omega⟩ ⟨by omega, by omega⟩ hTb (by rw [hTl]; omega)
    have hg : rightG k (j : Int) many (R.take (roomI m).toNat).length = 0 := by
      unfold rightG
      rw [if_neg (by omega), if_neg (by omega), if_neg (by rw [hTl]; omega)]
    rw [if_pos hg] at hput
    refine ev_bind hput ?_
    simp only [if_true, if_pos (show acc.length < 5864062014805 by omega)]
    have hD : R.drop (min (roomI m).toNat R.length) = body.drop ((j + 1) * (roomI m).toNat) := by
      have e1 : R.drop (min (roomI m).toNat R.length) = R.drop (roomI m).toNat := by
        by_cases h : (roomI m).toNat ≤ R.length
        · rw [Nat.min_eq_left h]
        · rw [Nat.min_eq_right (by omega), List.drop_eq_nil_of_le (Nat.le_refl _), List.drop_eq_nil_of_le (by omega)]
      rw [e1, ← hR, List.drop_drop, Nat.succ_mul]
    rw [hD]
    have hp : bytesG k v e i (j : Int) many (R.take (roomI m).toNat) = partG (roomI m).toNat many k v e i body j := by
      unfold partG
      rw [hR]
    rw [hp]
    have := ih (j + 1) (acc ++ [partG (roomI m).toNat many k v e i body j]) (by omega) (by omega) (by simp; omega)
    rw [List.append_assoc] at this
    rw [List.range'_succ, List.map_cons]
    exact this
theorem lk_split_Split (m k v e i x y : Int) (body : List Int) (hk : Byte k) (hv : Byte v) (he : 0 ≤ e ∧ e < 4294967296) (hi : 0 ≤ i ∧ i < 4294967296) (hb : Bytes body) (hl : body.length < 1000000000) :
    Ev (fun n => split_Split.f n m k v e i x y body) (splitI m k v e i body) := by
  unfold split_Split.f
  refine ev_bind (lk_split_Count m body.length (by omega) (by omega)) ?_
  unfold splitI
  by_cases hc : (countI m body.length).2 = 0
  · obtain ⟨h1, h2, h3, h4, h5⟩ := count_ok hc
    simp only [if_pos hc]
    rw [h3]
    by_cases hkk : k < 1 ∨ 2 < k
    · simp only [if_pos hkk]
      refine ev_succ ?_
      simp only [split_Split.l0]
      have hmn : mn (roomI m) (body.length : Int) = ((min (roomI m).toNat body.length : Nat) : Int) := by unfold mn; split <;> omega
      rw [lk_split_Room, wu16_id (n := (0 : Int)) (by omega) (by omega), wu16_id (n := manyI body.length (roomI m)) (by omega) (by omega)]
      simp only [if_pos (show (0 : Int) < manyI body.length (roomI m) by omega), Option.bind_some]
      rw [hmn, Int.toNat_natCast]
      have hTl : (body.take (min (roomI m).toNat body.length)).length = min (roomI m).toNat body.length := by rw [List.length_take]; omega
      rw [hTl]
      simp only [if_pos (show (0 : Int) ≤ ((min (roomI m).toNat body.length : Nat) : Int) by omega), if_pos (show ((min (roomI m).toNat body.length : Nat) : Int) ≤ (body.length : Int) by omega)]
      have hput := lk_gram_Put k v e i 0 (manyI body.length (roomI m)) (body.take (min (roomI m).toNat body.length)) hk hv he hi ⟨by omega, by omega⟩ ⟨by omega, by omega⟩ (bytes_take hb _) (by rw [hTl]; omega)
      have hg : rightG k 0 (manyI body.length (roomI m)) (body.take (min (roomI m).toNat body.length)).length = 9 := by
        unfold rightG
        rw [if_pos hkk]
      rw [hg, if_neg (by decide)] at hput
      refine ev_bind hput ?_
      simp only [if_neg (show ¬ (9 : Int) = 0 by decide)]
      exact ev_some _
    · simp only [if_neg hkk]
      have := lk_split_Split0 m (manyI body.length (roomI m)) k v e i body h1 h2 h5 rfl (by omega) hv he hi hb hl x y (manyI body.length (roomI m)).toNat 0 [] (by omega) (by omega) (by simp)
      simp only [Nat.zero_mul, List.drop_zero, List.nil_append] at this
      exact this
  · simp only [if_neg hc]
    exact ev_some _
theorem lk_ref19_Split0 (m many k v e i : Int) (body : List Int) (hr : 12 ≤ roomI m) (hr' : roomI m ≤ 65487) (hm : many ≤ 65535) (hmany : many = manyI body.length (roomI m)) (hk : 1 ≤ k ∧ k ≤ 2) (hv : Byte v) (he : 0 ≤ e ∧ e < 4294967296) (hi : 0 ≤ i ∧ i < 4294967296) (hb : Bytes body) (hl : body.length < 1000000000)
    (x y : Int) (d : Nat) : ∀ (j : Nat) (acc : List (List Int)), (j : Int) ≤ many → (many - j).toNat = d → acc.length ≤ j →
    Ev (fun n => annuletref19_Split.l0 n m many acc (j : Int) k v e i x y body) (acc ++ (List.range' j d).map (partG (roomI m).toNat many k v e i body), 0) := by
  induction d with
  | zero =>
    intro j acc hj hd ha
    refine ev_const fun n => ?_
    rw [annuletref19_Split.l0, if_neg (by omega)]
    simp
  | succ d ih =>
    intro j acc hj hd ha
    refine ev_succ ?_
    simp only [annuletref19_Split.l0]
    have hat := many_at (show 0 < roomI m by omega) (j := j) (n := body.length) (by omega)
    rw [lk_ref19_Room, w64 (n := (j : Int) + 1) (by omega) (by omega), wu16_id (n := (j : Int)) (by omega) (by omega), wu16_id (n := many) (by omega) (by omega)]
    simp only [if_pos (show (j : Int) < many by omega), Option.bind_some]
    obtain ⟨r, hrr⟩ := Int.eq_ofNat_of_zero_le (show 0 ≤ roomI m by omega)
    have hjr : (j : Int) * roomI m = ((j * r : Nat) : Int) := by rw [hrr]; exact (Int.natCast_mul _ _).symm
    rw [hrr, Int.toNat_natCast] at hat
    have hall : acc ++ (List.range' j (d + 1)).map (partG (roomI m).toNat many k v e i body) = (acc ++ [partG (roomI m).toNat many k v e i body j]) ++ (List.range' (j + 1) d).map (partG (roomI m).toNat many k v e i body) := by
      rw [List.range'_succ, List.map_cons, List.append_assoc]
      rfl
    have hih := ih (j + 1) (acc ++ [partG (roomI m).toNat many k v e i body j]) (by omega) (by omega) (by simp; omega)
    rw [hall]
    rw [hjr, w64 (n := ((j * r : Nat) : Int)) (by omega) (by omega), w64 (n := ((j * r : Nat) : Int) + roomI m) (by omega) (by omega)]
    have hTb : Bytes ((body.drop (j * r)).take r) := bytes_take (bytes_drop hb _) _
    have hTl : ((body.drop (j * r)).take r).length = min r (body.length - j * r) := by rw [List.length_take, List.length_drop]
    have hby := lk_ref18_Bytes k v e i (j : Int) many ((body.drop (j * r)).take r) ⟨by omega, by omega⟩ hv he hi ⟨by omega, by omega⟩ ⟨by omega, by omega⟩ hTb (by rw [hTl]; omega)
    have hp : bytesG k v e i (j : Int) many ((body.drop (j * r)).take r) = partG (roomI m).toNat many k v e i body j := by
      unfold partG
      rw [hrr, Int.toNat_natCast]
    rw [hp] at hby
    by_cases hover : ((j * r : Nat) : Int) + roomI m > (body.length : Int)
    · simp only [if_pos hover, if_pos (show (0 : Int) ≤ ((j * r : Nat) : Int) by omega), if_pos (show ((j * r : Nat) : Int) ≤ (body.length : Int) by omega), if_pos (Int.le_refl _)]
      have hcut : (body.take ((body.length : Int)).toNat).drop (((j * r : Nat) : Int)).toNat = (body.drop (j * r)).take r := by
        rw [Int.toNat_natCast, Int.toNat_natCast, List.take_of_length_le (Nat.le_refl _), List.take_of_length_le (by rw [List.length_drop]; omega)]
      rw [hcut]
      refine ev_bind hby ?_
      simp only [if_pos (show acc.length < 5864062014805 by omega)]
      exact hih
    · simp only [if_neg hover, if_pos (show (0 : Int) ≤ ((j * r : Nat) : Int) by omega), if_pos (show ((j * r : Nat) : Int) ≤ ((j * r : Nat) : Int) + roomI m by omega), if_pos (show ((j * r : Nat) : Int) + roomI m ≤ (body.length : Int) by omega)]
      have hcut : (body.take (((j * r : Nat) : Int) + roomI m).toNat).drop (((j * r : Nat) : Int)).toNat = (body.drop (j * r)).take r := by
        rw [Int.toNat_natCast, show (((j * r : Nat) : Int) + roomI m).toNat = j * r + r by omega, List.drop_take]
        congr 1
        omega
      rw [hcut]
      refine ev_bind hby ?_
      simp only [if_pos (show acc.length < 5864062014805 by omega)]
      exact hih
theorem lk_ref19_Split (m k v e i x y : Int) (body : List Int) (hk : Byte k) (hv : Byte v) (he : 0 ≤ e ∧ e < 4294967296) (hi : 0 ≤ i ∧ i < 4294967296) (hb : Bytes body) (hl : body.length < 1000000000) :
    Ev (fun n => annuletref19_Split.f n m k v e i x y body) (splitI m k v e i body) := by
  unfold annuletref19_Split.f
  refine ev_bind (lk_ref19_Count m body.length (by omega) (by omega)) ?_
  unfold splitI
  by_cases hc : (countI m body.length).2 = 0
  · obtain ⟨h1, h2, h3, h4, h5⟩ := count_ok hc
    simp only [if_pos hc]
    rw [h3]
    have hj : ∀ b, b = decide (k < 1 ∨ 2 < k) → Ev (fun n => annuletref19_Split.j0 n m (manyI body.length (roomI m)) b k v e i x y body) (if k < 1 ∨ 2 < k then ([], 9) else ((List.range' 0 (manyI body.length (roomI m)).toNat).map (partG (roomI m).toNat (manyI body.length (roomI m)) k v e i body), 0)) := by
      intro b hb'
      refine ev_succ ?_
      simp only [annuletref19_Split.j0]
      by_cases hkk : k < 1 ∨ 2 < k
      · rw [hb', decide_eq_true hkk]
        simp only [if_pos hkk, if_true]
        exact ev_some _
      · rw [hb', decide_eq_false hkk]
        simp only [if_neg hkk, Bool.false_eq_true, if_false]
        have := lk_ref19_Split0 m (manyI body.length (roomI m)) k v e i body h1 h2 h5 rfl (by omega) hv he hi hb hl x y (manyI body.length (roomI m)).toNat 0 [] (by omega) (by omega) (by simp)
        simp only [List.nil_append] at this
        exact this
    by_cases hk1 : k < 1
    · simp only [if_pos hk1]
      have := hj true (decide_eq_true (Or.inl hk1)).symm
      rw [if_pos (Or.inl hk1)] at this
      simp only [if_pos (Or.inl hk1 : k < 1 ∨ 2 < k)]
      exact this
    · simp only [if_neg hk1]
      exact hj _ (decide_eq_decide.2 (by omega))
  · simp only [if_neg hc]
    exact ev_some _
theorem lk_ref15_Same0 (l : List (List Int)) (hl : l.length < 9223372036854775807) (d : Nat) : ∀ i : Nat, i ≤ l.length → l.length - i = d → Ev (fun k => annuletref15_Same.l0 k l l (i : Int)) true := by
  induction d with
  | zero =>
    intro i hi hd
    refine ev_succ ?_
    simp only [annuletref15_Same.l0]
    simp only [if_neg (show ¬ (i : Int) < (l.length : Int) by omega)]
    exact ev_some _
  | succ d ih =>
    intro i hi hd
    refine ev_succ ?_
    simp only [annuletref15_Same.l0]
    simp only [if_pos (show (i : Int) < (l.length : Int) by omega), if_pos (show (0 : Int) ≤ (i : Int) by omega), if_true]
    rw [w64 (by omega) (by omega)]
    exact ih (i + 1) (by omega) (by omega)
theorem lk_ref15_Same (l : List (List Int)) (hl : l.length < 9223372036854775807) : Ev (fun k => annuletref15_Same.f k l l) true := by
  unfold annuletref15_Same.f
  simp only [if_true]
  exact lk_ref15_Same0 l hl _ 0 (by omega) rfl
theorem lk_awake19 : Ev (fun k => annuletlaw19_awake.f k) true := Ev.of annuletlaw19_awake.mono (k := 60) (by decide +kernel)
theorem SplitParts_law : annuletlaw19_SplitParts.Pure := by
  intro a0 k v e i x y body hw0 hk hv he hi _ _ hb
  have hb := bytes_of_wf hb.2
  refine Ev.rounds (g := fun n => annuletlaw19_SplitParts.f n a0 k v e i x y body) ?_
  unfold annuletlaw19_SplitParts.f
  by_cases c1 : (body.length : Int) > 1500
  · simp only [if_pos c1]
    exact ev_bind lk_awake19 (ev_some _)
  simp only [if_neg c1]
  refine ev_bind (lk_split_Split a0 k v e i x y body (wf_u8 hk) (wf_u8 hv) (wf_u32 he) (wf_u32 hi) hb (by omega)) ?_
  refine ev_bind (lk_ref19_Split a0 k v e i x y body (wf_u8 hk) (wf_u8 hv) (wf_u32 he) (wf_u32 hi) hb (by omega)) ?_
  have hlen : (splitI a0 k v e i body).1.length < 9223372036854775807 := by
    unfold splitI
    by_cases hc : (countI a0 body.length).2 = 0
    · obtain ⟨h1, h2, h3, h4, h5⟩ := count_ok hc
      rw [if_pos hc]
      split
      · simp
      · rw [List.length_map, List.length_range', h3]
        omega
    · rw [if_neg hc]
      simp
  refine ev_bind (lk_ref15_Same _ hlen) ?_
  simp only [if_true]
  exact ev_bind lk_awake19 (ev_some _)
end Go.Proofs.Ytplloiinedbnlaa.PSplitParts
namespace Go.Proofs.Ytplloiinedbnlaa.Pure
open Go.Proofs.Ytplloiinedbnlaa.PSplitParts
theorem SplitParts : annuletlaw19_SplitParts.Pure := SplitParts_law
end Go.Proofs.Ytplloiinedbnlaa.Pure
