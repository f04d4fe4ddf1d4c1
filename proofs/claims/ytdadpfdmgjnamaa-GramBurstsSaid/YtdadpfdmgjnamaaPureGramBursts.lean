/- GramBursts: a datagram of which any bits were turned, all within 32 in a row, the sum's own too, is refused by its sum. No condition. -/
import Derived.Test.YtdadpfdmgjnamaaPGramBurstsx5
import Derived.Test.YtdadpfdmgjnamaaMath
set_option linter.unusedVariables false
set_option linter.unusedSimpArgs false
namespace Go.Proofs.Ytdadpfdmgjnamaa.PGramBursts
open Go.RowKit Go.Proofs.YtdadpfdmgjnamaaW.PrintWords Go.Proofs.YtdadpfdmgjnamaaW.PrintLast Go.Proofs.YtdadpfdmgjnamaaW.PrintMore Annulet

/-! ### package crc -/
theorem lk_crc_Step (s : Int) (l : List Int) (h0 : 0 ≤ s) (h1 : s < 4294967296) (hb : Bytes l) : crc_Step.f s l = some ((stepN s.toNat l : Nat) : Int) := by
  obtain ⟨n, rfl⟩ := Int.eq_ofNat_of_zero_le h0
  unfold crc_Step.f
  rw [Int.toNat_natCast]
  split
  · rw [stepSmall_nat l hb n (by omega)]
  · rw [stepTab_nat l hb n (by omega)]
theorem lk_crc_Sum (l : List Int) (hb : Bytes l) : crc_Sum.f l = some ((sumN l : Nat) : Int) := by
  unfold crc_Sum.f
  rw [lk_crc_Step 4294967295 l (by omega) (by omega) hb]
  have hl := stepN_lt l hb 4294967295 (by decide)
  simp only [Option.bind_some]
  rw [show (4294967295 : Int).toNat = 4294967295 from rfl, show (4294967295 : Int) = ((4294967295 : Nat) : Int) from rfl, u32_xor_nat _ _ (by decide) hl]
  rfl

theorem lk_ref02_Flipj (l : List Int) (a m : Int) (out : List Int) (c : Nat) (i : Nat) (x y : Bool) (r : List Int × Int) (hl : out.length < 1000000000000) (hc : c ≤ i) (hi : i < 8 * out.length)
    (h : Ev (fun k => annuletref02_Flip.l0 k l a m (if (x ^^ y) = true then out.set (i / 8) ((out.getD (i / 8) 0 + ((2 ^ (i % 8) : Nat) : Int)) % 256) else out) ((c + if y = true then 1 else 0 : Nat) : Int) ((i + 1 : Nat) : Int)) r) :
    Ev (fun k => annuletref02_Flip.j1 k l a m out (c : Int) (i : Int) x y) r := by
  refine ev_succ ?_
  simp only [annuletref02_Flip.j1]
  have w1 : wrap64 ((i : Int) + 1) = ((i + 1 : Nat) : Int) := by rw [w64 (by omega) (by omega)]; rfl
  have w2 : wrap64 ((c : Int) + 1) = ((c + 1 : Nat) : Int) := by rw [w64 (by omega) (by omega)]; rfl
  have w3 : wrap64 (Int.tdiv (i : Int) 8) = ((i / 8 : Nat) : Int) := by rw [tdiv_nat (by omega), w64 (by omega) (by omega)]; rfl
  have w4 : IntKind.u64.wrap (Int.tmod (i : Int) 8) = ((i % 8 : Nat) : Int) := by rw [tmod_nat (by omega), wu64_id (by omega) (by omega)]; rfl
  rw [w1, w2, w3, w4, shl8_one _ (by omega), Int.toNat_natCast, rd_nat]
  simp only [if_pos (show (0 : Int) ≤ ((i / 8 : Nat) : Int) by omega), if_pos (show ((i / 8 : Nat) : Int) < (out.length : Int) by omega), if_pos (show (0 : Int) ≤ ((i % 8 : Nat) : Int) by omega)]
  cases x <;> cases y <;> simpa using h
theorem lk_ref02_Flip0 (l : List Int) (hb : Bytes l) (a m : Int) (ha : -9223372036854775808 ≤ a) (ha' : a < 9223372036854775808) (h0 : 0 ≤ m) (h1 : m < 4294967296) (hl : l.length < 1000000000000) (d : Nat) : ∀ (i : Nat) (out : List Int), i ≤ 8 * l.length → 8 * l.length - i = d → Bytes out → out.length = l.length → numB out = numB (flipL l.length a m l 32) % 2 ^ i →
    Ev (fun k => annuletref02_Flip.l0 k l a m out (cntT l.length a m i : Int) (i : Int)) (flipL l.length a m l 32, (cntT l.length a m (8 * l.length) : Int)) := by
  have w0 : wrap64 (8 * (l.length : Int)) = ((8 * l.length : Nat) : Int) := by rw [w64 (by omega) (by omega)]; rfl
  have hF := flipL_bytes l hb a m h0 h1
  have hFl := flipL_len l.length a m l 32
  induction d with
  | zero =>
    intro i out hi hd hB hL hN
    obtain rfl : i = 8 * l.length := by omega
    refine ev_succ ?_
    simp only [annuletref02_Flip.l0]
    rw [w0]
    simp only [if_neg (show ¬ ((8 * l.length : Nat) : Int) < ((8 * l.length : Nat) : Int) by omega)]
    have hlt := numB_lt _ hF
    rw [hFl, show 256 = 2 ^ 8 from rfl, ← Nat.pow_mul] at hlt
    rw [Nat.mod_eq_of_lt hlt] at hN
    rw [numB_inj _ _ hB hF (by omega) hN]
    exact ev_some _
  | succ d ih =>
    intro i out hi hd hB hL hN
    have hlt : numB out < 2 ^ i := by rw [hN]; exact Nat.mod_lt _ (Nat.two_pow_pos i)
    have hcl := cntT_le l.length a m i
    have hbm := bit_more out hB i hlt (by omega)
    have key : ∀ (y : Bool), y = tb l.length a m 32 i → Ev (fun k => annuletref02_Flip.j1 k l a m out (cntT l.length a m i : Int) (i : Int) ((numB l).testBit i) y) (flipL l.length a m l 32, (cntT l.length a m (8 * l.length) : Int)) := by
      intro y hy
      refine lk_ref02_Flipj l a m out _ i _ _ _ (by omega) hcl (by omega) ?_
      have hx : ((numB l).testBit i ^^ y) = (numB (flipL l.length a m l 32)).testBit i := by rw [flipL_num l hb a m h0 h1, hy]
      have hcn : cntT l.length a m i + (if y = true then 1 else 0) = cntT l.length a m (i + 1) := by rw [cntT, hy]
      rw [hx, hcn]
      have hms := mod_succ_add (numB (flipL l.length a m l 32)) i
      refine ih (i + 1) _ (by omega) (by omega) ?_ ?_ ?_
      · split
        · exact hbm.1
        · exact hB
      · split
        · rw [List.length_set]; exact hL
        · exact hL
      · rw [hms]
        split
        · rw [hbm.2, hN]
        · rw [hN]; rfl
    refine ev_succ ?_
    simp only [annuletref02_Flip.l0]
    have w3 : wrap64 (Int.tdiv (i : Int) 8) = ((i / 8 : Nat) : Int) := by rw [tdiv_nat (by omega), w64 (by omega) (by omega)]; rfl
    have w4 : IntKind.u64.wrap (Int.tmod (i : Int) 8) = ((i % 8 : Nat) : Int) := by rw [tmod_nat (by omega), wu64_id (by omega) (by omega)]; rfl
    have w5 : wrap64 ((i : Int) - 32) = (i : Int) - 32 := w64 (by omega) (by omega)
    have hg := getD_byte hb (i / 8)
    rw [w0, w3, w4, w5, rd_nat, shr_bit .u8 _ _ hg.1 (by show i % 8 ≤ 8; omega), ← numB_bit l hb]
    simp only [if_pos (show (i : Int) < ((8 * l.length : Nat) : Int) by omega), if_pos (show (0 : Int) ≤ ((i / 8 : Nat) : Int) by omega), if_pos (show ((i / 8 : Nat) : Int) < (l.length : Int) by omega), if_pos (show (0 : Int) ≤ ((i % 8 : Nat) : Int) by omega)]
    by_cases c1 : a ≤ (i : Int)
    · simp only [if_pos c1]
      by_cases c2 : a > (i : Int) - 32
      · have w6 : IntKind.u64.wrap (wrap64 ((i : Int) - a)) = ((((i : Int) - a).toNat : Nat) : Int) := by rw [w64 (by omega) (by omega), wu64_id (by omega) (by omega)]; omega
        simp only [if_pos c2]
        rw [w6, shr_bit .u32 _ _ h0 (by show _ ≤ 32; omega)]
        simp only [if_pos (show (0 : Int) ≤ ((((i : Int) - a).toNat : Nat) : Int) by omega)]
        refine key _ ?_
        unfold tb
        rw [decide_eq_true (by omega), Bool.true_and]
      · simp only [if_neg c2]
        refine key _ ?_
        unfold tb
        rw [decide_eq_false (by omega), Bool.false_and]
    · simp only [if_neg c1]
      refine key _ ?_
      unfold tb
      rw [decide_eq_false (by omega), Bool.false_and]
theorem lk_ref02_Flip (l : List Int) (hb : Bytes l) (a m : Int) (ha : -9223372036854775808 ≤ a) (ha' : a < 9223372036854775808) (h0 : 0 ≤ m) (h1 : m < 4294967296) (hl : l.length < 1000000000000) :
    Ev (fun k => annuletref02_Flip.f k l a m) (flipL l.length a m l 32, (cntT l.length a m (8 * l.length) : Int)) := by
  unfold annuletref02_Flip.f
  simp only [Int.toNat_natCast, if_pos (show (0 : Int) ≤ (l.length : Int) by omega), if_pos (show l.length ≤ 281474976710656 by omega)]
  refine lk_ref02_Flip0 l hb a m ha ha' h0 h1 hl _ 0 (List.replicate l.length 0) (by omega) rfl (fun x hx => ?_) (by simp) ?_
  · rw [(List.mem_replicate.1 hx).2]; exact ⟨by omega, by omega⟩
  · rw [Nat.pow_zero, Nat.mod_one]
    generalize l.length = n
    induction n with
    | zero => rfl
    | succ n ih => rw [List.replicate_succ, numB, ih]; rfl
theorem lk_buf_Fix0 (x s : Nat) (hs : s ≤ 8) : ∀ (c : Nat) (l : List Int), c ≤ s → l.length + c < 100000000000000 → Ev (fun k => buf_Fix.l0 k l (x : Int) ((c : Int) - 1)) (l ++ beL c x) := by
  intro c
  induction c with
  | zero =>
    intro l hc hl
    refine ev_const fun k => ?_
    rw [buf_Fix.l0, if_neg (by omega), beL, List.append_nil]
  | succ c ih =>
    intro l hc hl
    refine ev_succ ?_
    simp only [buf_Fix.l0]
    rw [show ((c + 1 : Nat) : Int) - 1 = (c : Int) by omega, w64 (n := 8 * (c : Int)) (by omega) (by omega), w64 (n := (c : Int) - 1) (by omega) (by omega), shr8_byte x c (by omega)]
    simp only [if_pos (show (c : Int) ≥ 0 by omega), if_pos (show (0 : Int) ≤ 8 * (c : Int) by omega), if_pos (show l.length < 140737488355328 by omega)]
    have := ih (l ++ [((x / 256 ^ c % 256 : Nat) : Int)]) (by omega) (by simp; omega)
    rw [beL_head]
    rw [List.append_assoc] at this
    exact this
theorem lk_buf_Fix (l : List Int) (x s : Nat) (h1 : 1 ≤ s) (h8 : s ≤ 8) (hl : l.length < 10000000000000) : Ev (fun k => buf_Fix.f k l (x : Int) (s : Int)) (l ++ beL s x) := by
  unfold buf_Fix.f
  simp only [if_neg (show ¬ (s : Int) < 1 by omega), decide_eq_false (show ¬ (s : Int) > 8 by omega)]
  refine ev_succ ?_
  simp only [buf_Fix.j0]
  rw [w64 (by omega) (by omega)]
  simp only [Bool.false_eq_true, if_false]
  exact lk_buf_Fix0 x s h8 s l (Nat.le_refl _) (by omega)
theorem lk_reverse4 (a b c d : Int) : Ev (fun k => slices_Reverse_byte_byte.f k [a, b, c, d]) [d, c, b, a] := by
  unfold slices_Reverse_byte_byte.f
  have e1 : wrap64 ((([a, b, c, d] : List Int).length : Int) - 1) = 3 := by rw [w64 (by simp) (by simp)]; rfl
  have e2 : wrap64 (1 : Int) = 1 := w64 (by omega) (by omega)
  have e3 : wrap64 (2 : Int) = 2 := w64 (by omega) (by omega)
  rw [e1]
  refine ⟨3, fun k hk => ?_⟩
  obtain ⟨k, rfl⟩ : ∃ m, k = m + 3 := ⟨k - 3, by omega⟩
  simp [slices_Reverse_byte_byte.l0, e2, e3, rd]
theorem lk_gram_sum (l : List Int) (hb : Bytes l) : Ev (fun k => gram_sum.f k l) (leL 4 (sumN l)) := by
  unfold gram_sum.f
  rw [lk_crc_Sum l hb]
  have hs := sumN_lt l hb
  simp only [Option.bind_some]
  rw [wu64_id (by omega) (by omega)]
  refine ev_bind (lk_buf_Fix [] (sumN l) 4 (by omega) (by omega) (by simp)) ?_
  have e : ([] : List Int) ++ beL 4 (sumN l) = [((sumN l / 256 / 256 / 256 % 256 : Nat) : Int), ((sumN l / 256 / 256 % 256 : Nat) : Int), ((sumN l / 256 % 256 : Nat) : Int), ((sumN l % 256 : Nat) : Int)] := by simp [beL]
  rw [e]
  refine ev_bind (lk_reverse4 _ _ _ _) ?_
  exact ev_eq (ev_some _) (by simp [leL])
theorem lk_gram_Right (k v e i x c : Int) (body : List Int) : Ev (fun n => gram_Right.f n k v e i x c body) (rightG k x c body.length) := by
  unfold gram_Right.f
  have hj : ∀ b, b = decide (k < 1 ∨ 2 < k) → Ev (fun n => gram_Right.j0 n b k v e i x c body) (rightG k x c body.length) := by
    intro b hb
    refine ev_const fun n => ?_
    rw [gram_Right.j0]
    unfold rightG
    by_cases h : k < 1 ∨ 2 < k
    · rw [hb, decide_eq_true h, if_pos rfl, if_pos h]
    · rw [hb, decide_eq_false h, if_neg (by decide), if_neg h]
      by_cases h2 : x ≥ c
      · rw [if_pos h2, if_pos h2]
      · rw [if_neg h2, if_neg h2]
        by_cases h3 : (body.length : Int) > 65487
        · rw [if_pos h3, if_pos (by omega)]
        · rw [if_neg h3, if_neg (by omega)]
  by_cases h1 : k = 1
  · simp only [if_pos h1]
    exact hj false (decide_eq_false (by omega)).symm
  · simp only [if_neg h1]
    by_cases h2 : k = 2
    · have : (k != 2) = false := by rw [h2]; rfl
      rw [this]
      exact hj false (decide_eq_false (by omega)).symm
    · have : (k != 2) = true := by simp [h2]
      rw [this]
      exact hj true (decide_eq_true (by omega)).symm
theorem lk_gram_Put (k v e i x c : Int) (body : List Int) (hk : Byte k) (hv : Byte v) (he : 0 ≤ e ∧ e < 4294967296) (hi : 0 ≤ i ∧ i < 4294967296) (hx : 0 ≤ x ∧ x < 65536) (hc : 0 ≤ c ∧ c < 65536) (hb : Bytes body) (hl : body.length < 1000000000) :
    Ev (fun n => gram_Put.f n k v e i x c body) (if rightG k x c body.length = 0 then (bytesG k v e i x c body, 0) else ([], rightG k x c body.length)) := by
  unfold gram_Put.f
  refine ev_bind (lk_gram_Right k v e i x c body) ?_
  by_cases hr : rightG k x c body.length = 0
  · simp only [if_pos hr]
    refine ev_bind (lk_buf_Fix [] 42830 2 (by omega) (by omega) (by simp)) ?_
    simp only [Option.bind_some]
    have e0 : ([] : List Int) ++ beL 2 42830 = [167, 78] := by simp [beL]
    rw [e0, wu64_id (n := e) (by omega) (by omega), wu64_id (n := i) (by omega) (by omega), wu64_id (n := x) (by omega) (by omega), wu64_id (n := c) (by omega) (by omega)]
    have ee : ((e.toNat : Nat) : Int) = e := by omega
    have ei : ((i.toNat : Nat) : Int) = i := by omega
    have ex : ((x.toNat : Nat) : Int) = x := by omega
    have ec : ((c.toNat : Nat) : Int) = c := by omega
    have f1 := lk_buf_Fix ([167, 78] ++ [k, v]) e.toNat 4 (by omega) (by omega) (by simp)
    have f2 := lk_buf_Fix ([167, 78] ++ [k, v] ++ beL 4 e.toNat) i.toNat 4 (by omega) (by omega) (by simp [beL_len])
    have f3 := lk_buf_Fix ([167, 78] ++ [k, v] ++ beL 4 e.toNat ++ beL 4 i.toNat) x.toNat 2 (by omega) (by omega) (by simp [beL_len])
    have f4 := lk_buf_Fix ([167, 78] ++ [k, v] ++ beL 4 e.toNat ++ beL 4 i.toNat ++ beL 2 x.toNat) c.toNat 2 (by omega) (by omega) (by simp [beL_len])
    rw [ee] at f1
    rw [ei] at f2
    rw [ex] at f3
    rw [ec] at f4
    simp only [if_pos (show ([167, 78] : List Int).length + ([k, v] : List Int).length < 140737488355328 by simp)]
    refine ev_bind f1 ?_
    refine ev_bind f2 ?_
    refine ev_bind f3 ?_
    refine ev_bind f4 ?_
    have eh : [167, 78] ++ [k, v] ++ beL 4 e.toNat ++ beL 4 i.toNat ++ beL 2 x.toNat ++ beL 2 c.toNat = headG k v e i x c := rfl
    rw [eh]
    simp only [if_pos (show (headG k v e i x c).length + body.length < 140737488355328 by rw [headG_len]; omega), Option.bind_some]
    have hB := bytes_append (headG_bytes hk hv e i x c) hb
    refine ev_bind (lk_gram_sum _ hB) ?_
    simp only [if_pos (show (headG k v e i x c ++ body).length + (leL 4 (sumN (headG k v e i x c ++ body))).length < 140737488355328 by rw [List.length_append, headG_len, leL_len]; omega)]
    exact ev_some _
  · simp only [if_neg hr]
    exact ev_some _
theorem fixR_ok (s : Nat) (l : List Int) (hb : Bytes l) (h1 : 1 ≤ s) (h8 : s ≤ 8) (h : s ≤ l.length) : fixR (s : Int) l 0 = (((ofBe (l.take s) 0 : Nat) : Int), l.drop s, 0) := by
  unfold fixR
  rw [if_neg (by simp), if_neg (by omega), if_neg (by omega), Int.toNat_natCast, beI_zero _ (bytes_take hb _) (by rw [List.length_take]; omega)]
theorem lk_Rd_Fix (s : Nat) (ok : Bool) (l : List Int) (hb : Bytes l) (h1 : 1 ≤ s) (h8 : s ≤ 8) (h : s ≤ l.length) : buf_Reader_Fix.f ok l 0 (s : Int) = some (((ofBe (l.take s) 0 : Nat) : Int), ok, l.drop s, 0) := by
  unfold buf_Reader_Fix.f
  rw [fixR_ok s l hb h1 h8 h]
theorem lk_Rd_Left (ok : Bool) (l : List Int) : buf_Reader_Left.f ok l 0 = some ((l.length : Int), ok, 0) := by
  unfold buf_Reader_Left.f
  rw [if_pos rfl]
theorem lk_Rd_Take (ok : Bool) (l : List Int) : buf_Reader_Take.f ok l 0 (l.length : Int) = some (l, ok, [], 0) := by
  unfold buf_Reader_Take.f takeR
  rw [if_neg (by simp), if_neg (by omega), if_neg (by omega), Int.toNat_natCast, List.take_of_length_le (Nat.le_refl _), List.drop_eq_nil_of_le (Nat.le_refl _)]
theorem lk_gram_Get (l : List Int) (hb : Bytes l) : Ev (fun k => gram_Get.f k l) (getG l) := by
  unfold gram_Get.f getG
  by_cases c1 : l.length < 20
  · simp only [if_pos c1, if_pos (show (l.length : Int) < 20 by omega)]
    exact ev_some _
  simp only [if_neg c1, if_neg (show ¬ (l.length : Int) < 20 by omega)]
  by_cases c2 : 65507 < l.length
  · simp only [if_pos c2, if_pos (show (l.length : Int) > 65507 by omega)]
    exact ev_some _
  simp only [if_neg c2, if_neg (show ¬ (l.length : Int) > 65507 by omega)]
  have hw : wrap64 ((l.length : Int) - 4) = ((l.length - 4 : Nat) : Int) := by rw [w64 (by omega) (by omega)]; omega
  rw [hw, Int.toNat_natCast]
  simp only [if_pos (show (0 : Int) ≤ ((l.length - 4 : Nat) : Int) by omega), if_pos (show ((l.length - 4 : Nat) : Int) ≤ (l.length : Int) by omega)]
  refine ev_bind (lk_gram_sum _ (bytes_take hb _)) ?_
  unfold bytes_Equal.f
  simp only [Option.bind_some]
  by_cases c3 : leL 4 (sumN (l.take (l.length - 4))) = l.drop (l.length - 4)
  · have e3 : ((strOfNums (leL 4 (sumN (l.take (l.length - 4))))).toList == (strOfNums (l.drop (l.length - 4))).toList) = true := by rw [beq_iff_eq, str_eq (leL_bytes _ _) (bytes_drop hb _)]; exact c3
    simp only [e3, if_true, if_neg (fun h : ¬ leL 4 (sumN (l.take (l.length - 4))) = l.drop (l.length - 4) => h c3)]
    have hTl : (l.take (l.length - 4)).length = l.length - 4 := by rw [List.length_take]; omega
    have hTb : Bytes (l.take (l.length - 4)) := bytes_take hb _
    unfold buf_Open.f
    rw [if_pos (show (l.take (l.length - 4)).length < 140737488355328 by omega)]
    simp only [Option.bind_some]
    have f0 := lk_Rd_Fix 2 true _ hTb (by omega) (by omega) (by omega)
    have hf0 : buf_Reader_Fix.f true (l.take (l.length - 4)) 0 2 = some (((ofBe ((l.take (l.length - 4)).take 2) 0 : Nat) : Int), true, bodyG l, 0) := f0
    rw [hf0]
    simp only [Option.bind_some]
    have h2 : ((ofBe ((l.take (l.length - 4)).take 2) 0 : Nat) : Int) = rd l 0 * 256 + rd l 1 ∧ Byte (rd l 0) ∧ Byte (rd l 1) := by
      refine ⟨?_, rd_byte hb 0, rd_byte hb 1⟩
      have b0 := rd_byte hb 0
      have b1 := rd_byte hb 1
      match l, c1, b0, b1 with
      | a :: b :: r, c1, b0, b1 =>
        have : (a :: b :: r).length - 4 = (r.length - 4) + 2 := by
          simp only [List.length_cons] at c1 ⊢
          omega
        rw [this]
        have e0 : rd (a :: b :: r) 0 = a := rfl
        have e1 : rd (a :: b :: r) 1 = b := rfl
        rw [e0] at b0 ⊢
        rw [e1] at b1 ⊢
        unfold Byte at b0 b1
        simp [ofBe]
        omega
      | [a], c1, _, _ => simp at c1
      | [], c1, _, _ => simp at c1
    rw [h2.1]
    have hb0 := h2.2.1
    have hb1 := h2.2.2
    unfold Byte at hb0 hb1
    by_cases c4 : ¬ rd l 0 = 167 ∨ ¬ rd l 1 = 78
    · rw [if_pos c4]
      simp only [if_neg (show ¬ rd l 0 * 256 + rd l 1 = 42830 by omega)]
      exact ev_some _
    · rw [if_neg c4]
      simp only [if_pos (show rd l 0 * 256 + rd l 1 = 42830 by omega)]
      have hBl : (bodyG l).length = l.length - 6 := by unfold bodyG; rw [List.length_drop, List.length_take]; omega
      have hBb : Bytes (bodyG l) := bytes_drop (bytes_take hb _) _
      generalize bodyG l = B at hBl hBb ⊢
      have g0 : buf_Reader_Fix.f true B 0 1 = some (cutG B 0 1, true, B.drop 1, 0) := lk_Rd_Fix 1 true B hBb (by omega) (by omega) (by omega)
      have g1 : buf_Reader_Fix.f true (B.drop 1) 0 1 = some (cutG B 1 1, true, B.drop 2, 0) := by
        have := lk_Rd_Fix 1 true (B.drop 1) (bytes_drop hBb _) (by omega) (by omega) (by rw [List.length_drop]; omega)
        rw [List.drop_drop] at this
        exact this
      have g2 : buf_Reader_Fix.f true (B.drop 2) 0 4 = some (cutG B 2 4, true, B.drop 6, 0) := by
        have := lk_Rd_Fix 4 true (B.drop 2) (bytes_drop hBb _) (by omega) (by omega) (by rw [List.length_drop]; omega)
        rw [List.drop_drop] at this
        exact this
      have g6 : buf_Reader_Fix.f true (B.drop 6) 0 4 = some (cutG B 6 4, true, B.drop 10, 0) := by
        have := lk_Rd_Fix 4 true (B.drop 6) (bytes_drop hBb _) (by omega) (by omega) (by rw [List.length_drop]; omega)
        rw [List.drop_drop] at this
        exact this
      have g10 : buf_Reader_Fix.f true (B.drop 10) 0 2 = some (cutG B 10 2, true, B.drop 12, 0) := by
        have := lk_Rd_Fix 2 true (B.drop 10) (bytes_drop hBb _) (by omega) (by omega) (by rw [List.length_drop]; omega)
        rw [List.drop_drop] at this
        exact this
      have g12 : buf_Reader_Fix.f true (B.drop 12) 0 2 = some (cutG B 12 2, true, B.drop 14, 0) := by
        have := lk_Rd_Fix 2 true (B.drop 12) (bytes_drop hBb _) (by omega) (by omega) (by rw [List.length_drop]; omega)
        rw [List.drop_drop] at this
        exact this
      have gl := lk_Rd_Left true (B.drop 14)
      have gt := lk_Rd_Take true (B.drop 14)
      simp only [g0, g1, g2, g6, g10, g12, gl, gt, Option.bind_some]
      have b0 := cut_bounds hBb 0 1
      have b1 := cut_bounds hBb 1 1
      have b2 := cut_bounds hBb 2 4
      have b6 := cut_bounds hBb 6 4
      have b10 := cut_bounds hBb 10 2
      have b12 := cut_bounds hBb 12 2
      have n1 : ((256 ^ 1 : Nat) : Int) = 256 := by decide
      have n2 : ((256 ^ 2 : Nat) : Int) = 65536 := by decide
      have n4 : ((256 ^ 4 : Nat) : Int) = 4294967296 := by decide
      rw [n1] at b0 b1
      rw [n4] at b2 b6
      rw [n2] at b10 b12
      rw [Int.emod_eq_of_lt b0.1 b0.2, Int.emod_eq_of_lt b1.1 b1.2, Int.emod_eq_of_lt b2.1 b2.2, Int.emod_eq_of_lt b6.1 b6.2, wu16_id b10.1 b10.2, wu16_id b12.1 b12.2]
      refine ev_bind (lk_gram_Right _ _ _ _ _ _ _) ?_
      by_cases hr : rightG (cutG B 0 1) (cutG B 10 2) (cutG B 12 2) (B.drop 14).length = 0
      · simp only [if_pos hr]
        exact ev_some _
      · simp only [if_neg hr]
        exact ev_some _
  · have e3 : ((strOfNums (leL 4 (sumN (l.take (l.length - 4))))).toList == (strOfNums (l.drop (l.length - 4))).toList) = false := by rw [beq_eq_false_iff_ne]; intro h; rw [str_eq (leL_bytes _ _) (bytes_drop hb _)] at h; exact c3 h
    simp only [e3, Bool.false_eq_true, if_false, if_pos c3]
    exact ev_some _
theorem lk_awake18 : Ev (fun k => annuletlaw18_awake.f k) true := Ev.of annuletlaw18_awake.mono (k := 80) (by decide +kernel)
theorem GramBursts_law : annuletlaw18_GramBursts.Pure := by
  intro k v e i x c body at_ mask hk hv he hi hx hc hb hat hm
  have hk := wf_u8 hk
  have hv := wf_u8 hv
  have he := wf_u32 he
  have hi := wf_u32 hi
  have hx := wf_u16 hx
  have hc := wf_u16 hc
  have hb := bytes_of_wf hb.2
  have hat := wf_i64 hat
  have hm := wf_u32 hm
  refine Ev.rounds (g := fun n => annuletlaw18_GramBursts.f n k v e i x c body at_ mask) ?_
  unfold annuletlaw18_GramBursts.f
  by_cases c1 : (body.length : Int) > 1500
  · simp only [if_pos c1]
    exact ev_bind lk_awake18 (ev_some _)
  simp only [if_neg c1]
  refine ev_bind (lk_gram_Put k v e i x c body hk hv he hi hx hc hb (by omega)) ?_
  by_cases hr : rightG k x c body.length = 0
  · simp only [if_pos hr, if_true]
    have hG := bytesG_bytes hk hv e i x c hb
    have hGl := bytesG_len k v e i x c body
    refine ev_bind (lk_ref02_Flip _ hG at_ mask hat.1 (by omega) hm.1 hm.2 (by omega)) ?_
    refine ev_bind (lk_gram_Get _ (flipL_bytes _ hG at_ mask hm.1 hm.2)) ?_
    have hs := cntT_same _ hG at_ mask hm.1 hm.2
    by_cases hc0 : cntT (bytesG k v e i x c body).length at_ mask (8 * (bytesG k v e i x c body).length) = 0
    · rw [hs.1 hc0, getG_bytes k v e i x c body hk hv he hi hx hc hr, hc0]
      simp only [Int.natCast_zero, if_true]
      exact ev_bind lk_awake18 (ev_some _)
    · rw [getG_burst k v e i x c body hk hv hb hr at_ mask hm.1 hm.2 (fun h => hc0 (hs.2 h))]
      generalize cntT (bytesG k v e i x c body).length at_ mask (8 * (bytesG k v e i x c body).length) = n at hc0 ⊢
      simp only [if_neg (show ¬ ((n : Nat) : Int) = 0 by omega), if_pos (show ((n : Nat) : Int) > 0 by omega), if_true]
      exact ev_bind lk_awake18 (ev_some _)
  · simp only [if_neg hr]
    exact ev_bind lk_awake18 (ev_some _)
end Go.Proofs.Ytdadpfdmgjnamaa.PGramBursts
namespace Go.Proofs.Ytdadpfdmgjnamaa.Pure
open Go.Proofs.Ytdadpfdmgjnamaa.PGramBursts
theorem GramBursts : annuletlaw18_GramBursts.Pure := GramBursts_law
end Go.Proofs.Ytdadpfdmgjnamaa.Pure
