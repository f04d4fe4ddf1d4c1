/- NumGets: the number, the great number, and the bytes that any text is, or that it is none, are the document's. No condition. -/
import Derived.Test.YtlhmmegiklnppaaPNumGetsx4
import Derived.Test.YtlhmmegiklnppaaMath
set_option linter.unusedVariables false
set_option linter.unusedSimpArgs false
namespace Go.Proofs.Ytlhmmegiklnppaa.PNumGets
open Go.RowKit Go.Proofs.YtlhmmegiklnppaaW.PrintWords Go.Proofs.YtlhmmegiklnppaaW.PrintLast Go.Proofs.YtlhmmegiklnppaaW.PrintMore Annulet

/-! ### package num: the printed functions and the lists -/
theorem lk_num_digits (n : Int) (h0 : 0 ≤ n) (h1 : n < 18446744073709551616) : num_digits.f n = some (strOfNums (digL n.toNat)) := by
  unfold num_digits.f
  rw [if_pos h0, if_pos h1]
theorem lk_num_Put (n : Int) (h : -9223372036854775808 ≤ n) (h' : n < 9223372036854775808) : num_Put.f n = some (strOfNums (numL n)) := by
  unfold num_Put.f numL
  by_cases h0 : n < 0
  · rw [if_pos h0, if_pos h0, w64 (n := n + 1) (by omega) (by omega), w64 (n := -(n + 1)) (by omega) (by omega), wu64_id (n := -(n + 1)) (by omega) (by omega), wu64_id (n := -(n + 1) + 1) (by omega) (by omega), lk_num_digits _ (by omega) (by omega)]
    have e : (-(n + 1) + 1).toNat = (-n).toNat := by omega
    have hl := digL_len20 (n := (-n).toNat) (by omega)
    simp only [Option.bind_some, e, strOfNums_size]
    rw [if_pos (by omega)]
    rw [show (⟨#[45]⟩ : ByteArray) = strOfNums [45] from rfl, strOfNums_append]
    rfl
  · rw [if_neg h0, if_neg h0, wu64_id (by omega) (by omega), lk_num_digits _ (by omega) (by omega)]
    rfl
theorem lk_num_Hex0 (u : Nat) (hu : u < 18446744073709551616) (d : Nat) : ∀ (i : Nat) (b : List Int), 16 - i = d → i ≤ 16 → b.length = 16 → b.drop (16 - i) = hexL i u →
    Ev (fun k => num_Hex.l0 k (u : Int) b 16 (i : Int)) (strOfNums (hexL 16 u)) := by
  induction d with
  | zero =>
    intro i b hd hi hl hb
    obtain rfl : i = 16 := by omega
    refine ev_succ ?_
    simp only [num_Hex.l0]
    simp only [if_neg (show ¬ ((16 : Nat) : Int) < 16 by omega)]
    rw [show 16 - 16 = 0 from rfl, List.drop_zero] at hb
    rw [hb]
    exact ev_some _
  | succ d ih =>
    intro i b hd hi hl hb
    refine ev_succ ?_
    simp only [num_Hex.l0]
    rw [w64 (n := 4 * (i : Int)) (by omega) (by omega), w64 (n := 15 - (i : Int)) (by omega) (by omega), w64 (n := (i : Int) + 1) (by omega) (by omega)]
    have hs : shr .u64 (u : Int) (4 * (i : Int)) = ((u / 16 ^ i : Nat) : Int) := by
      have := shr_u64 (u : Int) (4 * i) (by omega)
      rw [show ((4 * i : Nat) : Int) = 4 * (i : Int) by omega] at this
      have e : (16 : Nat) ^ i = 2 ^ (4 * i) := by rw [Nat.pow_mul]
      rw [this, e, Int.natCast_ediv, Int.natCast_pow]
      rfl
    have hlt : u / 16 ^ i < 18446744073709551616 := Nat.lt_of_le_of_lt (Nat.div_le_self _ _) hu
    rw [hs]
    generalize hv : u / 16 ^ i = v at *
    rw [and15_u64 (by omega) (by omega)]
    simp only [if_pos (show (i : Int) < 16 by omega), if_pos (show 0 ≤ 4 * (i : Int) by omega), if_pos (show 0 ≤ (v : Int) % 16 by omega), if_pos (show (v : Int) % 16 < 16 by omega), if_pos (show 0 ≤ 15 - (i : Int) by omega), if_pos (show 15 - (i : Int) < (b.length : Int) by omega)]
    have hp := bt_place ((v : Int) % 16) (by omega) (by omega)
    unfold placesS at hp
    rw [hp]
    refine ih (i + 1) _ (by omega) (by omega) (by rw [List.length_set]; exact hl) ?_
    rw [show (15 - (i : Int)).toNat = 15 - i by omega, show 16 - (i + 1) = 15 - i by omega, set_snoc _ _ _ (by omega), show 15 - i + 1 = 16 - i by omega, hb]
    rw [show i + 1 = 1 + i by omega, hexL_add 1 i u]
    simp [hexL, hv]
theorem lk_num_Hex (u : Int) (h0 : 0 ≤ u) (h1 : u < 18446744073709551616) : Ev (fun k => num_Hex.f k u) (strOfNums (hexL 16 u.toNat)) := by
  unfold num_Hex.f
  simp only [if_pos (show 16 ≤ 281474976710656 by omega), Option.bind_some]
  have := lk_num_Hex0 u.toNat (by omega) 16 0 (List.replicate 16 0) (by omega) (by omega) (by simp) (by simp [hexL])
  rw [show ((u.toNat : Nat) : Int) = u by omega] at this
  exact this
theorem lk_num_Bytes0 (l : List Int) (hb : Bytes l) (hl : l.length < 1000000000000) (d : Nat) : ∀ i : Nat, i ≤ l.length → l.length - i = d →
    Ev (fun k => num_Bytes.l0 k (bytesL (l.take i)) l (l.length : Int) (i : Int)) (strOfNums (bytesL l)) := by
  induction d with
  | zero =>
    intro i hi hd
    refine ev_succ ?_
    simp only [num_Bytes.l0]
    simp only [if_neg (show ¬ (i : Int) < (l.length : Int) by omega)]
    rw [List.take_of_length_le (by omega)]
    exact ev_some _
  | succ d ih =>
    intro i hi hd
    have hr := rd_byte hb (i : Int)
    unfold Byte at hr
    refine ev_succ ?_
    simp only [num_Bytes.l0]
    rw [and15 hr.1 hr.2]
    simp only [if_pos (show (i : Int) < (l.length : Int) by omega), if_pos (show (0 : Int) ≤ (i : Int) by omega), if_pos (show 0 ≤ rd l (i : Int) / 16 by omega), if_pos (show rd l (i : Int) / 16 < 16 by omega), if_pos (show 0 ≤ rd l (i : Int) % 16 by omega), if_pos (show rd l (i : Int) % 16 < 16 by omega), Option.bind_some]
    have h1 := bt_place (rd l (i : Int) / 16) (by omega) (by omega)
    have h2 := bt_place (rd l (i : Int) % 16) (by omega) (by omega)
    unfold placesS at h1 h2
    rw [h1, h2, w64 (by omega) (by omega)]
    have hbl := bytesL_len (l.take i)
    rw [List.length_take] at hbl
    simp only [if_pos (show (bytesL (l.take i)).length + [place (rd l (i : Int) / 16), place (rd l (i : Int) % 16)].length < 140737488355328 by simp only [List.length_cons, List.length_nil]; omega)]
    have e : bytesL (l.take i) ++ [place (rd l (i : Int) / 16), place (rd l (i : Int) % 16)] = bytesL (l.take (i + 1)) := by
      rw [take_succ_rd l i (by omega), bytesL_append]
      simp [bytesL, twoL]
    rw [e]
    exact ih (i + 1) (by omega) (by omega)
/-- the text of bytes -/
theorem lk_num_Bytes (l : List Int) (hb : Bytes l) (hl : l.length < 1000000000000) : Ev (fun k => num_Bytes.f k l) (strOfNums (if l.length = 0 then [45] else bytesL l)) := by
  unfold num_Bytes.f
  by_cases h0 : l.length = 0
  · simp only [if_pos (show (l.length : Int) = 0 by omega), if_pos h0]
    exact ev_some _
  · simp only [if_neg (show ¬ (l.length : Int) = 0 by omega), if_neg h0]
    rw [w64 (by omega) (by omega)]
    simp only [if_pos (show 0 ≤ 2 * (l.length : Int) by omega), if_pos (show (2 * (l.length : Int)).toNat ≤ 281474976710656 by omega)]
    exact lk_num_Bytes0 l hb hl _ 0 (by omega) rfl

/-! ### package num: what texts are -/
theorem lk_IndexByte (c : Int) (h : Byte c) : strings_IndexByte.f placesS c = some (hx c) := by
  have key : ∀ i : Fin 256, strings_IndexByte.f placesS ((i.val : Nat) : Int) = some (hx ((i.val : Nat) : Int)) := by decide +kernel
  unfold Byte at h
  have := key ⟨c.toNat, by omega⟩
  rw [show ((c.toNat : Nat) : Int) = c by omega] at this
  exact this
theorem rd0_cases (l : List Int) : (∃ r, l = 45 :: r) ∨ (¬ ∃ r, l = 45 :: r) := Classical.em _
theorem lk_CutMinus_hit (r : List Int) : strings_CutPrefix.f (strOfNums (45 :: r)) (⟨#[45]⟩ : ByteArray) = some (strOfNums r, true) := by
  have hp : stringslite_HasPrefix.f (strOfNums (45 :: r)) (⟨#[45]⟩ : ByteArray) = some true := by
    unfold stringslite_HasPrefix.f
    rw [show (⟨#[45]⟩ : ByteArray) = strOfNums [45] from rfl]
    simp only [strOfNums_size, List.length_cons, List.length_nil]
    rw [if_pos (by omega), if_pos (by omega), if_pos (by omega), str_extract]
    simp
  unfold strings_CutPrefix.f stringslite_CutPrefix.f
  rw [hp]
  rw [show (⟨#[45]⟩ : ByteArray) = strOfNums [45] from rfl]
  simp only [Option.bind_some, if_true, strOfNums_size, List.length_cons, List.length_nil]
  rw [if_pos (by omega), if_pos (by omega), str_extract]
  simp
theorem lk_CutMinus_miss (l : List Int) (hb : Bytes l) (h : ¬ ∃ r, l = 45 :: r) : strings_CutPrefix.f (strOfNums l) (⟨#[45]⟩ : ByteArray) = some (strOfNums l, false) := by
  have hp : stringslite_HasPrefix.f (strOfNums l) (⟨#[45]⟩ : ByteArray) = some false := by
    unfold stringslite_HasPrefix.f
    rw [show (⟨#[45]⟩ : ByteArray) = strOfNums [45] from rfl]
    simp only [strOfNums_size, List.length_cons, List.length_nil]
    cases l with
    | nil => simp
    | cons x r =>
      have hx : x ≠ 45 := fun e => h ⟨r, by rw [e]⟩
      simp only [List.length_cons]
      rw [if_pos (by omega), if_pos (by omega), if_pos (by omega), str_extract]
      rw [str_beq (bytes_drop (bytes_take hb _) _) (bytes_cons ⟨by omega, by omega⟩ bytes_nil)]
      congr 1
      simp [hx]
  unfold strings_CutPrefix.f stringslite_CutPrefix.f
  rw [hp]
  simp
def okL (l : List Int) : Bool := if l = [] then false else if rd l 0 = 48 then decide (l = [48]) else true
theorem lk_num_magnitude0 (l : List Int) (hb : Bytes l) (d : Nat) : ∀ i : Nat, i ≤ l.length → i ≤ 19 → l.length - i = d → Digits (l.take i) →
    Ev (fun k => num_magnitude.l0 k (strOfNums l) (decL (l.take i)) (l.length : Int) (i : Int)) (if Digits l ∧ l.length ≤ 19 then (decL l, okL l) else (0, false)) := by
  induction d with
  | zero =>
    intro i hi h19 hd hdig
    rw [List.take_of_length_le (by omega)] at hdig ⊢
    rw [if_pos ⟨hdig, by omega⟩]
    refine ev_succ ?_
    simp only [num_magnitude.l0, strOfNums_size, bt_str hb, str_nil]
    rw [show ([48] : List UInt8) = (strOfNums [48]).toList from (str_toList [48]).symm, str_beq hb (bytes_cons ⟨by omega, by omega⟩ bytes_nil)]
    simp only [if_neg (show ¬ (i : Int) < (l.length : Int) by omega)]
    unfold okL
    by_cases h0 : l = []
    · simp only [if_pos h0]; exact ev_some _
    · have : 0 < l.length := List.length_pos_iff.2 h0
      simp only [if_neg h0, if_pos (show (0 : Int) < (l.length : Int) by omega)]
      by_cases h48 : rd l 0 = 48
      · simp only [if_pos h48]; exact ev_some _
      · simp only [if_neg h48]; exact ev_some _
  | succ d ih =>
    intro i hi h19 hd hdig
    have hr := rd_byte hb (i : Int)
    unfold Byte at hr
    have hmem : rd l (i : Int) ∈ l := by
      rw [rd_nat]
      have : i < l.length := by omega
      simp [List.getD, this]
    refine ev_succ ?_
    simp only [num_magnitude.l0, strOfNums_size, bt_str hb]
    simp only [if_pos (show (i : Int) < (l.length : Int) by omega), if_pos (show (0 : Int) ≤ (i : Int) by omega)]
    by_cases h1 : rd l (i : Int) < 48
    · simp only [if_pos h1]
      rw [if_neg (by intro h; have := h.1 _ hmem; omega)]
      exact ev_some _
    simp only [if_neg h1]
    by_cases h2 : rd l (i : Int) > 57
    · simp only [if_pos h2]
      rw [if_neg (by intro h; have := h.1 _ hmem; omega)]
      exact ev_some _
    simp only [if_neg h2]
    by_cases h3 : (i : Int) ≥ 19
    · simp only [if_pos h3]
      rw [if_neg (by intro h; have := h.2; omega)]
      exact ev_some _
    simp only [if_neg h3]
    have hdr := decL_range _ hdig
    rw [List.length_take, Nat.min_eq_left (by omega)] at hdr
    have hp : (10 : Int) ^ i ≤ 10 ^ 18 := by
      have : (10 : Nat) ^ i ≤ 10 ^ 18 := Nat.pow_le_pow_right (by omega) (by omega)
      exact_mod_cast this
    rw [show (10 : Int) ^ 18 = 1000000000000000000 by decide] at hp
    have e : decL (l.take (i + 1)) = decL (l.take i) * 10 + (rd l (i : Int) - 48) := by rw [take_succ_rd l i (by omega), decL_snoc]
    have ed : Digits (l.take (i + 1)) := by rw [take_succ_rd l i (by omega)]; exact digits_snoc.2 ⟨hdig, by omega⟩
    rw [wu64_id (n := decL (l.take i) * 10) (by omega) (by omega), show (rd l (i : Int) - 48) % 256 = rd l (i : Int) - 48 by omega, wu64_id (by omega) (by omega), ← e, w64 (by omega) (by omega)]
    exact ih (i + 1) (by omega) (by omega) (by omega) ed
theorem lk_num_magnitude (l : List Int) (hb : Bytes l) : Ev (fun k => num_magnitude.f k (strOfNums l)) (if Digits l ∧ l.length ≤ 19 then (decL l, okL l) else (0, false)) := by
  unfold num_magnitude.f
  have := lk_num_magnitude0 l hb _ 0 (by omega) (by omega) rfl (fun _ h => by simp at h)
  simp only [strOfNums_size]
  exact this
theorem lk_num_Get_j0 (x5 : Bool) (x6 : Int) (x20 : Bool) (h : x20 = false → if x5 then 0 < x6 ∧ x6 ≤ 9223372036854775808 else 0 ≤ x6 ∧ x6 < 9223372036854775808) :
    Ev (fun k => num_Get.j0 k x5 x6 x20) (if x20 then (0, 3) else if x5 then (-x6, 0) else (x6, 0)) := by
  refine ev_succ ?_
  simp only [num_Get.j0]
  cases x20 with
  | true => simp only [if_true]; exact ev_some _
  | false =>
    have h := h rfl
    simp only [Bool.false_eq_true, if_false]
    cases x5 with
    | true =>
      simp only [if_true] at h ⊢
      rw [wu64_id (n := x6 - 1) (by omega) (by omega), w64 (n := x6 - 1) (by omega) (by omega), w64 (n := -(x6 - 1)) (by omega) (by omega), w64 (by omega) (by omega), show -(x6 - 1) - 1 = -x6 by omega]
      exact ev_some _
    | false =>
      simp only [Bool.false_eq_true, if_false] at h ⊢
      rw [w64 (by omega) (by omega)]
      exact ev_some _
theorem digL_len19 {n : Nat} (h : n ≤ 9223372036854775808) : (digL n).length ≤ 19 := digL_len 18 n (by omega)
theorem okL_digL (n : Nat) : okL (digL n) = true := by
  unfold okL
  have := digL_pos n
  rw [if_neg (by intro h; rw [h] at this; simp at this)]
  split
  · rename_i h; exact decide_eq_true (digL_zero n h)
  · rfl
theorem okL_back {l : List Int} (h : okL l = true) : l ≠ [] ∧ (rd l 0 = 48 → l = [48]) := by
  unfold okL at h
  split at h
  · simp at h
  · rename_i h0
    refine ⟨h0, fun h48 => ?_⟩
    rw [if_pos h48] at h
    exact of_decide_eq_true h
theorem lk_num_Get_bits (l : List Int) (hb : Bytes l) : ∃ r, IsGet l r ∧ Ev (fun k => num_Get.f k (strOfNums l)) r := by
  by_cases h0 : l = []
  · refine ⟨(0, 2), Or.inl ⟨h0, rfl⟩, ?_⟩
    unfold num_Get.f
    simp only [str_nil, if_pos h0]
    exact ev_some _
  unfold num_Get.f
  simp only [str_nil, if_neg h0]
  rcases rd0_cases l with ⟨r, rfl⟩ | hm
  · rw [lk_CutMinus_hit]
    simp only [Option.bind_some]
    have hbr : Bytes r := fun x hx => hb x (by simp [hx])
    have hmag := lk_num_magnitude r hbr
    by_cases hd : Digits r ∧ r.length ≤ 19
    · rw [if_pos hd] at hmag
      by_cases hok : okL r = true
      · have hbk := okL_back hok
        have e := digL_decL r hd.1 hbk.1 hbk.2
        have hr := decL_range r hd.1
        by_cases hz : decL r = 0
        · refine ⟨(0, 3), Or.inr (Or.inr ⟨by simp, ?_, rfl⟩), ?_⟩
          · intro n hn hl
            have hneg := (numL_neg n).1 (by rw [hl]; rfl)
            unfold numL at hl
            rw [if_pos hneg] at hl
            have := congrArg decL (List.cons.inj hl).2
            rw [decL_digL, hz] at this
            omega
          · refine ev_bind hmag ?_
            simp only [hok, if_true, if_pos hz]
            exact lk_num_Get_j0 _ _ _ (by simp)
        · by_cases hg : decL r > 9223372036854775808
          · refine ⟨(0, 3), Or.inr (Or.inr ⟨by simp, ?_, rfl⟩), ?_⟩
            · intro n hn hl
              unfold InI at hn
              have hneg := (numL_neg n).1 (by rw [hl]; rfl)
              unfold numL at hl
              rw [if_pos hneg] at hl
              have := congrArg decL (List.cons.inj hl).2
              rw [decL_digL] at this
              omega
            · refine ev_bind hmag ?_
              simp only [hok, if_true, if_neg hz, if_pos hg, decide_eq_true hg]
              exact lk_num_Get_j0 _ _ _ (by simp)
          · refine ⟨(-decL r, 0), Or.inr (Or.inl ⟨-decL r, ⟨by omega, by omega⟩, ?_, rfl⟩), ?_⟩
            · unfold numL
              rw [if_pos (by omega), Int.neg_neg, e]
            · refine ev_bind hmag ?_
              simp only [hok, if_true, if_neg hz, if_neg hg]
              exact lk_num_Get_j0 true (decL r) false (fun _ => by simp only [if_true]; omega)
      · have hok : okL r = false := by simpa using hok
        refine ⟨(0, 3), Or.inr (Or.inr ⟨by simp, ?_, rfl⟩), ?_⟩
        · intro n hn hl
          have hneg := (numL_neg n).1 (by rw [hl]; rfl)
          unfold numL at hl
          rw [if_pos hneg] at hl
          rw [← (List.cons.inj hl).2, okL_digL] at hok
          simp at hok
        · refine ev_bind hmag ?_
          simp only [hok, Bool.false_eq_true, if_false, Bool.not_false]
          exact lk_num_Get_j0 _ _ _ (by simp)
    · rw [if_neg hd] at hmag
      refine ⟨(0, 3), Or.inr (Or.inr ⟨by simp, ?_, rfl⟩), ?_⟩
      · intro n hn hl
        unfold InI at hn
        have hneg := (numL_neg n).1 (by rw [hl]; rfl)
        unfold numL at hl
        rw [if_pos hneg] at hl
        apply hd
        rw [← (List.cons.inj hl).2]
        exact ⟨digL_digits _, digL_len19 (by omega)⟩
      · refine ev_bind hmag ?_
        simp only [Bool.false_eq_true, if_false, Bool.not_false]
        exact lk_num_Get_j0 _ _ _ (by simp)
  · rw [lk_CutMinus_miss l hb hm]
    simp only [Option.bind_some]
    have hmag := lk_num_magnitude l hb
    have hnn : ∀ n, numL n = l → ¬ n < 0 := by
      intro n hl hn
      unfold numL at hl
      rw [if_pos hn] at hl
      exact hm ⟨_, hl.symm⟩
    by_cases hd : Digits l ∧ l.length ≤ 19
    · rw [if_pos hd] at hmag
      by_cases hok : okL l = true
      · have hbk := okL_back hok
        have e := digL_decL l hd.1 hbk.1 hbk.2
        have hr := decL_range l hd.1
        by_cases hg : decL l ≥ 9223372036854775808
        · refine ⟨(0, 3), Or.inr (Or.inr ⟨h0, ?_, rfl⟩), ?_⟩
          · intro n hn hl
            unfold InI at hn
            have hneg := hnn n hl
            unfold numL at hl
            rw [if_neg hneg] at hl
            have := congrArg decL hl
            rw [decL_digL] at this
            omega
          · refine ev_bind hmag ?_
            simp only [hok, if_true, Bool.false_eq_true, if_false, decide_eq_true hg]
            exact lk_num_Get_j0 _ _ _ (by simp)
        · refine ⟨(decL l, 0), Or.inr (Or.inl ⟨decL l, ⟨by omega, by omega⟩, ?_, rfl⟩), ?_⟩
          · unfold numL
            rw [if_neg (by omega), e]
          · refine ev_bind hmag ?_
            simp only [hok, if_true, Bool.false_eq_true, if_false, decide_eq_false hg]
            exact lk_num_Get_j0 false (decL l) false (fun _ => by simp only [Bool.false_eq_true, if_false]; omega)
      · have hok : okL l = false := by simpa using hok
        refine ⟨(0, 3), Or.inr (Or.inr ⟨h0, ?_, rfl⟩), ?_⟩
        · intro n hn hl
          have hneg := hnn n hl
          unfold numL at hl
          rw [if_neg hneg] at hl
          rw [← hl, okL_digL] at hok
          simp at hok
        · refine ev_bind hmag ?_
          simp only [hok, Bool.false_eq_true, if_false, Bool.not_false]
          exact lk_num_Get_j0 _ _ _ (by simp)
    · rw [if_neg hd] at hmag
      refine ⟨(0, 3), Or.inr (Or.inr ⟨h0, ?_, rfl⟩), ?_⟩
      · intro n hn hl
        unfold InI at hn
        have hneg := hnn n hl
        unfold numL at hl
        rw [if_neg hneg] at hl
        apply hd
        rw [← hl]
        exact ⟨digL_digits _, digL_len19 (by omega)⟩
      · refine ev_bind hmag ?_
        simp only [Bool.false_eq_true, if_false, Bool.not_false]
        exact lk_num_Get_j0 _ _ _ (by simp)
theorem mx0 (t : Int) : 0 ≤ mx t 0 ∧ (0 ≤ t → mx t 0 = t) := by
  unfold mx
  split <;> constructor <;> omega
theorem or_u64_range (x y : Int) : 0 ≤ bits .or .u64 x y ∧ bits .or .u64 x y < 18446744073709551616 := by
  unfold bits
  rw [wu64]
  omega
theorem lk_num_Unhex_end (l : List Int) (hb : Bytes l) (x : Int) (h0 : 0 ≤ x) (h1 : x < 18446744073709551616) (i : Nat) (hi : i = l.length) :
    Ev (fun k => num_Unhex.l0 k (strOfNums l) x (l.length : Int) (i : Int)) (if hexL 16 x.toNat = l then (x, 0) else (0, 3)) := by
  refine ev_succ ?_
  simp only [num_Unhex.l0, strOfNums_size]
  simp only [if_neg (show ¬ (i : Int) < (l.length : Int) by omega)]
  by_cases h16 : (l.length : Int) = 16
  · simp only [if_pos h16]
    refine ev_bind (lk_num_Hex x h0 h1) ?_
    simp only [str_eq (hexL_bytes _ _) hb]
    by_cases he : hexL 16 x.toNat = l
    · simp only [if_pos he]; exact ev_some _
    · simp only [if_neg he]; exact ev_some _
  · simp only [if_neg h16]
    rw [if_neg (by intro h; apply h16; rw [← h, hexL_len]; rfl)]
    exact ev_some _
theorem lk_num_Unhex_miss (l : List Int) (hb : Bytes l) (hl : l.length < 1000000000000) (hm : ∀ u : Nat, u < 18446744073709551616 → hexL 16 u ≠ l) (d : Nat) : ∀ (i : Nat) (x : Int), i ≤ l.length → l.length - i = d → 0 ≤ x → x < 18446744073709551616 →
    Ev (fun k => num_Unhex.l0 k (strOfNums l) x (l.length : Int) (i : Int)) (0, 3) := by
  induction d with
  | zero =>
    intro i x hi hd h0 h1
    have := lk_num_Unhex_end l hb x h0 h1 i (by omega)
    rwa [if_neg (hm x.toNat (by omega))] at this
  | succ d ih =>
    intro i x hi hd h0 h1
    refine ev_succ ?_
    simp only [num_Unhex.l0, strOfNums_size, bt_str hb]
    simp only [if_pos (show (i : Int) < (l.length : Int) by omega), if_pos (show (0 : Int) ≤ (i : Int) by omega)]
    have hix := lk_IndexByte (rd l (i : Int)) (rd_byte hb _)
    unfold placesS at hix
    rw [hix, w64 (by omega) (by omega)]
    simp only [Option.bind_some]
    have hr := or_u64_range (IntKind.u64.wrap (x * 16)) (IntKind.u64.wrap (mx (hx (rd l (i : Int))) 0))
    exact ih (i + 1) _ (by omega) (by omega) hr.1 hr.2
theorem hexL_rd (u : Nat) : ∀ i : Nat, i < 16 → rd (hexL 16 u) (i : Int) = place ((u / 16 ^ (15 - i) % 16 : Nat) : Int) := by
  intro i hi
  have e := hexL_add (i + 1) (15 - i) u
  rw [show i + 1 + (15 - i) = 16 by omega] at e
  rw [e, rd_nat]
  have hl := hexL_len (i + 1) (u / 16 ^ (15 - i))
  rw [hexL]
  have hl2 := hexL_len i (u / 16 ^ (15 - i) / 16)
  simp [List.getD, hl2]
theorem lk_num_Unhex_hit (u : Nat) (hu : u < 18446744073709551616) (d : Nat) : ∀ (i : Nat), i ≤ 16 → 16 - i = d →
    Ev (fun k => num_Unhex.l0 k (strOfNums (hexL 16 u)) ((u / 16 ^ (16 - i) : Nat) : Int) ((hexL 16 u).length : Int) (i : Int)) ((u : Int), 0) := by
  induction d with
  | zero =>
    intro i hi hd
    obtain rfl : i = 16 := by omega
    have := lk_num_Unhex_end (hexL 16 u) (hexL_bytes _ _) (u : Int) (by omega) (by omega) 16 (by rw [hexL_len])
    rw [if_pos (by rfl)] at this
    simpa using this
  | succ d ih =>
    intro i hi hd
    have hb := hexL_bytes 16 u
    have hlen := hexL_len 16 u
    refine ev_succ ?_
    simp only [num_Unhex.l0, strOfNums_size, bt_str hb]
    simp only [if_pos (show (i : Int) < ((hexL 16 u).length : Int) by omega), if_pos (show (0 : Int) ≤ (i : Int) by omega)]
    have hix := lk_IndexByte (rd (hexL 16 u) (i : Int)) (rd_byte hb _)
    unfold placesS at hix
    rw [hix, w64 (by omega) (by omega), hexL_rd u i (by omega), hx_place (by omega) (by omega)]
    simp only [Option.bind_some]
    rw [(mx0 _).2 (by omega)]
    have e : u / 16 ^ (16 - i) = u / 16 ^ (15 - i) / 16 := by rw [Nat.div_div_eq_div_mul, show 16 - i = 15 - i + 1 by omega, Nat.pow_succ]
    have hv : u / 16 ^ (15 - i) < 18446744073709551616 := Nat.lt_of_le_of_lt (Nat.div_le_self _ _) hu
    have := ih (i + 1) (by omega) (by omega)
    rw [show 16 - (i + 1) = 15 - i by omega] at this
    rw [e]
    generalize u / 16 ^ (15 - i) = v at *
    rw [wu64_id (n := ((v / 16 : Nat) : Int) * 16) (by omega) (by omega), wu64_id (n := ((v % 16 : Nat) : Int)) (by omega) (by omega), bits_join .u64 64 (by decide) wraps_u64 4 (((v / 16 : Nat) : Int) * 16) ((v % 16 : Nat) : Int) (by omega) (by omega) (by omega) (by omega) (by omega) (by omega)]
    rw [show ((v / 16 : Nat) : Int) * 16 + ((v % 16 : Nat) : Int) = (v : Int) by omega]
    exact this
theorem lk_num_Unhex (l : List Int) (hb : Bytes l) (hl : l.length < 1000000000000) : Ev (fun k => num_Unhex.f k (strOfNums l)) (unhL l) := by
  unfold num_Unhex.f
  simp only [strOfNums_size]
  by_cases h : (unhL l).2 = 0
  · have ho := unhL_ok h
    have e : unhL l = ((unhL l).1, 0) := by rw [← h]
    have := lk_num_Unhex_hit (unhL l).1.toNat (by omega) 16 0 (by omega) rfl
    rw [ho.2.2, show (((unhL l).1.toNat : Nat) : Int) = (unhL l).1 by omega, ← e, show (unhL l).1.toNat / 16 ^ (16 - 0) = 0 from Nat.div_eq_of_lt (by have := ho.1; have := ho.2.1; omega)] at this
    exact this
  · have hm := unhL_miss h
    rw [hm.1]
    exact lk_num_Unhex_miss l hb hl hm.2 _ 0 0 (by omega) rfl (by omega) (by omega)
theorem pairsL_len : ∀ (l b : List Int), pairsL l = some b → l.length = 2 * b.length
  | l, b, h => by rw [← (bytesL_pairsL l b h).1, bytesL_len]
theorem pairsL_odd : ∀ (l : List Int), l.length % 2 = 1 → pairsL l = none := by
  intro l h
  rcases hp : pairsL l with _ | b
  · rfl
  · have := pairsL_len l b hp
    omega
theorem pairsL_step (l : List Int) (i : Nat) (h : i + 1 < l.length) : pairsL (l.drop i) = if hx (rd l (i : Int)) < 0 ∨ hx (rd l ((i + 1 : Nat) : Int)) < 0 then none else (pairsL (l.drop (i + 2))).map fun b => (16 * hx (rd l (i : Int)) + hx (rd l ((i + 1 : Nat) : Int))) :: b := by
  rw [drop_rd l i (by omega), drop_rd l (i + 1) (by omega), pairsL]
theorem lk_num_Unbytes0 (l : List Int) (hb : Bytes l) (hl : l.length < 1000000000000) (m : Nat) (hm : l.length = 2 * m) (d : Nat) : ∀ (i : Nat) (a : List Int), i ≤ m → m - i = d → a.length = i →
    Ev (fun k => num_Unbytes.l0 k (strOfNums l) (a ++ List.replicate (m - i) 0) (m : Int) (i : Int)) (match pairsL (l.drop (2 * i)) with | none => ([], 3) | some b => (a ++ b, 0)) := by
  induction d with
  | zero =>
    intro i a hi hd ha
    obtain rfl : i = m := by omega
    rw [List.drop_eq_nil_of_le (by omega)]
    refine ev_succ ?_
    simp only [num_Unbytes.l0]
    simp only [if_neg (show ¬ (i : Int) < (i : Int) by omega), Nat.sub_self, List.replicate_zero, pairsL]
    exact ev_some _
  | succ d ih =>
    intro i a hi hd ha
    have hx1 := hx_range (rd l ((2 * i : Nat) : Int))
    have hx2 := hx_range (rd l ((2 * i + 1 : Nat) : Int))
    have i1 := lk_IndexByte (rd l ((2 * i : Nat) : Int)) (rd_byte hb _)
    have i2 := lk_IndexByte (rd l ((2 * i + 1 : Nat) : Int)) (rd_byte hb _)
    unfold placesS at i1 i2
    rw [pairsL_step l (2 * i) (by omega)]
    refine ev_succ ?_
    simp only [num_Unbytes.l0, strOfNums_size, bt_str hb]
    rw [w64 (n := 2 * (i : Int)) (by omega) (by omega), w64 (n := 2 * (i : Int) + 1) (by omega) (by omega), w64 (n := (i : Int) + 1) (by omega) (by omega)]
    rw [show (2 * (i : Int)) = ((2 * i : Nat) : Int) by omega, show ((2 * i : Nat) : Int) + 1 = ((2 * i + 1 : Nat) : Int) by omega, i1, i2]
    simp only [if_pos (show (i : Int) < (m : Int) by omega), if_pos (show (0 : Int) ≤ ((2 * i : Nat) : Int) by omega), if_pos (show ((2 * i : Nat) : Int) < (l.length : Int) by omega), if_pos (show (0 : Int) ≤ ((2 * i + 1 : Nat) : Int) by omega), if_pos (show ((2 * i + 1 : Nat) : Int) < (l.length : Int) by omega), Option.bind_some, if_pos (show (0 : Int) ≤ (i : Int) by omega)]
    generalize hx (rd l ((2 * i : Nat) : Int)) = p at *
    generalize hx (rd l ((2 * i + 1 : Nat) : Int)) = q at *
    by_cases hp : p < 0
    · simp only [if_pos hp, if_pos (show p < 0 ∨ q < 0 from Or.inl hp)]
      exact ev_some _
    by_cases hq : q < 0
    · simp only [if_neg hp, if_pos hq, if_pos (show p < 0 ∨ q < 0 from Or.inr hq)]
      exact ev_some _
    simp only [if_neg hp, if_neg hq, if_neg (show ¬ (p < 0 ∨ q < 0) by omega)]
    have hlen : (a ++ List.replicate (m - i) (0 : Int)).length = m := by simp; omega
    simp only [if_pos (show (i : Int) < ((a ++ List.replicate (m - i) (0 : Int)).length : Int) by omega)]
    rw [w64 (n := p * 16) (by omega) (by omega)]
    have hj : (bits .or .i64 (p * 16) q) % 256 = 16 * p + q := by
      have key : ∀ p q : Fin 16, (bits .or .i64 (((p.val : Nat) : Int) * 16) ((q.val : Nat) : Int)) % 256 = 16 * ((p.val : Nat) : Int) + ((q.val : Nat) : Int) := by decide +kernel
      have := key ⟨p.toNat, by omega⟩ ⟨q.toNat, by omega⟩
      rw [show ((p.toNat : Nat) : Int) = p by omega, show ((q.toNat : Nat) : Int) = q by omega] at this
      exact this
    rw [hj, Int.toNat_natCast]
    have e : (a ++ List.replicate (m - i) (0 : Int)).set i (16 * p + q) = (a ++ [16 * p + q]) ++ List.replicate (m - (i + 1)) 0 := by
      rw [List.set_append_right _ _ (by omega), ha, Nat.sub_self, show m - i = (m - (i + 1)) + 1 by omega, List.replicate_succ, List.set_cons_zero]
      simp
    rw [e]
    have := ih (i + 1) (a ++ [16 * p + q]) (by omega) (by omega) (by simp [ha])
    rw [show 2 * (i + 1) = 2 * i + 2 by omega] at this
    refine ev_eq this ?_
    cases pairsL (l.drop (2 * i + 2)) with
    | none => rfl
    | some b => simp
theorem lk_num_Unbytes (l : List Int) (hb : Bytes l) (hl : l.length < 1000000000000) : Ev (fun k => num_Unbytes.f k (strOfNums l)) (unbL l) := by
  unfold num_Unbytes.f
  rw [show ([45] : List UInt8) = (strOfNums [45]).toList from (str_toList [45]).symm]
  simp only [str_nil, str_eq hb (bytes_cons (show Byte 45 from ⟨by omega, by omega⟩) bytes_nil), strOfNums_size]
  unfold unbL
  by_cases h1 : l = [45]
  · simp only [if_pos h1]; exact ev_some _
  simp only [if_neg h1]
  by_cases h0 : l = []
  · simp only [if_pos h0]
    refine ev_succ ?_
    simp only [num_Unbytes.j0, if_true]
    exact ev_some _
  simp only [if_neg h0]
  refine ev_succ ?_
  simp only [num_Unbytes.j0, strOfNums_size]
  by_cases hodd : l.length % 2 = 1
  · rw [show (((l.length : Int) % 2) != 0) = true by rw [bne_iff_ne]; omega, pairsL_odd l hodd]
    simp only [if_true]
    exact ev_some _
  · rw [show (((l.length : Int) % 2) != 0) = false by rw [bne_eq_false_iff_eq]; omega]
    simp only [Bool.false_eq_true, if_false]
    rw [w64 (by omega) (by omega)]
    simp only [if_pos (show (0 : Int) ≤ (l.length : Int) / 2 by omega), if_pos (show ((l.length : Int) / 2).toNat ≤ 281474976710656 by omega), Option.bind_some]
    have := lk_num_Unbytes0 l hb hl (l.length / 2) (by omega) _ 0 [] (by omega) rfl rfl
    simp only [List.nil_append, Nat.sub_zero, Nat.mul_zero, List.drop_zero] at this
    rw [show ((l.length : Int) / 2).toNat = l.length / 2 by omega, List.length_replicate]
    exact this
theorem lk_awake07 : Ev (fun k => annuletlaw07_awake.f k) true := Ev.of annuletlaw07_awake.mono (k := 40) (by decide +kernel)
theorem lk_ref07_Put_nat (n : Nat) : n < 9223372036854775808 → Ev (fun k => annuletref07_Put.f k (n : Int)) (strOfNums (digL n)) := by
  induction n using digL.induct with
  | case1 n h =>
    intro hn
    rw [digL_small h]
    refine ev_succ ?_
    simp only [annuletref07_Put.f]
    rw [w64 (n := 48 + (n : Int)) (by omega) (by omega), show (48 + (n : Int)) % 256 = 48 + n by omega]
    simp only [if_neg (show ¬ (n : Int) < -9 by omega), if_neg (show ¬ (n : Int) < 0 by omega), if_neg (show ¬ (n : Int) > 9 by omega)]
    exact ev_some _
  | case2 n h ih =>
    intro hn
    have hd := digL_len20 (n := n / 10) (by omega)
    rw [digL_great h]
    refine ev_succ ?_
    simp only [annuletref07_Put.f]
    rw [tdiv_nat (by omega), tmod_nat (by omega), w64 (n := (n : Int) / 10) (by omega) (by omega)]
    simp only [if_neg (show ¬ (n : Int) < -9 by omega), if_neg (show ¬ (n : Int) < 0 by omega), if_pos (show (n : Int) > 9 by omega)]
    refine ev_bind (ih (by omega)) ?_
    have hs : Ev (fun k => annuletref07_Put.f k ((n : Int) % 10)) (strOfNums [48 + ((n % 10 : Nat) : Int)]) := by
      refine ev_succ ?_
      simp only [annuletref07_Put.f]
      rw [w64 (n := 48 + (n : Int) % 10) (by omega) (by omega), show (48 + (n : Int) % 10) % 256 = 48 + ((n % 10 : Nat) : Int) by omega]
      simp only [if_neg (show ¬ (n : Int) % 10 < -9 by omega), if_neg (show ¬ (n : Int) % 10 < 0 by omega), if_neg (show ¬ (n : Int) % 10 > 9 by omega)]
      exact ev_some _
    refine ev_bind hs ?_
    simp only [strOfNums_size, List.length_singleton, if_pos (show (digL (n / 10)).length + 1 ≤ 9223372036854775807 by omega)]
    rw [strOfNums_append]
    exact ev_some _
theorem lk_ref07_Put_neg (n : Nat) : 0 < n → n ≤ 9223372036854775808 → Ev (fun k => annuletref07_Put.f k (-(n : Int))) (strOfNums (45 :: digL n)) := by
  induction n using digL.induct with
  | case1 n h =>
    intro h0 hn
    have hd := digL_len20 (n := n) (by omega)
    refine ev_succ ?_
    simp only [annuletref07_Put.f]
    rw [w64 (n := - -(n : Int)) (by omega) (by omega), Int.neg_neg]
    simp only [if_neg (show ¬ -(n : Int) < -9 by omega), if_pos (show -(n : Int) < 0 by omega)]
    refine ev_bind (lk_ref07_Put_nat n (by omega)) ?_
    simp only [strOfNums_size, if_pos (show 1 + (digL n).length ≤ 9223372036854775807 by omega)]
    rw [show (⟨#[45]⟩ : ByteArray) = strOfNums [45] from rfl, strOfNums_append]
    exact ev_some _
  | case2 n h ih =>
    intro h0 hn
    have hd := digL_len20 (n := n / 10) (by omega)
    have hd' := digL_len20 (n := n % 10) (by omega)
    refine ev_succ ?_
    simp only [annuletref07_Put.f]
    rw [Int.neg_tdiv, Int.neg_tmod, tdiv_nat (by omega), tmod_nat (by omega), w64 (n := -((n : Int) / 10)) (by omega) (by omega), w64 (n := - -((n : Int) % 10)) (by omega) (by omega), Int.neg_neg]
    simp only [if_pos (show -(n : Int) < -9 by omega)]
    have i1 := ih (by omega) (by omega)
    rw [show ((n / 10 : Nat) : Int) = (n : Int) / 10 by omega] at i1
    refine ev_bind i1 ?_
    have i2 := lk_ref07_Put_nat (n % 10) (by omega)
    rw [show ((n % 10 : Nat) : Int) = (n : Int) % 10 by omega] at i2
    refine ev_bind i2 ?_
    simp only [strOfNums_size, List.length_cons, if_pos (show (digL (n / 10)).length + 1 + (digL (n % 10)).length ≤ 9223372036854775807 by omega)]
    rw [strOfNums_append]
    rw [show 45 :: digL n = 45 :: digL (n / 10) ++ digL (n % 10) by rw [digL_great h, digL_small (n := n % 10) (by omega)]; rfl]
    exact ev_some _
theorem lk_ref07_Put (n : Int) (h : -9223372036854775808 ≤ n) (h' : n < 9223372036854775808) : Ev (fun k => annuletref07_Put.f k n) (strOfNums (numL n)) := by
  unfold numL
  by_cases h0 : n < 0
  · rw [if_pos h0]
    have := lk_ref07_Put_neg (-n).toNat (by omega) (by omega)
    rw [show -(((-n).toNat : Nat) : Int) = n by omega] at this
    exact this
  · rw [if_neg h0]
    have := lk_ref07_Put_nat n.toNat (by omega)
    rw [show ((n.toNat : Nat) : Int) = n by omega] at this
    exact this
theorem lk_ref07_two (c : Int) (h : Byte c) : annuletref07_two.f c = some (strOfNums (twoL c)) := by
  have key : ∀ i : Fin 256, annuletref07_two.f ((i.val : Nat) : Int) = some (strOfNums (twoL ((i.val : Nat) : Int))) := by decide +kernel
  unfold Byte at h
  have := key ⟨c.toNat, by omega⟩
  rw [show ((c.toNat : Nat) : Int) = c by omega] at this
  exact this
theorem w64_range (n : Int) : -9223372036854775808 ≤ wrap64 n ∧ wrap64 n < 9223372036854775808 := by
  unfold wrap64
  omega
theorem lk_ref07_Get_end (l : List Int) (hb : Bytes l) (h0 : l ≠ []) (x : Int) (hx : -9223372036854775808 ≤ x) (hx' : x < 9223372036854775808) (i : Nat) (hi : i = l.length) :
    Ev (fun k => annuletref07_Get.l0 k (strOfNums l) x (i : Int)) (if rd l 0 = 45 then (if numL x = l then (x, 0) else (0, 3)) else (if numL (wrap64 (-x)) = l then (wrap64 (-x), 0) else (0, 3))) := by
  have hw := w64_range (-x)
  have hlen : 0 < l.length := List.length_pos_iff.2 h0
  refine ev_succ ?_
  simp only [annuletref07_Get.l0, strOfNums_size, bt_str hb]
  simp only [if_neg (show ¬ (i : Int) < (l.length : Int) by omega), if_pos (show (0 : Int) < (l.length : Int) by omega)]
  by_cases h45 : rd l 0 = 45
  · simp only [if_pos h45]
    refine ev_bind (lk_ref07_Put x hx hx') ?_
    simp only [str_eq (numL_bytes _) hb]
    by_cases he : numL x = l
    · simp only [if_pos he]; exact ev_some _
    · simp only [if_neg he]; exact ev_some _
  · simp only [if_neg h45]
    refine ev_bind (lk_ref07_Put _ hw.1 hw.2) ?_
    simp only [str_eq (numL_bytes _) hb]
    by_cases he : numL (wrap64 (-x)) = l
    · simp only [if_pos he]; exact ev_some _
    · simp only [if_neg he]; exact ev_some _
theorem lk_ref07_Get_miss (l : List Int) (hb : Bytes l) (hl : l.length < 1000000000000) (h0 : l ≠ []) (hm : ∀ n, InI n → numL n ≠ l) (d : Nat) : ∀ (i : Nat) (x : Int), i ≤ l.length → l.length - i = d → -9223372036854775808 ≤ x → x < 9223372036854775808 →
    Ev (fun k => annuletref07_Get.l0 k (strOfNums l) x (i : Int)) (0, 3) := by
  induction d with
  | zero =>
    intro i x hi hd h1 h2
    refine ev_eq (lk_ref07_Get_end l hb h0 x h1 h2 i (by omega)) ?_
    have hw := w64_range (-x)
    rw [if_neg (hm x ⟨h1, h2⟩), if_neg (hm _ hw), ite_self]
  | succ d ih =>
    intro i x hi hd h1 h2
    have hstep : ∀ c : Bool, Ev (fun k => annuletref07_Get.j1 k (strOfNums l) x (i : Int) c) (0, 3) := by
      intro c
      refine ev_succ ?_
      simp only [annuletref07_Get.j1, strOfNums_size, bt_str hb]
      rw [w64 (n := (i : Int) + 1) (by omega) (by omega)]
      cases c with
      | true =>
        simp only [if_true]
        exact ih (i + 1) x (by omega) (by omega) h1 h2
      | false =>
        simp only [Bool.false_eq_true, if_false, if_pos (show (i : Int) < (l.length : Int) by omega), if_pos (show (0 : Int) ≤ (i : Int) by omega)]
        by_cases c1 : rd l (i : Int) < 48
        · simp only [if_pos c1]; exact ev_some _
        simp only [if_neg c1]
        by_cases c2 : rd l (i : Int) > 57
        · simp only [if_pos c2]; exact ev_some _
        simp only [if_neg c2]
        by_cases c3 : (i : Int) > 20
        · simp only [if_pos c3]; exact ev_some _
        simp only [if_neg c3]
        have hw := w64_range (wrap64 (x * 10) - (rd l (i : Int) - 48) % 256)
        exact ih (i + 1) _ (by omega) (by omega) hw.1 hw.2
    refine ev_succ ?_
    simp only [annuletref07_Get.l0, strOfNums_size, bt_str hb]
    simp only [if_pos (show (i : Int) < (l.length : Int) by omega), if_pos (show (0 : Int) ≤ (i : Int) by omega)]
    by_cases c1 : rd l (i : Int) = 45
    · simp only [if_pos c1]
      by_cases c2 : (i : Int) = 0
      · simp only [if_pos c2]; exact hstep _
      · simp only [if_neg c2]; exact hstep _
    · simp only [if_neg c1]; exact hstep _
/-- digits that stand behind s cells -/
theorem lk_ref07_Get_digits (l g : List Int) (s : Nat) (hs : s ≤ 1) (hb : Bytes l) (hl : l.drop s = g) (hls : s ≤ l.length) (hg : Digits g) (hlen : g.length ≤ 19) (hv : decL g ≤ 9223372036854775808) (h0 : l ≠ []) (d : Nat) : ∀ (i : Nat), s + i ≤ l.length → g.length - i = d → decL (g.take i) ≤ 9223372036854775808 →
    Ev (fun k => annuletref07_Get.l0 k (strOfNums l) (-decL (g.take i)) ((s + i : Nat) : Int)) (if rd l 0 = 45 then (if numL (-decL g) = l then (-decL g, 0) else (0, 3)) else (if numL (wrap64 (decL g)) = l then (wrap64 (decL g), 0) else (0, 3))) := by
  have hgl : g.length = l.length - s := by rw [← hl, List.length_drop]
  have hgr := decL_range g hg
  induction d with
  | zero =>
    intro i hi hd hle
    have hi' : i = g.length := by omega
    rw [hi', List.take_of_length_le (Nat.le_refl _)]
    have := lk_ref07_Get_end l hb h0 (-decL g) (by omega) (by omega) (s + g.length) (by omega)
    rwa [Int.neg_neg] at this
  | succ d ih =>
    intro i hi hd hle
    have hrd : rd l ((s + i : Nat) : Int) = rd g (i : Int) := by
      rw [rd_nat, rd_nat, ← hl, getD_drop]
    have hmem : rd g (i : Int) ∈ g := by
      rw [rd_nat]
      have : i < g.length := by omega
      simp [List.getD, this]
    have hc := hg _ hmem
    have htd : Digits (g.take i) := fun x hx => hg x (List.mem_of_mem_take hx)
    have htr := decL_range _ htd
    have e : decL (g.take (i + 1)) = decL (g.take i) * 10 + (rd g (i : Int) - 48) := by rw [take_succ_rd g i (by omega), decL_snoc]
    have hnext : decL (g.take (i + 1)) ≤ decL g := by
      have mono : ∀ m : Nat, ∀ g' : List Int, g'.length = m → Digits (g.take (i + 1) ++ g') → decL (g.take (i + 1)) ≤ decL (g.take (i + 1) ++ g') := by
        intro m g'
        induction g' using list_snoc_ind generalizing m with
        | h0 => intro _ _; simp
        | h1 g' c ih =>
          intro hm hdg
          rw [← List.append_assoc] at hdg ⊢
          have h2 := digits_snoc.1 hdg
          have h3 := decL_range _ h2.1
          have h4 := ih g'.length rfl h2.1
          rw [decL_snoc]
          omega
      have := mono _ (g.drop (i + 1)) rfl (by rw [List.take_append_drop]; exact hg)
      rwa [List.take_append_drop] at this
    have ihn := ih (i + 1) (by omega) (by omega) (by omega)
    refine ev_succ ?_
    simp only [annuletref07_Get.l0, strOfNums_size, bt_str hb]
    rw [hrd]
    simp only [if_pos (show ((s + i : Nat) : Int) < (l.length : Int) by omega), if_pos (show (0 : Int) ≤ ((s + i : Nat) : Int) by omega), if_neg (show ¬ rd g (i : Int) = 45 by omega)]
    refine ev_succ ?_
    simp only [annuletref07_Get.j1, strOfNums_size, bt_str hb]
    rw [hrd]
    simp only [Bool.false_eq_true, if_false, if_pos (show ((s + i : Nat) : Int) < (l.length : Int) by omega), if_pos (show (0 : Int) ≤ ((s + i : Nat) : Int) by omega), if_neg (show ¬ rd g (i : Int) < 48 by omega), if_neg (show ¬ rd g (i : Int) > 57 by omega), if_neg (show ¬ ((s + i : Nat) : Int) > 20 by omega)]
    rw [show (rd g (i : Int) - 48) % 256 = rd g (i : Int) - 48 by omega, w64 (n := -decL (g.take i) * 10) (by omega) (by omega), w64 (by omega) (by omega), w64 (by omega) (by omega)]
    rw [show -decL (g.take i) * 10 - (rd g (i : Int) - 48) = -decL (g.take (i + 1)) by omega, show ((s + i : Nat) : Int) + 1 = ((s + (i + 1) : Nat) : Int) by omega]
    exact ihn
theorem lk_ref07_Get (l : List Int) (hb : Bytes l) (hl : l.length < 1000000000000) : ∃ r, IsGet l r ∧ Ev (fun k => annuletref07_Get.f k (strOfNums l)) r := by
  unfold annuletref07_Get.f
  by_cases h0 : l = []
  · refine ⟨(0, 2), Or.inl ⟨h0, rfl⟩, ?_⟩
    simp only [str_nil, if_pos h0]
    exact ev_some _
  simp only [str_nil, if_neg h0]
  by_cases hex : ∃ n, InI n ∧ numL n = l
  · obtain ⟨n, hn, hnl⟩ := hex
    refine ⟨(n, 0), Or.inr (Or.inl ⟨n, hn, hnl, rfl⟩), ?_⟩
    unfold InI at hn
    by_cases hneg : n < 0
    · have hl45 := (numL_neg n).2 hneg
      rw [hnl] at hl45
      have hsh : l = 45 :: digL (-n).toNat := by rw [← hnl]; unfold numL; rw [if_pos hneg]
      have hpos := digL_pos (-n).toNat
      have := lk_ref07_Get_digits l (digL (-n).toNat) 1 (by omega) hb (by rw [hsh]; rfl) (by rw [hsh]; simp) (digL_digits _) (digL_len 18 _ (by omega)) (by rw [decL_digL]; omega) h0 _ 0 (by rw [hsh]; simp) rfl (by simp [decL])
      rw [decL_digL, if_pos hl45, show -(((-n).toNat : Nat) : Int) = n by omega, if_pos hnl] at this
      refine ev_succ ?_
      simp only [annuletref07_Get.l0, strOfNums_size, bt_str hb, hl45]
      have hlen : 1 < l.length := by rw [hsh]; simp; omega
      simp only [if_pos (show (0 : Int) < (l.length : Int) by omega), if_pos (show (0 : Int) ≤ 0 by omega), if_true, decide_eq_true (show (l.length : Int) > 1 by omega)]
      refine ev_succ ?_
      simp only [annuletref07_Get.j1, if_true]
      rw [w64 (by omega) (by omega)]
      exact this
    · have hsh : l = digL n.toNat := by rw [← hnl]; unfold numL; rw [if_neg hneg]
      have hl45 : ¬ rd l 0 = 45 := by
        rw [← hnl, numL_neg]
        exact hneg
      have := lk_ref07_Get_digits l l 0 (by omega) hb rfl (by omega) (by rw [hsh]; exact digL_digits _) (by rw [hsh]; exact digL_len 18 _ (by omega)) (by rw [hsh, decL_digL]; omega) h0 _ 0 (by omega) rfl (by simp [decL])
      rw [if_neg hl45] at this
      have hd : decL l = n := by rw [hsh, decL_digL]; omega
      rw [hd, w64 (by omega) (by omega), if_pos hnl] at this
      exact this
  · have hm : ∀ n, InI n → numL n ≠ l := fun n hn he => hex ⟨n, hn, he⟩
    exact ⟨(0, 3), Or.inr (Or.inr ⟨h0, hm, rfl⟩), lk_ref07_Get_miss l hb hl h0 hm _ 0 0 (by omega) rfl (by omega) (by omega)⟩
def hx2 (x y : Int) : Int := if hx x < 0 ∨ hx y < 0 then -1 else 16 * hx x + hx y
theorem twoL_hx2 {x y c : Int} (hc : Byte c) : twoL c = [x, y] ↔ hx2 x y = c := by
  unfold Byte at hc
  have h1 := hx_range x
  have h2 := hx_range y
  unfold twoL hx2
  constructor
  · intro h
    have e1 : place (c / 16) = x := (List.cons.inj h).1
    have e2 : place (c % 16) = y := (List.cons.inj (List.cons.inj h).2).1
    rw [← e1, ← e2, hx_place (by omega) (by omega), hx_place (by omega) (by omega), if_neg (by omega)]
    omega
  · intro h
    split at h
    · omega
    · rename_i hn
      have e1 : c / 16 = hx x := by omega
      have e2 : c % 16 = hx y := by omega
      rw [e1, e2, place_hx (by omega), place_hx (by omega)]
theorem lk_ref07_byteOf0 (x y : Int) (hb : Bytes [x, y]) (d : Nat) : ∀ i : Nat, i ≤ 256 → 256 - i = d → (hx2 x y < 0 ∨ (i : Int) ≤ hx2 x y) → Ev (fun k => annuletref07_byteOf.l0 k (strOfNums [x, y]) (i : Int)) (hx2 x y) := by
  have hr : -1 ≤ hx2 x y ∧ hx2 x y < 256 := by
    have h1 := hx_range x
    have h2 := hx_range y
    unfold hx2
    split <;> omega
  induction d with
  | zero =>
    intro i hi hd h
    refine ev_succ ?_
    simp only [annuletref07_byteOf.l0]
    simp only [if_neg (show ¬ (i : Int) < 256 by omega)]
    rw [show hx2 x y = -1 by omega]
    exact ev_some _
  | succ d ih =>
    intro i hi hd h
    refine ev_succ ?_
    simp only [annuletref07_byteOf.l0]
    simp only [if_pos (show (i : Int) < 256 by omega)]
    rw [show (i : Int) % 256 = i by omega, lk_ref07_two _ ⟨by omega, by omega⟩, w64 (by omega) (by omega)]
    simp only [Option.bind_some, str_eq (twoL_bytes (show Byte (i : Int) from ⟨by omega, by omega⟩)) hb, twoL_hx2 (show Byte (i : Int) from ⟨by omega, by omega⟩)]
    by_cases he : hx2 x y = (i : Int)
    · simp only [if_pos he]; rw [he]; exact ev_some _
    · simp only [if_neg he]
      exact ih (i + 1) (by omega) (by omega) (by omega)
theorem lk_ref07_byteOf (x y : Int) (hb : Bytes [x, y]) : Ev (fun k => annuletref07_byteOf.f k (strOfNums [x, y])) (hx2 x y) := by
  unfold annuletref07_byteOf.f
  exact lk_ref07_byteOf0 x y hb _ 0 (by omega) rfl (by omega)
theorem lk_ref07_Unbytes0 (l : List Int) (hb : Bytes l) (hl : l.length < 1000000000000) (d : Nat) : ∀ (i : Nat) (a : List Int), i ≤ l.length → l.length - i ≤ d → a.length ≤ i → (l = [] → a = []) → (0 < i → a ≠ []) →
    Ev (fun k => annuletref07_Unbytes.l0 k (strOfNums l) a (i : Int)) (if l = [] then ([], 3) else match pairsL (l.drop i) with | none => ([], 3) | some b => (a ++ b, 0)) := by
  induction d with
  | zero =>
    intro i a hi hd ha h1 h2
    refine ev_succ ?_
    simp only [annuletref07_Unbytes.l0, strOfNums_size]
    simp only [if_neg (show ¬ (i : Int) < (l.length : Int) by omega)]
    rw [List.drop_eq_nil_of_le (by omega)]
    by_cases h0 : l = []
    · rw [h1 h0]
      simp only [if_pos h0, List.length_nil, if_pos (show ((0 : Nat) : Int) = 0 by omega)]
      exact ev_some _
    · have : 0 < l.length := List.length_pos_iff.2 h0
      have ha0 : 0 < a.length := List.length_pos_iff.2 (h2 (by omega))
      simp only [if_neg h0, if_neg (show ¬ (a.length : Int) = 0 by omega), pairsL, List.append_nil]
      exact ev_some _
  | succ d ih =>
    intro i a hi hd ha h1 h2
    by_cases hlt : ¬ i < l.length
    · exact ih i a hi (by omega) ha h1 h2
    have hlt : i < l.length := by omega
    have h0 : ¬ l = [] := by intro h; rw [h] at hlt; simp at hlt
    rw [if_neg h0]
    refine ev_succ ?_
    simp only [annuletref07_Unbytes.l0, strOfNums_size]
    rw [w64 (n := (i : Int) + 1) (by omega) (by omega), w64 (n := (i : Int) + 2) (by omega) (by omega)]
    simp only [if_pos (show (i : Int) < (l.length : Int) by omega)]
    by_cases h2l : i + 1 < l.length
    · simp only [if_pos (show (i : Int) + 1 < (l.length : Int) by omega), if_pos (show (0 : Int) ≤ (i : Int) by omega), if_pos (show (i : Int) ≤ (i : Int) + 2 by omega), if_pos (show (i : Int) + 2 ≤ (l.length : Int) by omega)]
      rw [str_extract, show ((i : Int) + 2).toNat = i + 2 by omega, Int.toNat_natCast]
      have e : (l.take (i + 2)).drop i = [rd l (i : Int), rd l ((i + 1 : Nat) : Int)] := by
        rw [take_succ_rd l (i + 1) h2l, take_succ_rd l i (by omega), List.append_assoc, List.drop_append_of_le_length (by simp; omega)]
        rw [List.drop_eq_nil_of_le (by simp; omega)]
        rfl
      rw [e]
      have hbx : Bytes [rd l (i : Int), rd l ((i + 1 : Nat) : Int)] := bytes_cons (rd_byte hb _) (bytes_cons (rd_byte hb _) bytes_nil)
      refine ev_bind (lk_ref07_byteOf _ _ hbx) ?_
      rw [pairsL_step l i h2l]
      have hx1 := hx_range (rd l (i : Int))
      have hx2' := hx_range (rd l ((i + 1 : Nat) : Int))
      unfold hx2
      by_cases hn : hx (rd l (i : Int)) < 0 ∨ hx (rd l ((i + 1 : Nat) : Int)) < 0
      · simp only [if_pos hn, if_pos (show (-1 : Int) < 0 by omega)]
        exact ev_some _
      · simp only [if_neg hn, if_neg (show ¬ 16 * hx (rd l (i : Int)) + hx (rd l ((i + 1 : Nat) : Int)) < 0 by omega), if_pos (show a.length < 140737488355328 by omega)]
        rw [show (16 * hx (rd l (i : Int)) + hx (rd l ((i + 1 : Nat) : Int))) % 256 = 16 * hx (rd l (i : Int)) + hx (rd l ((i + 1 : Nat) : Int)) by omega, show (i : Int) + 2 = ((i + 2 : Nat) : Int) by omega]
        have := ih (i + 2) (a ++ [16 * hx (rd l (i : Int)) + hx (rd l ((i + 1 : Nat) : Int))]) (by omega) (by omega) (by simp; omega) (fun h => absurd h h0) (by simp)
        rw [if_neg h0] at this
        refine ev_eq this ?_
        cases pairsL (l.drop (i + 2)) with
        | none => rfl
        | some b => simp
    · simp only [if_neg (show ¬ (i : Int) + 1 < (l.length : Int) by omega)]
      have e : l.drop i = [rd l (i : Int)] := by
        rw [drop_rd l i hlt, List.drop_eq_nil_of_le (by omega)]
      rw [e, pairsL]
      exact ev_some _
theorem lk_ref07_Unbytes (l : List Int) (hb : Bytes l) (hl : l.length < 1000000000000) : Ev (fun k => annuletref07_Unbytes.f k (strOfNums l)) (unbL l) := by
  unfold annuletref07_Unbytes.f
  rw [show ([45] : List UInt8) = (strOfNums [45]).toList from (str_toList [45]).symm]
  simp only [str_eq hb (bytes_cons (show Byte 45 from ⟨by omega, by omega⟩) bytes_nil)]
  unfold unbL
  by_cases h1 : l = [45]
  · simp only [if_pos h1]; exact ev_some _
  simp only [if_neg h1]
  have := lk_ref07_Unbytes0 l hb hl _ 0 [] (by omega) (Nat.le_refl _) (by simp) (fun _ => rfl) (by omega)
  simp only [List.drop_zero, List.nil_append] at this
  exact this
theorem lk_ref07_Unhex0 (b : List Int) (hb : Bytes b) (h8 : b.length = 8) (d : Nat) : ∀ i : Nat, i ≤ 8 → 8 - i = d → Ev (fun k => annuletref07_Unhex.l0 k b (valB (b.take i)) (i : Int)) (valB b, 0) := by
  induction d with
  | zero =>
    intro i hi hd
    rw [List.take_of_length_le (by omega)]
    refine ev_succ ?_
    simp only [annuletref07_Unhex.l0]
    simp only [if_neg (show ¬ (i : Int) < 8 by omega)]
    exact ev_some _
  | succ d ih =>
    intro i hi hd
    have hr := rd_byte hb (i : Int)
    unfold Byte at hr
    have hv := valB_range (b.take i) (bytes_take hb i)
    rw [List.length_take, Nat.min_eq_left (by omega)] at hv
    have hp : (256 : Int) ^ i ≤ 72057594037927936 := by
      have h1 : (256 : Nat) ^ i ≤ 256 ^ 7 := Nat.pow_le_pow_right (by omega) (by omega)
      have h2 : (256 : Nat) ^ i ≤ 72057594037927936 := Nat.le_trans h1 (by decide)
      have h3 : (((256 : Nat) ^ i : Nat) : Int) ≤ ((72057594037927936 : Nat) : Int) := Int.ofNat_le.2 h2
      rw [Int.natCast_pow] at h3
      exact h3
    refine ev_succ ?_
    simp only [annuletref07_Unhex.l0]
    rw [wu64_id (n := valB (b.take i) * 256) (by omega) (by omega), wu64_id (n := rd b (i : Int)) (by omega) (by omega), wu64_id (by omega) (by omega), w64 (by omega) (by omega)]
    simp only [if_pos (show (i : Int) < 8 by omega), if_pos (show (0 : Int) ≤ (i : Int) by omega), if_pos (show (i : Int) < (b.length : Int) by omega)]
    have := ih (i + 1) (by omega) (by omega)
    rw [take_succ_rd b i (by omega), valB_snoc] at this
    exact this
theorem lk_ref07_Unhex (l : List Int) (hb : Bytes l) (hl : l.length < 1000000000000) : Ev (fun k => annuletref07_Unhex.f k (strOfNums l)) (unhL l) := by
  unfold annuletref07_Unhex.f
  refine ev_bind (lk_ref07_Unbytes l hb hl) ?_
  unfold unhL
  by_cases h0 : (unbL l).2 = 0
  · simp only [if_pos h0]
    refine ev_succ ?_
    simp only [annuletref07_Unhex.j0]
    by_cases h8 : (unbL l).1.length = 8
    · rw [show (((unbL l).1.length : Int) != 8) = false by rw [bne_eq_false_iff_eq]; omega, if_pos ⟨h0, h8⟩]
      simp only [Bool.false_eq_true, if_false]
      exact lk_ref07_Unhex0 _ (unbL_bytes l) h8 _ 0 (by omega) rfl
    · rw [show (((unbL l).1.length : Int) != 8) = true by rw [bne_iff_ne]; omega, if_neg (fun h => h8 h.2)]
      simp only [if_true]
      exact ev_some _
  · simp only [if_neg h0]
    rw [if_neg (fun h => h0 h.1)]
    refine ev_succ ?_
    simp only [annuletref07_Unhex.j0, if_true]
    exact ev_some _
theorem NumGets_law : annuletlaw07_NumGets.Pure := by
  intro a0 hm
  obtain ⟨l, hb, rfl⟩ := str_of a0
  refine Ev.rounds (g := fun k => annuletlaw07_NumGets.f k (strOfNums l)) ?_
  unfold annuletlaw07_NumGets.f
  simp only [strOfNums_size] at hm ⊢
  by_cases h0 : (l.length : Int) > 60
  · simp only [if_pos h0]
    exact ev_bind lk_awake07 (ev_some _)
  simp only [if_neg h0]
  obtain ⟨r, hr, er⟩ := lk_num_Get_bits l hb
  obtain ⟨s, hs, es⟩ := lk_ref07_Get l hb (by omega)
  have := isGet_uniq hr hs
  subst this
  refine ev_bind er (ev_bind es ?_)
  refine ev_bind (lk_num_Unhex l hb (by omega)) (ev_bind (lk_ref07_Unhex l hb (by omega)) ?_)
  refine ev_bind (lk_num_Unbytes l hb (by omega)) (ev_bind (lk_ref07_Unbytes l hb (by omega)) ?_)
  simp only [if_true]
  exact ev_bind lk_awake07 (ev_some _)
end Go.Proofs.Ytlhmmegiklnppaa.PNumGets
namespace Go.Proofs.Ytlhmmegiklnppaa.Pure
open Go.Proofs.Ytlhmmegiklnppaa.PNumGets
theorem NumGets : annuletlaw07_NumGets.Pure := NumGets_law
end Go.Proofs.Ytlhmmegiklnppaa.Pure
