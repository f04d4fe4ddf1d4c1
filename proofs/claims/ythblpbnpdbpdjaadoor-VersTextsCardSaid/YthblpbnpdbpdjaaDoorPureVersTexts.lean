/- VersTexts: the text of any set, which is read back, and the set that any text is, or that it is none, are the document's. No condition. -/
import Derived.Test.YthblpbnpdbpdjaaDoorPVersTextsx4
import Derived.Test.YthblpbnpdbpdjaaDoorMath
set_option linter.unusedVariables false
set_option linter.unusedSimpArgs false
namespace Go.Proofs.YthblpbnpdbpdjaaDoor.PVersTexts
open Go.RowKit Go.Proofs.YthblpbnpdbpdjaaDoorW.PrintWords Go.Proofs.YthblpbnpdbpdjaaDoorW.PrintLast Go.Proofs.YthblpbnpdbpdjaaDoorW.PrintMore Annulet

/-! ### package num: the printed functions and the lists -/
theorem lk_num_digits (n : Int) (h0 : 0 ≤ n) (h1 : n < 18446744073709551616) : num_digits.f n = some (strOfNums (digL n.toNat)) := by
  unfold num_digits.f
  rw [if_pos h0, if_pos h1]
theorem lk_num_Put (n : Int) (h : -9223372036854775808 ≤ n) (h' : n < 9223372036854775808) : num_Put.f n = some (strOfNums (numL n)) := by
  unfold num_Put.f numL
  by_cases h0 : n < 0
  · rw [if_pos h0, if_pos h0, w64 (n := n + 1) (by omega) (by omega), w64 (n := -(n + 1)) (by omega) (by omega), wu64_id (n := -(n + 1)) (by omega) (by omega), wu64_id (n := -(n + 1) + 1) (by omega) (by omega), lk_num_digits _ (by omega) (by omega)]
    have e : (-(n + 1) + 1).toNat = (-n).toNat := by omega
    have hl := digL_len20 (n := (-n).toNat) (by omega)
    simp only [Option.bind_some, e, strOfNums_size]
    rw [if_pos (by omega)]
    rw [show (⟨#[45]⟩ : ByteArray) = strOfNums [45] from rfl, strOfNums_append]
    rfl
  · rw [if_neg h0, if_neg h0, wu64_id (by omega) (by omega), lk_num_digits _ (by omega) (by omega)]
    rfl

/-! ### package num: what texts are -/
theorem rd0_cases (l : List Int) : (∃ r, l = 45 :: r) ∨ (¬ ∃ r, l = 45 :: r) := Classical.em _
theorem lk_CutMinus_hit (r : List Int) : strings_CutPrefix.f (strOfNums (45 :: r)) (⟨#[45]⟩ : ByteArray) = some (strOfNums r, true) := by
  have hp : stringslite_HasPrefix.f (strOfNums (45 :: r)) (⟨#[45]⟩ : ByteArray) = some true := by
    unfold stringslite_HasPrefix.f
    rw [show (⟨#[45]⟩ : ByteArray) = strOfNums [45] from rfl]
    simp only [strOfNums_size, List.length_cons, List.length_nil]
    rw [if_pos (by omega), if_pos (by omega), if_pos (by omega), str_extract]
    simp
  unfold strings_CutPrefix.f stringslite_CutPrefix.f
  rw [hp]
  rw [show (⟨#[45]⟩ : ByteArray) = strOfNums [45] from rfl]
  simp only [Option.bind_some, if_true, strOfNums_size, List.length_cons, List.length_nil]
  rw [if_pos (by omega), if_pos (by omega), str_extract]
  simp
theorem lk_CutMinus_miss (l : List Int) (hb : Bytes l) (h : ¬ ∃ r, l = 45 :: r) : strings_CutPrefix.f (strOfNums l) (⟨#[45]⟩ : ByteArray) = some (strOfNums l, false) := by
  have hp : stringslite_HasPrefix.f (strOfNums l) (⟨#[45]⟩ : ByteArray) = some false := by
    unfold stringslite_HasPrefix.f
    rw [show (⟨#[45]⟩ : ByteArray) = strOfNums [45] from rfl]
    simp only [strOfNums_size, List.length_cons, List.length_nil]
    cases l with
    | nil => simp
    | cons x r =>
      have hx : x ≠ 45 := fun e => h ⟨r, by rw [e]⟩
      simp only [List.length_cons]
      rw [if_pos (by omega), if_pos (by omega), if_pos (by omega), str_extract]
      rw [str_beq (bytes_drop (bytes_take hb _) _) (bytes_cons ⟨by omega, by omega⟩ bytes_nil)]
      congr 1
      simp [hx]
  unfold strings_CutPrefix.f stringslite_CutPrefix.f
  rw [hp]
  simp
def okL (l : List Int) : Bool := if l = [] then false else if rd l 0 = 48 then decide (l = [48]) else true
theorem lk_num_magnitude0 (l : List Int) (hb : Bytes l) (d : Nat) : ∀ i : Nat, i ≤ l.length → i ≤ 19 → l.length - i = d → Digits (l.take i) →
    Ev (fun k => num_magnitude.l0 k (strOfNums l) (decL (l.take i)) (l.length : Int) (i : Int)) (if Digits l ∧ l.length ≤ 19 then (decL l, okL l) else (0, false)) := by
  induction d with
  | zero =>
    intro i hi h19 hd hdig
    rw [List.take_of_length_le (by omega)] at hdig ⊢
    rw [if_pos ⟨hdig, by omega⟩]
    refine ev_succ ?_
    simp only [num_magnitude.l0, strOfNums_size, bt_str hb, str_nil]
    rw [show ([48] : List UInt8) = (strOfNums [48]).toList from (str_toList [48]).symm, str_beq hb (bytes_cons ⟨by omega, by omega⟩ bytes_nil)]
    simp only [if_neg (show ¬ (i : Int) < (l.length : Int) by omega)]
    unfold okL
    by_cases h0 : l = []
    · simp only [if_pos h0]; exact ev_some _
    · have : 0 < l.length := List.length_pos_iff.2 h0
      simp only [if_neg h0, if_pos (show (0 : Int) < (l.length : Int) by omega)]
      by_cases h48 : rd l 0 = 48
      · simp only [if_pos h48]; exact ev_some _
      · simp only [if_neg h48]; exact ev_some _
  | succ d ih =>
    intro i hi h19 hd hdig
    have hr := rd_byte hb (i : Int)
    unfold Byte at hr
    have hmem : rd l (i : Int) ∈ l := by
      rw [rd_nat]
      have : i < l.length := by omega
      simp [List.getD, this]
    refine ev_succ ?_
    simp only [num_magnitude.l0, strOfNums_size, bt_str hb]
    simp only [if_pos (show (i : Int) < (l.length : Int) by omega), if_pos (show (0 : Int) ≤ (i : Int) by omega)]
    by_cases h1 : rd l (i : Int) < 48
    · simp only [if_pos h1]
      rw [if_neg (by intro h; have := h.1 _ hmem; omega)]
      exact ev_some _
    simp only [if_neg h1]
    by_cases h2 : rd l (i : Int) > 57
    · simp only [if_pos h2]
      rw [if_neg (by intro h; have := h.1 _ hmem; omega)]
      exact ev_some _
    simp only [if_neg h2]
    by_cases h3 : (i : Int) ≥ 19
    · simp only [if_pos h3]
      rw [if_neg (by intro h; have := h.2; omega)]
      exact ev_some _
    simp only [if_neg h3]
    have hdr := decL_range _ hdig
    rw [List.length_take, Nat.min_eq_left (by omega)] at hdr
    have hp : (10 : Int) ^ i ≤ 10 ^ 18 := by
      have : (10 : Nat) ^ i ≤ 10 ^ 18 := Nat.pow_le_pow_right (by omega) (by omega)
      exact_mod_cast this
    rw [show (10 : Int) ^ 18 = 1000000000000000000 by decide] at hp
    have e : decL (l.take (i + 1)) = decL (l.take i) * 10 + (rd l (i : Int) - 48) := by rw [take_succ_rd l i (by omega), decL_snoc]
    have ed : Digits (l.take (i + 1)) := by rw [take_succ_rd l i (by omega)]; exact digits_snoc.2 ⟨hdig, by omega⟩
    rw [wu64_id (n := decL (l.take i) * 10) (by omega) (by omega), show (rd l (i : Int) - 48) % 256 = rd l (i : Int) - 48 by omega, wu64_id (by omega) (by omega), ← e, w64 (by omega) (by omega)]
    exact ih (i + 1) (by omega) (by omega) (by omega) ed
theorem lk_num_magnitude (l : List Int) (hb : Bytes l) : Ev (fun k => num_magnitude.f k (strOfNums l)) (if Digits l ∧ l.length ≤ 19 then (decL l, okL l) else (0, false)) := by
  unfold num_magnitude.f
  have := lk_num_magnitude0 l hb _ 0 (by omega) (by omega) rfl (fun _ h => by simp at h)
  simp only [strOfNums_size]
  exact this
theorem lk_num_Get_j0 (x5 : Bool) (x6 : Int) (x20 : Bool) (h : x20 = false → if x5 then 0 < x6 ∧ x6 ≤ 9223372036854775808 else 0 ≤ x6 ∧ x6 < 9223372036854775808) :
    Ev (fun k => num_Get.j0 k x5 x6 x20) (if x20 then (0, 3) else if x5 then (-x6, 0) else (x6, 0)) := by
  refine ev_succ ?_
  simp only [num_Get.j0]
  cases x20 with
  | true => simp only [if_true]; exact ev_some _
  | false =>
    have h := h rfl
    simp only [Bool.false_eq_true, if_false]
    cases x5 with
    | true =>
      simp only [if_true] at h ⊢
      rw [wu64_id (n := x6 - 1) (by omega) (by omega), w64 (n := x6 - 1) (by omega) (by omega), w64 (n := -(x6 - 1)) (by omega) (by omega), w64 (by omega) (by omega), show -(x6 - 1) - 1 = -x6 by omega]
      exact ev_some _
    | false =>
      simp only [Bool.false_eq_true, if_false] at h ⊢
      rw [w64 (by omega) (by omega)]
      exact ev_some _
theorem digL_len19 {n : Nat} (h : n ≤ 9223372036854775808) : (digL n).length ≤ 19 := digL_len 18 n (by omega)
theorem okL_digL (n : Nat) : okL (digL n) = true := by
  unfold okL
  have := digL_pos n
  rw [if_neg (by intro h; rw [h] at this; simp at this)]
  split
  · rename_i h; exact decide_eq_true (digL_zero n h)
  · rfl
theorem okL_back {l : List Int} (h : okL l = true) : l ≠ [] ∧ (rd l 0 = 48 → l = [48]) := by
  unfold okL at h
  split at h
  · simp at h
  · rename_i h0
    refine ⟨h0, fun h48 => ?_⟩
    rw [if_pos h48] at h
    exact of_decide_eq_true h
theorem lk_num_Get_bits (l : List Int) (hb : Bytes l) : ∃ r, IsGet l r ∧ Ev (fun k => num_Get.f k (strOfNums l)) r := by
  by_cases h0 : l = []
  · refine ⟨(0, 2), Or.inl ⟨h0, rfl⟩, ?_⟩
    unfold num_Get.f
    simp only [str_nil, if_pos h0]
    exact ev_some _
  unfold num_Get.f
  simp only [str_nil, if_neg h0]
  rcases rd0_cases l with ⟨r, rfl⟩ | hm
  · rw [lk_CutMinus_hit]
    simp only [Option.bind_some]
    have hbr : Bytes r := fun x hx => hb x (by simp [hx])
    have hmag := lk_num_magnitude r hbr
    by_cases hd : Digits r ∧ r.length ≤ 19
    · rw [if_pos hd] at hmag
      by_cases hok : okL r = true
      · have hbk := okL_back hok
        have e := digL_decL r hd.1 hbk.1 hbk.2
        have hr := decL_range r hd.1
        by_cases hz : decL r = 0
        · refine ⟨(0, 3), Or.inr (Or.inr ⟨by simp, ?_, rfl⟩), ?_⟩
          · intro n hn hl
            have hneg := (numL_neg n).1 (by rw [hl]; rfl)
            unfold numL at hl
            rw [if_pos hneg] at hl
            have := congrArg decL (List.cons.inj hl).2
            rw [decL_digL, hz] at this
            omega
          · refine ev_bind hmag ?_
            simp only [hok, if_true, if_pos hz]
            exact lk_num_Get_j0 _ _ _ (by simp)
        · by_cases hg : decL r > 9223372036854775808
          · refine ⟨(0, 3), Or.inr (Or.inr ⟨by simp, ?_, rfl⟩), ?_⟩
            · intro n hn hl
              unfold InI at hn
              have hneg := (numL_neg n).1 (by rw [hl]; rfl)
              unfold numL at hl
              rw [if_pos hneg] at hl
              have := congrArg decL (List.cons.inj hl).2
              rw [decL_digL] at this
              omega
            · refine ev_bind hmag ?_
              simp only [hok, if_true, if_neg hz, if_pos hg, decide_eq_true hg]
              exact lk_num_Get_j0 _ _ _ (by simp)
          · refine ⟨(-decL r, 0), Or.inr (Or.inl ⟨-decL r, ⟨by omega, by omega⟩, ?_, rfl⟩), ?_⟩
            · unfold numL
              rw [if_pos (by omega), Int.neg_neg, e]
            · refine ev_bind hmag ?_
              simp only [hok, if_true, if_neg hz, if_neg hg]
              exact lk_num_Get_j0 true (decL r) false (fun _ => by simp only [if_true]; omega)
      · have hok : okL r = false := by simpa using hok
        refine ⟨(0, 3), Or.inr (Or.inr ⟨by simp, ?_, rfl⟩), ?_⟩
        · intro n hn hl
          have hneg := (numL_neg n).1 (by rw [hl]; rfl)
          unfold numL at hl
          rw [if_pos hneg] at hl
          rw [← (List.cons.inj hl).2, okL_digL] at hok
          simp at hok
        · refine ev_bind hmag ?_
          simp only [hok, Bool.false_eq_true, if_false, Bool.not_false]
          exact lk_num_Get_j0 _ _ _ (by simp)
    · rw [if_neg hd] at hmag
      refine ⟨(0, 3), Or.inr (Or.inr ⟨by simp, ?_, rfl⟩), ?_⟩
      · intro n hn hl
        unfold InI at hn
        have hneg := (numL_neg n).1 (by rw [hl]; rfl)
        unfold numL at hl
        rw [if_pos hneg] at hl
        apply hd
        rw [← (List.cons.inj hl).2]
        exact ⟨digL_digits _, digL_len19 (by omega)⟩
      · refine ev_bind hmag ?_
        simp only [Bool.false_eq_true, if_false, Bool.not_false]
        exact lk_num_Get_j0 _ _ _ (by simp)
  · rw [lk_CutMinus_miss l hb hm]
    simp only [Option.bind_some]
    have hmag := lk_num_magnitude l hb
    have hnn : ∀ n, numL n = l → ¬ n < 0 := by
      intro n hl hn
      unfold numL at hl
      rw [if_pos hn] at hl
      exact hm ⟨_, hl.symm⟩
    by_cases hd : Digits l ∧ l.length ≤ 19
    · rw [if_pos hd] at hmag
      by_cases hok : okL l = true
      · have hbk := okL_back hok
        have e := digL_decL l hd.1 hbk.1 hbk.2
        have hr := decL_range l hd.1
        by_cases hg : decL l ≥ 9223372036854775808
        · refine ⟨(0, 3), Or.inr (Or.inr ⟨h0, ?_, rfl⟩), ?_⟩
          · intro n hn hl
            unfold InI at hn
            have hneg := hnn n hl
            unfold numL at hl
            rw [if_neg hneg] at hl
            have := congrArg decL hl
            rw [decL_digL] at this
            omega
          · refine ev_bind hmag ?_
            simp only [hok, if_true, Bool.false_eq_true, if_false, decide_eq_true hg]
            exact lk_num_Get_j0 _ _ _ (by simp)
        · refine ⟨(decL l, 0), Or.inr (Or.inl ⟨decL l, ⟨by omega, by omega⟩, ?_, rfl⟩), ?_⟩
          · unfold numL
            rw [if_neg (by omega), e]
          · refine ev_bind hmag ?_
            simp only [hok, if_true, Bool.false_eq_true, if_false, decide_eq_false hg]
            exact lk_num_Get_j0 false (decL l) false (fun _ => by simp only [Bool.false_eq_true, if_false]; omega)
      · have hok : okL l = false := by simpa using hok
        refine ⟨(0, 3), Or.inr (Or.inr ⟨h0, ?_, rfl⟩), ?_⟩
        · intro n hn hl
          have hneg := hnn n hl
          unfold numL at hl
          rw [if_neg hneg] at hl
          rw [← hl, okL_digL] at hok
          simp at hok
        · refine ev_bind hmag ?_
          simp only [hok, Bool.false_eq_true, if_false, Bool.not_false]
          exact lk_num_Get_j0 _ _ _ (by simp)
    · rw [if_neg hd] at hmag
      refine ⟨(0, 3), Or.inr (Or.inr ⟨h0, ?_, rfl⟩), ?_⟩
      · intro n hn hl
        unfold InI at hn
        have hneg := hnn n hl
        unfold numL at hl
        rw [if_neg hneg] at hl
        apply hd
        rw [← hl]
        exact ⟨digL_digits _, digL_len19 (by omega)⟩
      · refine ev_bind hmag ?_
        simp only [Bool.false_eq_true, if_false, Bool.not_false]
        exact lk_num_Get_j0 _ _ _ (by simp)

theorem lk_vers_Best (a b : Int) (ha : 0 ≤ a ∧ a < 65536) (hb : 0 ≤ b ∧ b < 65536) : vers_Best.f a b = some ((bestN a.toNat b.toNat : Nat) : Int) := by
  unfold vers_Best.f bits_Len16.f
  have e := u16_and_nat a.toNat b.toNat (by omega) (by omega)
  rw [show ((a.toNat : Nat) : Int) = a by omega, show ((b.toNat : Nat) : Int) = b by omega] at e
  have hle : a.toNat &&& b.toNat ≤ a.toNat := Nat.and_le_left
  rw [e, if_pos (by omega), if_pos (by omega), Int.toNat_natCast]
  rfl

/-! ### package vers: the printed functions, and the lists -/
theorem lk_vers_List0 (x : Nat) (hx : x < 65536) (d : Nat) : ∀ i : Nat, i + d = 16 → Ev (fun k => vers_List.l0 k (x : Int) (bitsU x i) (i : Int)) (bitsU x 16) := by
  induction d with
  | zero =>
    intro i hi
    obtain rfl : i = 16 := by omega
    refine ev_const fun k => ?_
    rw [vers_List.l0, if_neg (by omega)]
  | succ d ih =>
    intro i hi
    have hl := bitsU_len x i
    refine ev_succ ?_
    simp only [vers_List.l0]
    rw [bit_u16 x i hx (by omega), w64 (by omega) (by omega)]
    simp only [if_pos (show (i : Int) < 16 by omega), if_pos (show (0 : Int) ≤ (i : Int) by omega), if_pos (show (bitsU x i).length < 17592186044416 by omega)]
    have := ih (i + 1) (by omega)
    rw [bitsU] at this
    by_cases hb : x.testBit i = true
    · simp only [if_pos hb, if_true] at this ⊢
      exact this
    · simp only [if_neg hb, List.append_nil] at this ⊢
      simp only [if_neg (show ¬ (0 : Int) = 1 by omega)]
      exact this
theorem lk_vers_List (x : Int) (h0 : 0 ≤ x) (h1 : x < 65536) : Ev (fun k => vers_List.f k x) (bitsU x.toNat 16) := by
  unfold vers_List.f
  have := lk_vers_List0 x.toNat (by omega) 16 0 rfl
  rw [show ((x.toNat : Nat) : Int) = x by omega] at this
  exact this
theorem lk_vers_version (v : Int) : vers_version.f v = some (decide (1 ≤ v ∧ v ≤ 16)) := by
  unfold vers_version.f
  by_cases h : v ≥ 1
  · rw [if_pos h]
    congr 1
    apply decide_eq_decide.2
    omega
  · rw [if_neg h]
    congr 1
    symm
    apply decide_eq_false
    omega
theorem lk_vers_Set0 (l : List Int) (hl : l.length < 9223372036854775807) (d : Nat) : ∀ (i s : Nat), i + d = l.length → s < 65536 → (l.drop i).foldl setP s = l.foldl setP 0 →
    Ev (fun k => vers_Set.l0 k (s : Int) l (l.length : Int) (i : Int)) ((l.foldl setP 0 : Nat) : Int) := by
  induction d with
  | zero =>
    intro i s hi hs hf
    refine ev_const fun k => ?_
    rw [List.drop_eq_nil_of_le (by omega)] at hf
    rw [vers_Set.l0, if_neg (by omega), ← hf]
    rfl
  | succ d ih =>
    intro i s hi hs hf
    have hd : l.drop i = rd l (i : Int) :: l.drop (i + 1) := by
      rw [List.drop_eq_getElem_cons (by omega), rd_nat]
      simp [List.getD, show i < l.length by omega]
    rw [hd, List.foldl_cons] at hf
    have hp := setP_lt (rd l (i : Int)) hs
    have := ih (i + 1) _ (by omega) hp hf
    refine ev_succ ?_
    simp only [vers_Set.l0]
    rw [lk_vers_version, w64 (n := (i : Int) + 1) (by omega) (by omega)]
    simp only [if_pos (show (i : Int) < (l.length : Int) by omega), if_pos (show (0 : Int) ≤ (i : Int) by omega), Option.bind_some, decide_eq_true_eq]
    by_cases hv : 1 ≤ rd l (i : Int) ∧ rd l (i : Int) ≤ 16
    · rw [w64 (n := rd l (i : Int) - 1) (by omega) (by omega)]
      simp only [if_pos hv, if_pos (show 0 ≤ rd l (i : Int) - 1 by omega)]
      have e := shl1_u16 (rd l (i : Int) - 1).toNat (by omega)
      rw [show (((rd l (i : Int) - 1).toNat : Nat) : Int) = rd l (i : Int) - 1 by omega] at e
      rw [e, u16_or_nat s _ hs (Nat.pow_lt_pow_right (m := (rd l (i : Int) - 1).toNat) (n := 16) (a := 2) (by omega) (by omega))]
      unfold setP at this
      rw [if_pos hv] at this
      exact this
    · simp only [if_neg hv]
      unfold setP at this
      rw [if_neg hv] at this
      exact this
theorem lk_vers_Set (l : List Int) (hl : l.length < 9223372036854775807) : Ev (fun k => vers_Set.f k l) ((setR l 16 : Nat) : Int) := by
  unfold vers_Set.f
  have := lk_vers_Set0 l hl l.length 0 0 (by omega) (by omega) rfl
  rw [setF_eq] at this
  exact this
theorem lk_vers_Has (x : Int) (h0 : 0 ≤ x) (h1 : x < 65536) (v : Int) : vers_Has.f x v = some (decide (1 ≤ v ∧ v ≤ 16) && x.toNat.testBit (v - 1).toNat) := by
  unfold vers_Has.f
  rw [lk_vers_version]
  simp only [Option.bind_some, decide_eq_true_eq]
  by_cases hv : 1 ≤ v ∧ v ≤ 16
  · rw [if_pos hv, w64 (by omega) (by omega), if_pos (by omega)]
    have := bit_u16 x.toNat (v - 1).toNat (by omega) (by omega)
    rw [show ((x.toNat : Nat) : Int) = x by omega, show (((v - 1).toNat : Nat) : Int) = v - 1 by omega] at this
    rw [this, decide_eq_true hv, Bool.true_and]
    cases x.toNat.testBit (v - 1).toNat <;> rfl
  · rw [if_neg hv, decide_eq_false hv]
    rfl
def modeI (v : Int) : Int := if 1 ≤ v ∧ v ≤ 16 then (v - 1) % 3 + 1 else 0
theorem lk_vers_Mode (v : Int) : vers_Mode.f v = some (modeI v) := by
  by_cases hv : 1 ≤ v ∧ v ≤ 16
  · have key : ∀ i : Fin 16, vers_Mode.f (((i.val : Nat) : Int) + 1) = some (modeI (((i.val : Nat) : Int) + 1)) := by decide +kernel
    have := key ⟨(v - 1).toNat, by omega⟩
    rw [show (((v - 1).toNat : Nat) : Int) + 1 = v by omega] at this
    exact this
  · unfold vers_Mode.f modeI
    rw [lk_vers_version, if_neg hv, decide_eq_false hv]
    rfl
theorem lk_vers_Text0 (ws : List Int) (hw : ∀ v ∈ ws, 1 ≤ v ∧ v ≤ 16) (hl : ws.length ≤ 16) (d : Nat) : ∀ i : Nat, i + d = ws.length →
    Ev (fun k => vers_Text.l0 k (((ws.take i).map numL).map strOfNums) ws (ws.length : Int) (i : Int)) (strOfNums (if ws = [] then [45] else commaL (ws.map numL))) := by
  induction d with
  | zero =>
    intro i hi
    rw [List.take_of_length_le (by omega)]
    refine ev_const fun k => ?_
    rw [vers_Text.l0, if_neg (by omega)]
    simp only [List.length_map]
    by_cases h0 : ws = []
    · rw [if_pos h0, if_pos (by rw [h0]; rfl)]
      rfl
    · have hp : 0 < ws.length := List.length_pos_iff.2 h0
      have hc := commaL_len (ws.map numL) (fun w hw' => by obtain ⟨v, hv, rfl⟩ := List.mem_map.1 hw'; exact numL_small v (hw v hv).1 (hw v hv).2)
      rw [List.length_map] at hc
      have hj := join_comma (ws.map numL)
      rw [if_neg h0, if_neg (by omega)]
      unfold strings_Join.f
      simp only [List.length_map]
      rw [if_pos (by omega)]
      rw [hj, if_pos (by rw [strOfNums_data, List.length_map]; omega)]
      rfl
  | succ d ih =>
    intro i hi
    have hr : 1 ≤ rd ws (i : Int) ∧ rd ws (i : Int) ≤ 16 := by
      apply hw
      rw [rd_nat]
      simp [List.getD, show i < ws.length by omega]
    have := ih (i + 1) (by omega)
    rw [take_succ_rd ws i (by omega), List.map_append, List.map_append] at this
    refine ev_succ ?_
    simp only [vers_Text.l0]
    rw [lk_num_Put _ (by omega) (by omega), w64 (by omega) (by omega)]
    simp only [if_pos (show (i : Int) < (ws.length : Int) by omega), if_pos (show (0 : Int) ≤ (i : Int) by omega), Option.bind_some, List.length_map]
    simp only [if_pos (show (ws.take i).length < 8796093022208 by rw [List.length_take]; omega)]
    exact this
theorem bits_16 (x : Nat) : ∀ v ∈ bitsU x 16, 1 ≤ v ∧ v ≤ 16 := fun v hv => by
  obtain ⟨j, h1, h2, _⟩ := (bitsU_mem x 16 v).1 hv
  omega
theorem lk_vers_Text (x : Int) (h0 : 0 ≤ x) (h1 : x < 65536) : Ev (fun k => vers_Text.f k x) (strOfNums (versT x.toNat)) := by
  unfold vers_Text.f
  refine ev_bind (lk_vers_List x h0 h1) ?_
  exact lk_vers_Text0 (bitsU x.toNat 16) (bits_16 _) (bitsU_len _ 16) _ 0 (Nat.zero_add _)
theorem rdOf_nat (ws : List (List Int)) (i : Nat) (h : i < ws.length) : rdOf ByteArray.empty (ws.map strOfNums) (i : Int) = strOfNums (ws[i]) := by
  unfold rdOf
  simp [List.getD, h]
theorem lk_vers_Read0 (l : List Int) (hb : Bytes l) (hl : l.length ≤ 1000) (d : Nat) : ∀ (i : Nat) (x4 : List Int), i + d = (wordsA [] l).length → x4.length ≤ i →
    (∀ v : Int, 1 ≤ v → v ≤ 16 → (v ∈ x4 ↔ numL v ∈ (wordsA [] l).take i)) →
    Ev (fun k => vers_Read.l0 k (strOfNums l) x4 ((wordsA [] l).map strOfNums) ((wordsA [] l).length : Int) (i : Int)) (readR l) := by
  have hwl := wordsA_len l []
  induction d with
  | zero =>
    intro i x4 hi hx hv
    rw [List.take_of_length_le (by omega)] at hv
    have e : setR x4 16 = readS l := setR_cong _ _ fun v h1 h2 => by rw [hv v h1 h2, foundL_mem l v h1 h2]
    have hlt : readS l < 65536 := setR_lt (foundL l) 16
    refine ev_succ ?_
    simp only [vers_Read.l0]
    simp only [if_neg (show ¬ (i : Int) < ((wordsA [] l).length : Int) by omega)]
    have hs := lk_vers_Set x4 (by omega)
    rw [e] at hs
    refine ev_bind hs (ev_bind (lk_vers_Text _ (by omega) (by omega)) ?_)
    simp only [Int.toNat_natCast, str_eq (versT_bytes _) hb]
    unfold readR
    by_cases ht : versT (readS l) = l
    · simp only [if_pos ht]; exact ev_some _
    · simp only [if_neg ht]; exact ev_some _
  | succ d ih =>
    intro i x4 hi hx hv
    have hi' : i < (wordsA [] l).length := by omega
    have hwb := wordsA_bytes l [] bytes_nil hb _ (List.getElem_mem hi')
    obtain ⟨r, hr, er⟩ := lk_num_Get_bits ((wordsA [] l)[i]) hwb
    refine ev_succ ?_
    simp only [vers_Read.l0]
    rw [w64 (by omega) (by omega)]
    rw [rdOf_nat _ i hi']
    simp only [List.length_map, if_pos (show (i : Int) < ((wordsA [] l).length : Int) by omega), if_pos (show (0 : Int) ≤ (i : Int) by omega)]
    refine ev_bind er ?_
    have step : ∀ x : List Int, x.length ≤ i + 1 → (∀ v : Int, 1 ≤ v → v ≤ 16 → (v ∈ x ↔ v ∈ x4 ∨ numL v = (wordsA [] l)[i])) →
        Ev (fun k => vers_Read.l0 k (strOfNums l) x ((wordsA [] l).map strOfNums) ((wordsA [] l).length : Int) ((i : Int) + 1)) (readR l) := by
      intro x hxl hxv
      refine ih (i + 1) x (by omega) hxl fun v h1 h2 => ?_
      rw [hxv v h1 h2, hv v h1 h2, List.take_succ_eq_append_getElem hi', List.mem_append, List.mem_singleton]
    have no : (∀ v : Int, 1 ≤ v → v ≤ 16 → ¬ numL v = (wordsA [] l)[i]) → Ev (fun k => vers_Read.l0 k (strOfNums l) x4 ((wordsA [] l).map strOfNums) ((wordsA [] l).length : Int) ((i : Int) + 1)) (readR l) :=
      fun hn => step x4 (by omega) fun v h1 h2 => by simp [hn v h1 h2]
    rcases hr with ⟨g1, g2⟩ | ⟨n, g1, g2, g3⟩ | ⟨g1, g2, g3⟩
    · subst g2
      simp only [if_neg (show ¬ (2 : Int) = 0 by omega)]
      exact no fun v _ _ he => numL_ne v (he.trans g1)
    · subst g3
      simp only [if_true]
      by_cases h16 : n ≤ 16
      · simp only [if_pos h16, if_pos (show x4.length < 17592186044416 by omega)]
        refine step (x4 ++ [mx n 0]) (by simp; omega) fun v h1 h2 => ?_
        rw [List.mem_append, List.mem_singleton]
        have : v = mx n 0 ↔ numL v = (wordsA [] l)[i] := by
          constructor
          · intro e
            unfold mx at e
            split at e
            · omega
            · rw [e]; exact g2
          · intro e
            have := numL_inj (e.trans g2.symm)
            unfold mx
            rw [if_neg (by omega)]; exact this
        rw [this]
      · simp only [if_neg h16]
        refine no fun v h1 h2 he => ?_
        have := numL_inj (he.trans g2.symm)
        omega
    · subst g3
      simp only [if_neg (show ¬ (3 : Int) = 0 by omega)]
      exact no fun v h1 h2 => g2 v ⟨by omega, by omega⟩
theorem lk_vers_Read (l : List Int) (hb : Bytes l) (hl : l.length ≤ 1000) : Ev (fun k => vers_Read.f k (strOfNums l)) (readR l) := by
  unfold vers_Read.f strings_Split.f
  rw [strOfNums_size, if_pos (by omega), if_pos (by decide), splitB_words l hb]
  simp only [Option.bind_some, List.length_map]
  exact lk_vers_Read0 l hb hl _ 0 [] (Nat.zero_add _) (by simp) (fun v _ _ => by simp)
theorem lk_ref07_Put_nat (n : Nat) : n < 9223372036854775808 → Ev (fun k => annuletref07_Put.f k (n : Int)) (strOfNums (digL n)) := by
  induction n using digL.induct with
  | case1 n h =>
    intro hn
    rw [digL_small h]
    refine ev_succ ?_
    simp only [annuletref07_Put.f]
    rw [w64 (n := 48 + (n : Int)) (by omega) (by omega), show (48 + (n : Int)) % 256 = 48 + n by omega]
    simp only [if_neg (show ¬ (n : Int) < -9 by omega), if_neg (show ¬ (n : Int) < 0 by omega), if_neg (show ¬ (n : Int) > 9 by omega)]
    exact ev_some _
  | case2 n h ih =>
    intro hn
    have hd := digL_len20 (n := n / 10) (by omega)
    rw [digL_great h]
    refine ev_succ ?_
    simp only [annuletref07_Put.f]
    rw [tdiv_nat (by omega), tmod_nat (by omega), w64 (n := (n : Int) / 10) (by omega) (by omega)]
    simp only [if_neg (show ¬ (n : Int) < -9 by omega), if_neg (show ¬ (n : Int) < 0 by omega), if_pos (show (n : Int) > 9 by omega)]
    refine ev_bind (ih (by omega)) ?_
    have hs : Ev (fun k => annuletref07_Put.f k ((n : Int) % 10)) (strOfNums [48 + ((n % 10 : Nat) : Int)]) := by
      refine ev_succ ?_
      simp only [annuletref07_Put.f]
      rw [w64 (n := 48 + (n : Int) % 10) (by omega) (by omega), show (48 + (n : Int) % 10) % 256 = 48 + ((n % 10 : Nat) : Int) by omega]
      simp only [if_neg (show ¬ (n : Int) % 10 < -9 by omega), if_neg (show ¬ (n : Int) % 10 < 0 by omega), if_neg (show ¬ (n : Int) % 10 > 9 by omega)]
      exact ev_some _
    refine ev_bind hs ?_
    simp only [strOfNums_size, List.length_singleton, if_pos (show (digL (n / 10)).length + 1 ≤ 9223372036854775807 by omega)]
    rw [strOfNums_append]
    exact ev_some _
theorem lk_ref07_Put_neg (n : Nat) : 0 < n → n ≤ 9223372036854775808 → Ev (fun k => annuletref07_Put.f k (-(n : Int))) (strOfNums (45 :: digL n)) := by
  induction n using digL.induct with
  | case1 n h =>
    intro h0 hn
    have hd := digL_len20 (n := n) (by omega)
    refine ev_succ ?_
    simp only [annuletref07_Put.f]
    rw [w64 (n := - -(n : Int)) (by omega) (by omega), Int.neg_neg]
    simp only [if_neg (show ¬ -(n : Int) < -9 by omega), if_pos (show -(n : Int) < 0 by omega)]
    refine ev_bind (lk_ref07_Put_nat n (by omega)) ?_
    simp only [strOfNums_size, if_pos (show 1 + (digL n).length ≤ 9223372036854775807 by omega)]
    rw [show (⟨#[45]⟩ : ByteArray) = strOfNums [45] from rfl, strOfNums_append]
    exact ev_some _
  | case2 n h ih =>
    intro h0 hn
    have hd := digL_len20 (n := n / 10) (by omega)
    have hd' := digL_len20 (n := n % 10) (by omega)
    refine ev_succ ?_
    simp only [annuletref07_Put.f]
    rw [Int.neg_tdiv, Int.neg_tmod, tdiv_nat (by omega), tmod_nat (by omega), w64 (n := -((n : Int) / 10)) (by omega) (by omega), w64 (n := - -((n : Int) % 10)) (by omega) (by omega), Int.neg_neg]
    simp only [if_pos (show -(n : Int) < -9 by omega)]
    have i1 := ih (by omega) (by omega)
    rw [show ((n / 10 : Nat) : Int) = (n : Int) / 10 by omega] at i1
    refine ev_bind i1 ?_
    have i2 := lk_ref07_Put_nat (n % 10) (by omega)
    rw [show ((n % 10 : Nat) : Int) = (n : Int) % 10 by omega] at i2
    refine ev_bind i2 ?_
    simp only [strOfNums_size, List.length_cons, if_pos (show (digL (n / 10)).length + 1 + (digL (n % 10)).length ≤ 9223372036854775807 by omega)]
    rw [strOfNums_append]
    rw [show 45 :: digL n = 45 :: digL (n / 10) ++ digL (n % 10) by rw [digL_great h, digL_small (n := n % 10) (by omega)]; rfl]
    exact ev_some _
theorem lk_ref07_Put (n : Int) (h : -9223372036854775808 ≤ n) (h' : n < 9223372036854775808) : Ev (fun k => annuletref07_Put.f k n) (strOfNums (numL n)) := by
  unfold numL
  by_cases h0 : n < 0
  · rw [if_pos h0]
    have := lk_ref07_Put_neg (-n).toNat (by omega) (by omega)
    rw [show -(((-n).toNat : Nat) : Int) = n by omega] at this
    exact this
  · rw [if_neg h0]
    have := lk_ref07_Put_nat n.toNat (by omega)
    rw [show ((n.toNat : Nat) : Int) = n by omega] at this
    exact this
theorem lk_ref24_Has0 (x : Nat) (hx : x < 65536) (v : Nat) (h1 : 1 ≤ v) (h16 : v ≤ 16) (d : Nat) : ∀ i : Nat, 1 ≤ i → i + d = v → Ev (fun k => annuletref24_Has.l0 k (v : Int) ((x / 2 ^ (i - 1) : Nat) : Int) (i : Int)) (x.testBit (v - 1)) := by
  induction d with
  | zero =>
    intro i hi hd
    obtain rfl : i = v := by omega
    refine ev_const fun k => ?_
    rw [annuletref24_Has.l0, if_neg (by omega), if_pos (by omega), if_pos (by omega), tmod_nat (Int.natCast_nonneg _), Nat.testBit_eq_decide_div_mod_eq]
    generalize x / 2 ^ (i - 1) = q
    congr 1
    rw [Bool.eq_iff_iff]
    simp
    omega
  | succ d ih =>
    intro i hi hd
    refine ev_succ ?_
    simp only [annuletref24_Has.l0]
    have hq : x / 2 ^ (i - 1) ≤ x := Nat.div_le_self _ _
    have e : x / 2 ^ (i - 1) / 2 = x / 2 ^ (i + 1 - 1) := by
      rw [Nat.div_div_eq_div_mul, ← Nat.pow_succ]
      congr 2
      omega
    have := ih (i + 1) (by omega) (by omega)
    rw [← e] at this
    generalize x / 2 ^ (i - 1) = q at hq this ⊢
    rw [tdiv_nat (by omega), w64 (n := (i : Int) + 1) (by omega) (by omega), w64 (by omega) (by omega)]
    simp only [if_pos (show (i : Int) < (v : Int) by omega), if_pos (show (i : Int) < 17 by omega)]
    exact this
theorem lk_ref24_Has (x : Int) (h0 : 0 ≤ x) (hx : x < 65536) (v : Nat) (h1 : 1 ≤ v) (h16 : v ≤ 16) : Ev (fun k => annuletref24_Has.f k x (v : Int)) (x.toNat.testBit (v - 1)) := by
  unfold annuletref24_Has.f
  rw [w64 (by omega) (by omega)]
  have := lk_ref24_Has0 x.toNat (by omega) v h1 h16 (v - 1) 1 (by omega) (by omega)
  simp only [Nat.sub_self, Nat.pow_zero, Nat.div_one] at this
  rw [show ((x.toNat : Nat) : Int) = x by omega] at this
  exact this

/-! ### annuletref24: the printed functions, and the lists -/
theorem lk_ref24_Has_far0 (v : Int) (hv : 17 ≤ v) (hv' : v < 9223372036854775808) (d : Nat) : ∀ (i : Nat) (x : Int), i + d = 17 → 0 ≤ x → x < 65536 → Ev (fun k => annuletref24_Has.l0 k v x (i : Int)) false := by
  induction d with
  | zero =>
    intro i x hi h0 h1
    obtain rfl : i = 17 := by omega
    refine ev_const fun k => ?_
    rw [annuletref24_Has.l0]
    by_cases h : ((17 : Nat) : Int) < v
    · rw [if_pos h, if_neg (by omega), if_pos (by omega), if_neg (by omega)]
    · rw [if_neg h, if_pos (by omega), if_neg (by omega)]
  | succ d ih =>
    intro i x hi h0 h1
    refine ev_succ ?_
    simp only [annuletref24_Has.l0]
    rw [tdiv_nat h0, w64 (n := (i : Int) + 1) (by omega) (by omega), w64 (by omega) (by omega)]
    simp only [if_pos (show (i : Int) < v by omega), if_pos (show (i : Int) < 17 by omega)]
    exact ih (i + 1) (x / 2) (by omega) (by omega) (by omega)
theorem lk_ref24_Has_any (x : Int) (h0 : 0 ≤ x) (h1 : x < 65536) (v : Int) (hv' : v < 9223372036854775808) : Ev (fun k => annuletref24_Has.f k x v) (decide (1 ≤ v ∧ v ≤ 16) && x.toNat.testBit (v - 1).toNat) := by
  by_cases hv : 1 ≤ v ∧ v ≤ 16
  · have := lk_ref24_Has x h0 h1 v.toNat (by omega) (by omega)
    rw [show ((v.toNat : Nat) : Int) = v by omega, show v.toNat - 1 = (v - 1).toNat by omega] at this
    rw [decide_eq_true hv, Bool.true_and]
    exact this
  · rw [decide_eq_false hv, Bool.false_and]
    unfold annuletref24_Has.f
    rw [w64 (by omega) (by omega)]
    by_cases h17 : 17 ≤ v
    · exact lk_ref24_Has_far0 v h17 hv' 16 1 x (by omega) h0 h1
    · refine ev_const fun k => ?_
      rw [annuletref24_Has.l0, if_neg (by omega), if_neg (by omega)]
theorem lk_ref24_Set1 (l : List Int) (hl : l.length < 9223372036854775807) (s p v r : Int) (d : Nat) : ∀ (i : Nat) (b : Bool), i + d = l.length → b = decide (v ∈ l.take i) →
    Ev (fun k => annuletref24_Set.l0 k l (if v ∈ l then wrap64 (s + p) else s) (wrap64 (p * 2)) (wrap64 (v + 1))) r →
    Ev (fun k => annuletref24_Set.l1 k l s p v b (i : Int)) r := by
  induction d with
  | zero =>
    intro i b hi hb hr
    rw [List.take_of_length_le (by omega)] at hb
    refine ev_succ ?_
    simp only [annuletref24_Set.l1]
    simp only [if_neg (show ¬ (i : Int) < (l.length : Int) by omega)]
    by_cases hm : v ∈ l
    · rw [decide_eq_true hm] at hb
      subst hb
      simp only [if_pos hm, if_true] at hr ⊢
      exact hr
    · rw [decide_eq_false hm] at hb
      subst hb
      simp only [if_neg hm, Bool.false_eq_true, if_false] at hr ⊢
      exact hr
  | succ d ih =>
    intro i b hi hb hr
    have hi' : i < l.length := by omega
    refine ev_succ ?_
    simp only [annuletref24_Set.l1]
    rw [w64 (by omega) (by omega)]
    simp only [if_pos (show (i : Int) < (l.length : Int) by omega), if_pos (show (0 : Int) ≤ (i : Int) by omega)]
    have et : l.take (i + 1) = l.take i ++ [rd l (i : Int)] := take_succ_rd l i hi'
    cases b with
    | true =>
      simp only [if_true]
      refine ih (i + 1) true (by omega) ?_ hr
      symm
      rw [decide_eq_true_iff, et, List.mem_append]
      exact Or.inl (of_decide_eq_true hb.symm)
    | false =>
      simp only [Bool.false_eq_true, if_false]
      refine ih (i + 1) _ (by omega) ?_ hr
      have hn : v ∉ l.take i := of_decide_eq_false hb.symm
      rw [Bool.eq_iff_iff, beq_iff_eq, decide_eq_true_iff, et, List.mem_append, List.mem_singleton]
      constructor
      · intro h; exact Or.inr h.symm
      · rintro (h | h)
        · exact absurd h hn
        · exact h.symm
theorem lk_ref24_Set0 (l : List Int) (hl : l.length < 9223372036854775807) (d : Nat) : ∀ m : Nat, m + d = 16 → Ev (fun k => annuletref24_Set.l0 k l ((setR l m : Nat) : Int) ((2 ^ m : Nat) : Int) ((m : Int) + 1)) ((setR l 16 : Nat) : Int) := by
  induction d with
  | zero =>
    intro m hm
    obtain rfl : m = 16 := by omega
    have := setR_lt l 16
    refine ev_const fun k => ?_
    rw [annuletref24_Set.l0, if_neg (by omega), wu16_id (by omega) (by omega)]
  | succ d ih =>
    intro m hm
    have hs := setR_lt l m
    have hp : 2 ^ m ≤ 2 ^ 15 := Nat.pow_le_pow_right (by omega) (by omega)
    refine ev_succ ?_
    simp only [annuletref24_Set.l0]
    simp only [if_pos (show (m : Int) + 1 < 17 by omega)]
    have := ih (m + 1) (by omega)
    refine lk_ref24_Set1 l hl _ _ _ _ l.length 0 false (by omega) (by simp) ?_
    rw [w64 (n := (m : Int) + 1 + 1) (by omega) (by omega), w64 (n := ((2 ^ m : Nat) : Int) * 2) (by omega) (by omega), w64 (n := ((setR l m : Nat) : Int) + ((2 ^ m : Nat) : Int)) (by omega) (by omega)]
    rw [show ((m + 1 : Nat) : Int) + 1 = (m : Int) + 1 + 1 by omega, show ((2 ^ (m + 1) : Nat) : Int) = ((2 ^ m : Nat) : Int) * 2 by rw [Nat.pow_succ]; omega, setR] at this
    by_cases hv : (m : Int) + 1 ∈ l
    · simp only [if_pos hv, Int.natCast_add] at this ⊢
      exact this
    · simp only [if_neg hv, Nat.add_zero] at this ⊢
      exact this
theorem lk_ref24_Set (l : List Int) (hl : l.length < 9223372036854775807) : Ev (fun k => annuletref24_Set.f k l) ((setR l 16 : Nat) : Int) := by
  unfold annuletref24_Set.f
  exact lk_ref24_Set0 l hl 16 0 rfl
theorem lk_ref24_Text0 (x : Nat) (hx : x < 65536) (d : Nat) : ∀ m : Nat, m + d = 16 → Ev (fun k => annuletref24_Text.l0 k (x : Int) (strOfNums (commaL ((bitsU x m).map numL))) ((m : Int) + 1)) (strOfNums (versT x)) := by
  have ne : ∀ m, bitsU x m ≠ [] → commaL ((bitsU x m).map numL) ≠ [] := by
    intro m h
    cases hq : bitsU x m with
    | nil => exact absurd hq h
    | cons v r =>
      simp only [List.map_cons, commaL]
      have := numL_ne v
      intro h'
      exact this (List.append_eq_nil_iff.1 h').1
  induction d with
  | zero =>
    intro m hm
    obtain rfl : m = 16 := by omega
    refine ev_const fun k => ?_
    rw [annuletref24_Text.l0, if_neg (by omega)]
    simp only [str_nil]
    unfold versT
    by_cases hb : bitsU x 16 = []
    · rw [if_pos hb, if_pos (by rw [hb]; rfl)]
      rfl
    · rw [if_neg hb, if_neg (ne 16 hb)]
  | succ d ih =>
    intro m hm
    have hm' : m < 16 := by omega
    have hH := lk_ref24_Has (x : Int) (by omega) (by omega) (m + 1) (by omega) (by omega)
    rw [Int.toNat_natCast, show m + 1 - 1 = m by omega, show ((m + 1 : Nat) : Int) = (m : Int) + 1 by omega] at hH
    have hlen : (commaL ((bitsU x m).map numL)).length ≤ 48 := by
      have := commaL_len ((bitsU x m).map numL) (fun w hw => by
        obtain ⟨v, hv, rfl⟩ := List.mem_map.1 hw
        obtain ⟨j, h1, h2, _⟩ := (bitsU_mem x m v).1 hv
        exact numL_small v (by omega) (by omega))
      have h2 := bitsU_len x m
      rw [List.length_map] at this
      omega
    have hput := lk_ref07_Put ((m : Int) + 1) (by omega) (by omega)
    have hps := numL_small ((m : Int) + 1) (by omega) (by omega)
    have hnext := ih (m + 1) (by omega)
    rw [show ((m + 1 : Nat) : Int) + 1 = (m : Int) + 1 + 1 by omega, bitsU] at hnext
    refine ev_succ ?_
    simp only [annuletref24_Text.l0]
    simp only [if_pos (show (m : Int) + 1 < 17 by omega)]
    refine ev_bind hH ?_
    cases hbit : x.testBit m with
    | false =>
      rw [hbit] at hH hnext
      simp only [Bool.false_eq_true, if_false, List.append_nil] at hnext ⊢
      refine ev_succ ?_
      simp only [annuletref24_Text.j1, Bool.false_eq_true, if_false]
      refine ev_succ ?_
      simp only [annuletref24_Text.j2]
      refine ev_bind hH ?_
      rw [w64 (by omega) (by omega)]
      simp only [Bool.false_eq_true, if_false]
      exact hnext
    | true =>
      rw [hbit] at hH hnext
      simp only [if_true, List.map_append, List.map_cons, List.map_nil] at hnext ⊢
      simp only [commaL_snoc, List.map_eq_nil_iff] at hnext
      refine ev_succ ?_
      simp only [annuletref24_Text.j1]
      have hj2 : ∀ y : List Int, y.length ≤ 60 → y ++ numL ((m : Int) + 1) = (if bitsU x m = [] then numL ((m : Int) + 1) else commaL ((bitsU x m).map numL) ++ 44 :: numL ((m : Int) + 1)) →
          Ev (fun k => annuletref24_Text.j2 k (x : Int) (strOfNums y) ((m : Int) + 1)) (strOfNums (versT x)) := by
        intro y hy he
        refine ev_succ ?_
        simp only [annuletref24_Text.j2]
        refine ev_bind hH ?_
        simp only [if_true]
        refine ev_bind hput ?_
        rw [w64 (by omega) (by omega)]
        simp only [strOfNums_size, if_pos (show y.length + (numL ((m : Int) + 1)).length ≤ 9223372036854775807 by omega)]
        rw [strOfNums_append, he]
        exact hnext
      by_cases hb : bitsU x m = []
      · have e0 : commaL ((bitsU x m).map numL) = [] := by rw [hb]; rfl
        rw [e0]
        have : ((strOfNums []).toList != ([] : List UInt8)) = false := by rw [str_toList]; rfl
        simp only [this, Bool.false_eq_true, if_false]
        exact hj2 [] (by simp) (by rw [if_pos hb]; rfl)
      · have hne := ne m hb
        have : ((strOfNums (commaL ((bitsU x m).map numL))).toList != ([] : List UInt8)) = true := by
          rw [str_toList]
          cases hq : commaL ((bitsU x m).map numL) with
          | nil => exact absurd hq hne
          | cons c r => rfl
        simp only [this, if_true, strOfNums_size, if_pos (show (commaL ((bitsU x m).map numL)).length + 1 ≤ 9223372036854775807 by omega)]
        rw [show (⟨#[44]⟩ : ByteArray) = strOfNums [44] from rfl, strOfNums_append]
        exact hj2 _ (by simp; omega) (by rw [if_neg hb]; simp)
theorem lk_ref24_Text (x : Int) (h0 : 0 ≤ x) (h1 : x < 65536) : Ev (fun k => annuletref24_Text.f k x) (strOfNums (versT x.toNat)) := by
  unfold annuletref24_Text.f
  have := lk_ref24_Text0 x.toNat (by omega) 16 0 rfl
  rw [show ((x.toNat : Nat) : Int) = x by omega] at this
  exact this
theorem lk_ref24_Read1 (l : List Int) (w : List Int) (hw : Bytes w) (i : Int) (r : Int × Int) (d : Nat) : ∀ (v : Nat) (x4 : List Int), v + d = 17 → 1 ≤ v → x4.length ≤ 17592186044000 + v →
    (∀ y : List Int, y.length + v ≤ x4.length + 17 → (∀ u : Int, 1 ≤ u → u ≤ 16 → (u ∈ y ↔ u ∈ x4 ∨ ((v : Int) ≤ u ∧ numL u = w))) → Ev (fun k => annuletref24_Read.l0 k (strOfNums l) y (⟨#[]⟩ : ByteArray) (wrap64 (i + 1))) r) →
    Ev (fun k => annuletref24_Read.l1 k (strOfNums l) x4 (strOfNums w) i (v : Int)) r := by
  induction d with
  | zero =>
    intro v x4 hd hv hx hr
    obtain rfl : v = 17 := by omega
    refine ev_succ ?_
    simp only [annuletref24_Read.l1]
    simp only [if_neg (show ¬ ((17 : Nat) : Int) < 17 by omega)]
    exact hr x4 (by omega) fun u h1 h2 => ⟨Or.inl, fun h => h.elim id fun h => by omega⟩
  | succ d ih =>
    intro v x4 hd hv hx hr
    refine ev_succ ?_
    simp only [annuletref24_Read.l1]
    simp only [if_pos (show (v : Int) < 17 by omega)]
    refine ev_bind (lk_ref07_Put (v : Int) (by omega) (by omega)) ?_
    rw [w64 (n := (v : Int) + 1) (by omega) (by omega)]
    simp only [str_eq (numL_bytes _) hw]
    by_cases he : numL (v : Int) = w
    · simp only [if_pos he, if_pos (show x4.length < 17592186044416 by omega)]
      refine ih (v + 1) (x4 ++ [(v : Int)]) (by omega) (by omega) (by simp; omega) fun y hy hyv => hr y (by simp at hy; omega) fun u h1 h2 => ?_
      rw [hyv u h1 h2, List.mem_append, List.mem_singleton]
      constructor
      · rintro ((h | h) | ⟨h, h'⟩)
        · exact Or.inl h
        · exact Or.inr ⟨by omega, by rw [h]; exact he⟩
        · exact Or.inr ⟨by omega, h'⟩
      · rintro (h | ⟨h, h'⟩)
        · exact Or.inl (Or.inl h)
        · exact Or.inl (Or.inr (numL_inj (h'.trans he.symm)))
    · simp only [if_neg he]
      refine ih (v + 1) x4 (by omega) (by omega) (by omega) fun y hy hyv => hr y (by omega) fun u h1 h2 => ?_
      rw [hyv u h1 h2]
      constructor
      · rintro (h | ⟨h, h'⟩)
        · exact Or.inl h
        · exact Or.inr ⟨by omega, h'⟩
      · rintro (h | ⟨h, h'⟩)
        · exact Or.inl h
        · refine Or.inr ⟨?_, h'⟩
          have : u ≠ (v : Int) := fun e => he (by rw [← e]; exact h')
          omega
theorem lk_ref24_Read0 (l : List Int) (hb : Bytes l) (hl : l.length ≤ 1000) (d : Nat) : ∀ (i : Nat) (acc x4 : List Int), i + d = l.length → Bytes acc → acc.length ≤ i → x4.length ≤ 17 * i →
    (∀ u : Int, 1 ≤ u → u ≤ 16 → (u ∈ x4 ∨ numL u ∈ wordsA acc (l.drop i) ↔ numL u ∈ wordsA [] l)) →
    Ev (fun k => annuletref24_Read.l0 k (strOfNums l) x4 (strOfNums acc) (i : Int)) (readR l) := by
  have fin : ∀ x4 : List Int, x4.length ≤ 100000 → (∀ u : Int, 1 ≤ u → u ≤ 16 → (u ∈ x4 ↔ numL u ∈ wordsA [] l)) → ∀ (j : Int) (b : ByteArray), (l.length : Int) < j → Ev (fun k => annuletref24_Read.l0 k (strOfNums l) x4 b j) (readR l) := by
    intro x4 hx hv j b hj
    have e : setR x4 16 = readS l := setR_cong _ _ fun v h1 h2 => by rw [hv v h1 h2, foundL_mem l v h1 h2]
    have hlt : readS l < 65536 := setR_lt (foundL l) 16
    have hs := lk_ref24_Set x4 (by omega)
    rw [e] at hs
    refine ev_succ ?_
    simp only [annuletref24_Read.l0, strOfNums_size, if_neg (show ¬ j ≤ (l.length : Int) by omega)]
    refine ev_bind hs (ev_bind (lk_ref24_Text _ (by omega) (by omega)) ?_)
    simp only [Int.toNat_natCast, str_eq (versT_bytes _) hb]
    unfold readR
    by_cases ht : versT (readS l) = l
    · simp only [if_pos ht]; exact ev_bind hs (ev_some _)
    · simp only [if_neg ht]; exact ev_some _
  induction d with
  | zero =>
    intro i acc x4 hi ha hal hx hv
    rw [List.drop_eq_nil_of_le (by omega), wordsA] at hv
    refine ev_succ ?_
    simp only [annuletref24_Read.l0, strOfNums_size, if_pos (show (i : Int) ≤ (l.length : Int) by omega), if_neg (show ¬ (i : Int) < (l.length : Int) by omega)]
    refine ev_succ ?_
    simp only [annuletref24_Read.j1, Bool.false_eq_true, if_false]
    refine lk_ref24_Read1 l acc ha (i : Int) _ 16 1 x4 (by omega) (by omega) (by omega) fun y hy hyv => ?_
    rw [w64 (by omega) (by omega)]
    refine fin y (by omega) (fun u h1 h2 => ?_) _ _ (by omega)
    rw [hyv u h1 h2, ← hv u h1 h2, List.mem_singleton]
    constructor
    · rintro (h | ⟨_, h⟩)
      · exact Or.inl h
      · exact Or.inr h
    · rintro (h | h)
      · exact Or.inl h
      · exact Or.inr ⟨h1, h⟩
  | succ d ih =>
    intro i acc x4 hi ha hal hx hv
    have hi' : i < l.length := by omega
    have hdr : l.drop i = rd l (i : Int) :: l.drop (i + 1) := by
      rw [List.drop_eq_getElem_cons hi', rd_nat]
      simp [List.getD, hi']
    rw [hdr, wordsA] at hv
    refine ev_succ ?_
    simp only [annuletref24_Read.l0, strOfNums_size, bt_str hb, if_pos (show (i : Int) ≤ (l.length : Int) by omega), if_pos (show (i : Int) < (l.length : Int) by omega), if_pos (show (0 : Int) ≤ (i : Int) by omega)]
    refine ev_succ ?_
    simp only [annuletref24_Read.j1]
    by_cases h44 : rd l (i : Int) = 44
    · rw [if_pos h44] at hv
      have : (rd l (i : Int) != 44) = false := by rw [h44]; rfl
      simp only [this, Bool.false_eq_true, if_false]
      refine lk_ref24_Read1 l acc ha (i : Int) _ 16 1 x4 (by omega) (by omega) (by omega) fun y hy hyv => ?_
      rw [w64 (by omega) (by omega)]
      have := ih (i + 1) [] y (by omega) bytes_nil (by simp) (by omega) (fun u h1 h2 => by
        rw [hyv u h1 h2, ← hv u h1 h2, List.mem_cons]
        constructor
        · rintro ((h | ⟨_, h⟩) | h)
          · exact Or.inl h
          · exact Or.inr (Or.inl h)
          · exact Or.inr (Or.inr h)
        · rintro (h | h | h)
          · exact Or.inl (Or.inl h)
          · exact Or.inl (Or.inr ⟨h1, h⟩)
          · exact Or.inr h)
      exact this
    · rw [if_neg h44] at hv
      have : (rd l (i : Int) != 44) = true := by simp [h44]
      have hr := rd_byte hb (i : Int)
      rw [w64 (by omega) (by omega)]
      simp only [this, if_true, strOfNums_size, if_pos (show (0 : Int) ≤ (i : Int) by omega), if_pos (show (i : Int) ≤ (i : Int) + 1 by omega), if_pos (show (i : Int) + 1 ≤ (l.length : Int) by omega)]
      have hx1 : (strOfNums l).extract (i : Int).toNat ((i : Int) + 1).toNat = strOfNums [rd l (i : Int)] := by
        rw [Int.toNat_natCast, show ((i : Int) + 1).toNat = i + 1 by omega, str_extract, take_succ_rd l i hi']
        congr 1
        rw [List.drop_append_of_le_length (by rw [List.length_take]; omega), List.drop_eq_nil_of_le (by rw [List.length_take]; omega), List.nil_append]
      simp only [hx1, strOfNums_size, List.length_singleton, if_pos (show acc.length + 1 ≤ 9223372036854775807 by omega)]
      rw [strOfNums_append]
      exact ih (i + 1) (acc ++ [rd l (i : Int)]) x4 (by omega) (bytes_append ha (bytes_cons hr bytes_nil)) (by simp; omega) (by omega) hv
theorem lk_ref24_Read (l : List Int) (hb : Bytes l) (hl : l.length ≤ 1000) : Ev (fun k => annuletref24_Read.f k (strOfNums l)) (readR l) := by
  unfold annuletref24_Read.f
  exact lk_ref24_Read0 l hb hl l.length 0 [] [] (by omega) bytes_nil (by simp) (by simp) (fun u _ _ => by simp)
theorem lk_awake24 : Ev (fun k => annuletlaw24_awake.f k) true := Ev.of annuletlaw24_awake.mono (k := 40) (by decide +kernel)
theorem VersTexts_law : annuletlaw24_VersTexts.Pure := by
  intro a0 a1 h0 hm
  have h := wf_u16 h0
  obtain ⟨l, hb, rfl⟩ := str_of a1
  refine Ev.rounds (g := fun k => annuletlaw24_VersTexts.f k a0 (strOfNums l)) ?_
  unfold annuletlaw24_VersTexts.f
  simp only [strOfNums_size]
  by_cases hg : (l.length : Int) > 100
  · simp only [if_pos hg]
    exact ev_bind lk_awake24 (ev_some _)
  simp only [if_neg hg]
  have hT := lk_vers_Text a0 h.1 h.2
  have hlen : (versT a0.toNat).length ≤ 60 := by
    unfold versT
    split
    · simp
    · have := commaL_len ((bitsU a0.toNat 16).map numL) (fun w hw => by
        obtain ⟨v, hv, rfl⟩ := List.mem_map.1 hw
        obtain ⟨j, h1, h2, _⟩ := (bitsU_mem a0.toNat 16 v).1 hv
        exact numL_small v (by omega) (by omega))
      have h2 := bitsU_len a0.toNat 16
      rw [List.length_map] at this
      omega
  have hR := lk_vers_Read (versT a0.toNat) (versT_bytes _) (by omega)
  rw [readR_versT _ (by omega), show ((a0.toNat : Nat) : Int) = a0 by omega] at hR
  refine ev_bind (lk_vers_Read l hb (by omega)) (ev_bind (lk_ref24_Read l hb (by omega)) (ev_bind hT (ev_bind hR (ev_bind hT (ev_bind (lk_ref24_Text a0 h.1 h.2) ?_)))))
  simp only [if_true]
  exact ev_bind lk_awake24 (ev_some _)
end Go.Proofs.YthblpbnpdbpdjaaDoor.PVersTexts
namespace Go.Proofs.YthblpbnpdbpdjaaDoor.Pure
open Go.Proofs.YthblpbnpdbpdjaaDoor.PVersTexts
theorem VersTexts : annuletlaw24_VersTexts.Pure := VersTexts_law
end Go.Proofs.YthblpbnpdbpdjaaDoor.Pure
