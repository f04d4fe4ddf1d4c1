/- BenParses: the tree that any bytes are, or why they are none, is the document's. No condition. -/
import Derived.Test.YtekcnfngcgchcaaPBenParsesx11
import Derived.Test.YtekcnfngcgchcaaMath
set_option linter.unusedVariables false
set_option linter.unusedSimpArgs false
namespace Go.Proofs.Ytekcnfngcgchcaa.PBenParses
open Go.RowKit Go.Proofs.YtekcnfngcgchcaaW.PrintWords Go.Proofs.YtekcnfngcgchcaaW.PrintLast Go.Proofs.YtekcnfngcgchcaaW.PrintMore Annulet

/-! ### package num: the printed functions and the lists -/
theorem lk_num_digits (n : Int) (h0 : 0 ≤ n) (h1 : n < 18446744073709551616) : num_digits.f n = some (strOfNums (digL n.toNat)) := by
  unfold num_digits.f
  rw [if_pos h0, if_pos h1]
theorem lk_num_Put (n : Int) (h : -9223372036854775808 ≤ n) (h' : n < 9223372036854775808) : num_Put.f n = some (strOfNums (numL n)) := by
  unfold num_Put.f numL
  by_cases h0 : n < 0
  · rw [if_pos h0, if_pos h0, w64 (n := n + 1) (by omega) (by omega), w64 (n := -(n + 1)) (by omega) (by omega), wu64_id (n := -(n + 1)) (by omega) (by omega), wu64_id (n := -(n + 1) + 1) (by omega) (by omega), lk_num_digits _ (by omega) (by omega)]
    have e : (-(n + 1) + 1).toNat = (-n).toNat := by omega
    have hl := digL_len20 (n := (-n).toNat) (by omega)
    simp only [Option.bind_some, e, strOfNums_size]
    rw [if_pos (by omega)]
    rw [show (⟨#[45]⟩ : ByteArray) = strOfNums [45] from rfl, strOfNums_append]
    rfl
  · rw [if_neg h0, if_neg h0, wu64_id (by omega) (by omega), lk_num_digits _ (by omega) (by omega)]
    rfl

/-! ### package num: what texts are -/
theorem rd0_cases (l : List Int) : (∃ r, l = 45 :: r) ∨ (¬ ∃ r, l = 45 :: r) := Classical.em _
theorem lk_CutMinus_hit (r : List Int) : strings_CutPrefix.f (strOfNums (45 :: r)) (⟨#[45]⟩ : ByteArray) = some (strOfNums r, true) := by
  have hp : stringslite_HasPrefix.f (strOfNums (45 :: r)) (⟨#[45]⟩ : ByteArray) = some true := by
    unfold stringslite_HasPrefix.f
    rw [show (⟨#[45]⟩ : ByteArray) = strOfNums [45] from rfl]
    simp only [strOfNums_size, List.length_cons, List.length_nil]
    rw [if_pos (by omega), if_pos (by omega), if_pos (by omega), str_extract]
    simp
  unfold strings_CutPrefix.f stringslite_CutPrefix.f
  rw [hp]
  rw [show (⟨#[45]⟩ : ByteArray) = strOfNums [45] from rfl]
  simp only [Option.bind_some, if_true, strOfNums_size, List.length_cons, List.length_nil]
  rw [if_pos (by omega), if_pos (by omega), str_extract]
  simp
theorem lk_CutMinus_miss (l : List Int) (hb : Bytes l) (h : ¬ ∃ r, l = 45 :: r) : strings_CutPrefix.f (strOfNums l) (⟨#[45]⟩ : ByteArray) = some (strOfNums l, false) := by
  have hp : stringslite_HasPrefix.f (strOfNums l) (⟨#[45]⟩ : ByteArray) = some false := by
    unfold stringslite_HasPrefix.f
    rw [show (⟨#[45]⟩ : ByteArray) = strOfNums [45] from rfl]
    simp only [strOfNums_size, List.length_cons, List.length_nil]
    cases l with
    | nil => simp
    | cons x r =>
      have hx : x ≠ 45 := fun e => h ⟨r, by rw [e]⟩
      simp only [List.length_cons]
      rw [if_pos (by omega), if_pos (by omega), if_pos (by omega), str_extract]
      rw [str_beq (bytes_drop (bytes_take hb _) _) (bytes_cons ⟨by omega, by omega⟩ bytes_nil)]
      congr 1
      simp [hx]
  unfold strings_CutPrefix.f stringslite_CutPrefix.f
  rw [hp]
  simp
def okL (l : List Int) : Bool := if l = [] then false else if rd l 0 = 48 then decide (l = [48]) else true
theorem lk_num_magnitude0 (l : List Int) (hb : Bytes l) (d : Nat) : ∀ i : Nat, i ≤ l.length → i ≤ 19 → l.length - i = d → Digits (l.take i) →
    Ev (fun k => num_magnitude.l0 k (strOfNums l) (decL (l.take i)) (l.length : Int) (i : Int)) (if Digits l ∧ l.length ≤ 19 then (decL l, okL l) else (0, false)) := by
  induction d with
  | zero =>
    intro i hi h19 hd hdig
    rw [List.take_of_length_le (by omega)] at hdig ⊢
    rw [if_pos ⟨hdig, by omega⟩]
    refine ev_succ ?_
    simp only [num_magnitude.l0, strOfNums_size, bt_str hb, str_nil]
    rw [show ([48] : List UInt8) = (strOfNums [48]).toList from (str_toList [48]).symm, str_beq hb (bytes_cons ⟨by omega, by omega⟩ bytes_nil)]
    simp only [if_neg (show ¬ (i : Int) < (l.length : Int) by omega)]
    unfold okL
    by_cases h0 : l = []
    · simp only [if_pos h0]; exact ev_some _
    · have : 0 < l.length := List.length_pos_iff.2 h0
      simp only [if_neg h0, if_pos (show (0 : Int) < (l.length : Int) by omega)]
      by_cases h48 : rd l 0 = 48
      · simp only [if_pos h48]; exact ev_some _
      · simp only [if_neg h48]; exact ev_some _
  | succ d ih =>
    intro i hi h19 hd hdig
    have hr := rd_byte hb (i : Int)
    unfold Byte at hr
    have hmem : rd l (i : Int) ∈ l := by
      rw [rd_nat]
      have : i < l.length := by omega
      simp [List.getD, this]
    refine ev_succ ?_
    simp only [num_magnitude.l0, strOfNums_size, bt_str hb]
    simp only [if_pos (show (i : Int) < (l.length : Int) by omega), if_pos (show (0 : Int) ≤ (i : Int) by omega)]
    by_cases h1 : rd l (i : Int) < 48
    · simp only [if_pos h1]
      rw [if_neg (by intro h; have := h.1 _ hmem; omega)]
      exact ev_some _
    simp only [if_neg h1]
    by_cases h2 : rd l (i : Int) > 57
    · simp only [if_pos h2]
      rw [if_neg (by intro h; have := h.1 _ hmem; omega)]
      exact ev_some _
    simp only [if_neg h2]
    by_cases h3 : (i : Int) ≥ 19
    · simp only [if_pos h3]
      rw [if_neg (by intro h; have := h.2; omega)]
      exact ev_some _
    simp only [if_neg h3]
    have hdr := decL_range _ hdig
    rw [List.length_take, Nat.min_eq_left (by omega)] at hdr
    have hp : (10 : Int) ^ i ≤ 10 ^ 18 := by
      have : (10 : Nat) ^ i ≤ 10 ^ 18 := Nat.pow_le_pow_right (by omega) (by omega)
      exact_mod_cast this
    rw [show (10 : Int) ^ 18 = 1000000000000000000 by decide] at hp
    have e : decL (l.take (i + 1)) = decL (l.take i) * 10 + (rd l (i : Int) - 48) := by rw [take_succ_rd l i (by omega), decL_snoc]
    have ed : Digits (l.take (i + 1)) := by rw [take_succ_rd l i (by omega)]; exact digits_snoc.2 ⟨hdig, by omega⟩
    rw [wu64_id (n := decL (l.take i) * 10) (by omega) (by omega), show (rd l (i : Int) - 48) % 256 = rd l (i : Int) - 48 by omega, wu64_id (by omega) (by omega), ← e, w64 (by omega) (by omega)]
    exact ih (i + 1) (by omega) (by omega) (by omega) ed
theorem lk_num_magnitude (l : List Int) (hb : Bytes l) : Ev (fun k => num_magnitude.f k (strOfNums l)) (if Digits l ∧ l.length ≤ 19 then (decL l, okL l) else (0, false)) := by
  unfold num_magnitude.f
  have := lk_num_magnitude0 l hb _ 0 (by omega) (by omega) rfl (fun _ h => by simp at h)
  simp only [strOfNums_size]
  exact this
theorem lk_num_Get_j0 (x5 : Bool) (x6 : Int) (x20 : Bool) (h : x20 = false → if x5 then 0 < x6 ∧ x6 ≤ 9223372036854775808 else 0 ≤ x6 ∧ x6 < 9223372036854775808) :
    Ev (fun k => num_Get.j0 k x5 x6 x20) (if x20 then (0, 3) else if x5 then (-x6, 0) else (x6, 0)) := by
  refine ev_succ ?_
  simp only [num_Get.j0]
  cases x20 with
  | true => simp only [if_true]; exact ev_some _
  | false =>
    have h := h rfl
    simp only [Bool.false_eq_true, if_false]
    cases x5 with
    | true =>
      simp only [if_true] at h ⊢
      rw [wu64_id (n := x6 - 1) (by omega) (by omega), w64 (n := x6 - 1) (by omega) (by omega), w64 (n := -(x6 - 1)) (by omega) (by omega), w64 (by omega) (by omega), show -(x6 - 1) - 1 = -x6 by omega]
      exact ev_some _
    | false =>
      simp only [Bool.false_eq_true, if_false] at h ⊢
      rw [w64 (by omega) (by omega)]
      exact ev_some _
theorem digL_len19 {n : Nat} (h : n ≤ 9223372036854775808) : (digL n).length ≤ 19 := digL_len 18 n (by omega)
theorem okL_digL (n : Nat) : okL (digL n) = true := by
  unfold okL
  have := digL_pos n
  rw [if_neg (by intro h; rw [h] at this; simp at this)]
  split
  · rename_i h; exact decide_eq_true (digL_zero n h)
  · rfl
theorem okL_back {l : List Int} (h : okL l = true) : l ≠ [] ∧ (rd l 0 = 48 → l = [48]) := by
  unfold okL at h
  split at h
  · simp at h
  · rename_i h0
    refine ⟨h0, fun h48 => ?_⟩
    rw [if_pos h48] at h
    exact of_decide_eq_true h
theorem lk_num_Get_bits (l : List Int) (hb : Bytes l) : ∃ r, IsGet l r ∧ Ev (fun k => num_Get.f k (strOfNums l)) r := by
  by_cases h0 : l = []
  · refine ⟨(0, 2), Or.inl ⟨h0, rfl⟩, ?_⟩
    unfold num_Get.f
    simp only [str_nil, if_pos h0]
    exact ev_some _
  unfold num_Get.f
  simp only [str_nil, if_neg h0]
  rcases rd0_cases l with ⟨r, rfl⟩ | hm
  · rw [lk_CutMinus_hit]
    simp only [Option.bind_some]
    have hbr : Bytes r := fun x hx => hb x (by simp [hx])
    have hmag := lk_num_magnitude r hbr
    by_cases hd : Digits r ∧ r.length ≤ 19
    · rw [if_pos hd] at hmag
      by_cases hok : okL r = true
      · have hbk := okL_back hok
        have e := digL_decL r hd.1 hbk.1 hbk.2
        have hr := decL_range r hd.1
        by_cases hz : decL r = 0
        · refine ⟨(0, 3), Or.inr (Or.inr ⟨by simp, ?_, rfl⟩), ?_⟩
          · intro n hn hl
            have hneg := (numL_neg n).1 (by rw [hl]; rfl)
            unfold numL at hl
            rw [if_pos hneg] at hl
            have := congrArg decL (List.cons.inj hl).2
            rw [decL_digL, hz] at this
            omega
          · refine ev_bind hmag ?_
            simp only [hok, if_true, if_pos hz]
            exact lk_num_Get_j0 _ _ _ (by simp)
        · by_cases hg : decL r > 9223372036854775808
          · refine ⟨(0, 3), Or.inr (Or.inr ⟨by simp, ?_, rfl⟩), ?_⟩
            · intro n hn hl
              unfold InI at hn
              have hneg := (numL_neg n).1 (by rw [hl]; rfl)
              unfold numL at hl
              rw [if_pos hneg] at hl
              have := congrArg decL (List.cons.inj hl).2
              rw [decL_digL] at this
              omega
            · refine ev_bind hmag ?_
              simp only [hok, if_true, if_neg hz, if_pos hg, decide_eq_true hg]
              exact lk_num_Get_j0 _ _ _ (by simp)
          · refine ⟨(-decL r, 0), Or.inr (Or.inl ⟨-decL r, ⟨by omega, by omega⟩, ?_, rfl⟩), ?_⟩
            · unfold numL
              rw [if_pos (by omega), Int.neg_neg, e]
            · refine ev_bind hmag ?_
              simp only [hok, if_true, if_neg hz, if_neg hg]
              exact lk_num_Get_j0 true (decL r) false (fun _ => by simp only [if_true]; omega)
      · have hok : okL r = false := by simpa using hok
        refine ⟨(0, 3), Or.inr (Or.inr ⟨by simp, ?_, rfl⟩), ?_⟩
        · intro n hn hl
          have hneg := (numL_neg n).1 (by rw [hl]; rfl)
          unfold numL at hl
          rw [if_pos hneg] at hl
          rw [← (List.cons.inj hl).2, okL_digL] at hok
          simp at hok
        · refine ev_bind hmag ?_
          simp only [hok, Bool.false_eq_true, if_false, Bool.not_false]
          exact lk_num_Get_j0 _ _ _ (by simp)
    · rw [if_neg hd] at hmag
      refine ⟨(0, 3), Or.inr (Or.inr ⟨by simp, ?_, rfl⟩), ?_⟩
      · intro n hn hl
        unfold InI at hn
        have hneg := (numL_neg n).1 (by rw [hl]; rfl)
        unfold numL at hl
        rw [if_pos hneg] at hl
        apply hd
        rw [← (List.cons.inj hl).2]
        exact ⟨digL_digits _, digL_len19 (by omega)⟩
      · refine ev_bind hmag ?_
        simp only [Bool.false_eq_true, if_false, Bool.not_false]
        exact lk_num_Get_j0 _ _ _ (by simp)
  · rw [lk_CutMinus_miss l hb hm]
    simp only [Option.bind_some]
    have hmag := lk_num_magnitude l hb
    have hnn : ∀ n, numL n = l → ¬ n < 0 := by
      intro n hl hn
      unfold numL at hl
      rw [if_pos hn] at hl
      exact hm ⟨_, hl.symm⟩
    by_cases hd : Digits l ∧ l.length ≤ 19
    · rw [if_pos hd] at hmag
      by_cases hok : okL l = true
      · have hbk := okL_back hok
        have e := digL_decL l hd.1 hbk.1 hbk.2
        have hr := decL_range l hd.1
        by_cases hg : decL l ≥ 9223372036854775808
        · refine ⟨(0, 3), Or.inr (Or.inr ⟨h0, ?_, rfl⟩), ?_⟩
          · intro n hn hl
            unfold InI at hn
            have hneg := hnn n hl
            unfold numL at hl
            rw [if_neg hneg] at hl
            have := congrArg decL hl
            rw [decL_digL] at this
            omega
          · refine ev_bind hmag ?_
            simp only [hok, if_true, Bool.false_eq_true, if_false, decide_eq_true hg]
            exact lk_num_Get_j0 _ _ _ (by simp)
        · refine ⟨(decL l, 0), Or.inr (Or.inl ⟨decL l, ⟨by omega, by omega⟩, ?_, rfl⟩), ?_⟩
          · unfold numL
            rw [if_neg (by omega), e]
          · refine ev_bind hmag ?_
            simp only [hok, if_true, Bool.false_eq_true, if_false, decide_eq_false hg]
            exact lk_num_Get_j0 false (decL l) false (fun _ => by simp only [Bool.false_eq_true, if_false]; omega)
      · have hok : okL l = false := by simpa using hok
        refine ⟨(0, 3), Or.inr (Or.inr ⟨h0, ?_, rfl⟩), ?_⟩
        · intro n hn hl
          have hneg := hnn n hl
          unfold numL at hl
          rw [if_neg hneg] at hl
          rw [← hl, okL_digL] at hok
          simp at hok
        · refine ev_bind hmag ?_
          simp only [hok, Bool.false_eq_true, if_false, Bool.not_false]
          exact lk_num_Get_j0 _ _ _ (by simp)
    · rw [if_neg hd] at hmag
      refine ⟨(0, 3), Or.inr (Or.inr ⟨h0, ?_, rfl⟩), ?_⟩
      · intro n hn hl
        unfold InI at hn
        have hneg := hnn n hl
        unfold numL at hl
        rw [if_neg hneg] at hl
        apply hd
        rw [← hl]
        exact ⟨digL_digits _, digL_len19 (by omega)⟩
      · refine ev_bind hmag ?_
        simp only [Bool.false_eq_true, if_false, Bool.not_false]
        exact lk_num_Get_j0 _ _ _ (by simp)
theorem lk_ref07_Put_nat (n : Nat) : n < 9223372036854775808 → Ev (fun k => annuletref07_Put.f k (n : Int)) (strOfNums (digL n)) := by
  induction n using digL.induct with
  | case1 n h =>
    intro hn
    rw [digL_small h]
    refine ev_succ ?_
    simp only [annuletref07_Put.f]
    rw [w64 (n := 48 + (n : Int)) (by omega) (by omega), show (48 + (n : Int)) % 256 = 48 + n by omega]
    simp only [if_neg (show ¬ (n : Int) < -9 by omega), if_neg (show ¬ (n : Int) < 0 by omega), if_neg (show ¬ (n : Int) > 9 by omega)]
    exact ev_some _
  | case2 n h ih =>
    intro hn
    have hd := digL_len20 (n := n / 10) (by omega)
    rw [digL_great h]
    refine ev_succ ?_
    simp only [annuletref07_Put.f]
    rw [tdiv_nat (by omega), tmod_nat (by omega), w64 (n := (n : Int) / 10) (by omega) (by omega)]
    simp only [if_neg (show ¬ (n : Int) < -9 by omega), if_neg (show ¬ (n : Int) < 0 by omega), if_pos (show (n : Int) > 9 by omega)]
    refine ev_bind (ih (by omega)) ?_
    have hs : Ev (fun k => annuletref07_Put.f k ((n : Int) % 10)) (strOfNums [48 + ((n % 10 : Nat) : Int)]) := by
      refine ev_succ ?_
      simp only [annuletref07_Put.f]
      rw [w64 (n := 48 + (n : Int) % 10) (by omega) (by omega), show (48 + (n : Int) % 10) % 256 = 48 + ((n % 10 : Nat) : Int) by omega]
      simp only [if_neg (show ¬ (n : Int) % 10 < -9 by omega), if_neg (show ¬ (n : Int) % 10 < 0 by omega), if_neg (show ¬ (n : Int) % 10 > 9 by omega)]
      exact ev_some _
    refine ev_bind hs ?_
    simp only [strOfNums_size, List.length_singleton, if_pos (show (digL (n / 10)).length + 1 ≤ 9223372036854775807 by omega)]
    rw [strOfNums_append]
    exact ev_some _
theorem lk_ref07_Put_neg (n : Nat) : 0 < n → n ≤ 9223372036854775808 → Ev (fun k => annuletref07_Put.f k (-(n : Int))) (strOfNums (45 :: digL n)) := by
  induction n using digL.induct with
  | case1 n h =>
    intro h0 hn
    have hd := digL_len20 (n := n) (by omega)
    refine ev_succ ?_
    simp only [annuletref07_Put.f]
    rw [w64 (n := - -(n : Int)) (by omega) (by omega), Int.neg_neg]
    simp only [if_neg (show ¬ -(n : Int) < -9 by omega), if_pos (show -(n : Int) < 0 by omega)]
    refine ev_bind (lk_ref07_Put_nat n (by omega)) ?_
    simp only [strOfNums_size, if_pos (show 1 + (digL n).length ≤ 9223372036854775807 by omega)]
    rw [show (⟨#[45]⟩ : ByteArray) = strOfNums [45] from rfl, strOfNums_append]
    exact ev_some _
  | case2 n h ih =>
    intro h0 hn
    have hd := digL_len20 (n := n / 10) (by omega)
    have hd' := digL_len20 (n := n % 10) (by omega)
    refine ev_succ ?_
    simp only [annuletref07_Put.f]
    rw [Int.neg_tdiv, Int.neg_tmod, tdiv_nat (by omega), tmod_nat (by omega), w64 (n := -((n : Int) / 10)) (by omega) (by omega), w64 (n := - -((n : Int) % 10)) (by omega) (by omega), Int.neg_neg]
    simp only [if_pos (show -(n : Int) < -9 by omega)]
    have i1 := ih (by omega) (by omega)
    rw [show ((n / 10 : Nat) : Int) = (n : Int) / 10 by omega] at i1
    refine ev_bind i1 ?_
    have i2 := lk_ref07_Put_nat (n % 10) (by omega)
    rw [show ((n % 10 : Nat) : Int) = (n : Int) % 10 by omega] at i2
    refine ev_bind i2 ?_
    simp only [strOfNums_size, List.length_cons, if_pos (show (digL (n / 10)).length + 1 + (digL (n % 10)).length ≤ 9223372036854775807 by omega)]
    rw [strOfNums_append]
    rw [show 45 :: digL n = 45 :: digL (n / 10) ++ digL (n % 10) by rw [digL_great h, digL_small (n := n % 10) (by omega)]; rfl]
    exact ev_some _
theorem lk_ref07_Put (n : Int) (h : -9223372036854775808 ≤ n) (h' : n < 9223372036854775808) : Ev (fun k => annuletref07_Put.f k n) (strOfNums (numL n)) := by
  unfold numL
  by_cases h0 : n < 0
  · rw [if_pos h0]
    have := lk_ref07_Put_neg (-n).toNat (by omega) (by omega)
    rw [show -(((-n).toNat : Nat) : Int) = n by omega] at this
    exact this
  · rw [if_neg h0]
    have := lk_ref07_Put_nat n.toNat (by omega)
    rw [show ((n.toNat : Nat) : Int) = n by omega] at this
    exact this
theorem w64_range (n : Int) : -9223372036854775808 ≤ wrap64 n ∧ wrap64 n < 9223372036854775808 := by
  unfold wrap64
  omega
theorem lk_ref07_Get_end (l : List Int) (hb : Bytes l) (h0 : l ≠ []) (x : Int) (hx : -9223372036854775808 ≤ x) (hx' : x < 9223372036854775808) (i : Nat) (hi : i = l.length) :
    Ev (fun k => annuletref07_Get.l0 k (strOfNums l) x (i : Int)) (if rd l 0 = 45 then (if numL x = l then (x, 0) else (0, 3)) else (if numL (wrap64 (-x)) = l then (wrap64 (-x), 0) else (0, 3))) := by
  have hw := w64_range (-x)
  have hlen : 0 < l.length := List.length_pos_iff.2 h0
  refine ev_succ ?_
  simp only [annuletref07_Get.l0, strOfNums_size, bt_str hb]
  simp only [if_neg (show ¬ (i : Int) < (l.length : Int) by omega), if_pos (show (0 : Int) < (l.length : Int) by omega)]
  by_cases h45 : rd l 0 = 45
  · simp only [if_pos h45]
    refine ev_bind (lk_ref07_Put x hx hx') ?_
    simp only [str_eq (numL_bytes _) hb]
    by_cases he : numL x = l
    · simp only [if_pos he]; exact ev_some _
    · simp only [if_neg he]; exact ev_some _
  · simp only [if_neg h45]
    refine ev_bind (lk_ref07_Put _ hw.1 hw.2) ?_
    simp only [str_eq (numL_bytes _) hb]
    by_cases he : numL (wrap64 (-x)) = l
    · simp only [if_pos he]; exact ev_some _
    · simp only [if_neg he]; exact ev_some _
theorem lk_ref07_Get_miss (l : List Int) (hb : Bytes l) (hl : l.length < 1000000000000) (h0 : l ≠ []) (hm : ∀ n, InI n → numL n ≠ l) (d : Nat) : ∀ (i : Nat) (x : Int), i ≤ l.length → l.length - i = d → -9223372036854775808 ≤ x → x < 9223372036854775808 →
    Ev (fun k => annuletref07_Get.l0 k (strOfNums l) x (i : Int)) (0, 3) := by
  induction d with
  | zero =>
    intro i x hi hd h1 h2
    refine ev_eq (lk_ref07_Get_end l hb h0 x h1 h2 i (by omega)) ?_
    have hw := w64_range (-x)
    rw [if_neg (hm x ⟨h1, h2⟩), if_neg (hm _ hw), ite_self]
  | succ d ih =>
    intro i x hi hd h1 h2
    have hstep : ∀ c : Bool, Ev (fun k => annuletref07_Get.j1 k (strOfNums l) x (i : Int) c) (0, 3) := by
      intro c
      refine ev_succ ?_
      simp only [annuletref07_Get.j1, strOfNums_size, bt_str hb]
      rw [w64 (n := (i : Int) + 1) (by omega) (by omega)]
      cases c with
      | true =>
        simp only [if_true]
        exact ih (i + 1) x (by omega) (by omega) h1 h2
      | false =>
        simp only [Bool.false_eq_true, if_false, if_pos (show (i : Int) < (l.length : Int) by omega), if_pos (show (0 : Int) ≤ (i : Int) by omega)]
        by_cases c1 : rd l (i : Int) < 48
        · simp only [if_pos c1]; exact ev_some _
        simp only [if_neg c1]
        by_cases c2 : rd l (i : Int) > 57
        · simp only [if_pos c2]; exact ev_some _
        simp only [if_neg c2]
        by_cases c3 : (i : Int) > 20
        · simp only [if_pos c3]; exact ev_some _
        simp only [if_neg c3]
        have hw := w64_range (wrap64 (x * 10) - (rd l (i : Int) - 48) % 256)
        exact ih (i + 1) _ (by omega) (by omega) hw.1 hw.2
    refine ev_succ ?_
    simp only [annuletref07_Get.l0, strOfNums_size, bt_str hb]
    simp only [if_pos (show (i : Int) < (l.length : Int) by omega), if_pos (show (0 : Int) ≤ (i : Int) by omega)]
    by_cases c1 : rd l (i : Int) = 45
    · simp only [if_pos c1]
      by_cases c2 : (i : Int) = 0
      · simp only [if_pos c2]; exact hstep _
      · simp only [if_neg c2]; exact hstep _
    · simp only [if_neg c1]; exact hstep _
/-- digits that stand behind s cells -/
theorem lk_ref07_Get_digits (l g : List Int) (s : Nat) (hs : s ≤ 1) (hb : Bytes l) (hl : l.drop s = g) (hls : s ≤ l.length) (hg : Digits g) (hlen : g.length ≤ 19) (hv : decL g ≤ 9223372036854775808) (h0 : l ≠ []) (d : Nat) : ∀ (i : Nat), s + i ≤ l.length → g.length - i = d → decL (g.take i) ≤ 9223372036854775808 →
    Ev (fun k => annuletref07_Get.l0 k (strOfNums l) (-decL (g.take i)) ((s + i : Nat) : Int)) (if rd l 0 = 45 then (if numL (-decL g) = l then (-decL g, 0) else (0, 3)) else (if numL (wrap64 (decL g)) = l then (wrap64 (decL g), 0) else (0, 3))) := by
  have hgl : g.length = l.length - s := by rw [← hl, List.length_drop]
  have hgr := decL_range g hg
  induction d with
  | zero =>
    intro i hi hd hle
    have hi' : i = g.length := by omega
    rw [hi', List.take_of_length_le (Nat.le_refl _)]
    have := lk_ref07_Get_end l hb h0 (-decL g) (by omega) (by omega) (s + g.length) (by omega)
    rwa [Int.neg_neg] at this
  | succ d ih =>
    intro i hi hd hle
    have hrd : rd l ((s + i : Nat) : Int) = rd g (i : Int) := by
      rw [rd_nat, rd_nat, ← hl, getD_drop]
    have hmem : rd g (i : Int) ∈ g := by
      rw [rd_nat]
      have : i < g.length := by omega
      simp [List.getD, this]
    have hc := hg _ hmem
    have htd : Digits (g.take i) := fun x hx => hg x (List.mem_of_mem_take hx)
    have htr := decL_range _ htd
    have e : decL (g.take (i + 1)) = decL (g.take i) * 10 + (rd g (i : Int) - 48) := by rw [take_succ_rd g i (by omega), decL_snoc]
    have hnext : decL (g.take (i + 1)) ≤ decL g := by
      have mono : ∀ m : Nat, ∀ g' : List Int, g'.length = m → Digits (g.take (i + 1) ++ g') → decL (g.take (i + 1)) ≤ decL (g.take (i + 1) ++ g') := by
        intro m g'
        induction g' using list_snoc_ind generalizing m with
        | h0 => intro _ _; simp
        | h1 g' c ih =>
          intro hm hdg
          rw [← List.append_assoc] at hdg ⊢
          have h2 := digits_snoc.1 hdg
          have h3 := decL_range _ h2.1
          have h4 := ih g'.length rfl h2.1
          rw [decL_snoc]
          omega
      have := mono _ (g.drop (i + 1)) rfl (by rw [List.take_append_drop]; exact hg)
      rwa [List.take_append_drop] at this
    have ihn := ih (i + 1) (by omega) (by omega) (by omega)
    refine ev_succ ?_
    simp only [annuletref07_Get.l0, strOfNums_size, bt_str hb]
    rw [hrd]
    simp only [if_pos (show ((s + i : Nat) : Int) < (l.length : Int) by omega), if_pos (show (0 : Int) ≤ ((s + i : Nat) : Int) by omega), if_neg (show ¬ rd g (i : Int) = 45 by omega)]
    refine ev_succ ?_
    simp only [annuletref07_Get.j1, strOfNums_size, bt_str hb]
    rw [hrd]
    simp only [Bool.false_eq_true, if_false, if_pos (show ((s + i : Nat) : Int) < (l.length : Int) by omega), if_pos (show (0 : Int) ≤ ((s + i : Nat) : Int) by omega), if_neg (show ¬ rd g (i : Int) < 48 by omega), if_neg (show ¬ rd g (i : Int) > 57 by omega), if_neg (show ¬ ((s + i : Nat) : Int) > 20 by omega)]
    rw [show (rd g (i : Int) - 48) % 256 = rd g (i : Int) - 48 by omega, w64 (n := -decL (g.take i) * 10) (by omega) (by omega), w64 (by omega) (by omega), w64 (by omega) (by omega)]
    rw [show -decL (g.take i) * 10 - (rd g (i : Int) - 48) = -decL (g.take (i + 1)) by omega, show ((s + i : Nat) : Int) + 1 = ((s + (i + 1) : Nat) : Int) by omega]
    exact ihn
theorem lk_ref07_Get (l : List Int) (hb : Bytes l) (hl : l.length < 1000000000000) : ∃ r, IsGet l r ∧ Ev (fun k => annuletref07_Get.f k (strOfNums l)) r := by
  unfold annuletref07_Get.f
  by_cases h0 : l = []
  · refine ⟨(0, 2), Or.inl ⟨h0, rfl⟩, ?_⟩
    simp only [str_nil, if_pos h0]
    exact ev_some _
  simp only [str_nil, if_neg h0]
  by_cases hex : ∃ n, InI n ∧ numL n = l
  · obtain ⟨n, hn, hnl⟩ := hex
    refine ⟨(n, 0), Or.inr (Or.inl ⟨n, hn, hnl, rfl⟩), ?_⟩
    unfold InI at hn
    by_cases hneg : n < 0
    · have hl45 := (numL_neg n).2 hneg
      rw [hnl] at hl45
      have hsh : l = 45 :: digL (-n).toNat := by rw [← hnl]; unfold numL; rw [if_pos hneg]
      have hpos := digL_pos (-n).toNat
      have := lk_ref07_Get_digits l (digL (-n).toNat) 1 (by omega) hb (by rw [hsh]; rfl) (by rw [hsh]; simp) (digL_digits _) (digL_len 18 _ (by omega)) (by rw [decL_digL]; omega) h0 _ 0 (by rw [hsh]; simp) rfl (by simp [decL])
      rw [decL_digL, if_pos hl45, show -(((-n).toNat : Nat) : Int) = n by omega, if_pos hnl] at this
      refine ev_succ ?_
      simp only [annuletref07_Get.l0, strOfNums_size, bt_str hb, hl45]
      have hlen : 1 < l.length := by rw [hsh]; simp; omega
      simp only [if_pos (show (0 : Int) < (l.length : Int) by omega), if_pos (show (0 : Int) ≤ 0 by omega), if_true, decide_eq_true (show (l.length : Int) > 1 by omega)]
      refine ev_succ ?_
      simp only [annuletref07_Get.j1, if_true]
      rw [w64 (by omega) (by omega)]
      exact this
    · have hsh : l = digL n.toNat := by rw [← hnl]; unfold numL; rw [if_neg hneg]
      have hl45 : ¬ rd l 0 = 45 := by
        rw [← hnl, numL_neg]
        exact hneg
      have := lk_ref07_Get_digits l l 0 (by omega) hb rfl (by omega) (by rw [hsh]; exact digL_digits _) (by rw [hsh]; exact digL_len 18 _ (by omega)) (by rw [hsh, decL_digL]; omega) h0 _ 0 (by omega) rfl (by simp [decL])
      rw [if_neg hl45] at this
      have hd : decL l = n := by rw [hsh, decL_digL]; omega
      rw [hd, w64 (by omega) (by omega), if_pos hnl] at this
      exact this
  · have hm : ∀ n, InI n → numL n ≠ l := fun n hn he => hex ⟨n, hn, he⟩
    exact ⟨(0, 3), Or.inr (Or.inr ⟨h0, hm, rfl⟩), lk_ref07_Get_miss l hb hl h0 hm _ 0 0 (by omega) rfl (by omega) (by omega)⟩
/-! ### layer 12: trees, plainly -/
theorem drop_rd (l : List Int) (i : Nat) (h : i < l.length) : l.drop i = rd l (i : Int) :: l.drop (i + 1) := by
  rw [rd_nat, List.drop_eq_getElem_cons h]
  simp [List.getD, h]
theorem u8_inj {x y : Int} (hx : Byte x) (hy : Byte y) (h : UInt8.ofNat x.toNat = UInt8.ofNat y.toNat) : x = y := by
  have := congrArg UInt8.toNat h
  unfold Byte at hx hy
  simp only [UInt8.toNat_ofNat'] at this
  omega
def off (c : Int) (l : List Int) : Nat := lead (fun x => x != c) l
theorem idxB_off (c : Int) (hc : Byte c) : ∀ (l : List Int), Bytes l → idxB l c = if off c l < l.length then (off c l : Int) else -1
  | [], _ => by simp [idxB, Lib.bytesOf, Lib.indexByte, off, lead]
  | x :: l, hb => by
    have hx : Byte x := hb x (by simp)
    have ih := idxB_off c hc l (fun y hy => hb y (by simp [hy]))
    unfold idxB Lib.bytesOf at ih ⊢
    simp only [List.map_cons, Lib.indexByte]
    by_cases h : x = c
    · subst h
      simp [off, lead, Nat.toUInt8]
    · have hne : (UInt8.ofNat x.toNat == c.toNat.toUInt8) = false := by
        rw [beq_eq_false_iff_ne]
        intro he
        exact h (u8_inj hx hc he)
      rw [hne, ih]
      have ho : off c (x :: l) = off c l + 1 := by simp [off, lead, h]
      rw [ho]
      simp only [List.length_cons, Bool.false_eq_true, if_false]
      by_cases hl : off c l < l.length
      · have h1 : ((off c l : Int) == -1) = false := by rw [beq_eq_false_iff_ne]; omega
        simp only [if_pos hl, h1, Bool.false_eq_true, if_false]
        rw [if_pos (Nat.succ_lt_succ hl)]
        rfl
      · simp only [if_neg hl]
        rw [if_neg (fun h => hl (Nat.lt_of_succ_lt_succ h))]
        rfl
theorem off_at {c : Int} {l : List Int} (h : off c l < l.length) : l = l.take (off c l) ++ c :: l.drop (off c l + 1) := by
  have h1 := lead_stop (fun x => x != c) l h
  have h2 : rd l (off c l : Int) = c := by
    rw [rd_nat]
    have : (l.getD (off c l) 0 != c) = false := h1
    exact bne_eq_false_iff_eq.1 this
  have h3 := drop_rd l _ h
  rw [h2] at h3
  rw [← h3, List.take_append_drop]
theorem off_app (c : Int) : ∀ (a b : List Int), c ∉ a → off c (a ++ c :: b) = a.length
  | [], b, _ => by simp [off, lead]
  | x :: a, b, h => by
    have hx : ¬ x = c := fun e => h (by simp [e])
    have := off_app c a b (fun hm => h (by simp [hm]))
    simp only [off] at this ⊢
    simp [lead, hx, this]
/-- numbers: what stands ahead of a byte -/
theorem lk_upTo (l : List Int) (hb : Bytes l) (c : Int) (hc : Byte c) :
    (∃ e r', e ≠ 0 ∧ Ev (fun k => ben_upTo.f k l c) (.wrong e, r') ∧ ((off c l ≥ l.length ∧ e = 2) ∨ (off c l < l.length ∧ e = 3 ∧ ∃ r : Int × Int, IsGet (l.take (off c l)) r ∧ r.2 ≠ 0))) ∨
    (∃ n, InI n ∧ off c l < l.length ∧ l.take (off c l) = numL n ∧ Ev (fun k => ben_upTo.f k l c) (.num n, l.drop (off c l + 1))) := by
  have hi := idxB_off c hc l hb
  by_cases h : off c l < l.length
  · rw [if_pos h] at hi
    obtain ⟨r, hr, hev⟩ := lk_num_Get_bits (l.take (off c l)) (bytes_take hb _)
    have key : Ev (fun k => ben_upTo.f k l c) (if r.2 = 0 then (.num r.1, l.drop (off c l + 1)) else (.wrong 3, l)) := by
      unfold ben_upTo.f
      simp only [hi, Int.toNat_natCast]
      simp only [if_neg (show ¬ (off c l : Int) < 0 by omega), if_pos (show (off c l : Int) < (l.length : Int) by omega)]
      refine ev_bind hev ?_
      by_cases h0 : r.2 = 0
      · simp only [if_pos h0]; exact ev_some _
      · simp only [if_neg h0]; exact ev_some _
    rcases hr with ⟨h1, rfl⟩ | ⟨n, hn, hnl, rfl⟩ | ⟨h1, h2, rfl⟩
    · refine .inl ⟨3, l, by decide, key, .inr ⟨h, rfl, _, .inl ⟨h1, rfl⟩, by decide⟩⟩
    · exact .inr ⟨n, hn, h, hnl.symm, key⟩
    · refine .inl ⟨3, l, by decide, key, .inr ⟨h, rfl, _, .inr (.inr ⟨h1, h2, rfl⟩), by decide⟩⟩
  · rw [if_neg h] at hi
    refine .inl ⟨2, l, by decide, ?_, .inl ⟨by omega, rfl⟩⟩
    unfold ben_upTo.f
    simp only [hi]
    simp only [if_pos (show (-1 : Int) < 0 by decide)]
    exact ev_some _
/-! ### trees: their bytes, and why they may not be -/
def txtL (s : ByteArray) : List Int := numL (s.size : Int) ++ 58 :: bytesOf s
mutual
def putT : S25 → List Int
  | ⟨k, n, s, keys, kids⟩ => if k = 1 then 105 :: (numL n ++ [101]) else if k = 2 then txtL s else (if k = 3 then 108 else 100) :: (putK (decide (k = 4)) keys kids ++ [101])
def putK : Bool → List ByteArray → List S25 → List Int
  | _, _, [] => []
  | d, keys, t :: ts => (if d = true then txtL (keys.headD ⟨#[]⟩) else []) ++ (putT t ++ putK d keys.tail ts)
end
def ascL : List ByteArray → Bool
  | [] => true
  | [_] => true
  | a :: b :: r => Op.bytesLess a.toList b.toList && ascL (b :: r)
def fitT (k n : Int) (s : ByteArray) (keys : List ByteArray) (kids : List S25) : Prop :=
  if k = 1 then s.toList = [] ∧ keys = [] ∧ kids = [] else if k = 2 then n = 0 ∧ keys = [] ∧ kids = [] else if k = 3 then n = 0 ∧ s.toList = [] ∧ keys = [] else n = 0 ∧ s.toList = [] ∧ keys.length = kids.length
def longT (s : ByteArray) (keys : List ByteArray) : Prop := s.size > 1048576 ∨ ∃ x ∈ keys, x.size > 1048576
open Classical in
noncomputable def whyHere (k n : Int) (s : ByteArray) (keys : List ByteArray) (kids : List S25) (a : Nat) : Int :=
  if a > 7 then 6 else if k < 1 ∨ k > 4 then 9 else if ¬ fitT k n s keys kids then 1 else if longT s keys then 5 else if ascL keys = true then 0 else 3
mutual
noncomputable def whyT : S25 → Nat → Int
  | ⟨k, n, s, keys, kids⟩, a => if whyHere k n s keys kids a = 0 then whyK kids (a + 1) else whyHere k n s keys kids a
noncomputable def whyK : List S25 → Nat → Int
  | [], _ => 0
  | t :: ts, a => if whyT t a = 0 then whyK ts a else whyT t a
end
mutual
def smallT : S25 → Prop
  | ⟨_, _, _, keys, kids⟩ => keys.length < 1000000000 ∧ kids.length < 1000000000 ∧ smallK kids
def smallK : List S25 → Prop
  | [] => True
  | t :: ts => smallT t ∧ smallK ts
end
theorem putK_list : ∀ (kids : List S25) (t : S25), putK false [] (kids ++ [t]) = putK false [] kids ++ putT t
  | [], t => by simp [putK]
  | x :: kids, t => by
    have := putK_list kids t
    simp only [List.cons_append, putK, List.tail_nil, this]
    simp
theorem putK_dict : ∀ (keys : List ByteArray) (kids : List S25) (x : ByteArray) (t : S25), keys.length = kids.length → putK true (keys ++ [x]) (kids ++ [t]) = putK true keys kids ++ (txtL x ++ putT t)
  | [], [], x, t, _ => by simp [putK]
  | [], _ :: _, _, _, h => by simp at h
  | _ :: _, [], _, _, h => by simp at h
  | y :: keys, u :: kids, x, t, h => by
    have := putK_dict keys kids x t (by simpa using h)
    simp only [List.cons_append, putK, List.tail_cons, List.headD_cons, this]
    simp
theorem whyK_snoc : ∀ (kids : List S25) (t : S25) (a : Nat), whyK kids a = 0 → whyT t a = 0 → whyK (kids ++ [t]) a = 0
  | [], t, a, _, h => by simp [whyK, h]
  | x :: kids, t, a, h0, h => by
    simp only [whyK] at h0
    by_cases hx : whyT x a = 0
    · rw [if_pos hx] at h0
      simp only [List.cons_append, whyK, if_pos hx]
      exact whyK_snoc kids t a h0 h
    · rw [if_neg hx] at h0
      exact absurd h0 hx
theorem smallK_snoc : ∀ (kids : List S25) (t : S25), smallK kids → smallT t → smallK (kids ++ [t])
  | [], t, _, h => by simp [smallK, h]
  | x :: kids, t, h0, h => by
    simp only [List.cons_append, smallK] at h0 ⊢
    exact ⟨h0.1, smallK_snoc kids t h0.2 h⟩
theorem u8_lt {x y : Int} (hx : Byte x) (hy : Byte y) : (UInt8.ofNat x.toNat < UInt8.ofNat y.toNat) ↔ x < y := by
  unfold Byte at hx hy
  rw [UInt8.lt_iff_toNat_lt]
  simp only [UInt8.toNat_ofNat']
  omega
theorem less_turn : ∀ a b : List UInt8, (!(Op.bytesLess a b || a == b)) = Op.bytesLess b a
  | [], [] => rfl
  | [], _ :: _ => rfl
  | _ :: _, [] => rfl
  | x :: a, y :: b => by
    have ih := less_turn a b
    simp only [Op.bytesLess]
    rcases Nat.lt_trichotomy x.toNat y.toNat with h | h | h
    · have h1 : x < y := UInt8.lt_iff_toNat_lt.2 h
      have h2 : ¬ y < x := fun h' => by have := UInt8.lt_iff_toNat_lt.1 h'; omega
      have h3 : ¬ y = x := fun h' => by rw [h'] at h; omega
      simp [h1, h2, h3]
    · obtain rfl : x = y := UInt8.toNat_inj.1 h
      have h2 : ¬ x < x := fun h' => by have := UInt8.lt_iff_toNat_lt.1 h'; omega
      simp only [h2, decide_false, beq_self_eq_true, Bool.true_and, Bool.false_or, ← ih]
      congr 2
      simp [List.cons_beq_cons]
    · have h1 : y < x := UInt8.lt_iff_toNat_lt.2 h
      have h2 : ¬ x < y := fun h' => by have := UInt8.lt_iff_toNat_lt.1 h'; omega
      have h3 : ¬ x = y := fun h' => by rw [h'] at h; omega
      have h4 : ¬ y = x := fun e => h3 e.symm
      simp [h1, h2, h3]
theorem ascL_snoc : ∀ (keys : List ByteArray) (x : ByteArray), ascL (keys ++ [x]) = (ascL keys && match keys.getLast? with | none => true | some y => Op.bytesLess y.toList x.toList)
  | [], x => by simp [ascL]
  | [y], x => by simp [ascL]
  | y :: z :: r, x => by
    have := ascL_snoc (z :: r) x
    simp only [List.cons_append, ascL] at this ⊢
    rw [this, Bool.and_assoc, List.getLast?_cons_cons]
theorem keyUp_less (keys : List ByteArray) (x : ByteArray) : keyUp keys x = match keys.getLast? with | none => true | some y => Op.bytesLess y.toList x.toList := by
  unfold keyUp
  cases keys.getLast? with
  | none => rfl
  | some y => exact less_turn _ _
theorem lk_find0 (l : List Int) (hb : Bytes l) (hl : l.length < 1000000000000) (c : Int) (d : Nat) : ∀ i : Nat, i ≤ l.length → l.length - i = d →
    Ev (fun k => annuletref12_find.l0 k (strOfNums l) c (i : Int)) (if off c (l.drop i) < (l.drop i).length then ((i + off c (l.drop i) : Nat) : Int) else -1) := by
  induction d with
  | zero =>
    intro i hi hd
    refine ev_succ ?_
    simp only [annuletref12_find.l0, strOfNums_size]
    simp only [if_neg (show ¬ (i : Int) < (l.length : Int) by omega)]
    rw [List.drop_of_length_le (by omega)]
    exact ev_some _
  | succ d ih =>
    intro i hi hd
    refine ev_succ ?_
    simp only [annuletref12_find.l0, strOfNums_size, bt_str hb]
    simp only [if_pos (show (i : Int) < (l.length : Int) by omega), if_pos (show (0 : Int) ≤ (i : Int) by omega)]
    rw [drop_rd l i (by omega)]
    by_cases h : rd l (i : Int) = c
    · simp only [if_pos h]
      have : off c (rd l (i : Int) :: l.drop (i + 1)) = 0 := by simp [off, lead, h]
      rw [this, if_pos (by simp)]
      exact ev_some _
    · simp only [if_neg h]
      have : off c (rd l (i : Int) :: l.drop (i + 1)) = off c (l.drop (i + 1)) + 1 := by simp [off, lead, h]
      rw [this, w64 (by omega) (by omega)]
      have hh := ih (i + 1) (by omega) (by omega)
      refine ev_eq hh ?_
      simp only [List.length_cons]
      by_cases h2 : off c (l.drop (i + 1)) < (l.drop (i + 1)).length
      · rw [if_pos h2, if_pos (by omega)]; omega
      · rw [if_neg h2, if_neg (by omega)]
theorem num_both (l : List Int) (hb : Bytes l) (hl : l.length < 1000000000) (at_ : Nat) (hat : at_ ≤ l.length) (c : Int) (hc : Byte c) :
    (∃ e r', e ≠ 0 ∧ Ev (fun k => ben_upTo.f k (l.drop at_) c) (.wrong e, r') ∧ Ev (fun k => annuletref12_number.f k (strOfNums l) (at_ : Int) c) (0, 0, e)) ∨
    (∃ n m, InI n ∧ at_ < m ∧ m ≤ l.length ∧ l.drop at_ = numL n ++ c :: l.drop m ∧ Ev (fun k => ben_upTo.f k (l.drop at_) c) (.num n, l.drop m) ∧ Ev (fun k => annuletref12_number.f k (strOfNums l) (at_ : Int) c) (n, (m : Int), 0)) := by
  have hf := lk_find0 l hb (by omega) c _ at_ hat rfl
  have hlen : (l.drop at_).length = l.length - at_ := List.length_drop
  rcases lk_upTo (l.drop at_) (bytes_drop hb _) c hc with ⟨e, r', he, hev, hw⟩ | ⟨n, hn, ho, ht, hev⟩
  · refine .inl ⟨e, r', he, hev, ?_⟩
    unfold annuletref12_number.f annuletref12_find.f
    rcases hw with ⟨h1, rfl⟩ | ⟨h1, rfl, r, hr, hr2⟩
    · rw [if_neg (by omega)] at hf
      refine ev_bind hf ?_
      simp only [if_pos (show (-1 : Int) < 0 by decide)]
      exact ev_some _
    · rw [if_pos h1] at hf
      refine ev_bind hf ?_
      simp only [strOfNums_size, str_extract, Int.toNat_natCast]
      simp only [if_neg (show ¬ ((at_ + off c (l.drop at_) : Nat) : Int) < 0 by omega), if_pos (show (0 : Int) ≤ (at_ : Int) by omega), if_pos (show (at_ : Int) ≤ ((at_ + off c (l.drop at_) : Nat) : Int) by omega), if_pos (show ((at_ + off c (l.drop at_) : Nat) : Int) ≤ (l.length : Int) by omega)]
      obtain ⟨r2, hg, hgev⟩ := lk_ref07_Get ((l.drop at_).take (off c (l.drop at_))) (bytes_take (bytes_drop hb _) _) (by rw [List.length_take]; omega)
      rw [List.drop_take, show at_ + off c (l.drop at_) - at_ = off c (l.drop at_) by omega]
      refine ev_bind hgev ?_
      have := isGet_uniq hr hg
      subst this
      simp only [if_neg hr2]
      exact ev_some _
  · refine .inr ⟨n, at_ + off c (l.drop at_) + 1, hn, by omega, by omega, ?_, ?_, ?_⟩
    · have := off_at ho
      rw [ht, List.drop_drop] at this
      rw [show at_ + off c (l.drop at_) + 1 = at_ + (off c (l.drop at_) + 1) by omega]
      exact this
    · rw [List.drop_drop] at hev
      rw [show at_ + off c (l.drop at_) + 1 = at_ + (off c (l.drop at_) + 1) by omega]
      exact hev
    · unfold annuletref12_number.f annuletref12_find.f
      rw [if_pos ho] at hf
      refine ev_bind hf ?_
      simp only [strOfNums_size, str_extract, Int.toNat_natCast]
      simp only [if_neg (show ¬ ((at_ + off c (l.drop at_) : Nat) : Int) < 0 by omega), if_pos (show (0 : Int) ≤ (at_ : Int) by omega), if_pos (show (at_ : Int) ≤ ((at_ + off c (l.drop at_) : Nat) : Int) by omega), if_pos (show ((at_ + off c (l.drop at_) : Nat) : Int) ≤ (l.length : Int) by omega)]
      obtain ⟨r2, hg, hgev⟩ := lk_ref07_Get ((l.drop at_).take (off c (l.drop at_))) (bytes_take (bytes_drop hb _) _) (by rw [List.length_take]; omega)
      rw [List.drop_take, show at_ + off c (l.drop at_) - at_ = off c (l.drop at_) by omega]
      refine ev_bind hgev ?_
      have hr : IsGet ((l.drop at_).take (off c (l.drop at_))) (n, 0) := .inr (.inl ⟨n, hn, ht.symm, rfl⟩)
      have := isGet_uniq hr hg
      subst this
      simp only [if_true]
      rw [w64 (by omega) (by omega)]
      refine ev_eq (ev_some _) ?_
      congr 2
theorem numL_nonneg_head {n : Int} {c : Int} {t : List Int} (h : numL n ++ c :: t ≠ []) (hd : rd (numL n ++ c :: t) 0 ≠ 45) : 0 ≤ n := by
  refine Int.not_lt.1 fun hn => hd ?_
  have := (numL_neg n).2 hn
  have hne := numL_ne n
  rcases hq : numL n with _ | ⟨x, r⟩
  · exact absurd hq hne
  · rw [hq] at this
    simpa [rd] using this
theorem word_both (l : List Int) (hb : Bytes l) (hl : l.length < 1000000000) (at_ : Nat) (hat : at_ < l.length) (hd : rd l (at_ : Int) ≠ 45) :
    (∃ e r', e ≠ 0 ∧ Ev (fun k => rb_text.f k (l.drop at_)) (.wrong e, r') ∧ Ev (fun k => annuletref12_word.f k (strOfNums l) (at_ : Int)) (⟨#[]⟩, 0, e)) ∨
    (∃ g m, Bytes g ∧ g.length ≤ 1048576 ∧ at_ < m ∧ m ≤ l.length ∧ l.drop at_ = numL (g.length : Int) ++ 58 :: (g ++ l.drop m) ∧ Ev (fun k => rb_text.f k (l.drop at_)) (.text (strOfNums g), l.drop m) ∧ Ev (fun k => annuletref12_word.f k (strOfNums l) (at_ : Int)) (strOfNums g, (m : Int), 0)) := by
  rcases num_both l hb hl at_ (by omega) 58 ⟨by decide, by decide⟩ with ⟨e, r', he, h1, h2⟩ | ⟨n, m, hn, h3, h4, h5, h1, h2⟩
  · refine .inl ⟨e, r', he, ?_, ?_⟩
    · unfold rb_text.f
      refine ev_bind h1 ?_
      exact ev_some _
    · unfold annuletref12_word.f
      refine ev_bind h2 ?_
      simp only [if_neg he]
      exact ev_some _
  · have hn0 : 0 ≤ n := by
      refine numL_nonneg_head (c := 58) (t := l.drop m) (by simp) ?_
      rw [← h5, drop_rd l at_ hat]
      simpa [rd] using hd
    have hdl : (l.drop m).length = l.length - m := List.length_drop
    by_cases hlong : n > 1048576
    · refine .inl ⟨5, l.drop m, by decide, ?_, ?_⟩
      · unfold rb_text.f
        refine ev_bind h1 ?_
        simp only [if_pos hlong]
        exact ev_some _
      · unfold annuletref12_word.f
        refine ev_bind h2 ?_
        simp only [if_true, if_pos hlong]
        exact ev_some _
    · by_cases hsh : n > (l.length : Int) - m
      · refine .inl ⟨2, l.drop m, by decide, ?_, ?_⟩
        · unfold rb_text.f
          refine ev_bind h1 ?_
          simp only [if_neg hlong, if_pos (show n > ((l.drop m).length : Int) by omega)]
          exact ev_some _
        · unfold annuletref12_word.f
          refine ev_bind h2 ?_
          simp only [if_true, if_neg hlong, strOfNums_size]
          simp only [w64 (n := (l.length : Int) - m) (by omega) (by omega), if_pos (show (l.length : Int) - m < n by omega)]
          exact ev_some _
      · obtain ⟨N, rfl⟩ := Int.eq_ofNat_of_zero_le hn0
        have hN : ((l.drop m).take N).length = N := by rw [List.length_take]; omega
        refine .inr ⟨(l.drop m).take N, m + N, bytes_take (bytes_drop hb _) _, by omega, by omega, by omega, ?_, ?_, ?_⟩
        · rw [hN, h5, ← List.drop_drop, List.take_append_drop]
        · unfold rb_text.f
          refine ev_bind h1 ?_
          simp only [if_neg hlong, if_neg (show ¬ (N : Int) > ((l.drop m).length : Int) by omega), if_pos hn0, Int.toNat_natCast, List.drop_drop]
          exact ev_some _
        · unfold annuletref12_word.f
          refine ev_bind h2 ?_
          simp only [if_true, if_neg hlong, strOfNums_size]
          simp only [w64 (n := (l.length : Int) - m) (by omega) (by omega), w64 (n := (m : Int) + N) (by omega) (by omega), if_neg (show ¬ (l.length : Int) - m < N by omega), if_pos (show (0 : Int) ≤ (m : Int) by omega), if_pos (show (m : Int) ≤ (m : Int) + N by omega), if_pos (show (m : Int) + N ≤ (l.length : Int) by omega)]
          rw [str_extract, show ((m : Int) + N).toNat = m + N by omega, Int.toNat_natCast, List.drop_take, show m + N - m = N by omega]
          refine ev_eq (ev_some _) ?_
          congr 2
theorem lk_Less0 (a b : List Int) (ha : Bytes a) (hb : Bytes b) (hl : a.length < 1000000000000) (d : Nat) : ∀ i : Nat, i ≤ a.length → i ≤ b.length → a.length - i = d →
    Ev (fun k => annuletref11_Less.l0 k (strOfNums a) (strOfNums b) (i : Int)) (Op.bytesLess ((a.drop i).map fun n => UInt8.ofNat n.toNat) ((b.drop i).map fun n => UInt8.ofNat n.toNat)) := by
  induction d with
  | zero =>
    intro i h1 h2 hd
    refine ev_succ ?_
    simp only [annuletref11_Less.l0, strOfNums_size, if_neg (show ¬ (i : Int) < (a.length : Int) by omega)]
    refine ev_succ ?_
    simp only [annuletref11_Less.j1, Bool.false_eq_true, if_false, strOfNums_size]
    rw [List.drop_of_length_le (l := a) (by omega)]
    refine ev_eq (ev_some _) ?_
    by_cases h : i < b.length
    · rw [drop_rd b i h, decide_eq_true (by omega)]; rfl
    · rw [List.drop_of_length_le (by omega), decide_eq_false (by omega)]; rfl
  | succ d ih =>
    intro i h1 h2 hd
    refine ev_succ ?_
    simp only [annuletref11_Less.l0, strOfNums_size, if_pos (show (i : Int) < (a.length : Int) by omega)]
    refine ev_succ ?_
    rw [drop_rd a i (by omega)]
    by_cases h : i < b.length
    · simp only [annuletref11_Less.j1, strOfNums_size, bt_str ha, bt_str hb, decide_eq_true (show (i : Int) < (b.length : Int) by omega), if_true, if_pos (show (0 : Int) ≤ (i : Int) by omega), if_pos (show (i : Int) < (a.length : Int) by omega), if_pos (show (i : Int) < (b.length : Int) by omega)]
      rw [drop_rd b i h]
      have hx := rd_byte ha (i : Int)
      have hy := rd_byte hb (i : Int)
      simp only [List.map_cons, Op.bytesLess]
      by_cases he : rd a (i : Int) = rd b (i : Int)
      · simp only [if_pos he]
        rw [w64 (by omega) (by omega)]
        refine ev_eq (ih (i + 1) (by omega) (by omega) (by omega)) ?_
        have : ¬ UInt8.ofNat (rd b (i : Int)).toNat < UInt8.ofNat (rd b (i : Int)).toNat := fun h' => by have := (u8_lt hy hy).1 h'; omega
        simp [he]
      · simp only [if_neg he]
        refine ev_eq (ev_some _) ?_
        have h3 : ¬ UInt8.ofNat (rd a (i : Int)).toNat = UInt8.ofNat (rd b (i : Int)).toNat := fun h' => he (u8_inj hx hy h')
        have h4 := u8_lt hx hy
        simp [h3, h4]
    · simp only [decide_eq_false (show ¬ (i : Int) < (b.length : Int) by omega), annuletref11_Less.j1, Bool.false_eq_true, if_false, strOfNums_size]
      rw [List.drop_of_length_le (l := b) (by omega), decide_eq_false (by omega)]
      exact ev_some _
theorem lk_Less (a b : ByteArray) (hl : a.size < 1000000000000) : Ev (fun k => annuletref11_Less.f k a b) (Op.bytesLess a.toList b.toList) := by
  obtain ⟨x, hx, rfl⟩ := str_of a
  obtain ⟨y, hy, rfl⟩ := str_of b
  rw [strOfNums_size] at hl
  have := lk_Less0 x y hx hy hl _ 0 (Nat.zero_le _) (Nat.zero_le _) rfl
  rw [str_toList, str_toList]
  exact this
theorem ev_map {α β : Type} {g : Nat → Option α} {f : α → β} {r : α} (h : Ev g r) : Ev (fun k => (g k).map f) (f r) := by
  obtain ⟨K, hK⟩ := h
  exact ⟨K, fun k hk => by simp only [hK k hk, Option.map_some]⟩
def T0 (dict : Bool) (keys : List ByteArray) (kids : List S25) : S25 := ⟨if dict = true then 4 else 3, 0, ⟨#[]⟩, keys, kids⟩
def VB (l : List Int) (at_ a : Nat) : Prop :=
  (∃ e r' m', e ≠ 0 ∧ Ev (fun k => bV.f k (l.drop at_) ((a : Int) + 1)) (z25, e, r') ∧ Ev (fun k => rv.f k (strOfNums l) (at_ : Int) (a : Int)) (z25, m', e)) ∨
  (∃ T m, at_ < m ∧ m ≤ l.length ∧ whyT T a = 0 ∧ smallT T ∧ l.drop at_ = putT T ++ l.drop m ∧ Ev (fun k => bV.f k (l.drop at_) ((a : Int) + 1)) (T, 0, l.drop m) ∧ Ev (fun k => rv.f k (strOfNums l) (at_ : Int) (a : Int)) (T, (m : Int), 0))
structure InvL (dict : Bool) (a : Nat) (keys : List ByteArray) (kids : List S25) : Prop where
  why : whyK kids (a + 1) = 0
  small : smallK kids
  yes : dict = true → keys.length = kids.length ∧ ascL keys = true ∧ ∀ x ∈ keys, x.size ≤ 1048576
  no : dict = false → keys = []
def LBend (l : List Int) (at0 at_ a : Nat) (dict : Bool) (keys : List ByteArray) (kids : List S25) : Prop :=
  (∃ e r' m', e ≠ 0 ∧ Ev (fun k => bM.f k (l.drop at_) ((a : Int) + 1) dict (T0 dict keys kids)) (z25, e, r') ∧ Ev (fun k => rl.f k (strOfNums l) (at_ : Int) (a : Int) dict (T0 dict keys kids)) (z25, m', e)) ∨
  (∃ keys' kids' m, at_ < m ∧ m ≤ l.length ∧ InvL dict a keys' kids' ∧ keys'.length ≤ l.length ∧ kids'.length ≤ l.length ∧ l.drop at0 = putK dict keys' kids' ++ 101 :: l.drop m ∧
    Ev (fun k => bM.f k (l.drop at_) ((a : Int) + 1) dict (T0 dict keys kids)) (T0 dict keys' kids', 0, l.drop m) ∧ Ev (fun k => rl.f k (strOfNums l) (at_ : Int) (a : Int) dict (T0 dict keys kids)) (T0 dict keys' kids', (m : Int), 0))
def kpB (k : Nat) (rest : List Int) (dict : Bool) (keys : List ByteArray) : Option (List ByteArray × Int × List Int) := if dict = true then (rb_key.f k rest keys).map (fun q => (keys ++ [q.1], q.2.1, q.2.2)) else some (keys, 0, rest)
def kpR (k : Nat) (s : ByteArray) (at_ : Int) (dict : Bool) (keys : List ByteArray) : Option (List ByteArray × Int × Int) := if dict = true then (if at_ ≥ (s.size : Int) then some (keys, 0, 2) else (annuletref12_digit.f (bt s at_)).bind fun dg => if dg = true then (annuletref12_word.f k s at_).bind fun r => if r.2.2 = 0 then
          (match keys.getLast? with | none => some (keys ++ [r.1], r.2.1, 0) | some y => (annuletref11_Less.f k y r.1).bind fun lt => if lt = true then some (keys ++ [r.1], r.2.1, 0) else some (keys, 0, 3))
          else some (keys, 0, r.2.2) else some (keys, 0, 3)) else some (keys, at_, 0)
theorem dig_ref (c : Int) : annuletref12_digit.f c = some (digB c) := by
  unfold annuletref12_digit.f digB
  by_cases h : c > 47
  · rw [if_pos h, decide_eq_true (show 48 ≤ c by omega)]
    simp
    omega
  · rw [if_neg h, decide_eq_false (show ¬ 48 ≤ c by omega)]
    rfl
theorem digB_45 {c : Int} (h : digB c = true) : c ≠ 45 ∧ 48 ≤ c ∧ c ≤ 57 := by
  unfold digB at h
  rw [Bool.and_eq_true] at h
  have h1 := of_decide_eq_true h.1
  have h2 := of_decide_eq_true h.2
  omega
theorem size_nums (g : List Int) : (strOfNums g).size = g.length := strOfNums_size g
/-- a key, where one is wanted -/
theorem key_both (l : List Int) (hb : Bytes l) (hl : l.length < 1000000000) (at_ : Nat) (hat : at_ ≤ l.length) (dict : Bool) (keys : List ByteArray) (hk : dict = true → ∀ x ∈ keys, x.size ≤ 1048576) :
    (∃ e ks r' ks' m', e ≠ 0 ∧ Ev (fun k => kpB k (l.drop at_) dict keys) (ks, e, r') ∧ Ev (fun k => kpR k (strOfNums l) (at_ : Int) dict keys) (ks', m', e)) ∨
    (∃ keys1 at1, at_ ≤ at1 ∧ at1 ≤ l.length ∧ Ev (fun k => kpB k (l.drop at_) dict keys) (keys1, 0, l.drop at1) ∧ Ev (fun k => kpR k (strOfNums l) (at_ : Int) dict keys) (keys1, (at1 : Int), 0) ∧
      (dict = false → keys1 = keys ∧ at1 = at_) ∧ (dict = true → ∃ x, keys1 = keys ++ [x] ∧ at_ < at1 ∧ x.size ≤ 1048576 ∧ (match keys.getLast? with | none => true | some y => Op.bytesLess y.toList x.toList) = true ∧ l.drop at_ = txtL x ++ l.drop at1)) := by
  cases dict with
  | false =>
    refine .inr ⟨keys, at_, Nat.le_refl _, hat, ev_some _, ev_some _, fun _ => ⟨rfl, rfl⟩, fun h => by cases h⟩
  | true =>
    have hk := hk rfl
    unfold kpB kpR
    simp only [if_true, strOfNums_size]
    by_cases h0 : at_ < l.length
    · simp only [if_neg (show ¬ (at_ : Int) ≥ (l.length : Int) by omega), bt_str hb, dig_ref, Option.bind_some]
      have hdr := drop_rd l at_ h0
      by_cases hd : digB (rd l (at_ : Int)) = true
      · simp only [if_pos hd]
        rcases word_both l hb hl at_ h0 (digB_45 hd).1 with ⟨e, r', he, h1, h2⟩ | ⟨g, m, hg, hgl, h3, h4, h5, h1, h2⟩
        · refine .inl ⟨e, _, _, keys, 0, he, ev_map (r := (⟨#[]⟩, e, r')) ?_, ev_bind h2 ?_⟩
          · rw [hdr] at h1 ⊢
            simp only [rb_key.f, if_pos hd]
            refine ev_bind h1 ?_
            exact ev_some _
          · simp only [if_neg he]
            exact ev_some _
        · have hup := keyUp_less keys (strOfNums g)
          have hkey : ∀ b, keyUp keys (strOfNums g) = b → Ev (fun k => rb_key.f k (l.drop at_) keys) (if b = true then (strOfNums g, 0, l.drop m) else (⟨#[]⟩, 3, l.drop m)) := by
            intro b hbq
            rw [hdr] at h1 ⊢
            simp only [rb_key.f, if_pos hd]
            refine ev_bind h1 ?_
            simp only [hbq]
            cases b
            · exact ev_some _
            · exact ev_some _
          have htx : l.drop at_ = txtL (strOfNums g) ++ l.drop m := by
            unfold txtL
            rw [size_nums, bytesOf_str hg, h5, List.append_assoc]
            rfl
          cases hlast : keys.getLast? with
          | none =>
            rw [hlast] at hup
            have := ev_map (f := fun q : ByteArray × Int × List Int => (keys ++ [q.1], q.2.1, q.2.2)) (hkey true hup)
            refine .inr ⟨keys ++ [strOfNums g], m, by omega, h4, this, ev_bind h2 ?_, (fun h => by cases h), fun _ => ⟨strOfNums g, rfl, h3, by rw [size_nums]; exact hgl, rfl, htx⟩⟩
            simp only [if_true]
            exact ev_some _
          | some y =>
            rw [hlast] at hup
            dsimp only at hup
            have hy : y ∈ keys := List.mem_of_getLast? hlast
            have hless := lk_Less y (strOfNums g) (by have := hk y hy; omega)
            by_cases hlt : Op.bytesLess y.toList (strOfNums g).toList = true
            · have := ev_map (f := fun q : ByteArray × Int × List Int => (keys ++ [q.1], q.2.1, q.2.2)) (hkey true (by rw [hup, hlt]))
              refine .inr ⟨keys ++ [strOfNums g], m, by omega, h4, this, ev_bind h2 ?_, (fun h => by cases h), fun _ => ⟨strOfNums g, rfl, h3, by rw [size_nums]; exact hgl, hlt, htx⟩⟩
              simp only [if_true]
              refine ev_bind hless ?_
              simp only [if_pos hlt]
              exact ev_some _
            · have := ev_map (f := fun q : ByteArray × Int × List Int => (keys ++ [q.1], q.2.1, q.2.2)) (hkey false (by rw [hup]; simpa using hlt))
              refine .inl ⟨3, _, _, keys, 0, by decide, this, ev_bind h2 ?_⟩
              simp only [if_true]
              refine ev_bind hless ?_
              simp only [if_neg hlt]
              exact ev_some _
      · simp only [if_neg hd]
        refine .inl ⟨3, _, _, keys, 0, by decide, ev_map (r := (⟨#[]⟩, 3, l.drop at_)) ?_, ev_some _⟩
        rw [hdr]
        simp only [rb_key.f, if_neg hd]
        exact ev_some _
    · simp only [if_pos (show (at_ : Int) ≥ (l.length : Int) by omega)]
      refine .inl ⟨2, _, _, keys, 0, by decide, ev_map (r := (⟨#[]⟩, 2, [])) ?_, ev_some _⟩
      rw [List.drop_of_length_le (by omega)]
      exact ev_some _
theorem bM_step (k : Nat) (rest : List Int) (level : Int) (dict : Bool) (keys : List ByteArray) (kids : List S25) (h1 : keys.length < 1099511627776) (h2 : kids.length < 1099511627776) (he : (rb_ends.f rest).1 = false) :
    bM.f (k + 1) rest level dict (T0 dict keys kids) = (kpB k rest dict keys).bind fun q => if q.2.1 = 0 then (bV.f k q.2.2 (wrap64 (level + 1))).bind fun r => if r.2.1 = 0 then bM.f k r.2.2 level dict (T0 dict q.1 (kids ++ [r.1])) else some (z25, r.2.1, r.2.2) else some (z25, q.2.1, q.2.2) := by
  rw [bM.f, he]
  simp only [Bool.false_eq_true, if_false]
  rw [if_pos (show (T0 dict keys kids).f3.length < 1099511627776 ∧ (T0 dict keys kids).f4.length < 1099511627776 from ⟨h1, h2⟩)]
  rfl
theorem rl_step (k : Nat) (s : ByteArray) (at_ ahead : Int) (dict : Bool) (keys : List ByteArray) (kids : List S25) (h0 : 0 ≤ at_) (h1 : keys.length < 1099511627776) (h2 : kids.length < 1099511627776) (he : ¬ (at_ < (s.size : Int) ∧ 0 ≤ at_ ∧ bt s at_ = 101)) :
    rl.f (k + 1) s at_ ahead dict (T0 dict keys kids) = (kpR k s at_ dict keys).bind fun q => if q.2.2 = 0 then (rv.f k s q.2.1 (wrap64 (ahead + 1))).bind fun r => if r.2.2 = 0 then rl.f k s r.2.1 ahead dict (T0 dict q.1 (kids ++ [r.1])) else some (z25, 0, r.2.2) else some (z25, 0, q.2.2) := by
  rw [rl.f, if_neg he]
  rw [if_pos (show 0 ≤ at_ ∧ (T0 dict keys kids).f3.length < 1099511627776 ∧ (T0 dict keys kids).f4.length < 1099511627776 from ⟨h0, h1, h2⟩)]
  rfl
theorem list_both (l : List Int) (hb : Bytes l) (hl : l.length < 1000000000) (a : Nat) (ha : a ≤ 7) (dict : Bool) (at0 n : Nat) (hV : ∀ at1, at0 ≤ at1 → at1 ≤ l.length → l.length - at1 ≤ n → VB l at1 (a + 1)) :
    ∀ d at_ keys kids, l.length - at_ ≤ d → d ≤ n → at0 ≤ at_ → at_ ≤ l.length → keys.length ≤ at_ → kids.length ≤ at_ → InvL dict a keys kids → l.drop at0 = putK dict keys kids ++ l.drop at_ → LBend l at0 at_ a dict keys kids := by
  intro d
  induction d with
  | zero =>
    intro at_ keys kids hd hn h0 hat hk1 hk2 hI hp
    have hnil : l.drop at_ = [] := List.drop_of_length_le (by omega)
    have heB : (rb_ends.f (l.drop at_)).1 = false := by rw [hnil]; rfl
    have heR : ¬ ((at_ : Int) < ((strOfNums l).size : Int) ∧ 0 ≤ (at_ : Int) ∧ bt (strOfNums l) (at_ : Int) = 101) := by rw [strOfNums_size]; omega
    rcases key_both l hb hl at_ hat dict keys (fun h => (hI.yes h).2.2) with ⟨e, ks, r', ks', m', he, h1, h2⟩ | ⟨keys1, at1, g1, g2, h1, h2, h3, h4⟩
    · refine .inl ⟨e, r', 0, he, ev_succ ?_, ev_succ ?_⟩
      · simp only [bM_step _ _ _ _ keys kids (by omega) (by omega) heB]
        refine ev_bind h1 ?_
        simp only [if_neg he]
        exact ev_some _
      · simp only [rl_step _ _ _ _ _ keys kids (Int.natCast_nonneg _) (by omega) (by omega) heR]
        refine ev_bind h2 ?_
        simp only [if_neg he]
        exact ev_some _
    · obtain rfl : at1 = at_ := by omega
      have hwl : wrap64 ((a : Int) + 1 + 1) = ((a + 1 : Nat) : Int) + 1 := by rw [w64 (by omega) (by omega)]; omega
      have hwa : wrap64 ((a : Int) + 1) = ((a + 1 : Nat) : Int) := by rw [w64 (by omega) (by omega)]; omega
      rcases hV at1 (by omega) (by omega) (by omega) with ⟨e, r', m', he, h5, h6⟩ | ⟨T, m, h5, h6, _⟩
      · refine .inl ⟨e, r', 0, he, ev_succ ?_, ev_succ ?_⟩
        · simp only [bM_step _ _ _ _ keys kids (by omega) (by omega) heB]
          refine ev_bind h1 ?_
          simp only [if_true, hwl]
          refine ev_bind h5 ?_
          simp only [if_neg he]
          exact ev_some _
        · simp only [rl_step _ _ _ _ _ keys kids (Int.natCast_nonneg _) (by omega) (by omega) heR]
          refine ev_bind h2 ?_
          simp only [if_true, hwa]
          refine ev_bind h6 ?_
          simp only [if_neg he]
          exact ev_some _
      · omega
  | succ d ih =>
    intro at_ keys kids hd hn h0 hat hk1 hk2 hI hp
    by_cases hend : at_ < l.length ∧ rd l (at_ : Int) = 101
    · have hdr := drop_rd l at_ hend.1
      rw [hend.2] at hdr
      refine .inr ⟨keys, kids, at_ + 1, by omega, by omega, hI, by omega, by omega, by rw [hp, hdr], ev_succ ?_, ev_succ ?_⟩
      · simp only [bM.f, hdr, rb_ends.f, if_true]
        exact ev_some _
      · simp only [rl.f, strOfNums_size, bt_str hb]
        simp only [if_pos (show (at_ : Int) < (l.length : Int) ∧ 0 ≤ (at_ : Int) ∧ rd l (at_ : Int) = 101 from ⟨by omega, by omega, hend.2⟩), w64 (n := (at_ : Int) + 1) (by omega) (by omega)]
        exact ev_some _
    · have heB : (rb_ends.f (l.drop at_)).1 = false := by
        by_cases h : at_ < l.length
        · rw [drop_rd l at_ h]
          have : ¬ rd l (at_ : Int) = 101 := fun h' => hend ⟨h, h'⟩
          simp [rb_ends.f, this]
        · rw [List.drop_of_length_le (by omega)]; rfl
      have heR : ¬ ((at_ : Int) < ((strOfNums l).size : Int) ∧ 0 ≤ (at_ : Int) ∧ bt (strOfNums l) (at_ : Int) = 101) := by
        rw [strOfNums_size, bt_str hb]
        intro h
        exact hend ⟨by omega, h.2.2⟩
      have hwl : wrap64 ((a : Int) + 1 + 1) = ((a + 1 : Nat) : Int) + 1 := by rw [w64 (by omega) (by omega)]; omega
      have hwa : wrap64 ((a : Int) + 1) = ((a + 1 : Nat) : Int) := by rw [w64 (by omega) (by omega)]; omega
      rcases key_both l hb hl at_ hat dict keys (fun h => (hI.yes h).2.2) with ⟨e, ks, r', ks', m', he, h1, h2⟩ | ⟨keys1, at1, g1, g2, h1, h2, h3, h4⟩
      · refine .inl ⟨e, r', 0, he, ev_succ ?_, ev_succ ?_⟩
        · simp only [bM_step _ _ _ _ keys kids (by omega) (by omega) heB]
          refine ev_bind h1 ?_
          simp only [if_neg he]
          exact ev_some _
        · simp only [rl_step _ _ _ _ _ keys kids (Int.natCast_nonneg _) (by omega) (by omega) heR]
          refine ev_bind h2 ?_
          simp only [if_neg he]
          exact ev_some _
      · rcases hV at1 (by omega) (by omega) (by omega) with ⟨e, r', m', he, h5, h6⟩ | ⟨T, m, h7, h8, hw, hs, hpt, h5, h6⟩
        · refine .inl ⟨e, r', 0, he, ev_succ ?_, ev_succ ?_⟩
          · simp only [bM_step _ _ _ _ keys kids (by omega) (by omega) heB]
            refine ev_bind h1 ?_
            simp only [if_true, hwl]
            refine ev_bind h5 ?_
            simp only [if_neg he]
            exact ev_some _
          · simp only [rl_step _ _ _ _ _ keys kids (Int.natCast_nonneg _) (by omega) (by omega) heR]
            refine ev_bind h2 ?_
            simp only [if_true, hwa]
            refine ev_bind h6 ?_
            simp only [if_neg he]
            exact ev_some _
        · have hI2 : InvL dict a keys1 (kids ++ [T]) := by
            refine ⟨whyK_snoc _ _ _ hI.why hw, smallK_snoc _ _ hI.small hs, fun hd => ?_, fun hd => ?_⟩
            · obtain ⟨x, rfl, _, hx, hlt, _⟩ := h4 hd
              obtain ⟨i1, i2, i3⟩ := hI.yes hd
              refine ⟨by simp [i1], by rw [ascL_snoc, i2, hlt]; rfl, fun y hy => ?_⟩
              rcases List.mem_append.1 hy with h | h
              · exact i3 y h
              · rw [List.mem_singleton.1 h]; exact hx
            · rw [(h3 hd).1]; exact hI.no hd
          have hp2 : l.drop at0 = putK dict keys1 (kids ++ [T]) ++ l.drop m := by
            cases dict with
            | false =>
              obtain ⟨rfl, rfl⟩ := h3 rfl
              have hk := hI.no rfl
              subst hk
              rw [putK_list, List.append_assoc, ← hpt, ← hp]
            | true =>
              obtain ⟨x, rfl, _, _, _, htx⟩ := h4 rfl
              rw [putK_dict _ _ _ _ (hI.yes rfl).1, List.append_assoc, List.append_assoc, ← hpt, ← htx, ← hp]
          have hk3 : keys1.length ≤ m := by
            cases dict with
            | false => rw [(h3 rfl).1]; omega
            | true =>
              obtain ⟨x, rfl, hlt, _⟩ := h4 rfl
              simp; omega
          have hrec := ih m keys1 (kids ++ [T]) (by omega) (by omega) (by omega) (by omega) hk3 (by simp; omega) hI2 hp2
          rcases hrec with ⟨e, r', m', he, h9, h10⟩ | ⟨keys', kids', m', g3, g4, g5, g6, g7, g8, h9, h10⟩
          · refine .inl ⟨e, r', m', he, ev_succ ?_, ev_succ ?_⟩
            · simp only [bM_step _ _ _ _ keys kids (by omega) (by omega) heB]
              refine ev_bind h1 ?_
              simp only [if_true, hwl]
              refine ev_bind h5 ?_
              simp only [if_true]
              exact h9
            · simp only [rl_step _ _ _ _ _ keys kids (Int.natCast_nonneg _) (by omega) (by omega) heR]
              refine ev_bind h2 ?_
              simp only [if_true, hwa]
              refine ev_bind h6 ?_
              simp only [if_true]
              exact h10
          · refine .inr ⟨keys', kids', m', by omega, g4, g5, g6, g7, g8, ev_succ ?_, ev_succ ?_⟩
            · simp only [bM_step _ _ _ _ keys kids (by omega) (by omega) heB]
              refine ev_bind h1 ?_
              simp only [if_true, hwl]
              refine ev_bind h5 ?_
              simp only [if_true]
              exact h9
            · simp only [rl_step _ _ _ _ _ keys kids (Int.natCast_nonneg _) (by omega) (by omega) heR]
              refine ev_bind h2 ?_
              simp only [if_true, hwa]
              refine ev_bind h6 ?_
              simp only [if_true]
              exact h10
theorem why_ok {k n : Int} {s : ByteArray} {keys : List ByteArray} {kids : List S25} {a : Nat} (ha : a ≤ 7) (hk : 1 ≤ k ∧ k ≤ 4) (hf : fitT k n s keys kids) (hl : ¬ longT s keys) (hasc : ascL keys = true) (hkids : whyK kids (a + 1) = 0) : whyT ⟨k, n, s, keys, kids⟩ a = 0 := by
  have : whyHere k n s keys kids a = 0 := by
    unfold whyHere
    rw [if_neg (by omega), if_neg (by omega), if_neg (fun h => h hf), if_neg hl, if_pos hasc]
  rw [whyT, if_pos this]
  exact hkids
theorem nil_toList : (⟨#[]⟩ : ByteArray).toList = [] := by rw [toList_data]
theorem why_list {dict : Bool} {a : Nat} {keys : List ByteArray} {kids : List S25} (ha : a ≤ 7) (h : InvL dict a keys kids) : whyT (T0 dict keys kids) a = 0 := by
  unfold T0
  cases dict with
  | false =>
    have := h.no rfl
    subst this
    exact why_ok ha ⟨by decide, by decide⟩ (by unfold fitT; simp [nil_toList]) (by unfold longT; rintro (h | ⟨x, hx, _⟩); exact absurd h (by decide); cases hx) rfl h.why
  | true =>
    obtain ⟨h1, h2, h3⟩ := h.yes rfl
    exact why_ok ha ⟨by decide, by decide⟩ (by unfold fitT; simp [nil_toList, h1]) (by unfold longT; rintro (h | ⟨x, hx, hs⟩); exact absurd h (by decide); have := h3 x hx; omega) h2 h.why
theorem putT_list (dict : Bool) (keys : List ByteArray) (kids : List S25) : putT (T0 dict keys kids) = (if dict = true then 100 else 108) :: (putK dict keys kids ++ [101]) := by
  cases dict <;> simp [T0, putT]
theorem bV_step (k : Nat) (rest : List Int) (level : Int) : bV.f (k + 1) rest level = (rb_part.f k rest level).bind fun p => match p.1 with
    | .wrong e => some (z25, e, p.2)
    | .num n => some (⟨1, n, ⟨#[]⟩, [], []⟩, 0, p.2)
    | .text s => some (⟨2, 0, s, [], []⟩, 0, p.2)
    | .opn c => bM.f k p.2 level (c == 100) (T0 (c == 100) [] []) := rfl
theorem value_both (l : List Int) (hb : Bytes l) (hl : l.length < 1000000000) : ∀ n at_ a, at_ ≤ l.length → l.length - at_ ≤ n → a ≤ 8 → VB l at_ a := by
  have hshort : ∀ at_ a, at_ = l.length → VB l at_ a := by
    intro at_ a h
    refine .inl ⟨2, [], 0, by decide, ev_succ ?_, ev_succ ?_⟩
    · rw [List.drop_of_length_le (by omega)]
      simp only [bV_step, rb_part.f, Option.bind_some]
      exact ev_some _
    · simp only [rv.f, strOfNums_size, if_pos (show (at_ : Int) ≥ (l.length : Int) by omega)]
      exact ev_some _
  intro n
  induction n with
  | zero => intro at_ a h0 hd ha; exact hshort at_ a (by omega)
  | succ n ih =>
    intro at_ a h0 hd ha
    by_cases hlt : at_ < l.length
    case neg => exact hshort at_ a (by omega)
    obtain ⟨c, hc⟩ : ∃ c, rd l (at_ : Int) = c := ⟨_, rfl⟩
    have hdr := drop_rd l at_ hlt
    rw [hc] at hdr
    have hR : ∀ k, rv.f (k + 1) (strOfNums l) (at_ : Int) (a : Int) = if digB c = false ∧ c ≠ 105 ∧ c ≠ 108 ∧ c ≠ 100 then some (z25, 0, 3)
      else if (a : Int) > 7 then some (z25, 0, 6)
      else if digB c = true then (annuletref12_word.f k (strOfNums l) (at_ : Int)).bind fun r => if r.2.2 = 0 then some (⟨2, 0, r.1, [], []⟩, r.2.1, 0) else some (z25, 0, r.2.2)
      else if c = 105 then (annuletref12_number.f k (strOfNums l) ((at_ + 1 : Nat) : Int) 101).bind fun r => if r.2.2 = 0 then some (⟨1, r.1, ⟨#[]⟩, [], []⟩, r.2.1, 0) else some (z25, 0, r.2.2)
      else rl.f k (strOfNums l) ((at_ + 1 : Nat) : Int) (a : Int) (c == 100) (T0 (c == 100) [] []) := by
      intro k
      rw [rv.f, strOfNums_size, bt_str hb, hc, dig_ref, if_neg (show ¬ (at_ : Int) ≥ (l.length : Int) by omega), if_pos (show (0 : Int) ≤ (at_ : Int) by omega), Option.bind_some, w64 (n := (at_ : Int) + 1) (by omega) (by omega)]
      rfl
    by_cases h1 : digB c = false ∧ c ≠ 105 ∧ c ≠ 108 ∧ c ≠ 100
    · refine .inl ⟨3, c :: l.drop (at_ + 1), 0, by decide, ev_succ ?_, ev_succ ?_⟩
      · simp only [hdr, bV_step, rb_part.f, if_pos (show c ≠ 105 ∧ c ≠ 108 ∧ c ≠ 100 ∧ digB c = false from ⟨h1.2.1, h1.2.2.1, h1.2.2.2, h1.1⟩), Option.bind_some]
        exact ev_some _
      · simp only [hR, if_pos h1]
        exact ev_some _
    have h1' : ¬ (c ≠ 105 ∧ c ≠ 108 ∧ c ≠ 100 ∧ digB c = false) := fun h => h1 ⟨h.2.2.2, h.1, h.2.1, h.2.2.1⟩
    by_cases h2 : a > 7
    · refine .inl ⟨6, c :: l.drop (at_ + 1), 0, by decide, ev_succ ?_, ev_succ ?_⟩
      · simp only [hdr, bV_step, rb_part.f, if_neg h1', if_pos (show (a : Int) + 1 > 8 by omega), Option.bind_some]
        exact ev_some _
      · simp only [hR, if_neg h1, if_pos (show (a : Int) > 7 by omega)]
        exact ev_some _
    have h2' : ¬ (a : Int) + 1 > 8 := by omega
    have h2'' : ¬ (a : Int) > 7 := by omega
    by_cases h3 : digB c = true
    · rcases word_both l hb hl at_ hlt (by rw [hc]; exact (digB_45 h3).1) with ⟨e, r', he, h5, h6⟩ | ⟨g, m, hg, hgl, h7, h8, hpt, h5, h6⟩
      · refine .inl ⟨e, r', 0, he, ev_succ ?_, ev_succ ?_⟩
        · rw [hdr] at h5 ⊢
          simp only [bV_step, rb_part.f, if_neg h1', if_neg h2', if_pos h3]
          refine ev_bind h5 ?_
          exact ev_some _
        · simp only [hR, if_neg h1, if_neg h2'', if_pos h3]
          refine ev_bind h6 ?_
          simp only [if_neg he]
          exact ev_some _
      · refine .inr ⟨⟨2, 0, strOfNums g, [], []⟩, m, h7, h8, ?_, by simp [smallT, smallK], ?_, ev_succ ?_, ev_succ ?_⟩
        · refine why_ok (by omega) ⟨by decide, by decide⟩ (by unfold fitT; simp) ?_ rfl (by simp [whyK])
          unfold longT
          rintro (h | ⟨x, hx, _⟩)
          · rw [strOfNums_size] at h; omega
          · cases hx
        · rw [hpt]
          simp [putT, txtL, strOfNums_size, bytesOf_str hg]
        · rw [hdr] at h5 ⊢
          simp only [bV_step, rb_part.f, if_neg h1', if_neg h2', if_pos h3]
          refine ev_bind h5 ?_
          exact ev_some _
        · simp only [hR, if_neg h1, if_neg h2'', if_pos h3]
          refine ev_bind h6 ?_
          simp only [if_true]
          exact ev_some _
    by_cases h4 : c = 105
    · rcases num_both l hb hl (at_ + 1) (by omega) 101 ⟨by decide, by decide⟩ with ⟨e, r', he, h5, h6⟩ | ⟨n', m, hn, h7, h8, hpt, h5, h6⟩
      · refine .inl ⟨e, r', 0, he, ev_succ ?_, ev_succ ?_⟩
        · simp only [hdr, bV_step, rb_part.f, if_neg h1', if_neg h2', if_neg h3, if_pos h4]
          refine ev_bind h5 ?_
          exact ev_some _
        · simp only [hR, if_neg h1, if_neg h2'', if_neg h3, if_pos h4]
          refine ev_bind h6 ?_
          simp only [if_neg he]
          exact ev_some _
      · refine .inr ⟨⟨1, n', ⟨#[]⟩, [], []⟩, m, by omega, h8, ?_, by simp [smallT, smallK], ?_, ev_succ ?_, ev_succ ?_⟩
        · refine why_ok (by omega) ⟨by decide, by decide⟩ (by unfold fitT; simp [nil_toList]) ?_ rfl (by simp [whyK])
          unfold longT
          rintro (h | ⟨x, hx, _⟩)
          · exact absurd h (by decide)
          · cases hx
        · rw [hdr, hpt, h4]
          simp [putT]
        · simp only [hdr, bV_step, rb_part.f, if_neg h1', if_neg h2', if_neg h3, if_pos h4]
          refine ev_bind h5 ?_
          exact ev_some _
        · simp only [hR, if_neg h1, if_neg h2'', if_neg h3, if_pos h4]
          refine ev_bind h6 ?_
          simp only [if_true]
          exact ev_some _
    have hcc : c = if (c == 100) = true then 100 else 108 := by
      by_cases h : c = 100
      · simp [h]
      · have h108 : c = 108 := by
          refine Classical.byContradiction fun h' => h1 ⟨by simpa using h3, h4, h', h⟩
        simp [h108]
    rcases list_both l hb hl a (by omega) (c == 100) (at_ + 1) n (fun at1 g1 g2 g3 => ih at1 (a + 1) g2 g3 (by omega)) _ (at_ + 1) [] [] (Nat.le_refl _) (by omega) (Nat.le_refl _) (by omega) (Nat.zero_le _) (Nat.zero_le _)
      ⟨by simp [whyK], by simp [smallK], fun _ => ⟨rfl, rfl, fun x hx => by cases hx⟩, fun _ => rfl⟩ (by simp [putK]) with ⟨e, r', m', he, h5, h6⟩ | ⟨keys', kids', m, g1, g2, hI, g3, g4, hpt, h5, h6⟩
    · refine .inl ⟨e, r', m', he, ev_succ ?_, ev_succ ?_⟩
      · simp only [hdr, bV_step, rb_part.f, if_neg h1', if_neg h2', if_neg h3, if_neg h4, Option.bind_some]
        exact h5
      · simp only [hR, if_neg h1, if_neg h2'', if_neg h3, if_neg h4]
        exact h6
    · refine .inr ⟨T0 (c == 100) keys' kids', m, by omega, g2, why_list (by omega) hI, ?_, ?_, ev_succ ?_, ev_succ ?_⟩
      · unfold T0
        rw [smallT]
        exact ⟨by omega, by omega, hI.small⟩
      · rw [hdr, hpt, putT_list, ← hcc]
        simp
      · simp only [hdr, bV_step, rb_part.f, if_neg h1', if_neg h2', if_neg h3, if_neg h4, Option.bind_some]
        exact h5
      · simp only [hR, if_neg h1, if_neg h2'', if_neg h3, if_neg h4]
        exact h6
theorem lk_texts_same (l : List ByteArray) (hl : l.length < 1000000000000) (d : Nat) : ∀ i : Nat, i ≤ l.length → l.length - i = d → Ev (fun k => annuletref11_texts.l0 k l l (i : Int)) true := by
  induction d with
  | zero =>
    intro i h hd
    refine ev_succ ?_
    simp only [annuletref11_texts.l0, if_neg (show ¬ (i : Int) < (l.length : Int) by omega)]
    exact ev_some _
  | succ d ih =>
    intro i h hd
    refine ev_succ ?_
    simp only [annuletref11_texts.l0, if_pos (show (i : Int) < (l.length : Int) by omega), if_pos (show (0 : Int) ≤ (i : Int) by omega), if_true]
    rw [w64 (by omega) (by omega)]
    exact ih (i + 1) (by omega) (by omega)
theorem rdT_nat (l : List S25) (i : Nat) (h : i < l.length) : rd_T25 l (i : Int) = l[i] := by simp [rd_T25, h, List.getD]
mutual
theorem lk_Same_self : ∀ (T : S25), smallT T → Ev (fun k => annuletref11_Same.f k T.f0 T.f1 T.f2 T.f3 T.f4 T.f0 T.f1 T.f2 T.f3 T.f4) true
  | ⟨k0, n, s, keys, kids⟩, h => by
    rw [smallT] at h
    refine ev_succ ?_
    simp only [annuletref11_Same.f, if_true]
    have h1 := lk_texts_same keys (by omega) _ 0 (Nat.zero_le _) rfl
    have h2 : Ev (fun k => annuletref11_texts.f k keys keys) true := by
      unfold annuletref11_texts.f
      simp only [if_true]
      exact h1
    refine ev_bind h2 ?_
    simp only [if_true]
    refine ev_succ ?_
    have hne : ((kids.length : Int) != (kids.length : Int)) = false := bne_self_eq_false _
    simp only [hne, annuletref11_Same.j0, Bool.false_eq_true, if_false]
    exact lk_Same_kids kids 0 kids k0 n s keys (by omega) h.2.2 rfl
theorem lk_Same_kids : ∀ (rest : List S25) (i : Nat) (kids : List S25) (k0 n : Int) (s : ByteArray) (keys : List ByteArray), kids.length < 1000000000000 → smallK rest → kids.drop i = rest →
    Ev (fun k => annuletref11_Same.l0 k (i : Int) k0 n s keys kids k0 n s keys kids) true
  | [], i, kids, k0, n, s, keys, hl, _, hd => by
    have : kids.length ≤ i := List.drop_eq_nil_iff.1 hd
    refine ev_succ ?_
    simp only [annuletref11_Same.l0, if_neg (show ¬ (i : Int) < (kids.length : Int) by omega)]
    exact ev_some _
  | t :: rest, i, kids, k0, n, s, keys, hl, hs, hd => by
    rw [smallK] at hs
    have hi : i < kids.length := by
      refine Nat.lt_of_not_le fun h => ?_
      rw [List.drop_of_length_le h] at hd
      cases hd
    have ht : kids[i] = t := by
      rw [List.drop_eq_getElem_cons hi] at hd
      exact (List.cons.inj hd).1
    have hr : kids.drop (i + 1) = rest := by
      rw [List.drop_eq_getElem_cons hi] at hd
      exact (List.cons.inj hd).2
    refine ev_succ ?_
    simp only [annuletref11_Same.l0, if_pos (show (i : Int) < (kids.length : Int) by omega), if_pos (show (0 : Int) ≤ (i : Int) by omega)]
    rw [rdT_nat kids i hi, ht]
    refine ev_bind (lk_Same_self t hs.1) ?_
    simp only [if_true]
    rw [w64 (by omega) (by omega)]
    exact lk_Same_kids rest (i + 1) kids k0 n s keys hl hs.2 hr
end
theorem ben_part {l : List Int} {e : Int} (h : (ben_Parse.f 60 l).map (·.2) = some e) : ∃ T, ben_Parse.f 60 l = some (T, e) := by
  obtain ⟨⟨T, e1⟩, h1, h2⟩ := Option.map_eq_some_iff.1 h
  cases h2
  exact ⟨T, h1⟩
theorem ben_awake : law12_awake.ok 60 := by
  refine ⟨by kernel_rfl, ben_part (by kernel_rfl), ben_part (by kernel_rfl), ben_part (by kernel_rfl), ben_part (by kernel_rfl), ?_⟩
  have h : (ben_Parse.f 60 [100, 49, 58, 97, 105, 49, 101, 49, 58, 98, 105, 50, 101, 101]).map (fun r => (r.2, r.1.f3.length)) = some (0, 2) := by kernel_rfl
  obtain ⟨⟨T, e1⟩, h1, h2⟩ := Option.map_eq_some_iff.1 h
  injection h2 with h3 h4
  dsimp only at h3 h4
  subst h3
  exact ⟨T, h1, h4⟩
theorem BenParses_law : annuletlaw12_BenParses.Pure := by
  intro l0 hw
  refine ⟨60, ?_⟩
  unfold annuletlaw12_BenParses.f
  refine if_pos ⟨ben_awake, ?_⟩
  by_cases hl : l0.length > 2000
  · exact .inl hl
  refine .inr ?_
  have hb := bytes_of_wf hw.2
  have hz : smallT z25 := by simp [z25, smallT, smallK]
  rcases value_both l0 hb (by omega) _ 0 0 (Nat.zero_le _) (Nat.le_refl _) (by omega) with ⟨e, r', m', he, h1, h2⟩ | ⟨T, m, h3, h4, hw, hs, hp, h1, h2⟩
  · have e1 : Ev (fun k => ben_Parse.f k l0) (z25, e) := by
      unfold ben_Parse.f
      refine ev_bind h1 ?_
      simp only [if_neg he]
      exact ev_some _
    have e2 : Ev (fun k => ref12_Parse.f k l0) (z25, e) := by
      unfold ref12_Parse.f
      refine ev_bind h2 ?_
      simp only [if_neg he]
      exact ev_some _
    obtain ⟨K1, g1⟩ := e1
    obtain ⟨K2, g2⟩ := e2
    obtain ⟨K3, g3⟩ := lk_Same_self z25 hz
    exact ⟨max K1 (max K2 K3), z25, e, g1 _ (by omega), g2 _ (by omega), g3 _ (by omega)⟩
  · have hd : (l0.drop m).length = l0.length - m := List.length_drop
    by_cases hm : m < l0.length
    · have e1 : Ev (fun k => ben_Parse.f k l0) (z25, 4) := by
        unfold ben_Parse.f
        refine ev_bind h1 ?_
        simp only [if_true, if_pos (show 0 < (l0.drop m).length by omega)]
        exact ev_some _
      have e2 : Ev (fun k => ref12_Parse.f k l0) (z25, 4) := by
        unfold ref12_Parse.f
        refine ev_bind h2 ?_
        simp only [if_true, if_pos (show (m : Int) < (l0.length : Int) by omega)]
        exact ev_some _
      obtain ⟨K1, g1⟩ := e1
      obtain ⟨K2, g2⟩ := e2
      obtain ⟨K3, g3⟩ := lk_Same_self z25 hz
      exact ⟨max K1 (max K2 K3), z25, 4, g1 _ (by omega), g2 _ (by omega), g3 _ (by omega)⟩
    · have e1 : Ev (fun k => ben_Parse.f k l0) (T, 0) := by
        unfold ben_Parse.f
        refine ev_bind h1 ?_
        simp only [if_true, if_neg (show ¬ 0 < (l0.drop m).length by omega)]
        exact ev_some _
      have e2 : Ev (fun k => ref12_Parse.f k l0) (T, 0) := by
        unfold ref12_Parse.f
        refine ev_bind h2 ?_
        simp only [if_true, if_neg (show ¬ (m : Int) < (l0.length : Int) by omega)]
        exact ev_some _
      obtain ⟨K1, g1⟩ := e1
      obtain ⟨K2, g2⟩ := e2
      obtain ⟨K3, g3⟩ := lk_Same_self T hs
      exact ⟨max K1 (max K2 K3), T, 0, g1 _ (by omega), g2 _ (by omega), g3 _ (by omega)⟩
end Go.Proofs.Ytekcnfngcgchcaa.PBenParses
namespace Go.Proofs.Ytekcnfngcgchcaa.Pure
open Go.Proofs.Ytekcnfngcgchcaa.PBenParses
theorem BenParses : annuletlaw12_BenParses.Pure := BenParses_law
end Go.Proofs.Ytekcnfngcgchcaa.Pure
