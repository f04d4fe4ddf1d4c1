/- BenPrints: the bytes of any tree, or why there are none, are the document's. No condition. -/
import Derived.Test.YtekcnfngcgchcaaPBenPrintsx8
import Derived.Test.YtekcnfngcgchcaaMath
set_option linter.unusedVariables false
set_option linter.unusedSimpArgs false
namespace Go.Proofs.Ytekcnfngcgchcaa.PBenPrints
open Go.RowKit Go.Proofs.YtekcnfngcgchcaaW.PrintWords Go.Proofs.YtekcnfngcgchcaaW.PrintLast Go.Proofs.YtekcnfngcgchcaaW.PrintMore Annulet

/-! ### package num: the printed functions and the lists -/
theorem lk_num_digits (n : Int) (h0 : 0 ≤ n) (h1 : n < 18446744073709551616) : num_digits.f n = some (strOfNums (digL n.toNat)) := by
  unfold num_digits.f
  rw [if_pos h0, if_pos h1]
theorem lk_num_Put (n : Int) (h : -9223372036854775808 ≤ n) (h' : n < 9223372036854775808) : num_Put.f n = some (strOfNums (numL n)) := by
  unfold num_Put.f numL
  by_cases h0 : n < 0
  · rw [if_pos h0, if_pos h0, w64 (n := n + 1) (by omega) (by omega), w64 (n := -(n + 1)) (by omega) (by omega), wu64_id (n := -(n + 1)) (by omega) (by omega), wu64_id (n := -(n + 1) + 1) (by omega) (by omega), lk_num_digits _ (by omega) (by omega)]
    have e : (-(n + 1) + 1).toNat = (-n).toNat := by omega
    have hl := digL_len20 (n := (-n).toNat) (by omega)
    simp only [Option.bind_some, e, strOfNums_size]
    rw [if_pos (by omega)]
    rw [show (⟨#[45]⟩ : ByteArray) = strOfNums [45] from rfl, strOfNums_append]
    rfl
  · rw [if_neg h0, if_neg h0, wu64_id (by omega) (by omega), lk_num_digits _ (by omega) (by omega)]
    rfl

/-! ### package num: what texts are -/
theorem rd0_cases (l : List Int) : (∃ r, l = 45 :: r) ∨ (¬ ∃ r, l = 45 :: r) := Classical.em _
theorem lk_CutMinus_hit (r : List Int) : strings_CutPrefix.f (strOfNums (45 :: r)) (⟨#[45]⟩ : ByteArray) = some (strOfNums r, true) := by
  have hp : stringslite_HasPrefix.f (strOfNums (45 :: r)) (⟨#[45]⟩ : ByteArray) = some true := by
    unfold stringslite_HasPrefix.f
    rw [show (⟨#[45]⟩ : ByteArray) = strOfNums [45] from rfl]
    simp only [strOfNums_size, List.length_cons, List.length_nil]
    rw [if_pos (by omega), if_pos (by omega), if_pos (by omega), str_extract]
    simp
  unfold strings_CutPrefix.f stringslite_CutPrefix.f
  rw [hp]
  rw [show (⟨#[45]⟩ : ByteArray) = strOfNums [45] from rfl]
  simp only [Option.bind_some, if_true, strOfNums_size, List.length_cons, List.length_nil]
  rw [if_pos (by omega), if_pos (by omega), str_extract]
  simp
theorem lk_CutMinus_miss (l : List Int) (hb : Bytes l) (h : ¬ ∃ r, l = 45 :: r) : strings_CutPrefix.f (strOfNums l) (⟨#[45]⟩ : ByteArray) = some (strOfNums l, false) := by
  have hp : stringslite_HasPrefix.f (strOfNums l) (⟨#[45]⟩ : ByteArray) = some false := by
    unfold stringslite_HasPrefix.f
    rw [show (⟨#[45]⟩ : ByteArray) = strOfNums [45] from rfl]
    simp only [strOfNums_size, List.length_cons, List.length_nil]
    cases l with
    | nil => simp
    | cons x r =>
      have hx : x ≠ 45 := fun e => h ⟨r, by rw [e]⟩
      simp only [List.length_cons]
      rw [if_pos (by omega), if_pos (by omega), if_pos (by omega), str_extract]
      rw [str_beq (bytes_drop (bytes_take hb _) _) (bytes_cons ⟨by omega, by omega⟩ bytes_nil)]
      congr 1
      simp [hx]
  unfold strings_CutPrefix.f stringslite_CutPrefix.f
  rw [hp]
  simp
def okL (l : List Int) : Bool := if l = [] then false else if rd l 0 = 48 then decide (l = [48]) else true
theorem lk_num_magnitude0 (l : List Int) (hb : Bytes l) (d : Nat) : ∀ i : Nat, i ≤ l.length → i ≤ 19 → l.length - i = d → Digits (l.take i) →
    Ev (fun k => num_magnitude.l0 k (strOfNums l) (decL (l.take i)) (l.length : Int) (i : Int)) (if Digits l ∧ l.length ≤ 19 then (decL l, okL l) else (0, false)) := by
  induction d with
  | zero =>
    intro i hi h19 hd hdig
    rw [List.take_of_length_le (by omega)] at hdig ⊢
    rw [if_pos ⟨hdig, by omega⟩]
    refine ev_succ ?_
    simp only [num_magnitude.l0, strOfNums_size, bt_str hb, str_nil]
    rw [show ([48] : List UInt8) = (strOfNums [48]).toList from (str_toList [48]).symm, str_beq hb (bytes_cons ⟨by omega, by omega⟩ bytes_nil)]
    simp only [if_neg (show ¬ (i : Int) < (l.length : Int) by omega)]
    unfold okL
    by_cases h0 : l = []
    · simp only [if_pos h0]; exact ev_some _
    · have : 0 < l.length := List.length_pos_iff.2 h0
      simp only [if_neg h0, if_pos (show (0 : Int) < (l.length : Int) by omega)]
      by_cases h48 : rd l 0 = 48
      · simp only [if_pos h48]; exact ev_some _
      · simp only [if_neg h48]; exact ev_some _
  | succ d ih =>
    intro i hi h19 hd hdig
    have hr := rd_byte hb (i : Int)
    unfold Byte at hr
    have hmem : rd l (i : Int) ∈ l := by
      rw [rd_nat]
      have : i < l.length := by omega
      simp [List.getD, this]
    refine ev_succ ?_
    simp only [num_magnitude.l0, strOfNums_size, bt_str hb]
    simp only [if_pos (show (i : Int) < (l.length : Int) by omega), if_pos (show (0 : Int) ≤ (i : Int) by omega)]
    by_cases h1 : rd l (i : Int) < 48
    · simp only [if_pos h1]
      rw [if_neg (by intro h; have := h.1 _ hmem; omega)]
      exact ev_some _
    simp only [if_neg h1]
    by_cases h2 : rd l (i : Int) > 57
    · simp only [if_pos h2]
      rw [if_neg (by intro h; have := h.1 _ hmem; omega)]
      exact ev_some _
    simp only [if_neg h2]
    by_cases h3 : (i : Int) ≥ 19
    · simp only [if_pos h3]
      rw [if_neg (by intro h; have := h.2; omega)]
      exact ev_some _
    simp only [if_neg h3]
    have hdr := decL_range _ hdig
    rw [List.length_take, Nat.min_eq_left (by omega)] at hdr
    have hp : (10 : Int) ^ i ≤ 10 ^ 18 := by
      have : (10 : Nat) ^ i ≤ 10 ^ 18 := Nat.pow_le_pow_right (by omega) (by omega)
      exact_mod_cast this
    rw [show (10 : Int) ^ 18 = 1000000000000000000 by decide] at hp
    have e : decL (l.take (i + 1)) = decL (l.take i) * 10 + (rd l (i : Int) - 48) := by rw [take_succ_rd l i (by omega), decL_snoc]
    have ed : Digits (l.take (i + 1)) := by rw [take_succ_rd l i (by omega)]; exact digits_snoc.2 ⟨hdig, by omega⟩
    rw [wu64_id (n := decL (l.take i) * 10) (by omega) (by omega), show (rd l (i : Int) - 48) % 256 = rd l (i : Int) - 48 by omega, wu64_id (by omega) (by omega), ← e, w64 (by omega) (by omega)]
    exact ih (i + 1) (by omega) (by omega) (by omega) ed
theorem lk_num_magnitude (l : List Int) (hb : Bytes l) : Ev (fun k => num_magnitude.f k (strOfNums l)) (if Digits l ∧ l.length ≤ 19 then (decL l, okL l) else (0, false)) := by
  unfold num_magnitude.f
  have := lk_num_magnitude0 l hb _ 0 (by omega) (by omega) rfl (fun _ h => by simp at h)
  simp only [strOfNums_size]
  exact this
theorem lk_num_Get_j0 (x5 : Bool) (x6 : Int) (x20 : Bool) (h : x20 = false → if x5 then 0 < x6 ∧ x6 ≤ 9223372036854775808 else 0 ≤ x6 ∧ x6 < 9223372036854775808) :
    Ev (fun k => num_Get.j0 k x5 x6 x20) (if x20 then (0, 3) else if x5 then (-x6, 0) else (x6, 0)) := by
  refine ev_succ ?_
  simp only [num_Get.j0]
  cases x20 with
  | true => simp only [if_true]; exact ev_some _
  | false =>
    have h := h rfl
    simp only [Bool.false_eq_true, if_false]
    cases x5 with
    | true =>
      simp only [if_true] at h ⊢
      rw [wu64_id (n := x6 - 1) (by omega) (by omega), w64 (n := x6 - 1) (by omega) (by omega), w64 (n := -(x6 - 1)) (by omega) (by omega), w64 (by omega) (by omega), show -(x6 - 1) - 1 = -x6 by omega]
      exact ev_some _
    | false =>
      simp only [Bool.false_eq_true, if_false] at h ⊢
      rw [w64 (by omega) (by omega)]
      exact ev_some _
theorem digL_len19 {n : Nat} (h : n ≤ 9223372036854775808) : (digL n).length ≤ 19 := digL_len 18 n (by omega)
theorem okL_digL (n : Nat) : okL (digL n) = true := by
  unfold okL
  have := digL_pos n
  rw [if_neg (by intro h; rw [h] at this; simp at this)]
  split
  · rename_i h; exact decide_eq_true (digL_zero n h)
  · rfl
theorem okL_back {l : List Int} (h : okL l = true) : l ≠ [] ∧ (rd l 0 = 48 → l = [48]) := by
  unfold okL at h
  split at h
  · simp at h
  · rename_i h0
    refine ⟨h0, fun h48 => ?_⟩
    rw [if_pos h48] at h
    exact of_decide_eq_true h
theorem lk_num_Get_bits (l : List Int) (hb : Bytes l) : ∃ r, IsGet l r ∧ Ev (fun k => num_Get.f k (strOfNums l)) r := by
  by_cases h0 : l = []
  · refine ⟨(0, 2), Or.inl ⟨h0, rfl⟩, ?_⟩
    unfold num_Get.f
    simp only [str_nil, if_pos h0]
    exact ev_some _
  unfold num_Get.f
  simp only [str_nil, if_neg h0]
  rcases rd0_cases l with ⟨r, rfl⟩ | hm
  · rw [lk_CutMinus_hit]
    simp only [Option.bind_some]
    have hbr : Bytes r := fun x hx => hb x (by simp [hx])
    have hmag := lk_num_magnitude r hbr
    by_cases hd : Digits r ∧ r.length ≤ 19
    · rw [if_pos hd] at hmag
      by_cases hok : okL r = true
      · have hbk := okL_back hok
        have e := digL_decL r hd.1 hbk.1 hbk.2
        have hr := decL_range r hd.1
        by_cases hz : decL r = 0
        · refine ⟨(0, 3), Or.inr (Or.inr ⟨by simp, ?_, rfl⟩), ?_⟩
          · intro n hn hl
            have hneg := (numL_neg n).1 (by rw [hl]; rfl)
            unfold numL at hl
            rw [if_pos hneg] at hl
            have := congrArg decL (List.cons.inj hl).2
            rw [decL_digL, hz] at this
            omega
          · refine ev_bind hmag ?_
            simp only [hok, if_true, if_pos hz]
            exact lk_num_Get_j0 _ _ _ (by simp)
        · by_cases hg : decL r > 9223372036854775808
          · refine ⟨(0, 3), Or.inr (Or.inr ⟨by simp, ?_, rfl⟩), ?_⟩
            · intro n hn hl
              unfold InI at hn
              have hneg := (numL_neg n).1 (by rw [hl]; rfl)
              unfold numL at hl
              rw [if_pos hneg] at hl
              have := congrArg decL (List.cons.inj hl).2
              rw [decL_digL] at this
              omega
            · refine ev_bind hmag ?_
              simp only [hok, if_true, if_neg hz, if_pos hg, decide_eq_true hg]
              exact lk_num_Get_j0 _ _ _ (by simp)
          · refine ⟨(-decL r, 0), Or.inr (Or.inl ⟨-decL r, ⟨by omega, by omega⟩, ?_, rfl⟩), ?_⟩
            · unfold numL
              rw [if_pos (by omega), Int.neg_neg, e]
            · refine ev_bind hmag ?_
              simp only [hok, if_true, if_neg hz, if_neg hg]
              exact lk_num_Get_j0 true (decL r) false (fun _ => by simp only [if_true]; omega)
      · have hok : okL r = false := by simpa using hok
        refine ⟨(0, 3), Or.inr (Or.inr ⟨by simp, ?_, rfl⟩), ?_⟩
        · intro n hn hl
          have hneg := (numL_neg n).1 (by rw [hl]; rfl)
          unfold numL at hl
          rw [if_pos hneg] at hl
          rw [← (List.cons.inj hl).2, okL_digL] at hok
          simp at hok
        · refine ev_bind hmag ?_
          simp only [hok, Bool.false_eq_true, if_false, Bool.not_false]
          exact lk_num_Get_j0 _ _ _ (by simp)
    · rw [if_neg hd] at hmag
      refine ⟨(0, 3), Or.inr (Or.inr ⟨by simp, ?_, rfl⟩), ?_⟩
      · intro n hn hl
        unfold InI at hn
        have hneg := (numL_neg n).1 (by rw [hl]; rfl)
        unfold numL at hl
        rw [if_pos hneg] at hl
        apply hd
        rw [← (List.cons.inj hl).2]
        exact ⟨digL_digits _, digL_len19 (by omega)⟩
      · refine ev_bind hmag ?_
        simp only [Bool.false_eq_true, if_false, Bool.not_false]
        exact lk_num_Get_j0 _ _ _ (by simp)
  · rw [lk_CutMinus_miss l hb hm]
    simp only [Option.bind_some]
    have hmag := lk_num_magnitude l hb
    have hnn : ∀ n, numL n = l → ¬ n < 0 := by
      intro n hl hn
      unfold numL at hl
      rw [if_pos hn] at hl
      exact hm ⟨_, hl.symm⟩
    by_cases hd : Digits l ∧ l.length ≤ 19
    · rw [if_pos hd] at hmag
      by_cases hok : okL l = true
      · have hbk := okL_back hok
        have e := digL_decL l hd.1 hbk.1 hbk.2
        have hr := decL_range l hd.1
        by_cases hg : decL l ≥ 9223372036854775808
        · refine ⟨(0, 3), Or.inr (Or.inr ⟨h0, ?_, rfl⟩), ?_⟩
          · intro n hn hl
            unfold InI at hn
            have hneg := hnn n hl
            unfold numL at hl
            rw [if_neg hneg] at hl
            have := congrArg decL hl
            rw [decL_digL] at this
            omega
          · refine ev_bind hmag ?_
            simp only [hok, if_true, Bool.false_eq_true, if_false, decide_eq_true hg]
            exact lk_num_Get_j0 _ _ _ (by simp)
        · refine ⟨(decL l, 0), Or.inr (Or.inl ⟨decL l, ⟨by omega, by omega⟩, ?_, rfl⟩), ?_⟩
          · unfold numL
            rw [if_neg (by omega), e]
          · refine ev_bind hmag ?_
            simp only [hok, if_true, Bool.false_eq_true, if_false, decide_eq_false hg]
            exact lk_num_Get_j0 false (decL l) false (fun _ => by simp only [Bool.false_eq_true, if_false]; omega)
      · have hok : okL l = false := by simpa using hok
        refine ⟨(0, 3), Or.inr (Or.inr ⟨h0, ?_, rfl⟩), ?_⟩
        · intro n hn hl
          have hneg := hnn n hl
          unfold numL at hl
          rw [if_neg hneg] at hl
          rw [← hl, okL_digL] at hok
          simp at hok
        · refine ev_bind hmag ?_
          simp only [hok, Bool.false_eq_true, if_false, Bool.not_false]
          exact lk_num_Get_j0 _ _ _ (by simp)
    · rw [if_neg hd] at hmag
      refine ⟨(0, 3), Or.inr (Or.inr ⟨h0, ?_, rfl⟩), ?_⟩
      · intro n hn hl
        unfold InI at hn
        have hneg := hnn n hl
        unfold numL at hl
        rw [if_neg hneg] at hl
        apply hd
        rw [← hl]
        exact ⟨digL_digits _, digL_len19 (by omega)⟩
      · refine ev_bind hmag ?_
        simp only [Bool.false_eq_true, if_false, Bool.not_false]
        exact lk_num_Get_j0 _ _ _ (by simp)
theorem lk_ref07_Put_nat (n : Nat) : n < 9223372036854775808 → Ev (fun k => annuletref07_Put.f k (n : Int)) (strOfNums (digL n)) := by
  induction n using digL.induct with
  | case1 n h =>
    intro hn
    rw [digL_small h]
    refine ev_succ ?_
    simp only [annuletref07_Put.f]
    rw [w64 (n := 48 + (n : Int)) (by omega) (by omega), show (48 + (n : Int)) % 256 = 48 + n by omega]
    simp only [if_neg (show ¬ (n : Int) < -9 by omega), if_neg (show ¬ (n : Int) < 0 by omega), if_neg (show ¬ (n : Int) > 9 by omega)]
    exact ev_some _
  | case2 n h ih =>
    intro hn
    have hd := digL_len20 (n := n / 10) (by omega)
    rw [digL_great h]
    refine ev_succ ?_
    simp only [annuletref07_Put.f]
    rw [tdiv_nat (by omega), tmod_nat (by omega), w64 (n := (n : Int) / 10) (by omega) (by omega)]
    simp only [if_neg (show ¬ (n : Int) < -9 by omega), if_neg (show ¬ (n : Int) < 0 by omega), if_pos (show (n : Int) > 9 by omega)]
    refine ev_bind (ih (by omega)) ?_
    have hs : Ev (fun k => annuletref07_Put.f k ((n : Int) % 10)) (strOfNums [48 + ((n % 10 : Nat) : Int)]) := by
      refine ev_succ ?_
      simp only [annuletref07_Put.f]
      rw [w64 (n := 48 + (n : Int) % 10) (by omega) (by omega), show (48 + (n : Int) % 10) % 256 = 48 + ((n % 10 : Nat) : Int) by omega]
      simp only [if_neg (show ¬ (n : Int) % 10 < -9 by omega), if_neg (show ¬ (n : Int) % 10 < 0 by omega), if_neg (show ¬ (n : Int) % 10 > 9 by omega)]
      exact ev_some _
    refine ev_bind hs ?_
    simp only [strOfNums_size, List.length_singleton, if_pos (show (digL (n / 10)).length + 1 ≤ 9223372036854775807 by omega)]
    rw [strOfNums_append]
    exact ev_some _
theorem lk_ref07_Put_neg (n : Nat) : 0 < n → n ≤ 9223372036854775808 → Ev (fun k => annuletref07_Put.f k (-(n : Int))) (strOfNums (45 :: digL n)) := by
  induction n using digL.induct with
  | case1 n h =>
    intro h0 hn
    have hd := digL_len20 (n := n) (by omega)
    refine ev_succ ?_
    simp only [annuletref07_Put.f]
    rw [w64 (n := - -(n : Int)) (by omega) (by omega), Int.neg_neg]
    simp only [if_neg (show ¬ -(n : Int) < -9 by omega), if_pos (show -(n : Int) < 0 by omega)]
    refine ev_bind (lk_ref07_Put_nat n (by omega)) ?_
    simp only [strOfNums_size, if_pos (show 1 + (digL n).length ≤ 9223372036854775807 by omega)]
    rw [show (⟨#[45]⟩ : ByteArray) = strOfNums [45] from rfl, strOfNums_append]
    exact ev_some _
  | case2 n h ih =>
    intro h0 hn
    have hd := digL_len20 (n := n / 10) (by omega)
    have hd' := digL_len20 (n := n % 10) (by omega)
    refine ev_succ ?_
    simp only [annuletref07_Put.f]
    rw [Int.neg_tdiv, Int.neg_tmod, tdiv_nat (by omega), tmod_nat (by omega), w64 (n := -((n : Int) / 10)) (by omega) (by omega), w64 (n := - -((n : Int) % 10)) (by omega) (by omega), Int.neg_neg]
    simp only [if_pos (show -(n : Int) < -9 by omega)]
    have i1 := ih (by omega) (by omega)
    rw [show ((n / 10 : Nat) : Int) = (n : Int) / 10 by omega] at i1
    refine ev_bind i1 ?_
    have i2 := lk_ref07_Put_nat (n % 10) (by omega)
    rw [show ((n % 10 : Nat) : Int) = (n : Int) % 10 by omega] at i2
    refine ev_bind i2 ?_
    simp only [strOfNums_size, List.length_cons, if_pos (show (digL (n / 10)).length + 1 + (digL (n % 10)).length ≤ 9223372036854775807 by omega)]
    rw [strOfNums_append]
    rw [show 45 :: digL n = 45 :: digL (n / 10) ++ digL (n % 10) by rw [digL_great h, digL_small (n := n % 10) (by omega)]; rfl]
    exact ev_some _
theorem lk_ref07_Put (n : Int) (h : -9223372036854775808 ≤ n) (h' : n < 9223372036854775808) : Ev (fun k => annuletref07_Put.f k n) (strOfNums (numL n)) := by
  unfold numL
  by_cases h0 : n < 0
  · rw [if_pos h0]
    have := lk_ref07_Put_neg (-n).toNat (by omega) (by omega)
    rw [show -(((-n).toNat : Nat) : Int) = n by omega] at this
    exact this
  · rw [if_neg h0]
    have := lk_ref07_Put_nat n.toNat (by omega)
    rw [show ((n.toNat : Nat) : Int) = n by omega] at this
    exact this
/-! ### layer 12: trees, plainly -/
theorem drop_rd (l : List Int) (i : Nat) (h : i < l.length) : l.drop i = rd l (i : Int) :: l.drop (i + 1) := by
  rw [rd_nat, List.drop_eq_getElem_cons h]
  simp [List.getD, h]
theorem u8_inj {x y : Int} (hx : Byte x) (hy : Byte y) (h : UInt8.ofNat x.toNat = UInt8.ofNat y.toNat) : x = y := by
  have := congrArg UInt8.toNat h
  unfold Byte at hx hy
  simp only [UInt8.toNat_ofNat'] at this
  omega
def off (c : Int) (l : List Int) : Nat := lead (fun x => x != c) l
theorem idxB_off (c : Int) (hc : Byte c) : ∀ (l : List Int), Bytes l → idxB l c = if off c l < l.length then (off c l : Int) else -1
  | [], _ => by simp [idxB, Lib.bytesOf, Lib.indexByte, off, lead]
  | x :: l, hb => by
    have hx : Byte x := hb x (by simp)
    have ih := idxB_off c hc l (fun y hy => hb y (by simp [hy]))
    unfold idxB Lib.bytesOf at ih ⊢
    simp only [List.map_cons, Lib.indexByte]
    by_cases h : x = c
    · subst h
      simp [off, lead, Nat.toUInt8]
    · have hne : (UInt8.ofNat x.toNat == c.toNat.toUInt8) = false := by
        rw [beq_eq_false_iff_ne]
        intro he
        exact h (u8_inj hx hc he)
      rw [hne, ih]
      have ho : off c (x :: l) = off c l + 1 := by simp [off, lead, h]
      rw [ho]
      simp only [List.length_cons, Bool.false_eq_true, if_false]
      by_cases hl : off c l < l.length
      · have h1 : ((off c l : Int) == -1) = false := by rw [beq_eq_false_iff_ne]; omega
        simp only [if_pos hl, h1, Bool.false_eq_true, if_false]
        rw [if_pos (Nat.succ_lt_succ hl)]
        rfl
      · simp only [if_neg hl]
        rw [if_neg (fun h => hl (Nat.lt_of_succ_lt_succ h))]
        rfl
theorem off_at {c : Int} {l : List Int} (h : off c l < l.length) : l = l.take (off c l) ++ c :: l.drop (off c l + 1) := by
  have h1 := lead_stop (fun x => x != c) l h
  have h2 : rd l (off c l : Int) = c := by
    rw [rd_nat]
    have : (l.getD (off c l) 0 != c) = false := h1
    exact bne_eq_false_iff_eq.1 this
  have h3 := drop_rd l _ h
  rw [h2] at h3
  rw [← h3, List.take_append_drop]
theorem off_app (c : Int) : ∀ (a b : List Int), c ∉ a → off c (a ++ c :: b) = a.length
  | [], b, _ => by simp [off, lead]
  | x :: a, b, h => by
    have hx : ¬ x = c := fun e => h (by simp [e])
    have := off_app c a b (fun hm => h (by simp [hm]))
    simp only [off] at this ⊢
    simp [lead, hx, this]
/-- numbers: what stands ahead of a byte -/
theorem lk_upTo (l : List Int) (hb : Bytes l) (c : Int) (hc : Byte c) :
    (∃ e r', e ≠ 0 ∧ Ev (fun k => ben_upTo.f k l c) (.wrong e, r') ∧ ((off c l ≥ l.length ∧ e = 2) ∨ (off c l < l.length ∧ e = 3 ∧ ∃ r : Int × Int, IsGet (l.take (off c l)) r ∧ r.2 ≠ 0))) ∨
    (∃ n, InI n ∧ off c l < l.length ∧ l.take (off c l) = numL n ∧ Ev (fun k => ben_upTo.f k l c) (.num n, l.drop (off c l + 1))) := by
  have hi := idxB_off c hc l hb
  by_cases h : off c l < l.length
  · rw [if_pos h] at hi
    obtain ⟨r, hr, hev⟩ := lk_num_Get_bits (l.take (off c l)) (bytes_take hb _)
    have key : Ev (fun k => ben_upTo.f k l c) (if r.2 = 0 then (.num r.1, l.drop (off c l + 1)) else (.wrong 3, l)) := by
      unfold ben_upTo.f
      simp only [hi, Int.toNat_natCast]
      simp only [if_neg (show ¬ (off c l : Int) < 0 by omega), if_pos (show (off c l : Int) < (l.length : Int) by omega)]
      refine ev_bind hev ?_
      by_cases h0 : r.2 = 0
      · simp only [if_pos h0]; exact ev_some _
      · simp only [if_neg h0]; exact ev_some _
    rcases hr with ⟨h1, rfl⟩ | ⟨n, hn, hnl, rfl⟩ | ⟨h1, h2, rfl⟩
    · refine .inl ⟨3, l, by decide, key, .inr ⟨h, rfl, _, .inl ⟨h1, rfl⟩, by decide⟩⟩
    · exact .inr ⟨n, hn, h, hnl.symm, key⟩
    · refine .inl ⟨3, l, by decide, key, .inr ⟨h, rfl, _, .inr (.inr ⟨h1, h2, rfl⟩), by decide⟩⟩
  · rw [if_neg h] at hi
    refine .inl ⟨2, l, by decide, ?_, .inl ⟨by omega, rfl⟩⟩
    unfold ben_upTo.f
    simp only [hi]
    simp only [if_pos (show (-1 : Int) < 0 by decide)]
    exact ev_some _
/-! ### trees: their bytes, and why they may not be -/
def txtL (s : ByteArray) : List Int := numL (s.size : Int) ++ 58 :: bytesOf s
mutual
def putT : S25 → List Int
  | ⟨k, n, s, keys, kids⟩ => if k = 1 then 105 :: (numL n ++ [101]) else if k = 2 then txtL s else (if k = 3 then 108 else 100) :: (putK (decide (k = 4)) keys kids ++ [101])
def putK : Bool → List ByteArray → List S25 → List Int
  | _, _, [] => []
  | d, keys, t :: ts => (if d = true then txtL (keys.headD ⟨#[]⟩) else []) ++ (putT t ++ putK d keys.tail ts)
end
def ascL : List ByteArray → Bool
  | [] => true
  | [_] => true
  | a :: b :: r => Op.bytesLess a.toList b.toList && ascL (b :: r)
def fitT (k n : Int) (s : ByteArray) (keys : List ByteArray) (kids : List S25) : Prop :=
  if k = 1 then s.toList = [] ∧ keys = [] ∧ kids = [] else if k = 2 then n = 0 ∧ keys = [] ∧ kids = [] else if k = 3 then n = 0 ∧ s.toList = [] ∧ keys = [] else n = 0 ∧ s.toList = [] ∧ keys.length = kids.length
def longT (s : ByteArray) (keys : List ByteArray) : Prop := s.size > 1048576 ∨ ∃ x ∈ keys, x.size > 1048576
open Classical in
noncomputable def whyHere (k n : Int) (s : ByteArray) (keys : List ByteArray) (kids : List S25) (a : Nat) : Int :=
  if a > 7 then 6 else if k < 1 ∨ k > 4 then 9 else if ¬ fitT k n s keys kids then 1 else if longT s keys then 5 else if ascL keys = true then 0 else 3
mutual
noncomputable def whyT : S25 → Nat → Int
  | ⟨k, n, s, keys, kids⟩, a => if whyHere k n s keys kids a = 0 then whyK kids (a + 1) else whyHere k n s keys kids a
noncomputable def whyK : List S25 → Nat → Int
  | [], _ => 0
  | t :: ts, a => if whyT t a = 0 then whyK ts a else whyT t a
end
mutual
def smallT : S25 → Prop
  | ⟨_, _, _, keys, kids⟩ => keys.length < 1000000000 ∧ kids.length < 1000000000 ∧ smallK kids
def smallK : List S25 → Prop
  | [] => True
  | t :: ts => smallT t ∧ smallK ts
end
theorem putK_list : ∀ (kids : List S25) (t : S25), putK false [] (kids ++ [t]) = putK false [] kids ++ putT t
  | [], t => by simp [putK]
  | x :: kids, t => by
    have := putK_list kids t
    simp only [List.cons_append, putK, List.tail_nil, this]
    simp
theorem putK_dict : ∀ (keys : List ByteArray) (kids : List S25) (x : ByteArray) (t : S25), keys.length = kids.length → putK true (keys ++ [x]) (kids ++ [t]) = putK true keys kids ++ (txtL x ++ putT t)
  | [], [], x, t, _ => by simp [putK]
  | [], _ :: _, _, _, h => by simp at h
  | _ :: _, [], _, _, h => by simp at h
  | y :: keys, u :: kids, x, t, h => by
    have := putK_dict keys kids x t (by simpa using h)
    simp only [List.cons_append, putK, List.tail_cons, List.headD_cons, this]
    simp
theorem whyK_snoc : ∀ (kids : List S25) (t : S25) (a : Nat), whyK kids a = 0 → whyT t a = 0 → whyK (kids ++ [t]) a = 0
  | [], t, a, _, h => by simp [whyK, h]
  | x :: kids, t, a, h0, h => by
    simp only [whyK] at h0
    by_cases hx : whyT x a = 0
    · rw [if_pos hx] at h0
      simp only [List.cons_append, whyK, if_pos hx]
      exact whyK_snoc kids t a h0 h
    · rw [if_neg hx] at h0
      exact absurd h0 hx
theorem smallK_snoc : ∀ (kids : List S25) (t : S25), smallK kids → smallT t → smallK (kids ++ [t])
  | [], t, _, h => by simp [smallK, h]
  | x :: kids, t, h0, h => by
    simp only [List.cons_append, smallK] at h0 ⊢
    exact ⟨h0.1, smallK_snoc kids t h0.2 h⟩
theorem u8_lt {x y : Int} (hx : Byte x) (hy : Byte y) : (UInt8.ofNat x.toNat < UInt8.ofNat y.toNat) ↔ x < y := by
  unfold Byte at hx hy
  rw [UInt8.lt_iff_toNat_lt]
  simp only [UInt8.toNat_ofNat']
  omega
theorem less_turn : ∀ a b : List UInt8, (!(Op.bytesLess a b || a == b)) = Op.bytesLess b a
  | [], [] => rfl
  | [], _ :: _ => rfl
  | _ :: _, [] => rfl
  | x :: a, y :: b => by
    have ih := less_turn a b
    simp only [Op.bytesLess]
    rcases Nat.lt_trichotomy x.toNat y.toNat with h | h | h
    · have h1 : x < y := UInt8.lt_iff_toNat_lt.2 h
      have h2 : ¬ y < x := fun h' => by have := UInt8.lt_iff_toNat_lt.1 h'; omega
      have h3 : ¬ y = x := fun h' => by rw [h'] at h; omega
      simp [h1, h2, h3]
    · obtain rfl : x = y := UInt8.toNat_inj.1 h
      have h2 : ¬ x < x := fun h' => by have := UInt8.lt_iff_toNat_lt.1 h'; omega
      simp only [h2, decide_false, beq_self_eq_true, Bool.true_and, Bool.false_or, ← ih]
      congr 2
      simp [List.cons_beq_cons]
    · have h1 : y < x := UInt8.lt_iff_toNat_lt.2 h
      have h2 : ¬ x < y := fun h' => by have := UInt8.lt_iff_toNat_lt.1 h'; omega
      have h3 : ¬ x = y := fun h' => by rw [h'] at h; omega
      have h4 : ¬ y = x := fun e => h3 e.symm
      simp [h1, h2, h3]
theorem ascL_snoc : ∀ (keys : List ByteArray) (x : ByteArray), ascL (keys ++ [x]) = (ascL keys && match keys.getLast? with | none => true | some y => Op.bytesLess y.toList x.toList)
  | [], x => by simp [ascL]
  | [y], x => by simp [ascL]
  | y :: z :: r, x => by
    have := ascL_snoc (z :: r) x
    simp only [List.cons_append, ascL] at this ⊢
    rw [this, Bool.and_assoc, List.getLast?_cons_cons]
theorem keyUp_less (keys : List ByteArray) (x : ByteArray) : keyUp keys x = match keys.getLast? with | none => true | some y => Op.bytesLess y.toList x.toList := by
  unfold keyUp
  cases keys.getLast? with
  | none => rfl
  | some y => exact less_turn _ _
mutual
def inT : S25 → Prop
  | ⟨_, n, _, _, kids⟩ => (-9223372036854775808 ≤ n ∧ n < 9223372036854775808) ∧ inK kids
def inK : List S25 → Prop
  | [] => True
  | t :: ts => inT t ∧ inK ts
end
theorem inK_snoc : ∀ (kids : List S25) (t : S25), inK kids → inT t → inK (kids ++ [t])
  | [], t, _, h => by simp [inK, h]
  | x :: kids, t, h0, h => by
    simp only [List.cons_append, inK] at h0 ⊢
    exact ⟨h0.1, inK_snoc kids t h0.2 h⟩
theorem inK_of : ∀ (kids : List S25), (∀ t, t ∈ kids → inT t) → inK kids
  | [], _ => by simp [inK]
  | x :: kids, h => by
    rw [inK]
    exact ⟨h x (by simp), inK_of kids (fun t ht => h t (by simp [ht]))⟩
theorem bytes_txtL (s : ByteArray) : Bytes (txtL s) := bytes_append (numL_bytes _) (bytes_cons ⟨by decide, by decide⟩ (bytesOf_bytes s))
mutual
theorem bytes_putT : ∀ T : S25, Bytes (putT T)
  | ⟨k, n, s, keys, kids⟩ => by
    rw [putT]
    split
    · exact bytes_cons ⟨by decide, by decide⟩ (bytes_append (numL_bytes n) (bytes_cons ⟨by decide, by decide⟩ bytes_nil))
    · split
      · exact bytes_txtL s
      · refine bytes_cons (by split <;> exact ⟨by decide, by decide⟩) (bytes_append (bytes_putK _ _ kids) (bytes_cons ⟨by decide, by decide⟩ bytes_nil))
theorem bytes_putK : ∀ (d : Bool) (keys : List ByteArray) (kids : List S25), Bytes (putK d keys kids)
  | _, _, [] => by rw [putK]; exact bytes_nil
  | d, keys, t :: ts => by
    rw [putK]
    refine bytes_append ?_ (bytes_append (bytes_putT t) (bytes_putK d keys.tail ts))
    split
    · exact bytes_txtL _
    · exact bytes_nil
end
theorem idxO_any' {α : Type} (f : α → Option Bool) (p : α → Bool) (hf : ∀ x, f x = some (p x)) : ∀ (l : List α) (i : Int), 0 ≤ i → ∃ j, idxO f l i = some j ∧ decide (0 ≤ j) = l.any p
  | [], i, _ => ⟨-1, rfl, rfl⟩
  | x :: l, i, hi => by
    rw [idxO, hf x]
    by_cases hp : p x = true
    · exact ⟨i, by simp [hp], by simp [hp, hi]⟩
    · have hp' : p x = false := by simpa using hp
      obtain ⟨j, h1, h2⟩ := idxO_any' f p hf l (i + 1) (by omega)
      exact ⟨j, by simp [hp', h1], by simp [hp', h2]⟩
theorem lk_fits (k n : Int) (s : ByteArray) (keys : List ByteArray) (kids : List S25) (h : 1 ≤ k ∧ k ≤ 4) : ∃ b, tree_fits.f k n s keys kids = some b ∧ (b = true ↔ fitT k n s keys kids) := by
  unfold tree_fits.f fitT
  have hk : ((keys.length : Int) > 0) = ¬ keys = [] := by
    cases keys with
    | nil => simp
    | cons x l => simp
  have hd : decide ((kids.length : Int) > 0) = !decide (kids = []) := by
    cases kids with
    | nil => simp
    | cons x l => simp
  have hkd : decide ((keys.length : Int) > 0) = !decide (keys = []) := by
    cases keys with
    | nil => simp
    | cons x l => simp
  rw [hd, hkd]
  simp only [hk]
  by_cases h1 : k = 1
  · simp only [if_pos h1]
    by_cases hs : s.toList = []
    · by_cases hky : keys = []
      · exact ⟨_, by rw [if_neg (fun h => h hs), if_neg (fun h => h hky)], by simp [hs, hky]⟩
      · exact ⟨_, by rw [if_neg (fun h => h hs), if_pos hky], by simp [hky]⟩
    · exact ⟨_, by rw [if_pos hs], by simp [hs]⟩
  simp only [if_neg h1]
  by_cases h2 : k = 2
  · simp only [if_pos h2]
    by_cases hs : n = 0
    · by_cases hky : keys = []
      · exact ⟨_, by rw [if_pos hs, if_neg (fun h => h hky)], by simp [hs, hky]⟩
      · exact ⟨_, by rw [if_pos hs, if_pos hky], by simp [hky]⟩
    · exact ⟨_, by rw [if_neg hs], by simp [hs]⟩
  simp only [if_neg h2]
  by_cases h3 : k = 3
  · simp only [if_pos h3]
    by_cases hs : n = 0
    · by_cases hky : s.toList = []
      · exact ⟨_, by rw [if_pos hs, if_neg (fun h => h hky)], by simp [hs, hky]⟩
      · exact ⟨_, by rw [if_pos hs, if_pos hky], by simp [hky]⟩
    · exact ⟨_, by rw [if_neg hs], by simp [hs]⟩
  simp only [if_neg h3]
  by_cases hs : n = 0
  · by_cases hky : s.toList = []
    · exact ⟨_, by rw [if_pos hs, if_neg (fun h => h hky)], by simp [hs, hky]; omega⟩
    · exact ⟨_, by rw [if_pos hs, if_pos hky], by simp [hky]⟩
  · exact ⟨_, by rw [if_neg hs], by simp [hs]⟩
theorem ascL_take_all : ∀ (keys : List ByteArray), ascL keys = true ↔ ∀ i, i + 1 < keys.length → Op.bytesLess (keys.getD i ByteArray.empty).toList (keys.getD (i + 1) ByteArray.empty).toList = true
  | [] => by simp [ascL]
  | [x] => by simp [ascL]
  | x :: y :: l => by
    have ih := ascL_take_all (y :: l)
    simp only [ascL, Bool.and_eq_true, ih]
    constructor
    · rintro ⟨h1, h2⟩ i hi
      cases i with
      | zero => simpa using h1
      | succ i => simpa using h2 i (by simpa using hi)
    · intro h
      refine ⟨by simpa using h 0 (by simp), fun i hi => ?_⟩
      simpa using h (i + 1) (by simpa using hi)
theorem lk_here0 (keys : List ByteArray) (hl : keys.length < 1000000000) (k n : Int) (s : ByteArray) (kids : List S25) (d : Nat) : ∀ i : Nat, 1 ≤ i → keys.length - i = d → (∀ j, j + 1 < i → j + 1 < keys.length → Op.bytesLess (keys.getD j ByteArray.empty).toList (keys.getD (j + 1) ByteArray.empty).toList = true) →
    Ev (fun r => tree_here.l0 r (i : Int) k n s keys kids) (if ascL keys = true then 0 else 3) := by
  induction d with
  | zero =>
    intro i h1 hd hasc
    refine ev_succ ?_
    simp only [tree_here.l0, if_neg (show ¬ (i : Int) < (keys.length : Int) by omega)]
    rw [if_pos ((ascL_take_all keys).2 fun j hj => hasc j (by omega) hj)]
    exact ev_some _
  | succ d ih =>
    intro i h1 hd hasc
    refine ev_succ ?_
    have hw : wrap64 ((i : Int) - 1) = ((i - 1 : Nat) : Int) := by rw [w64 (by omega) (by omega)]; omega
    simp only [tree_here.l0, hw]
    have e1 : rdOf ByteArray.empty keys ((i - 1 : Nat) : Int) = keys.getD (i - 1) ByteArray.empty := by simp [rdOf]
    have e2 : rdOf ByteArray.empty keys (i : Int) = keys.getD i ByteArray.empty := by simp [rdOf]
    simp only [e1, e2, if_pos (show (i : Int) < (keys.length : Int) by omega), if_pos (show (0 : Int) ≤ ((i - 1 : Nat) : Int) by omega), if_pos (show ((i - 1 : Nat) : Int) < (keys.length : Int) by omega), if_pos (show (0 : Int) ≤ (i : Int) by omega)]
    by_cases h : Op.bytesLess (keys.getD (i - 1) ByteArray.empty).toList (keys.getD i ByteArray.empty).toList = true
    · simp only [if_pos h]
      rw [w64 (by omega) (by omega)]
      refine ih (i + 1) (by omega) (by omega) (fun j hj hj2 => ?_)
      by_cases hji : j + 1 = i
      · have : j = i - 1 := by omega
        subst this
        rw [hji]; exact h
      · exact hasc j (by omega) hj2
    · simp only [if_neg h]
      have hn : ¬ ascL keys = true := fun ha => h (by
        have := (ascL_take_all keys).1 ha (i - 1) (by omega)
        rw [show i - 1 + 1 = i by omega] at this
        exact this)
      rw [if_neg hn]
      exact ev_some _
theorem lk_here (k n : Int) (s : ByteArray) (keys : List ByteArray) (kids : List S25) (a : Nat) (ha : a ≤ 8) (hl : keys.length < 1000000000) : Ev (fun r => tree_here.f r k n s keys kids ((a : Int) + 1)) (whyHere k n s keys kids a) := by
  unfold tree_here.f whyHere
  by_cases h1 : a > 7
  · simp only [if_pos h1, if_pos (show (a : Int) + 1 > 8 by omega)]
    exact ev_some _
  simp only [if_neg h1, if_neg (show ¬ (a : Int) + 1 > 8 by omega)]
  by_cases h2 : k < 1
  · simp only [if_pos h2, if_pos (show k < 1 ∨ k > 4 from .inl h2)]
    refine ev_succ ?_
    simp only [tree_here.j0, if_true]
    exact ev_some _
  simp only [if_neg h2]
  by_cases h3 : k > 4
  · simp only [if_pos (show k < 1 ∨ k > 4 from .inr h3), decide_eq_true h3]
    refine ev_succ ?_
    simp only [tree_here.j0, if_true]
    exact ev_some _
  simp only [if_neg (show ¬ (k < 1 ∨ k > 4) from fun h => h.elim h2 h3), decide_eq_false h3]
  refine ev_succ ?_
  simp only [tree_here.j0, Bool.false_eq_true, if_false]
  obtain ⟨b, hb, hf⟩ := lk_fits k n s keys kids ⟨by omega, by omega⟩
  simp only [hb, Option.bind_some]
  by_cases h4 : fitT k n s keys kids
  · simp only [hf.2 h4, if_true, if_neg (show ¬ ¬ fitT k n s keys kids from fun h => h h4)]
    obtain ⟨j, hj, hje⟩ := idxO_any' (fun x : ByteArray => tree_long.f x) (fun x => decide ((x.size : Int) > 1048576)) (fun x => rfl) keys 0 (by omega)
    simp only [tree_long.f, Option.bind_some] at hj ⊢
    have hany : keys.any (fun x => decide ((x.size : Int) > 1048576)) = true ↔ ∃ x ∈ keys, x.size > 1048576 := by
      simp only [List.any_eq_true, decide_eq_true_eq]
      constructor
      · rintro ⟨x, h1, h2⟩; exact ⟨x, h1, by omega⟩
      · rintro ⟨x, h1, h2⟩; exact ⟨x, h1, by omega⟩
    by_cases h5 : (s.size : Int) > 1048576
    · rw [if_pos (show longT s keys from .inl (by omega))]
      simp only [decide_eq_true h5, if_true]
      exact ev_some _
    · simp only [decide_eq_false h5, Bool.false_eq_true, if_false, slices_ContainsFunc_string_string.f, tree_long.f, if_true, hj, Option.bind_some, hje]
      by_cases h6 : ∃ x ∈ keys, x.size > 1048576
      · rw [if_pos (show longT s keys from .inr h6)]
        simp only [hany.2 h6, if_true]
        exact ev_some _
      · rw [if_neg (show ¬ longT s keys from fun h => h.elim (fun h => h5 (by omega)) h6)]
        have : keys.any (fun x => decide ((x.size : Int) > 1048576)) = false := by
          rw [← Bool.not_eq_true, hany]; exact h6
        simp only [this, Bool.false_eq_true, if_false]
        exact lk_here0 keys hl k n s kids _ 1 (by omega) rfl (fun j hj => by omega)
  · have hbf : b = false := by rw [← Bool.not_eq_true, hf]; exact h4
    simp only [hbf, Bool.false_eq_true, if_false, if_pos (show ¬ fitT k n s keys kids from h4)]
    exact ev_some _
theorem rdT_nat' (l : List S25) (i : Nat) (h : i < l.length) : rd_T25 l (i : Int) = l[i] := by simp [rd_T25, h, List.getD]
theorem kids_at {kids rest : List S25} {i : Nat} {t : S25} (hd : kids.drop i = t :: rest) : ∃ hi : i < kids.length, kids[i] = t ∧ kids.drop (i + 1) = rest := by
  have hi : i < kids.length := by
    refine Nat.lt_of_not_le fun h => ?_
    rw [List.drop_of_length_le h] at hd
    cases hd
  rw [List.drop_eq_getElem_cons hi] at hd
  exact ⟨hi, (List.cons.inj hd).1, (List.cons.inj hd).2⟩
mutual
theorem lk_right : ∀ (T : S25) (a : Nat), a ≤ 8 → smallT T → Ev (fun r => tree_right.f r T.f0 T.f1 T.f2 T.f3 T.f4 ((a : Int) + 1)) (whyT T a)
  | ⟨k, n, s, keys, kids⟩, a, ha, h => by
    rw [smallT] at h
    refine ev_succ ?_
    simp only [tree_right.f]
    refine ev_bind (lk_here k n s keys kids a ha h.1) ?_
    rw [whyT]
    by_cases h0 : whyHere k n s keys kids a = 0
    · simp only [if_pos h0]
      have ha7 : a ≤ 7 := by
        refine Nat.le_of_not_lt fun h' => ?_
        unfold whyHere at h0
        rw [if_pos h'] at h0
        exact absurd h0 (by decide)
      exact lk_right_kids kids 0 kids (a + 1) (by omega) (by omega) h.2.2 rfl
    · simp only [if_neg h0]
      exact ev_some _
theorem lk_right_kids : ∀ (rest : List S25) (i : Nat) (kids : List S25) (a : Nat), a ≤ 8 → kids.length < 1000000000000 → smallK rest → kids.drop i = rest →
    Ev (fun r => tree_right.l0 r (a : Int) kids (kids.length : Int) (i : Int)) (whyK rest a)
  | [], i, kids, a, _, hl, _, hd => by
    have : kids.length ≤ i := List.drop_eq_nil_iff.1 hd
    refine ev_succ ?_
    simp only [tree_right.l0, if_neg (show ¬ (i : Int) < (kids.length : Int) by omega), whyK]
    exact ev_some _
  | t :: rest, i, kids, a, ha, hl, hs, hd => by
    rw [smallK] at hs
    obtain ⟨hi, ht, hr⟩ := kids_at hd
    refine ev_succ ?_
    simp only [tree_right.l0, if_pos (show (i : Int) < (kids.length : Int) by omega), if_pos (show (0 : Int) ≤ (i : Int) by omega)]
    rw [rdT_nat' kids i hi, ht, w64 (n := (a : Int) + 1) (by omega) (by omega)]
    refine ev_bind (lk_right t a ha hs.1) ?_
    rw [whyK]
    by_cases h0 : whyT t a = 0
    · simp only [if_pos h0]
      rw [w64 (by omega) (by omega)]
      exact lk_right_kids rest (i + 1) kids a ha hl hs.2 hr
    · simp only [if_neg h0]
      exact ev_some _
end
theorem lk_Right (T : S25) (h : smallT T) : Ev (fun r => tree_Right.f r T.f0 T.f1 T.f2 T.f3 T.f4) (whyT T 0) := by
  unfold tree_Right.f
  refine ev_bind (lk_right T 0 (by omega) h) ?_
  exact ev_some _
/-! ### the bytes -/
theorem len_txtL (s : ByteArray) (h : s.size < 1000000000) : (txtL s).length ≤ s.size + 20 := by
  unfold txtL
  have : (numL (s.size : Int)).length ≤ 19 := by
    unfold numL
    rw [if_neg (by omega)]
    exact digL_len 18 _ (by omega)
  simp only [List.length_append, List.length_cons, bytesOf_length]
  omega
theorem bt_one (l : List Int) (s : ByteArray) (h : l.length + s.size < 100000000000) : bt_text.f l s = some (l ++ txtL s) := by
  unfold bt_text.f
  rw [lk_num_Put _ (by omega) (by omega), Option.bind_some, strOfNums_size]
  have : (numL (s.size : Int)).length ≤ 19 := by
    unfold numL
    rw [if_neg (by omega)]
    exact digL_len 18 _ (by omega)
  rw [if_pos (by omega), bytesOf_str (numL_bytes _)]
  unfold txtL
  simp
theorem whyT_here {T : S25} {a : Nat} (h : whyT T a = 0) : whyHere T.f0 T.f1 T.f2 T.f3 T.f4 a = 0 ∧ whyK T.f4 (a + 1) = 0 := by
  obtain ⟨k, n, s, keys, kids⟩ := T
  rw [whyT] at h
  by_cases h0 : whyHere k n s keys kids a = 0
  · rw [if_pos h0] at h; exact ⟨h0, h⟩
  · rw [if_neg h0] at h; exact absurd h h0
theorem here_open {k n : Int} {s : ByteArray} {keys : List ByteArray} {kids : List S25} {a : Nat} (h : whyHere k n s keys kids a = 0) : a ≤ 7 ∧ 1 ≤ k ∧ k ≤ 4 ∧ fitT k n s keys kids ∧ ¬ longT s keys ∧ ascL keys = true := by
  unfold whyHere at h
  by_cases h1 : a > 7
  · rw [if_pos h1] at h; exact absurd h (by decide)
  rw [if_neg h1] at h
  by_cases h2 : k < 1 ∨ k > 4
  · rw [if_pos h2] at h; exact absurd h (by decide)
  rw [if_neg h2] at h
  by_cases h3 : ¬ fitT k n s keys kids
  · rw [if_pos h3] at h; exact absurd h (by decide)
  rw [if_neg h3] at h
  by_cases h4 : longT s keys
  · rw [if_pos h4] at h; exact absurd h (by decide)
  rw [if_neg h4] at h
  by_cases h5 : ascL keys = true
  · exact ⟨by omega, by omega, by omega, Classical.not_not.1 h3, h4, h5⟩
  · rw [if_neg h5] at h; exact absurd h (by decide)
mutual
theorem lk_put : ∀ (T : S25) (a : Nat) (l : List Int), whyT T a = 0 → inT T → l.length + (putT T).length < 10000000000 → Ev (fun r => bp_put.f r l T) (l ++ putT T)
  | ⟨k, n, s, keys, kids⟩, a, l, hw, hin, hl => by
    obtain ⟨hh, hkids⟩ := whyT_here hw
    obtain ⟨_, h1, h4, hfit, hlong, _⟩ := here_open hh
    dsimp only at h1 h4 hfit hlong hkids
    rw [inT] at hin
    refine ev_succ ?_
    simp only [bp_put.f]
    by_cases k1 : k = 1
    · simp only [if_pos k1, putT] at hl ⊢
      rw [lk_num_Put n hin.1.1 hin.1.2]
      have : (numL n).length ≤ 30 := by
        unfold numL
        split
        · have := digL_len20 (n := (-n).toNat) (by omega); simp; omega
        · have := digL_len20 (n := n.toNat) (by omega); omega
      simp only [Option.bind_some, strOfNums_size, if_pos (show l.length + (numL n).length + 2 < 140737488355328 by simp at hl; omega), bytesOf_str (numL_bytes n)]
      refine ev_eq (ev_some _) ?_
      simp
    simp only [if_neg k1]
    by_cases k2 : k = 2
    · simp only [if_pos k2, putT, if_neg k1] at hl ⊢
      have hs : s.size ≤ 1048576 := Nat.le_of_not_lt fun h => hlong (.inl h)
      have hlen := len_txtL s (by omega)
      rw [bt_one l s (by omega)]
      exact ev_some _
    simp only [if_neg k2, putT, if_neg k1] at hl ⊢
    simp only [if_pos (show l.length + 1 < 140737488355328 by simp at hl; omega)]
    have hfit2 : k = 4 → keys.length = kids.length := by
      intro h
      unfold fitT at hfit
      rw [if_neg k1, if_neg k2, if_neg (by omega)] at hfit
      exact hfit.2.2
    have := lk_put_kids kids 0 k n s keys kids keys (a + 1) (l ++ [if k = 3 then 108 else 100]) hkids hin.2 rfl (by simp) (fun h => by simpa using hfit2 h) (fun x hx => Nat.le_of_not_lt fun h => hlong (.inr ⟨x, hx, h⟩)) (by omega) (by simp at hl ⊢; omega)
    refine ev_eq this ?_
    simp
theorem lk_put_kids : ∀ (rest : List S25) (i : Nat) (k n : Int) (s : ByteArray) (keys : List ByteArray) (kids : List S25) (krest : List ByteArray) (a : Nat) (l : List Int), whyK rest a = 0 → inK rest → kids.drop i = rest → keys.drop i = krest → (k = 4 → krest.length = rest.length) → (∀ x ∈ keys, x.size ≤ 1048576) → 3 ≤ k →
    l.length + (putK (decide (k = 4)) krest rest).length + 1 < 10000000000 →
    Ev (fun r => bp_kids.f r l ⟨k, n, s, keys, kids⟩ i) (l ++ putK (decide (k = 4)) krest rest ++ [101])
  | [], i, k, n, s, keys, kids, krest, a, l, _, _, hd, _, _, _, _, hl => by
    have : kids.length ≤ i := List.drop_eq_nil_iff.1 hd
    refine ev_succ ?_
    simp only [bp_kids.f, if_neg (show ¬ i < kids.length by omega), putK, List.append_nil] at hl ⊢
    simp only [if_pos (show l.length + 1 < 140737488355328 by simp at hl; omega)]
    exact ev_some _
  | t :: rest, i, k, n, s, keys, kids, krest, a, l, hw, hin, hd, hkd, hkl, hks, hk3, hl => by
    rw [whyK] at hw
    have ht0 : whyT t a = 0 := by
      by_cases h : whyT t a = 0
      · exact h
      · rw [if_neg h] at hw; exact hw
    rw [if_pos ht0] at hw
    rw [inK] at hin
    obtain ⟨hi, ht, hr⟩ := kids_at hd
    have hg : kids.getD i z25 = t := by simp [List.getD, hi, ht]
    refine ev_succ ?_
    simp only [bp_kids.f, if_pos hi, hg]
    by_cases k4 : k = 4
    · obtain ⟨key, kr, rfl⟩ : ∃ key kr, krest = key :: kr := by
        rcases krest with _ | ⟨x, r⟩
        · simp at hkl; exact absurd k4 hkl
        · exact ⟨x, r, rfl⟩
      have hik : i < keys.length := by
        refine Nat.lt_of_not_le fun h => ?_
        rw [List.drop_of_length_le h] at hkd
        cases hkd
      have hkg : keys.getD i (⟨#[]⟩ : ByteArray) = key := by
        rw [List.drop_eq_getElem_cons hik] at hkd
        simp [List.getD, hik, (List.cons.inj hkd).1]
      have hkr : keys.drop (i + 1) = kr := by
        rw [List.drop_eq_getElem_cons hik] at hkd
        exact (List.cons.inj hkd).2
      have hsz : key.size ≤ 1048576 := by
        refine hks key ?_
        rw [← hkg]
        simp [List.getD, hik]
      simp only [putK, k4, decide_true, if_true, List.headD_cons, List.tail_cons] at hl ⊢
      simp only [if_pos hik, hkg]
      have hlen := len_txtL key (by omega)
      simp only [List.length_append] at hl
      rw [bt_one l key (by omega)]
      simp only [Option.bind_some]
      refine ev_bind (lk_put t a (l ++ txtL key) ht0 hin.1 (by simp; omega)) ?_
      have := lk_put_kids rest (i + 1) 4 n s keys kids kr a (l ++ txtL key ++ putT t) hw hin.2 hr hkr (fun _ => by simpa using hkl k4) hks (by omega) (by simp; omega)
      simp only [decide_true] at this
      refine ev_eq this ?_
      simp
    · simp only [putK, k4, decide_false, Bool.false_eq_true, if_false, List.nil_append] at hl ⊢
      simp only [Option.bind_some]
      simp only [List.length_append] at hl
      refine ev_bind (lk_put t a l ht0 hin.1 (by omega)) ?_
      have := lk_put_kids rest (i + 1) k n s keys kids krest.tail a (l ++ putT t) hw hin.2 hr (by rw [← hkd]; simp) (fun h => absurd h k4) hks hk3 (by simp [k4]; omega)
      simp only [k4, decide_false] at this
      refine ev_eq this ?_
      simp
end
def sumP : List S25 → Nat
  | [] => 0
  | t :: ts => (putT t).length + sumP ts
theorem len_putK (d : Bool) : ∀ (keys : List ByteArray) (kids : List S25), (∀ x ∈ keys, x.size ≤ 300) → (putK d keys kids).length ≤ 321 * kids.length + sumP kids
  | _, [], _ => by simp [putK]
  | keys, t :: ts, h => by
    have ih := len_putK d keys.tail ts (fun x hx => h x (List.mem_of_mem_tail hx))
    have hh : (keys.headD (⟨#[]⟩ : ByteArray)).size ≤ 300 := by
      cases keys with
      | nil => exact Nat.zero_le 300
      | cons x l => exact h x (by simp)
    have h1 := len_txtL (keys.headD (⟨#[]⟩ : ByteArray)) (by omega)
    rw [putK, sumP]
    split
    · simp only [List.length_append, List.length_cons]; omega
    · simp only [List.length_append, List.length_cons, List.length_nil]; omega
theorem lk_room_keys (keys : List ByteArray) (hl : keys.length ≤ 20) (lev left : Int) (k n : Int) (s : ByteArray) (kids : List S25) (d : Nat) : ∀ i : Nat, i ≤ keys.length → keys.length - i = d → (∀ x ∈ keys.take i, x.size ≤ 300) →
    (∀ q : Int, (Ev (fun r => annuletlaw11_room.l1 r lev left 0 k n s keys kids) q) → (∀ x ∈ keys, x.size ≤ 300) → Ev (fun r => annuletlaw11_room.l0 r lev left (i : Int) k n s keys kids) q) ∧ ((¬ ∀ x ∈ keys, x.size ≤ 300) → Ev (fun r => annuletlaw11_room.l0 r lev left (i : Int) k n s keys kids) (-1)) := by
  induction d with
  | zero =>
    intro i hi hd hp
    rw [List.take_of_length_le (by omega)] at hp
    refine ⟨fun q hq _ => ev_succ ?_, fun hn => absurd hp hn⟩
    simp only [annuletlaw11_room.l0, if_neg (show ¬ (i : Int) < (keys.length : Int) by omega)]
    exact hq
  | succ d ih =>
    intro i hi hd hp
    have e1 : rdOf ByteArray.empty keys (i : Int) = keys[i]'(by omega) := by simp [rdOf, List.getD, show i < keys.length by omega]
    by_cases hb : ((keys[i]'(by omega)).size : Int) > 300
    · refine ⟨fun q hq hall => absurd (hall (keys[i]'(by omega)) (List.getElem_mem _)) (by omega), fun _ => ev_succ ?_⟩
      simp only [annuletlaw11_room.l0, if_pos (show (i : Int) < (keys.length : Int) by omega), if_pos (show (0 : Int) ≤ (i : Int) by omega), e1, if_pos hb]
      exact ev_some _
    · have hp2 : ∀ x ∈ keys.take (i + 1), x.size ≤ 300 := by
        intro x hx
        rw [List.take_succ_eq_append_getElem (by omega)] at hx
        rcases List.mem_append.1 hx with h | h
        · exact hp x h
        · rw [List.mem_singleton.1 h]; omega
      obtain ⟨g1, g2⟩ := ih (i + 1) (by omega) (by omega) hp2
      refine ⟨fun q hq hall => ev_succ ?_, fun hn => ev_succ ?_⟩
      · simp only [annuletlaw11_room.l0, if_pos (show (i : Int) < (keys.length : Int) by omega), if_pos (show (0 : Int) ≤ (i : Int) by omega), e1, if_neg hb]
        rw [w64 (by omega) (by omega)]
        exact g1 q hq hall
      · simp only [annuletlaw11_room.l0, if_pos (show (i : Int) < (keys.length : Int) by omega), if_pos (show (0 : Int) ≤ (i : Int) by omega), e1, if_neg hb]
        rw [w64 (by omega) (by omega)]
        exact g2 hn
/-- what a tree that has room is like -/
def Fits (T : S25) (left r : Int) : Prop := 0 ≤ r → r < left ∧ smallT T ∧ ((putT T).length : Int) ≤ 8000 * (left - r)
mutual
theorem lk_room : ∀ (T : S25) (lev left : Int), inT T → 1 ≤ lev → lev ≤ 21 → left ≤ 400 → -1 ≤ left → ∃ r, -1 ≤ r ∧ Ev (fun q => annuletlaw11_room.f q T.f0 T.f1 T.f2 T.f3 T.f4 lev left) r ∧ Fits T left r
  | ⟨k, n, s, keys, kids⟩, lev, left, hin, hl1, hl2, hf1, hf2 => by
    rw [inT] at hin
    have out : Ev (fun q => annuletlaw11_room.j0 q lev left true k n s keys kids) (-1) := by
      refine ev_succ ?_
      simp only [annuletlaw11_room.j0, if_true]
      exact ev_some _
    by_cases h1 : left < 1
    · refine ⟨-1, by omega, ev_succ ?_, fun h => absurd h (by decide)⟩
      simp only [annuletlaw11_room.f, if_pos h1]
      exact out
    by_cases h2 : lev > 20
    · refine ⟨-1, by omega, ev_succ ?_, fun h => absurd h (by decide)⟩
      simp only [annuletlaw11_room.f, if_neg h1, if_pos h2]
      exact out
    by_cases h3 : (s.size : Int) > 300
    · refine ⟨-1, by omega, ev_succ ?_, fun h => absurd h (by decide)⟩
      simp only [annuletlaw11_room.f, if_neg h1, if_neg h2, if_pos h3]
      exact out
    by_cases h4 : (keys.length : Int) > 20
    · refine ⟨-1, by omega, ev_succ ?_, fun h => absurd h (by decide)⟩
      simp only [annuletlaw11_room.f, if_neg h1, if_neg h2, if_neg h3, if_pos h4]
      exact out
    by_cases h5 : (kids.length : Int) > 20
    · refine ⟨-1, by omega, ev_succ ?_, fun h => absurd h (by decide)⟩
      simp only [annuletlaw11_room.f, if_neg h1, if_neg h2, if_neg h3, if_neg h4, decide_eq_true h5]
      exact out
    obtain ⟨r, hr1, hr2, hr3⟩ := lk_room_kids kids 0 kids keys k n s lev (left - 1) hin.2 (by omega) hl1 (by omega) (by omega) (by omega) rfl
    obtain ⟨g1, g2⟩ := lk_room_keys keys (by omega) lev (left - 1) k n s kids _ 0 (Nat.zero_le _) rfl (fun x hx => by simp at hx)
    by_cases hk : ∀ x ∈ keys, x.size ≤ 300
    · refine ⟨r, hr1, ev_succ ?_, fun h0 => ?_⟩
      · simp only [annuletlaw11_room.f, if_neg h1, if_neg h2, if_neg h3, if_neg h4, decide_eq_false h5]
        refine ev_succ ?_
        simp only [annuletlaw11_room.j0, Bool.false_eq_true, if_false]
        rw [w64 (by omega) (by omega)]
        exact g1 r hr2 hk
      · obtain ⟨h6, h7, h8⟩ := hr3 h0
        refine ⟨by omega, by rw [smallT]; exact ⟨by omega, by omega, h7⟩, ?_⟩
        have hK := len_putK (decide (k = 4)) keys kids hk
        have hT := len_txtL s (by omega)
        have hn : (numL n).length ≤ 30 := by
          unfold numL
          split
          · have := digL_len20 (n := (-n).toNat) (by omega); simp; omega
          · have := digL_len20 (n := n.toNat) (by omega); omega
        rw [putT]
        split
        · simp only [List.length_cons, List.length_append, List.length_nil]; omega
        · split
          · omega
          · simp only [List.length_cons, List.length_append, List.length_nil]; omega
    · refine ⟨-1, by omega, ev_succ ?_, fun h => absurd h (by decide)⟩
      simp only [annuletlaw11_room.f, if_neg h1, if_neg h2, if_neg h3, if_neg h4, decide_eq_false h5]
      refine ev_succ ?_
      simp only [annuletlaw11_room.j0, Bool.false_eq_true, if_false]
      rw [w64 (by omega) (by omega)]
      exact g2 hk
theorem lk_room_kids : ∀ (rest : List S25) (i : Nat) (kids : List S25) (keys : List ByteArray) (k n : Int) (s : ByteArray) (lev left : Int), inK rest → kids.length ≤ 20 → 1 ≤ lev → lev ≤ 20 → left ≤ 400 → -1 ≤ left → kids.drop i = rest →
    ∃ r, -1 ≤ r ∧ Ev (fun q => annuletlaw11_room.l1 q lev left (i : Int) k n s keys kids) r ∧ (0 ≤ r → r ≤ left ∧ smallK rest ∧ (sumP rest : Int) ≤ 8000 * (left - r))
  | [], i, kids, keys, k, n, s, lev, left, _, hl, _, _, _, hf, hd => by
    have : kids.length ≤ i := List.drop_eq_nil_iff.1 hd
    refine ⟨left, hf, ev_succ ?_, fun _ => ⟨by omega, by simp [smallK], by simp [sumP]⟩⟩
    simp only [annuletlaw11_room.l1, if_neg (show ¬ (i : Int) < (kids.length : Int) by omega)]
    exact ev_some _
  | t :: rest, i, kids, keys, k, n, s, lev, left, hin, hl, hl1, hl2, hf1, hf2, hd => by
    rw [inK] at hin
    obtain ⟨hi, ht, hr⟩ := kids_at hd
    obtain ⟨r1, ha, hb, hc⟩ := lk_room t (lev + 1) left hin.1 (by omega) (by omega) hf1 hf2
    by_cases h0 : r1 < 0
    · refine ⟨-1, by omega, ev_succ ?_, fun h => absurd h (by decide)⟩
      simp only [annuletlaw11_room.l1, if_pos (show (i : Int) < (kids.length : Int) by omega), if_pos (show (0 : Int) ≤ (i : Int) by omega)]
      rw [rdT_nat' kids i hi, ht, w64 (n := lev + 1) (by omega) (by omega)]
      refine ev_bind hb ?_
      simp only [if_pos h0]
      exact ev_some _
    · obtain ⟨h6, h7, h8⟩ := hc (by omega)
      obtain ⟨r2, hx, hy, hz⟩ := lk_room_kids rest (i + 1) kids keys k n s lev r1 hin.2 hl hl1 hl2 (by omega) (by omega) hr
      refine ⟨r2, hx, ev_succ ?_, fun h => ?_⟩
      · simp only [annuletlaw11_room.l1, if_pos (show (i : Int) < (kids.length : Int) by omega), if_pos (show (0 : Int) ≤ (i : Int) by omega)]
        rw [rdT_nat' kids i hi, ht, w64 (n := lev + 1) (by omega) (by omega)]
        refine ev_bind hb ?_
        simp only [if_neg h0]
        rw [w64 (by omega) (by omega)]
        exact hy
      · obtain ⟨a1, a2, a3⟩ := hz h
        exact ⟨by omega, by rw [smallK]; exact ⟨h7, a2⟩, by rw [sumP]; omega⟩
end
theorem in_of_wf : ∀ {T : S25}, wfT25 T → inT T := by
  intro T h
  induction h with
  | mk x h hk ih =>
    obtain ⟨k, n, s, keys, kids⟩ := x
    rw [inT]
    exact ⟨wf_i64 h.2.1, inK_of _ ih⟩
theorem lk_Large (T : S25) (h : inT T) : (∃ k, annuletlaw11_Large.f k T.f0 T.f1 T.f2 T.f3 T.f4 1 = some true) ∨ (Ev (fun k => annuletlaw11_Large.f k T.f0 T.f1 T.f2 T.f3 T.f4 1) false ∧ smallT T ∧ (putT T).length ≤ 3200000) := by
  obtain ⟨r, h1, h2, h3⟩ := lk_room T 1 400 h (by omega) (by omega) (by omega) (by omega)
  by_cases h0 : r < 0
  · left
    have : Ev (fun k => annuletlaw11_Large.f k T.f0 T.f1 T.f2 T.f3 T.f4 1) true := by
      unfold annuletlaw11_Large.f
      refine ev_bind h2 ?_
      simp only [decide_eq_true h0]
      exact ev_some _
    exact this.rounds
  · right
    obtain ⟨h4, h5, h6⟩ := h3 (by omega)
    refine ⟨?_, h5, by omega⟩
    unfold annuletlaw11_Large.f
    refine ev_bind h2 ?_
    simp only [decide_eq_false h0]
    exact ev_some _
theorem lk_Less0 (a b : List Int) (ha : Bytes a) (hb : Bytes b) (hl : a.length ≤ 9223372036854775807) (d : Nat) : ∀ i : Nat, i ≤ a.length → i ≤ b.length → a.length - i = d →
    Ev (fun k => annuletref11_Less.l0 k (strOfNums a) (strOfNums b) (i : Int)) (Op.bytesLess ((a.drop i).map fun n => UInt8.ofNat n.toNat) ((b.drop i).map fun n => UInt8.ofNat n.toNat)) := by
  induction d with
  | zero =>
    intro i h1 h2 hd
    refine ev_succ ?_
    simp only [annuletref11_Less.l0, strOfNums_size, if_neg (show ¬ (i : Int) < (a.length : Int) by omega)]
    refine ev_succ ?_
    simp only [annuletref11_Less.j1, Bool.false_eq_true, if_false, strOfNums_size]
    rw [List.drop_of_length_le (l := a) (by omega)]
    refine ev_eq (ev_some _) ?_
    by_cases h : i < b.length
    · rw [drop_rd b i h, decide_eq_true (by omega)]; rfl
    · rw [List.drop_of_length_le (by omega), decide_eq_false (by omega)]; rfl
  | succ d ih =>
    intro i h1 h2 hd
    refine ev_succ ?_
    simp only [annuletref11_Less.l0, strOfNums_size, if_pos (show (i : Int) < (a.length : Int) by omega)]
    refine ev_succ ?_
    rw [drop_rd a i (by omega)]
    by_cases h : i < b.length
    · simp only [annuletref11_Less.j1, strOfNums_size, bt_str ha, bt_str hb, decide_eq_true (show (i : Int) < (b.length : Int) by omega), if_true, if_pos (show (0 : Int) ≤ (i : Int) by omega), if_pos (show (i : Int) < (a.length : Int) by omega), if_pos (show (i : Int) < (b.length : Int) by omega)]
      rw [drop_rd b i h]
      have hx := rd_byte ha (i : Int)
      have hy := rd_byte hb (i : Int)
      simp only [List.map_cons, Op.bytesLess]
      by_cases he : rd a (i : Int) = rd b (i : Int)
      · simp only [if_pos he]
        rw [w64 (by omega) (by omega)]
        refine ev_eq (ih (i + 1) (by omega) (by omega) (by omega)) ?_
        have : ¬ UInt8.ofNat (rd b (i : Int)).toNat < UInt8.ofNat (rd b (i : Int)).toNat := fun h' => by have := (u8_lt hy hy).1 h'; omega
        simp [he]
      · simp only [if_neg he]
        refine ev_eq (ev_some _) ?_
        have h3 : ¬ UInt8.ofNat (rd a (i : Int)).toNat = UInt8.ofNat (rd b (i : Int)).toNat := fun h' => he (u8_inj hx hy h')
        have h4 := u8_lt hx hy
        simp [h3, h4]
    · simp only [decide_eq_false (show ¬ (i : Int) < (b.length : Int) by omega), annuletref11_Less.j1, Bool.false_eq_true, if_false, strOfNums_size]
      rw [List.drop_of_length_le (l := b) (by omega), decide_eq_false (by omega)]
      exact ev_some _
theorem lk_Less (a b : ByteArray) (hl : a.size ≤ 9223372036854775807) : Ev (fun k => annuletref11_Less.f k a b) (Op.bytesLess a.toList b.toList) := by
  obtain ⟨x, hx, rfl⟩ := str_of a
  obtain ⟨y, hy, rfl⟩ := str_of b
  rw [strOfNums_size] at hl
  have := lk_Less0 x y hx hy hl _ 0 (Nat.zero_le _) (Nat.zero_le _) rfl
  rw [str_toList, str_toList]
  exact this
theorem lk_fields (k n : Int) (s : ByteArray) (keys : List ByteArray) (kids : List S25) (h : 1 ≤ k ∧ k ≤ 4) : ∃ b, Ev (fun r => annuletref11_fields.f r k n s keys kids) b ∧ (b = false ↔ fitT k n s keys kids) := by
  have hk : ((keys.length : Int) > 0) ↔ ¬ keys = [] := by
    cases keys with
    | nil => simp
    | cons x l => simp
  have hd : ((kids.length : Int) > 0) ↔ ¬ kids = [] := by
    cases kids with
    | nil => simp
    | cons x l => simp
  have jt : ∀ r, annuletref11_fields.j0 (r + 1) true k n s keys kids = some true := fun r => by simp only [annuletref11_fields.j0, if_true]
  have et : Ev (fun r => annuletref11_fields.j0 r true k n s keys kids) true := ev_succ (by simp only [jt]; exact ev_some _)
  have hk' : decide ((keys.length : Int) > 0) = true ∨ decide ((keys.length : Int) > 0) = false := by cases decide ((keys.length : Int) > 0) <;> simp
  unfold fitT annuletref11_fields.f
  by_cases h1 : k = 1
  · subst h1
    simp only [if_true, if_neg (show ¬ (1 : Int) = 2 by decide), if_neg (show ¬ (1 : Int) = 4 by decide)]
    by_cases hs : s.toList = []
    · simp only [if_pos hs]
      by_cases hky : keys = []
      · simp only [decide_eq_false (show ¬ (keys.length : Int) > 0 by rw [hk]; exact fun h => h hky)]
        by_cases hkd : kids = []
        · refine ⟨false, ev_succ ?_, by simp [hs, hky, hkd]⟩
          simp only [annuletref11_fields.j0, Bool.false_eq_true, if_false, if_pos (show (1 : Int) < 3 by decide), decide_eq_false (show ¬ (kids.length : Int) > 0 by rw [hd]; exact fun h => h hkd)]
          exact ev_some _
        · refine ⟨true, ev_succ ?_, by simp [hkd]⟩
          simp only [annuletref11_fields.j0, Bool.false_eq_true, if_false, if_pos (show (1 : Int) < 3 by decide), decide_eq_true (hd.2 hkd)]
          exact ev_some _
      · simp only [decide_eq_true (hk.2 hky)]
        exact ⟨true, et, by simp [hky]⟩
    · simp only [if_neg hs]
      exact ⟨true, et, by simp [hs]⟩
  simp only [if_neg h1]
  by_cases hn : n = 0
  case neg =>
    simp only [if_neg hn]
    exact ⟨true, et, by simp [hn]⟩
  simp only [if_pos hn]
  by_cases h2 : k = 2
  · subst h2
    simp only [if_true, if_neg (show ¬ (2 : Int) = 4 by decide)]
    by_cases hky : keys = []
    · simp only [decide_eq_false (show ¬ (keys.length : Int) > 0 by rw [hk]; exact fun h => h hky)]
      by_cases hkd : kids = []
      · refine ⟨false, ev_succ ?_, by simp [hn, hky, hkd]⟩
        simp only [annuletref11_fields.j0, Bool.false_eq_true, if_false, if_pos (show (2 : Int) < 3 by decide), decide_eq_false (show ¬ (kids.length : Int) > 0 by rw [hd]; exact fun h => h hkd)]
        exact ev_some _
      · refine ⟨true, ev_succ ?_, by simp [hkd]⟩
        simp only [annuletref11_fields.j0, Bool.false_eq_true, if_false, if_pos (show (2 : Int) < 3 by decide), decide_eq_true (hd.2 hkd)]
        exact ev_some _
    · simp only [decide_eq_true (hk.2 hky)]
      exact ⟨true, et, by simp [hky]⟩
  simp only [if_neg h2]
  by_cases hs : s.toList = []
  case neg =>
    simp only [if_neg hs]
    exact ⟨true, et, by simp [hs]⟩
  simp only [if_pos hs]
  by_cases h3 : k = 3
  · subst h3
    simp only [if_true, if_neg (show ¬ (3 : Int) = 4 by decide)]
    by_cases hky : keys = []
    · simp only [decide_eq_false (show ¬ (keys.length : Int) > 0 by rw [hk]; exact fun h => h hky)]
      refine ⟨false, ev_succ ?_, by simp [hn, hs, hky]⟩
      simp only [annuletref11_fields.j0, Bool.false_eq_true, if_false, if_neg (show ¬ (3 : Int) < 3 by decide), if_neg (show ¬ (3 : Int) = 4 by decide)]
      exact ev_some _
    · simp only [decide_eq_true (hk.2 hky)]
      exact ⟨true, et, by simp [hky]⟩
  simp only [if_neg h3]
  obtain rfl : k = 4 := by omega
  simp only [if_true]
  refine ⟨((keys.length : Int) != (kids.length : Int)), ev_succ ?_, ?_⟩
  · simp only [annuletref11_fields.j0, Bool.false_eq_true, if_false, if_neg (show ¬ (4 : Int) < 3 by decide), if_true]
    exact ev_some _
  · simp [hn, hs]; omega
theorem empty_size : (ByteArray.empty).size = 0 := rfl
def longU (s : ByteArray) (l : List ByteArray) : Prop := s.size > 1048576 ∨ ∃ x ∈ l, x.size > 1048576
open Classical in
theorem lk_refkeys (a : Int) (k n : Int) (s : ByteArray) (keys : List ByteArray) (kids : List S25) (hl : keys.length < 1000000000) (hkz : ∀ x ∈ keys, x.size ≤ 9223372036854775807) (d : Nat) : ∀ (i : Nat) (long falls : Bool), i ≤ keys.length → keys.length - i = d →
    (long = true ↔ longU s (keys.take i)) → (falls = false ↔ ascL (keys.take i) = true) →
    ∀ q : Int, (¬ longT s keys → ascL keys = true → Ev (fun r => annuletref11_right.l1 r a 0 k n s keys kids) q) →
    Ev (fun r => annuletref11_right.l0 r a long falls (i : Int) k n s keys kids) (if longT s keys then 5 else if ascL keys = true then q else 3) := by
  induction d with
  | zero =>
    intro i long falls hi hd hlo hfa q hq
    rw [List.take_of_length_le (by omega)] at hlo hfa
    have hlong : long = true ↔ longT s keys := hlo
    refine ev_succ ?_
    simp only [annuletref11_right.l0, if_neg (show ¬ (i : Int) < (keys.length : Int) by omega)]
    by_cases h1 : longT s keys
    · simp only [hlong.2 h1, if_true, if_pos h1]
      exact ev_some _
    · have : long = false := by rw [← Bool.not_eq_true, hlong]; exact h1
      simp only [this, Bool.false_eq_true, if_false, if_neg h1]
      by_cases h2 : ascL keys = true
      · simp only [hfa.2 h2, Bool.false_eq_true, if_false, if_pos h2]
        exact hq h1 h2
      · have : falls = true := by
          cases falls with
          | true => rfl
          | false => exact absurd (hfa.1 rfl) h2
        simp only [this, if_true, if_neg h2]
        exact ev_some _
  | succ d ih =>
    intro i long falls hi hd hlo hfa q hq
    have hil : i < keys.length := by omega
    have e1 : rdOf ByteArray.empty keys (i : Int) = keys[i] := by simp [rdOf, List.getD, hil]
    have htk : keys.take (i + 1) = keys.take i ++ [keys[i]] := List.take_succ_eq_append_getElem hil
    have hlo2 : ∀ b : Bool, (b = (long || decide ((keys[i].size : Int) > 1048576))) → (b = true ↔ longU s (keys.take (i + 1))) := by
      intro b hb
      rw [hb, Bool.or_eq_true, hlo, htk]
      unfold longU
      constructor
      · rintro ((h | ⟨x, hx, h⟩) | h)
        · exact .inl h
        · exact .inr ⟨x, List.mem_append_left _ hx, h⟩
        · exact .inr ⟨keys[i], List.mem_append_right _ (List.mem_singleton.2 rfl), by have := of_decide_eq_true h; omega⟩
      · rintro (h | ⟨x, hx, h⟩)
        · exact .inl (.inl h)
        · rcases List.mem_append.1 hx with h' | h'
          · exact .inl (.inr ⟨x, h', h⟩)
          · rw [List.mem_singleton.1 h'] at h; exact .inr (decide_eq_true (by omega))
    have hw1 : wrap64 ((i : Int) + 1) = ((i + 1 : Nat) : Int) := by rw [w64 (by omega) (by omega)]; omega
    have hasc : ascL (keys.take (i + 1)) = (ascL (keys.take i) && match (keys.take i).getLast? with | none => true | some y => Op.bytesLess y.toList keys[i].toList) := by rw [htk, ascL_snoc]
    have hll : long = true → (true : Bool) = (long || decide ((keys[i].size : Int) > 1048576)) := fun h => by rw [h]; rfl
    have hlf : long = false → decide ((keys[i].size : Int) > 1048576) = (long || decide ((keys[i].size : Int) > 1048576)) := fun h => by rw [h]; rfl
    refine ev_succ ?_
    by_cases hi0 : i = 0
    · subst hi0
      have hff : falls = false := hfa.2 (by simp [ascL])
      have hfa2 : (false : Bool) = false ↔ ascL (keys.take (0 + 1)) = true := by rw [hasc]; simp [ascL]
      cases long with
      | true =>
        simp only [annuletref11_right.l0, if_pos (show ((0 : Nat) : Int) < (keys.length : Int) by omega), if_true, hff, Bool.false_eq_true, if_false, if_neg (show ¬ ((0 : Nat) : Int) > 0 by omega), hw1]
        exact ih 1 true false (by omega) (by omega) (hlo2 true (hll rfl)) hfa2 q hq
      | false =>
        simp only [annuletref11_right.l0, if_pos (show ((0 : Nat) : Int) < (keys.length : Int) by omega), Bool.false_eq_true, if_false, hff, if_neg (show ¬ ((0 : Nat) : Int) > 0 by omega), if_pos (show (0 : Int) ≤ ((0 : Nat) : Int) by omega), hw1, e1]
        exact ih 1 _ false (by omega) (by omega) (hlo2 _ (hlf rfl)) hfa2 q hq
    · have hwm : wrap64 ((i : Int) - 1) = ((i - 1 : Nat) : Int) := by rw [w64 (by omega) (by omega)]; omega
      have e2 : rdOf ByteArray.empty keys ((i - 1 : Nat) : Int) = keys[i - 1] := by simp [rdOf, List.getD, show i - 1 < keys.length by omega]
      have hlast : (keys.take i).getLast? = some keys[i - 1] := by
        rw [List.getLast?_eq_getElem?, List.length_take, Nat.min_eq_left (by omega), List.getElem?_take]
        simp [show i - 1 < i by omega, show i - 1 < keys.length by omega]
      rw [hlast] at hasc
      dsimp only at hasc
      have hless := lk_Less keys[i - 1] keys[i] (by have := hkz keys[i - 1] (List.getElem_mem _); omega)
      cases falls with
      | true =>
        have hfa2 : (true : Bool) = false ↔ ascL (keys.take (i + 1)) = true := by
          rw [hasc, Bool.and_eq_true]
          constructor
          · intro h; cases h
          · rintro ⟨h, _⟩; exact absurd (hfa.2 h) (by decide)
        cases long with
        | true =>
          simp only [annuletref11_right.l0, if_pos (show (i : Int) < (keys.length : Int) by omega), if_true, hw1]
          exact ih (i + 1) true true (by omega) (by omega) (hlo2 true (hll rfl)) hfa2 q hq
        | false =>
          simp only [annuletref11_right.l0, if_pos (show (i : Int) < (keys.length : Int) by omega), Bool.false_eq_true, if_false, if_true, if_pos (show (0 : Int) ≤ (i : Int) by omega), hw1, e1]
          exact ih (i + 1) _ true (by omega) (by omega) (hlo2 _ (hlf rfl)) hfa2 q hq
      | false =>
        have h0 := hfa.1 rfl
        have hfa2 : (!(Op.bytesLess keys[i - 1].toList keys[i].toList)) = false ↔ ascL (keys.take (i + 1)) = true := by
          rw [hasc, h0, Bool.true_and]
          simp
        cases long with
        | true =>
          simp only [annuletref11_right.l0, if_pos (show (i : Int) < (keys.length : Int) by omega), if_true, Bool.false_eq_true, if_false, if_pos (show (i : Int) > 0 by omega), hwm, if_pos (show (0 : Int) ≤ ((i - 1 : Nat) : Int) by omega), if_pos (show ((i - 1 : Nat) : Int) < (keys.length : Int) by omega), if_pos (show (0 : Int) ≤ (i : Int) by omega), e1, e2, hw1]
          refine ev_bind hless ?_
          exact ih (i + 1) true _ (by omega) (by omega) (hlo2 true (hll rfl)) hfa2 q hq
        | false =>
          simp only [annuletref11_right.l0, if_pos (show (i : Int) < (keys.length : Int) by omega), Bool.false_eq_true, if_false, if_pos (show (i : Int) > 0 by omega), hwm, if_pos (show (0 : Int) ≤ ((i - 1 : Nat) : Int) by omega), if_pos (show ((i - 1 : Nat) : Int) < (keys.length : Int) by omega), if_pos (show (0 : Int) ≤ (i : Int) by omega), e1, e2, hw1]
          refine ev_bind hless ?_
          exact ih (i + 1) _ _ (by omega) (by omega) (hlo2 _ (hlf rfl)) hfa2 q hq
mutual
def keysT : S25 → Prop
  | ⟨_, _, _, keys, kids⟩ => (∀ x ∈ keys, x.size ≤ 9223372036854775807) ∧ keysK kids
def keysK : List S25 → Prop
  | [] => True
  | t :: ts => keysT t ∧ keysK ts
end
theorem keysK_of : ∀ (kids : List S25), (∀ t, t ∈ kids → keysT t) → keysK kids
  | [], _ => by simp [keysK]
  | x :: kids, h => by
    rw [keysK]
    exact ⟨h x (by simp), keysK_of kids (fun t ht => h t (by simp [ht]))⟩
mutual
theorem lk_rright : ∀ (T : S25) (a : Nat), a ≤ 8 → smallT T → keysT T → Ev (fun r => annuletref11_right.f r T.f0 T.f1 T.f2 T.f3 T.f4 (a : Int)) (whyT T a)
  | ⟨k, n, s, keys, kids⟩, a, ha, h, hks => by
    rw [smallT] at h
    rw [keysT] at hks
    rw [whyT]
    unfold whyHere
    refine ev_succ ?_
    simp only [annuletref11_right.f]
    by_cases h1 : a > 7
    · simp only [if_pos h1, if_pos (show (a : Int) > 7 by omega), if_neg (show ¬ (6 : Int) = 0 by decide)]
      exact ev_some _
    simp only [if_neg h1, if_neg (show ¬ (a : Int) > 7 by omega)]
    by_cases h2 : k < 1
    · simp only [if_pos h2, if_pos (show k < 1 ∨ k > 4 from .inl h2), if_neg (show ¬ (9 : Int) = 0 by decide)]
      refine ev_succ ?_
      simp only [annuletref11_right.j0, if_true]
      exact ev_some _
    simp only [if_neg h2]
    by_cases h3 : k > 4
    · simp only [if_pos (show k < 1 ∨ k > 4 from .inr h3), decide_eq_true h3, if_neg (show ¬ (9 : Int) = 0 by decide)]
      refine ev_succ ?_
      simp only [annuletref11_right.j0, if_true]
      exact ev_some _
    simp only [if_neg (show ¬ (k < 1 ∨ k > 4) from fun h => h.elim h2 h3), decide_eq_false h3]
    refine ev_succ ?_
    simp only [annuletref11_right.j0, Bool.false_eq_true, if_false]
    obtain ⟨b, hb, hf⟩ := lk_fields k n s keys kids ⟨by omega, by omega⟩
    refine ev_bind hb ?_
    by_cases h4 : fitT k n s keys kids
    · simp only [hf.2 h4, Bool.false_eq_true, if_false, if_neg (show ¬ ¬ fitT k n s keys kids from fun h => h h4)]
      have := lk_refkeys (a : Int) k n s keys kids h.1 hks.1 _ 0 (decide ((s.size : Int) > 1048576)) false (Nat.zero_le _) rfl (by unfold longU; simp; omega) (by simp [ascL]) (whyK kids (a + 1)) (fun _ _ => lk_rright_kids kids 0 k n s keys kids a (by omega) (by omega) h.2.2 hks.2 rfl)
      refine ev_eq this ?_
      by_cases h5 : longT s keys
      · simp [h5]
      · by_cases h6 : ascL keys = true
        · simp [h5, h6]
        · simp [h5, h6]
    · have hbt : b = true := by
        cases b with
        | true => rfl
        | false => exact absurd (hf.1 rfl) h4
      simp only [hbt, if_true, if_pos (show ¬ fitT k n s keys kids from h4), if_neg (show ¬ (1 : Int) = 0 by decide)]
      exact ev_some _
theorem lk_rright_kids : ∀ (rest : List S25) (i : Nat) (k n : Int) (s : ByteArray) (keys : List ByteArray) (kids : List S25) (a : Nat), a ≤ 7 → kids.length < 1000000000000 → smallK rest → keysK rest → kids.drop i = rest →
    Ev (fun r => annuletref11_right.l1 r (a : Int) (i : Int) k n s keys kids) (whyK rest (a + 1))
  | [], i, k, n, s, keys, kids, a, _, hl, _, _, hd => by
    have : kids.length ≤ i := List.drop_eq_nil_iff.1 hd
    refine ev_succ ?_
    simp only [annuletref11_right.l1, if_neg (show ¬ (i : Int) < (kids.length : Int) by omega), whyK]
    exact ev_some _
  | t :: rest, i, k, n, s, keys, kids, a, ha, hl, hs, hks, hd => by
    rw [smallK] at hs
    rw [keysK] at hks
    obtain ⟨hi, ht, hr⟩ := kids_at hd
    have hw1 : wrap64 ((a : Int) + 1) = ((a + 1 : Nat) : Int) := by rw [w64 (by omega) (by omega)]; omega
    refine ev_succ ?_
    simp only [annuletref11_right.l1, if_pos (show (i : Int) < (kids.length : Int) by omega), if_pos (show (0 : Int) ≤ (i : Int) by omega), hw1]
    rw [rdT_nat' kids i hi, ht]
    refine ev_bind (lk_rright t (a + 1) (by omega) hs.1 hks.1) ?_
    rw [whyK]
    by_cases h0 : whyT t (a + 1) = 0
    · simp only [if_pos h0]
      rw [w64 (by omega) (by omega)]
      exact lk_rright_kids rest (i + 1) k n s keys kids a ha hl hs.2 hks.2 hr
    · simp only [if_neg h0]
      exact ev_some _
end
theorem lk_rtext (s : ByteArray) (h : s.size < 1000000000) : Ev (fun k => annuletref12_text.f k s) (strOfNums (txtL s)) := by
  unfold annuletref12_text.f
  refine ev_bind (lk_ref07_Put (s.size : Int) (by omega) (by omega)) ?_
  have hl : (numL (s.size : Int)).length ≤ 19 := by
    unfold numL
    rw [if_neg (by omega)]
    exact digL_len 18 _ (by omega)
  have e58 : (⟨#[58]⟩ : ByteArray) = strOfNums [58] := rfl
  simp only [e58, strOfNums_append, strOfNums_size, List.length_append, List.length_singleton, if_pos (show (numL (s.size : Int)).length + 1 ≤ 9223372036854775807 by omega), if_pos (show (numL (s.size : Int)).length + 1 + s.size ≤ 9223372036854775807 by omega)]
  refine ev_eq (ev_some _) ?_
  conv => lhs; rw [← str_bytesOf s]
  rw [strOfNums_append]
  unfold txtL
  rw [str_bytesOf]
  simp
mutual
theorem lk_rB : ∀ (T : S25) (a : Nat), whyT T a = 0 → inT T → (putT T).length < 10000000000 → Ev (fun r => rB.f r T) (strOfNums (putT T))
  | ⟨k, n, s, keys, kids⟩, a, hw, hin, hl => by
    obtain ⟨hh, hkids⟩ := whyT_here hw
    obtain ⟨_, h1, h4, hfit, hlong, _⟩ := here_open hh
    dsimp only at h1 h4 hfit hlong hkids
    rw [inT] at hin
    refine ev_succ ?_
    simp only [rB.f]
    by_cases k1 : k = 1
    · simp only [if_pos k1, putT]
      have hn : (numL n).length ≤ 30 := by
        unfold numL
        split
        · have := digL_len20 (n := (-n).toNat) (by omega); simp; omega
        · have := digL_len20 (n := n.toNat) (by omega); omega
      refine ev_bind (lk_ref07_Put n hin.1.1 hin.1.2) ?_
      simp only [strOfNums_size, if_pos (show (numL n).length < 1000 by omega)]
      refine ev_eq (ev_some _) ?_
      rw [show (⟨#[105]⟩ : ByteArray) = strOfNums [105] from rfl, show (⟨#[101]⟩ : ByteArray) = strOfNums [101] from rfl, strOfNums_append, strOfNums_append]
      rfl
    simp only [if_neg k1]
    by_cases k2 : k = 2
    · simp only [if_pos k2, putT, if_neg k1]
      have hs : s.size ≤ 1048576 := Nat.le_of_not_lt fun h => hlong (.inl h)
      exact lk_rtext s (by omega)
    simp only [if_neg k2, putT, if_neg k1] at hl ⊢
    have hfit2 : k = 4 → keys.length = kids.length := by
      intro h
      unfold fitT at hfit
      rw [if_neg k1, if_neg k2, if_neg (by omega)] at hfit
      exact hfit.2.2
    have key := fun l hll => lk_rB_kids kids 0 k n s keys kids keys (a + 1) l hkids hin.2 rfl (by simp) (fun h => by simpa using hfit2 h) (fun x hx => Nat.le_of_not_lt fun h => hlong (.inr ⟨x, hx, h⟩)) (by omega) hll
    by_cases k3 : k = 3
    · simp only [if_pos k3] at hl ⊢
      have := key [108] (by simp at hl ⊢; omega)
      rw [show (⟨#[108]⟩ : ByteArray) = strOfNums [108] from rfl]
      refine ev_eq this ?_
      simp
    · have k4 : k = 4 := by omega
      simp only [if_neg k3, if_pos k4] at hl ⊢
      have := key [100] (by simp at hl ⊢; omega)
      rw [show (⟨#[100]⟩ : ByteArray) = strOfNums [100] from rfl]
      refine ev_eq this ?_
      simp
theorem lk_rB_kids : ∀ (rest : List S25) (i : Nat) (k n : Int) (s : ByteArray) (keys : List ByteArray) (kids : List S25) (krest : List ByteArray) (a : Nat) (l : List Int), whyK rest a = 0 → inK rest → kids.drop i = rest → keys.drop i = krest → (k = 4 → krest.length = rest.length) → (∀ x ∈ keys, x.size ≤ 1048576) → 3 ≤ k →
    l.length + (putK (decide (k = 4)) krest rest).length + 1 < 10000000000 →
    Ev (fun r => rBk.f r ⟨k, n, s, keys, kids⟩ (strOfNums l) i) (strOfNums (l ++ putK (decide (k = 4)) krest rest ++ [101]))
  | [], i, k, n, s, keys, kids, krest, a, l, _, _, hd, _, _, _, _, hl => by
    have : kids.length ≤ i := List.drop_eq_nil_iff.1 hd
    refine ev_succ ?_
    simp only [rBk.f, if_neg (show ¬ i < kids.length by omega), putK, List.append_nil, strOfNums_size] at hl ⊢
    simp only [if_pos (show l.length + 1 < 140737488355328 by simp at hl; omega)]
    refine ev_eq (ev_some _) ?_
    rw [show (⟨#[101]⟩ : ByteArray) = strOfNums [101] from rfl, strOfNums_append]
  | t :: rest, i, k, n, s, keys, kids, krest, a, l, hw, hin, hd, hkd, hkl, hks, hk3, hl => by
    rw [whyK] at hw
    have ht0 : whyT t a = 0 := by
      by_cases h : whyT t a = 0
      · exact h
      · rw [if_neg h] at hw; exact hw
    rw [if_pos ht0] at hw
    rw [inK] at hin
    obtain ⟨hi, ht, hr⟩ := kids_at hd
    have hg : kids.getD i z25 = t := by simp [List.getD, hi, ht]
    refine ev_succ ?_
    simp only [rBk.f, if_pos hi, hg]
    by_cases k4 : k = 4
    · obtain ⟨key, kr, rfl⟩ : ∃ key kr, krest = key :: kr := by
        rcases krest with _ | ⟨x, r⟩
        · simp at hkl; exact absurd k4 hkl
        · exact ⟨x, r, rfl⟩
      have hik : i < keys.length := by
        refine Nat.lt_of_not_le fun h => ?_
        rw [List.drop_of_length_le h] at hkd
        cases hkd
      have hkg : keys.getD i (⟨#[]⟩ : ByteArray) = key := by
        rw [List.drop_eq_getElem_cons hik] at hkd
        simp [List.getD, hik, (List.cons.inj hkd).1]
      have hkr : keys.drop (i + 1) = kr := by
        rw [List.drop_eq_getElem_cons hik] at hkd
        exact (List.cons.inj hkd).2
      have hsz : key.size ≤ 1048576 := by
        refine hks key ?_
        rw [← hkg]
        simp [List.getD, hik]
      simp only [putK, k4, decide_true, if_true, List.headD_cons, List.tail_cons] at hl ⊢
      simp only [if_pos hik, hkg]
      have hlen := len_txtL key (by omega)
      simp only [List.length_append] at hl
      have h1 : Ev (fun r => (annuletref12_text.f r key).bind fun t => if (strOfNums l).size + t.size < 140737488355328 then some (strOfNums l ++ t) else none) (strOfNums (l ++ txtL key)) := by
        refine ev_bind (lk_rtext key (by omega)) ?_
        simp only [strOfNums_size, if_pos (show l.length + (txtL key).length < 140737488355328 by omega), strOfNums_append]
        exact ev_some _
      refine ev_bind h1 ?_
      refine ev_bind (lk_rB t a ht0 hin.1 (by omega)) ?_
      simp only [strOfNums_size, List.length_append, if_pos (show l.length + (txtL key).length + (putT t).length < 140737488355328 by omega), strOfNums_append]
      have := lk_rB_kids rest (i + 1) 4 n s keys kids kr a (l ++ txtL key ++ putT t) hw hin.2 hr hkr (fun _ => by simpa using hkl k4) hks (by omega) (by simp; omega)
      simp only [decide_true] at this
      refine ev_eq this ?_
      simp
    · simp only [putK, k4, decide_false, Bool.false_eq_true, if_false, List.nil_append] at hl ⊢
      simp only [Option.bind_some]
      simp only [List.length_append] at hl
      refine ev_bind (lk_rB t a ht0 hin.1 (by omega)) ?_
      simp only [strOfNums_size, if_pos (show l.length + (putT t).length < 140737488355328 by omega), strOfNums_append]
      have := lk_rB_kids rest (i + 1) k n s keys kids krest.tail a (l ++ putT t) hw hin.2 hr (by rw [← hkd]; simp) (fun h => absurd h k4) hks hk3 (by simp [k4]; omega)
      simp only [k4, decide_false] at this
      refine ev_eq this ?_
      simp
end
theorem ben_part {l : List Int} {e : Int} (h : (ben_Parse.f 60 l).map (·.2) = some e) : ∃ T, ben_Parse.f 60 l = some (T, e) := by
  obtain ⟨⟨T, e1⟩, h1, h2⟩ := Option.map_eq_some_iff.1 h
  cases h2
  exact ⟨T, h1⟩
theorem ben_awake : law12_awake.ok 60 := by
  refine ⟨by kernel_rfl, ben_part (by kernel_rfl), ben_part (by kernel_rfl), ben_part (by kernel_rfl), ben_part (by kernel_rfl), ?_⟩
  have h : (ben_Parse.f 60 [100, 49, 58, 97, 105, 49, 101, 49, 58, 98, 105, 50, 101, 101]).map (fun r => (r.2, r.1.f3.length)) = some (0, 2) := by kernel_rfl
  obtain ⟨⟨T, e1⟩, h1, h2⟩ := Option.map_eq_some_iff.1 h
  injection h2 with h3 h4
  dsimp only at h3 h4
  subst h3
  exact ⟨T, h1, h4⟩
theorem lk_Print (T : S25) (hs : smallT T) (hin : inT T) (hl : (putT T).length < 1000000000) : Ev (fun k => ben_Print.f k T) (if whyT T 0 = 0 then (putT T, 0) else ([], whyT T 0)) := by
  unfold ben_Print.f
  refine ev_bind (lk_Right T hs) ?_
  by_cases h : whyT T 0 = 0
  · simp only [if_pos h]
    have := lk_put T 0 [] h hin (by simp; omega)
    refine ev_bind this ?_
    refine ev_eq (ev_some _) ?_
    simp
  · simp only [if_neg h]
    exact ev_some _
theorem lk_rPrint (T : S25) (hs : smallT T) (hin : inT T) (hk : keysT T) (hl : (putT T).length < 1000000000) : Ev (fun k => ref12_Print.f k T) (if whyT T 0 = 0 then (putT T, 0) else ([], whyT T 0)) := by
  have hR : Ev (fun k => annuletref11_Right.f k T.f0 T.f1 T.f2 T.f3 T.f4) (whyT T 0) := by
    unfold annuletref11_Right.f
    refine ev_bind (lk_rright T 0 (by omega) hs hk) ?_
    exact ev_some _
  unfold ref12_Print.f
  refine ev_bind hR ?_
  by_cases h : whyT T 0 = 0
  · simp only [if_pos h]
    refine ev_bind (lk_rB T 0 h hin (by omega)) ?_
    simp only [strOfNums_size, if_pos (show (putT T).length < 140737488355328 by omega), bytesOf_str (bytes_putT T)]
    exact ev_some _
  · simp only [if_neg h]
    exact ev_some _
theorem keys_of_fit : ∀ {T : S25}, wfT25 T → keysT T := by
  intro T h
  induction h with
  | mk x h hk ih =>
    obtain ⟨k, n, s, keys, kids⟩ := x
    rw [keysT]
    refine ⟨fun x hx => ?_, keysK_of _ ih⟩
    have := h.2.2.2.1.2 x hx
    simpa [maxLen] using this
theorem BenPrints_law : annuletlaw12_BenPrints.Pure := by
  intro a0 a1 a2 l3 l4 h0 h1 h2 h3 h4
  refine ⟨60, ?_⟩
  unfold annuletlaw12_BenPrints.f
  refine if_pos ⟨ben_awake, ?_⟩
  obtain ⟨T, hT⟩ : ∃ T : S25, T = ⟨a0, a1, a2, l3, l4⟩ := ⟨_, rfl⟩
  rw [← hT]
  have hwf : wfT25 T := by rw [hT]; exact wfT25.mk _ ⟨h0, h1, h2, h3, h4.1⟩ h4.2
  rcases lk_Large T (in_of_wf hwf) with hL | ⟨⟨K1, g1⟩, hsm, hlen⟩
  · exact .inl hL
  obtain ⟨K2, g2⟩ := lk_Print T hsm (in_of_wf hwf) (by omega)
  obtain ⟨K3, g3⟩ := lk_rPrint T hsm (in_of_wf hwf) (keys_of_fit hwf) (by omega)
  refine .inr ⟨K1 + K2 + K3, (if whyT T 0 = 0 then (putT T, (0 : Int)) else ([], whyT T 0)).1, (if whyT T 0 = 0 then (putT T, (0 : Int)) else ([], whyT T 0)).2, g1 _ (by omega), g2 _ (by omega), g3 _ (by omega)⟩
end Go.Proofs.Ytekcnfngcgchcaa.PBenPrints
namespace Go.Proofs.Ytekcnfngcgchcaa.Pure
open Go.Proofs.Ytekcnfngcgchcaa.PBenPrints
theorem BenPrints : annuletlaw12_BenPrints.Pure := BenPrints_law
end Go.Proofs.Ytekcnfngcgchcaa.Pure
