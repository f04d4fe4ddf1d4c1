/- BenBack: a tree that is printed is parsed as it was, and bytes that are parsed are printed as they were. No condition. -/
import Derived.Test.YtekcnfngcgchcaaPBenBackx8
import Derived.Test.YtekcnfngcgchcaaMath
set_option linter.unusedVariables false
set_option linter.unusedSimpArgs false
namespace Go.Proofs.Ytekcnfngcgchcaa.PBenBack
open Go.RowKit Go.Proofs.YtekcnfngcgchcaaW.PrintWords Go.Proofs.YtekcnfngcgchcaaW.PrintLast Go.Proofs.YtekcnfngcgchcaaW.PrintMore Annulet

/-! ### package num: the printed functions and the lists -/
theorem lk_num_digits (n : Int) (h0 : 0 ≤ n) (h1 : n < 18446744073709551616) : num_digits.f n = some (strOfNums (digL n.toNat)) := by
  unfold num_digits.f
  rw [if_pos h0, if_pos h1]
theorem lk_num_Put (n : Int) (h : -9223372036854775808 ≤ n) (h' : n < 9223372036854775808) : num_Put.f n = some (strOfNums (numL n)) := by
  unfold num_Put.f numL
  by_cases h0 : n < 0
  · rw [if_pos h0, if_pos h0, w64 (n := n + 1) (by omega) (by omega), w64 (n := -(n + 1)) (by omega) (by omega), wu64_id (n := -(n + 1)) (by omega) (by omega), wu64_id (n := -(n + 1) + 1) (by omega) (by omega), lk_num_digits _ (by omega) (by omega)]
    have e : (-(n + 1) + 1).toNat = (-n).toNat := by omega
    have hl := digL_len20 (n := (-n).toNat) (by omega)
    simp only [Option.bind_some, e, strOfNums_size]
    rw [if_pos (by omega)]
    rw [show (⟨#[45]⟩ : ByteArray) = strOfNums [45] from rfl, strOfNums_append]
    rfl
  · rw [if_neg h0, if_neg h0, wu64_id (by omega) (by omega), lk_num_digits _ (by omega) (by omega)]
    rfl

/-! ### package num: what texts are -/
theorem rd0_cases (l : List Int) : (∃ r, l = 45 :: r) ∨ (¬ ∃ r, l = 45 :: r) := Classical.em _
theorem lk_CutMinus_hit (r : List Int) : strings_CutPrefix.f (strOfNums (45 :: r)) (⟨#[45]⟩ : ByteArray) = some (strOfNums r, true) := by
  have hp : stringslite_HasPrefix.f (strOfNums (45 :: r)) (⟨#[45]⟩ : ByteArray) = some true := by
    unfold stringslite_HasPrefix.f
    rw [show (⟨#[45]⟩ : ByteArray) = strOfNums [45] from rfl]
    simp only [strOfNums_size, List.length_cons, List.length_nil]
    rw [if_pos (by omega), if_pos (by omega), if_pos (by omega), str_extract]
    simp
  unfold strings_CutPrefix.f stringslite_CutPrefix.f
  rw [hp]
  rw [show (⟨#[45]⟩ : ByteArray) = strOfNums [45] from rfl]
  simp only [Option.bind_some, if_true, strOfNums_size, List.length_cons, List.length_nil]
  rw [if_pos (by omega), if_pos (by omega), str_extract]
  simp
theorem lk_CutMinus_miss (l : List Int) (hb : Bytes l) (h : ¬ ∃ r, l = 45 :: r) : strings_CutPrefix.f (strOfNums l) (⟨#[45]⟩ : ByteArray) = some (strOfNums l, false) := by
  have hp : stringslite_HasPrefix.f (strOfNums l) (⟨#[45]⟩ : ByteArray) = some false := by
    unfold stringslite_HasPrefix.f
    rw [show (⟨#[45]⟩ : ByteArray) = strOfNums [45] from rfl]
    simp only [strOfNums_size, List.length_cons, List.length_nil]
    cases l with
    | nil => simp
    | cons x r =>
      have hx : x ≠ 45 := fun e => h ⟨r, by rw [e]⟩
      simp only [List.length_cons]
      rw [if_pos (by omega), if_pos (by omega), if_pos (by omega), str_extract]
      rw [str_beq (bytes_drop (bytes_take hb _) _) (bytes_cons ⟨by omega, by omega⟩ bytes_nil)]
      congr 1
      simp [hx]
  unfold strings_CutPrefix.f stringslite_CutPrefix.f
  rw [hp]
  simp
def okL (l : List Int) : Bool := if l = [] then false else if rd l 0 = 48 then decide (l = [48]) else true
theorem lk_num_magnitude0 (l : List Int) (hb : Bytes l) (d : Nat) : ∀ i : Nat, i ≤ l.length → i ≤ 19 → l.length - i = d → Digits (l.take i) →
    Ev (fun k => num_magnitude.l0 k (strOfNums l) (decL (l.take i)) (l.length : Int) (i : Int)) (if Digits l ∧ l.length ≤ 19 then (decL l, okL l) else (0, false)) := by
  induction d with
  | zero =>
    intro i hi h19 hd hdig
    rw [List.take_of_length_le (by omega)] at hdig ⊢
    rw [if_pos ⟨hdig, by omega⟩]
    refine ev_succ ?_
    simp only [num_magnitude.l0, strOfNums_size, bt_str hb, str_nil]
    rw [show ([48] : List UInt8) = (strOfNums [48]).toList from (str_toList [48]).symm, str_beq hb (bytes_cons ⟨by omega, by omega⟩ bytes_nil)]
    simp only [if_neg (show ¬ (i : Int) < (l.length : Int) by omega)]
    unfold okL
    by_cases h0 : l = []
    · simp only [if_pos h0]; exact ev_some _
    · have : 0 < l.length := List.length_pos_iff.2 h0
      simp only [if_neg h0, if_pos (show (0 : Int) < (l.length : Int) by omega)]
      by_cases h48 : rd l 0 = 48
      · simp only [if_pos h48]; exact ev_some _
      · simp only [if_neg h48]; exact ev_some _
  | succ d ih =>
    intro i hi h19 hd hdig
    have hr := rd_byte hb (i : Int)
    unfold Byte at hr
    have hmem : rd l (i : Int) ∈ l := by
      rw [rd_nat]
      have : i < l.length := by omega
      simp [List.getD, this]
    refine ev_succ ?_
    simp only [num_magnitude.l0, strOfNums_size, bt_str hb]
    simp only [if_pos (show (i : Int) < (l.length : Int) by omega), if_pos (show (0 : Int) ≤ (i : Int) by omega)]
    by_cases h1 : rd l (i : Int) < 48
    · simp only [if_pos h1]
      rw [if_neg (by intro h; have := h.1 _ hmem; omega)]
      exact ev_some _
    simp only [if_neg h1]
    by_cases h2 : rd l (i : Int) > 57
    · simp only [if_pos h2]
      rw [if_neg (by intro h; have := h.1 _ hmem; omega)]
      exact ev_some _
    simp only [if_neg h2]
    by_cases h3 : (i : Int) ≥ 19
    · simp only [if_pos h3]
      rw [if_neg (by intro h; have := h.2; omega)]
      exact ev_some _
    simp only [if_neg h3]
    have hdr := decL_range _ hdig
    rw [List.length_take, Nat.min_eq_left (by omega)] at hdr
    have hp : (10 : Int) ^ i ≤ 10 ^ 18 := by
      have : (10 : Nat) ^ i ≤ 10 ^ 18 := Nat.pow_le_pow_right (by omega) (by omega)
      exact_mod_cast this
    rw [show (10 : Int) ^ 18 = 1000000000000000000 by decide] at hp
    have e : decL (l.take (i + 1)) = decL (l.take i) * 10 + (rd l (i : Int) - 48) := by rw [take_succ_rd l i (by omega), decL_snoc]
    have ed : Digits (l.take (i + 1)) := by rw [take_succ_rd l i (by omega)]; exact digits_snoc.2 ⟨hdig, by omega⟩
    rw [wu64_id (n := decL (l.take i) * 10) (by omega) (by omega), show (rd l (i : Int) - 48) % 256 = rd l (i : Int) - 48 by omega, wu64_id (by omega) (by omega), ← e, w64 (by omega) (by omega)]
    exact ih (i + 1) (by omega) (by omega) (by omega) ed
theorem lk_num_magnitude (l : List Int) (hb : Bytes l) : Ev (fun k => num_magnitude.f k (strOfNums l)) (if Digits l ∧ l.length ≤ 19 then (decL l, okL l) else (0, false)) := by
  unfold num_magnitude.f
  have := lk_num_magnitude0 l hb _ 0 (by omega) (by omega) rfl (fun _ h => by simp at h)
  simp only [strOfNums_size]
  exact this
theorem lk_num_Get_j0 (x5 : Bool) (x6 : Int) (x20 : Bool) (h : x20 = false → if x5 then 0 < x6 ∧ x6 ≤ 9223372036854775808 else 0 ≤ x6 ∧ x6 < 9223372036854775808) :
    Ev (fun k => num_Get.j0 k x5 x6 x20) (if x20 then (0, 3) else if x5 then (-x6, 0) else (x6, 0)) := by
  refine ev_succ ?_
  simp only [num_Get.j0]
  cases x20 with
  | true => simp only [if_true]; exact ev_some _
  | false =>
    have h := h rfl
    simp only [Bool.false_eq_true, if_false]
    cases x5 with
    | true =>
      simp only [if_true] at h ⊢
      rw [wu64_id (n := x6 - 1) (by omega) (by omega), w64 (n := x6 - 1) (by omega) (by omega), w64 (n := -(x6 - 1)) (by omega) (by omega), w64 (by omega) (by omega), show -(x6 - 1) - 1 = -x6 by omega]
      exact ev_some _
    | false =>
      simp only [Bool.false_eq_true, if_false] at h ⊢
      rw [w64 (by omega) (by omega)]
      exact ev_some _
theorem digL_len19 {n : Nat} (h : n ≤ 9223372036854775808) : (digL n).length ≤ 19 := digL_len 18 n (by omega)
theorem okL_digL (n : Nat) : okL (digL n) = true := by
  unfold okL
  have := digL_pos n
  rw [if_neg (by intro h; rw [h] at this; simp at this)]
  split
  · rename_i h; exact decide_eq_true (digL_zero n h)
  · rfl
theorem okL_back {l : List Int} (h : okL l = true) : l ≠ [] ∧ (rd l 0 = 48 → l = [48]) := by
  unfold okL at h
  split at h
  · simp at h
  · rename_i h0
    refine ⟨h0, fun h48 => ?_⟩
    rw [if_pos h48] at h
    exact of_decide_eq_true h
theorem lk_num_Get_bits (l : List Int) (hb : Bytes l) : ∃ r, IsGet l r ∧ Ev (fun k => num_Get.f k (strOfNums l)) r := by
  by_cases h0 : l = []
  · refine ⟨(0, 2), Or.inl ⟨h0, rfl⟩, ?_⟩
    unfold num_Get.f
    simp only [str_nil, if_pos h0]
    exact ev_some _
  unfold num_Get.f
  simp only [str_nil, if_neg h0]
  rcases rd0_cases l with ⟨r, rfl⟩ | hm
  · rw [lk_CutMinus_hit]
    simp only [Option.bind_some]
    have hbr : Bytes r := fun x hx => hb x (by simp [hx])
    have hmag := lk_num_magnitude r hbr
    by_cases hd : Digits r ∧ r.length ≤ 19
    · rw [if_pos hd] at hmag
      by_cases hok : okL r = true
      · have hbk := okL_back hok
        have e := digL_decL r hd.1 hbk.1 hbk.2
        have hr := decL_range r hd.1
        by_cases hz : decL r = 0
        · refine ⟨(0, 3), Or.inr (Or.inr ⟨by simp, ?_, rfl⟩), ?_⟩
          · intro n hn hl
            have hneg := (numL_neg n).1 (by rw [hl]; rfl)
            unfold numL at hl
            rw [if_pos hneg] at hl
            have := congrArg decL (List.cons.inj hl).2
            rw [decL_digL, hz] at this
            omega
          · refine ev_bind hmag ?_
            simp only [hok, if_true, if_pos hz]
            exact lk_num_Get_j0 _ _ _ (by simp)
        · by_cases hg : decL r > 9223372036854775808
          · refine ⟨(0, 3), Or.inr (Or.inr ⟨by simp, ?_, rfl⟩), ?_⟩
            · intro n hn hl
              unfold InI at hn
              have hneg := (numL_neg n).1 (by rw [hl]; rfl)
              unfold numL at hl
              rw [if_pos hneg] at hl
              have := congrArg decL (List.cons.inj hl).2
              rw [decL_digL] at this
              omega
            · refine ev_bind hmag ?_
              simp only [hok, if_true, if_neg hz, if_pos hg, decide_eq_true hg]
              exact lk_num_Get_j0 _ _ _ (by simp)
          · refine ⟨(-decL r, 0), Or.inr (Or.inl ⟨-decL r, ⟨by omega, by omega⟩, ?_, rfl⟩), ?_⟩
            · unfold numL
              rw [if_pos (by omega), Int.neg_neg, e]
            · refine ev_bind hmag ?_
              simp only [hok, if_true, if_neg hz, if_neg hg]
              exact lk_num_Get_j0 true (decL r) false (fun _ => by simp only [if_true]; omega)
      · have hok : okL r = false := by simpa using hok
        refine ⟨(0, 3), Or.inr (Or.inr ⟨by simp, ?_, rfl⟩), ?_⟩
        · intro n hn hl
          have hneg := (numL_neg n).1 (by rw [hl]; rfl)
          unfold numL at hl
          rw [if_pos hneg] at hl
          rw [← (List.cons.inj hl).2, okL_digL] at hok
          simp at hok
        · refine ev_bind hmag ?_
          simp only [hok, Bool.false_eq_true, if_false, Bool.not_false]
          exact lk_num_Get_j0 _ _ _ (by simp)
    · rw [if_neg hd] at hmag
      refine ⟨(0, 3), Or.inr (Or.inr ⟨by simp, ?_, rfl⟩), ?_⟩
      · intro n hn hl
        unfold InI at hn
        have hneg := (numL_neg n).1 (by rw [hl]; rfl)
        unfold numL at hl
        rw [if_pos hneg] at hl
        apply hd
        rw [← (List.cons.inj hl).2]
        exact ⟨digL_digits _, digL_len19 (by omega)⟩
      · refine ev_bind hmag ?_
        simp only [Bool.false_eq_true, if_false, Bool.not_false]
        exact lk_num_Get_j0 _ _ _ (by simp)
  · rw [lk_CutMinus_miss l hb hm]
    simp only [Option.bind_some]
    have hmag := lk_num_magnitude l hb
    have hnn : ∀ n, numL n = l → ¬ n < 0 := by
      intro n hl hn
      unfold numL at hl
      rw [if_pos hn] at hl
      exact hm ⟨_, hl.symm⟩
    by_cases hd : Digits l ∧ l.length ≤ 19
    · rw [if_pos hd] at hmag
      by_cases hok : okL l = true
      · have hbk := okL_back hok
        have e := digL_decL l hd.1 hbk.1 hbk.2
        have hr := decL_range l hd.1
        by_cases hg : decL l ≥ 9223372036854775808
        · refine ⟨(0, 3), Or.inr (Or.inr ⟨h0, ?_, rfl⟩), ?_⟩
          · intro n hn hl
            unfold InI at hn
            have hneg := hnn n hl
            unfold numL at hl
            rw [if_neg hneg] at hl
            have := congrArg decL hl
            rw [decL_digL] at this
            omega
          · refine ev_bind hmag ?_
            simp only [hok, if_true, Bool.false_eq_true, if_false, decide_eq_true hg]
            exact lk_num_Get_j0 _ _ _ (by simp)
        · refine ⟨(decL l, 0), Or.inr (Or.inl ⟨decL l, ⟨by omega, by omega⟩, ?_, rfl⟩), ?_⟩
          · unfold numL
            rw [if_neg (by omega), e]
          · refine ev_bind hmag ?_
            simp only [hok, if_true, Bool.false_eq_true, if_false, decide_eq_false hg]
            exact lk_num_Get_j0 false (decL l) false (fun _ => by simp only [Bool.false_eq_true, if_false]; omega)
      · have hok : okL l = false := by simpa using hok
        refine ⟨(0, 3), Or.inr (Or.inr ⟨h0, ?_, rfl⟩), ?_⟩
        · intro n hn hl
          have hneg := hnn n hl
          unfold numL at hl
          rw [if_neg hneg] at hl
          rw [← hl, okL_digL] at hok
          simp at hok
        · refine ev_bind hmag ?_
          simp only [hok, Bool.false_eq_true, if_false, Bool.not_false]
          exact lk_num_Get_j0 _ _ _ (by simp)
    · rw [if_neg hd] at hmag
      refine ⟨(0, 3), Or.inr (Or.inr ⟨h0, ?_, rfl⟩), ?_⟩
      · intro n hn hl
        unfold InI at hn
        have hneg := hnn n hl
        unfold numL at hl
        rw [if_neg hneg] at hl
        apply hd
        rw [← hl]
        exact ⟨digL_digits _, digL_len19 (by omega)⟩
      · refine ev_bind hmag ?_
        simp only [Bool.false_eq_true, if_false, Bool.not_false]
        exact lk_num_Get_j0 _ _ _ (by simp)
/-! ### layer 12: trees, plainly -/
theorem drop_rd (l : List Int) (i : Nat) (h : i < l.length) : l.drop i = rd l (i : Int) :: l.drop (i + 1) := by
  rw [rd_nat, List.drop_eq_getElem_cons h]
  simp [List.getD, h]
theorem u8_inj {x y : Int} (hx : Byte x) (hy : Byte y) (h : UInt8.ofNat x.toNat = UInt8.ofNat y.toNat) : x = y := by
  have := congrArg UInt8.toNat h
  unfold Byte at hx hy
  simp only [UInt8.toNat_ofNat'] at this
  omega
def off (c : Int) (l : List Int) : Nat := lead (fun x => x != c) l
theorem idxB_off (c : Int) (hc : Byte c) : ∀ (l : List Int), Bytes l → idxB l c = if off c l < l.length then (off c l : Int) else -1
  | [], _ => by simp [idxB, Lib.bytesOf, Lib.indexByte, off, lead]
  | x :: l, hb => by
    have hx : Byte x := hb x (by simp)
    have ih := idxB_off c hc l (fun y hy => hb y (by simp [hy]))
    unfold idxB Lib.bytesOf at ih ⊢
    simp only [List.map_cons, Lib.indexByte]
    by_cases h : x = c
    · subst h
      simp [off, lead, Nat.toUInt8]
    · have hne : (UInt8.ofNat x.toNat == c.toNat.toUInt8) = false := by
        rw [beq_eq_false_iff_ne]
        intro he
        exact h (u8_inj hx hc he)
      rw [hne, ih]
      have ho : off c (x :: l) = off c l + 1 := by simp [off, lead, h]
      rw [ho]
      simp only [List.length_cons, Bool.false_eq_true, if_false]
      by_cases hl : off c l < l.length
      · have h1 : ((off c l : Int) == -1) = false := by rw [beq_eq_false_iff_ne]; omega
        simp only [if_pos hl, h1, Bool.false_eq_true, if_false]
        rw [if_pos (Nat.succ_lt_succ hl)]
        rfl
      · simp only [if_neg hl]
        rw [if_neg (fun h => hl (Nat.lt_of_succ_lt_succ h))]
        rfl
theorem off_at {c : Int} {l : List Int} (h : off c l < l.length) : l = l.take (off c l) ++ c :: l.drop (off c l + 1) := by
  have h1 := lead_stop (fun x => x != c) l h
  have h2 : rd l (off c l : Int) = c := by
    rw [rd_nat]
    have : (l.getD (off c l) 0 != c) = false := h1
    exact bne_eq_false_iff_eq.1 this
  have h3 := drop_rd l _ h
  rw [h2] at h3
  rw [← h3, List.take_append_drop]
theorem off_app (c : Int) : ∀ (a b : List Int), c ∉ a → off c (a ++ c :: b) = a.length
  | [], b, _ => by simp [off, lead]
  | x :: a, b, h => by
    have hx : ¬ x = c := fun e => h (by simp [e])
    have := off_app c a b (fun hm => h (by simp [hm]))
    simp only [off] at this ⊢
    simp [lead, hx, this]
/-- numbers: what stands ahead of a byte -/
theorem lk_upTo (l : List Int) (hb : Bytes l) (c : Int) (hc : Byte c) :
    (∃ e r', e ≠ 0 ∧ Ev (fun k => ben_upTo.f k l c) (.wrong e, r') ∧ ((off c l ≥ l.length ∧ e = 2) ∨ (off c l < l.length ∧ e = 3 ∧ ∃ r : Int × Int, IsGet (l.take (off c l)) r ∧ r.2 ≠ 0))) ∨
    (∃ n, InI n ∧ off c l < l.length ∧ l.take (off c l) = numL n ∧ Ev (fun k => ben_upTo.f k l c) (.num n, l.drop (off c l + 1))) := by
  have hi := idxB_off c hc l hb
  by_cases h : off c l < l.length
  · rw [if_pos h] at hi
    obtain ⟨r, hr, hev⟩ := lk_num_Get_bits (l.take (off c l)) (bytes_take hb _)
    have key : Ev (fun k => ben_upTo.f k l c) (if r.2 = 0 then (.num r.1, l.drop (off c l + 1)) else (.wrong 3, l)) := by
      unfold ben_upTo.f
      simp only [hi, Int.toNat_natCast]
      simp only [if_neg (show ¬ (off c l : Int) < 0 by omega), if_pos (show (off c l : Int) < (l.length : Int) by omega)]
      refine ev_bind hev ?_
      by_cases h0 : r.2 = 0
      · simp only [if_pos h0]; exact ev_some _
      · simp only [if_neg h0]; exact ev_some _
    rcases hr with ⟨h1, rfl⟩ | ⟨n, hn, hnl, rfl⟩ | ⟨h1, h2, rfl⟩
    · refine .inl ⟨3, l, by decide, key, .inr ⟨h, rfl, _, .inl ⟨h1, rfl⟩, by decide⟩⟩
    · exact .inr ⟨n, hn, h, hnl.symm, key⟩
    · refine .inl ⟨3, l, by decide, key, .inr ⟨h, rfl, _, .inr (.inr ⟨h1, h2, rfl⟩), by decide⟩⟩
  · rw [if_neg h] at hi
    refine .inl ⟨2, l, by decide, ?_, .inl ⟨by omega, rfl⟩⟩
    unfold ben_upTo.f
    simp only [hi]
    simp only [if_pos (show (-1 : Int) < 0 by decide)]
    exact ev_some _
/-! ### trees: their bytes, and why they may not be -/
def txtL (s : ByteArray) : List Int := numL (s.size : Int) ++ 58 :: bytesOf s
mutual
def putT : S25 → List Int
  | ⟨k, n, s, keys, kids⟩ => if k = 1 then 105 :: (numL n ++ [101]) else if k = 2 then txtL s else (if k = 3 then 108 else 100) :: (putK (decide (k = 4)) keys kids ++ [101])
def putK : Bool → List ByteArray → List S25 → List Int
  | _, _, [] => []
  | d, keys, t :: ts => (if d = true then txtL (keys.headD ⟨#[]⟩) else []) ++ (putT t ++ putK d keys.tail ts)
end
def ascL : List ByteArray → Bool
  | [] => true
  | [_] => true
  | a :: b :: r => Op.bytesLess a.toList b.toList && ascL (b :: r)
def fitT (k n : Int) (s : ByteArray) (keys : List ByteArray) (kids : List S25) : Prop :=
  if k = 1 then s.toList = [] ∧ keys = [] ∧ kids = [] else if k = 2 then n = 0 ∧ keys = [] ∧ kids = [] else if k = 3 then n = 0 ∧ s.toList = [] ∧ keys = [] else n = 0 ∧ s.toList = [] ∧ keys.length = kids.length
def longT (s : ByteArray) (keys : List ByteArray) : Prop := s.size > 1048576 ∨ ∃ x ∈ keys, x.size > 1048576
open Classical in
noncomputable def whyHere (k n : Int) (s : ByteArray) (keys : List ByteArray) (kids : List S25) (a : Nat) : Int :=
  if a > 7 then 6 else if k < 1 ∨ k > 4 then 9 else if ¬ fitT k n s keys kids then 1 else if longT s keys then 5 else if ascL keys = true then 0 else 3
mutual
noncomputable def whyT : S25 → Nat → Int
  | ⟨k, n, s, keys, kids⟩, a => if whyHere k n s keys kids a = 0 then whyK kids (a + 1) else whyHere k n s keys kids a
noncomputable def whyK : List S25 → Nat → Int
  | [], _ => 0
  | t :: ts, a => if whyT t a = 0 then whyK ts a else whyT t a
end
mutual
def smallT : S25 → Prop
  | ⟨_, _, _, keys, kids⟩ => keys.length < 1000000000 ∧ kids.length < 1000000000 ∧ smallK kids
def smallK : List S25 → Prop
  | [] => True
  | t :: ts => smallT t ∧ smallK ts
end
theorem putK_list : ∀ (kids : List S25) (t : S25), putK false [] (kids ++ [t]) = putK false [] kids ++ putT t
  | [], t => by simp [putK]
  | x :: kids, t => by
    have := putK_list kids t
    simp only [List.cons_append, putK, List.tail_nil, this]
    simp
theorem putK_dict : ∀ (keys : List ByteArray) (kids : List S25) (x : ByteArray) (t : S25), keys.length = kids.length → putK true (keys ++ [x]) (kids ++ [t]) = putK true keys kids ++ (txtL x ++ putT t)
  | [], [], x, t, _ => by simp [putK]
  | [], _ :: _, _, _, h => by simp at h
  | _ :: _, [], _, _, h => by simp at h
  | y :: keys, u :: kids, x, t, h => by
    have := putK_dict keys kids x t (by simpa using h)
    simp only [List.cons_append, putK, List.tail_cons, List.headD_cons, this]
    simp
theorem whyK_snoc : ∀ (kids : List S25) (t : S25) (a : Nat), whyK kids a = 0 → whyT t a = 0 → whyK (kids ++ [t]) a = 0
  | [], t, a, _, h => by simp [whyK, h]
  | x :: kids, t, a, h0, h => by
    simp only [whyK] at h0
    by_cases hx : whyT x a = 0
    · rw [if_pos hx] at h0
      simp only [List.cons_append, whyK, if_pos hx]
      exact whyK_snoc kids t a h0 h
    · rw [if_neg hx] at h0
      exact absurd h0 hx
theorem smallK_snoc : ∀ (kids : List S25) (t : S25), smallK kids → smallT t → smallK (kids ++ [t])
  | [], t, _, h => by simp [smallK, h]
  | x :: kids, t, h0, h => by
    simp only [List.cons_append, smallK] at h0 ⊢
    exact ⟨h0.1, smallK_snoc kids t h0.2 h⟩
theorem u8_lt {x y : Int} (hx : Byte x) (hy : Byte y) : (UInt8.ofNat x.toNat < UInt8.ofNat y.toNat) ↔ x < y := by
  unfold Byte at hx hy
  rw [UInt8.lt_iff_toNat_lt]
  simp only [UInt8.toNat_ofNat']
  omega
theorem less_turn : ∀ a b : List UInt8, (!(Op.bytesLess a b || a == b)) = Op.bytesLess b a
  | [], [] => rfl
  | [], _ :: _ => rfl
  | _ :: _, [] => rfl
  | x :: a, y :: b => by
    have ih := less_turn a b
    simp only [Op.bytesLess]
    rcases Nat.lt_trichotomy x.toNat y.toNat with h | h | h
    · have h1 : x < y := UInt8.lt_iff_toNat_lt.2 h
      have h2 : ¬ y < x := fun h' => by have := UInt8.lt_iff_toNat_lt.1 h'; omega
      have h3 : ¬ y = x := fun h' => by rw [h'] at h; omega
      simp [h1, h2, h3]
    · obtain rfl : x = y := UInt8.toNat_inj.1 h
      have h2 : ¬ x < x := fun h' => by have := UInt8.lt_iff_toNat_lt.1 h'; omega
      simp only [h2, decide_false, beq_self_eq_true, Bool.true_and, Bool.false_or, ← ih]
      congr 2
      simp [List.cons_beq_cons]
    · have h1 : y < x := UInt8.lt_iff_toNat_lt.2 h
      have h2 : ¬ x < y := fun h' => by have := UInt8.lt_iff_toNat_lt.1 h'; omega
      have h3 : ¬ x = y := fun h' => by rw [h'] at h; omega
      have h4 : ¬ y = x := fun e => h3 e.symm
      simp [h1, h2, h3]
theorem ascL_snoc : ∀ (keys : List ByteArray) (x : ByteArray), ascL (keys ++ [x]) = (ascL keys && match keys.getLast? with | none => true | some y => Op.bytesLess y.toList x.toList)
  | [], x => by simp [ascL]
  | [y], x => by simp [ascL]
  | y :: z :: r, x => by
    have := ascL_snoc (z :: r) x
    simp only [List.cons_append, ascL] at this ⊢
    rw [this, Bool.and_assoc, List.getLast?_cons_cons]
theorem keyUp_less (keys : List ByteArray) (x : ByteArray) : keyUp keys x = match keys.getLast? with | none => true | some y => Op.bytesLess y.toList x.toList := by
  unfold keyUp
  cases keys.getLast? with
  | none => rfl
  | some y => exact less_turn _ _
mutual
def inT : S25 → Prop
  | ⟨_, n, _, _, kids⟩ => (-9223372036854775808 ≤ n ∧ n < 9223372036854775808) ∧ inK kids
def inK : List S25 → Prop
  | [] => True
  | t :: ts => inT t ∧ inK ts
end
theorem inK_snoc : ∀ (kids : List S25) (t : S25), inK kids → inT t → inK (kids ++ [t])
  | [], t, _, h => by simp [inK, h]
  | x :: kids, t, h0, h => by
    simp only [List.cons_append, inK] at h0 ⊢
    exact ⟨h0.1, inK_snoc kids t h0.2 h⟩
theorem inK_of : ∀ (kids : List S25), (∀ t, t ∈ kids → inT t) → inK kids
  | [], _ => by simp [inK]
  | x :: kids, h => by
    rw [inK]
    exact ⟨h x (by simp), inK_of kids (fun t ht => h t (by simp [ht]))⟩
theorem bytes_txtL (s : ByteArray) : Bytes (txtL s) := bytes_append (numL_bytes _) (bytes_cons ⟨by decide, by decide⟩ (bytesOf_bytes s))
mutual
theorem bytes_putT : ∀ T : S25, Bytes (putT T)
  | ⟨k, n, s, keys, kids⟩ => by
    rw [putT]
    split
    · exact bytes_cons ⟨by decide, by decide⟩ (bytes_append (numL_bytes n) (bytes_cons ⟨by decide, by decide⟩ bytes_nil))
    · split
      · exact bytes_txtL s
      · refine bytes_cons (by split <;> exact ⟨by decide, by decide⟩) (bytes_append (bytes_putK _ _ kids) (bytes_cons ⟨by decide, by decide⟩ bytes_nil))
theorem bytes_putK : ∀ (d : Bool) (keys : List ByteArray) (kids : List S25), Bytes (putK d keys kids)
  | _, _, [] => by rw [putK]; exact bytes_nil
  | d, keys, t :: ts => by
    rw [putK]
    refine bytes_append ?_ (bytes_append (bytes_putT t) (bytes_putK d keys.tail ts))
    split
    · exact bytes_txtL _
    · exact bytes_nil
end
theorem digB_45' {c : Int} (h : digB c = true) : c ≠ 45 ∧ 48 ≤ c ∧ c ≤ 57 := by
  unfold digB at h
  rw [Bool.and_eq_true] at h
  have h1 := of_decide_eq_true h.1
  have h2 := of_decide_eq_true h.2
  omega
theorem ev_map' {α β : Type} {g : Nat → Option α} {f : α → β} {r : α} (h : Ev g r) : Ev (fun k => (g k).map f) (f r) := by
  obtain ⟨K, hK⟩ := h
  exact ⟨K, fun k hk => by simp only [hK k hk, Option.map_some]⟩
def Tl (dict : Bool) (keys : List ByteArray) (kids : List S25) : S25 := ⟨if dict = true then 4 else 3, 0, ⟨#[]⟩, keys, kids⟩
theorem numL_head {n : Int} {c : Int} {t : List Int} (hd : (numL n ++ c :: t).head? ≠ some 45) : 0 ≤ n := by
  refine Int.not_lt.1 fun hn => hd ?_
  have := (numL_neg n).2 hn
  have hne := numL_ne n
  rcases hq : numL n with _ | ⟨x, r⟩
  · exact absurd hq hne
  · rw [hq] at this
    simpa [rd] using this
/-- a text: what any bytes tell -/
theorem text_one (l : List Int) (hb : Bytes l) (hd : l.head? ≠ some 45) :
    (∃ e r', e ≠ 0 ∧ Ev (fun k => rb_text.f k l) (.wrong e, r')) ∨
    (∃ g r, Bytes g ∧ Bytes r ∧ g.length ≤ 1048576 ∧ r.length < l.length ∧ l = txtL (strOfNums g) ++ r ∧ Ev (fun k => rb_text.f k l) (.text (strOfNums g), r)) := by
  rcases lk_upTo l hb 58 ⟨by decide, by decide⟩ with ⟨e, r', he, h1, _⟩ | ⟨n, hn, ho, ht, h1⟩
  · refine .inl ⟨e, r', he, ?_⟩
    unfold rb_text.f
    refine ev_bind h1 ?_
    exact ev_some _
  · have hl := off_at ho
    rw [ht] at hl
    obtain ⟨m, hm⟩ : ∃ m, l.drop (off 58 l + 1) = m := ⟨_, rfl⟩
    rw [hm] at hl h1
    have hbm : Bytes m := by rw [← hm]; exact bytes_drop hb _
    have hn0 : 0 ≤ n := numL_head (by rw [← hl]; exact hd)
    by_cases hlong : n > 1048576
    · refine .inl ⟨5, m, by decide, ?_⟩
      unfold rb_text.f
      refine ev_bind h1 ?_
      simp only [if_pos hlong]
      exact ev_some _
    · by_cases hsh : n > (m.length : Int)
      · refine .inl ⟨2, m, by decide, ?_⟩
        unfold rb_text.f
        refine ev_bind h1 ?_
        simp only [if_neg hlong, if_pos hsh]
        exact ev_some _
      · obtain ⟨N, rfl⟩ := Int.eq_ofNat_of_zero_le hn0
        have hN : (m.take N).length = N := by rw [List.length_take]; omega
        have hmd : m.take N ++ m.drop N = m := List.take_append_drop _ _
        refine .inr ⟨m.take N, m.drop N, bytes_take hbm _, bytes_drop hbm _, by omega, ?_, ?_, ?_⟩
        · rw [hl]; simp; omega
        · unfold txtL
          rw [strOfNums_size, hN, bytesOf_str (bytes_take hbm _), List.append_assoc, List.cons_append, hmd]
          exact hl
        · unfold rb_text.f
          refine ev_bind h1 ?_
          simp only [if_neg hlong, if_neg hsh, if_pos hn0, Int.toNat_natCast]
          exact ev_some _
theorem why_ok' {k n : Int} {s : ByteArray} {keys : List ByteArray} {kids : List S25} {a : Nat} (ha : a ≤ 7) (hk : 1 ≤ k ∧ k ≤ 4) (hf : fitT k n s keys kids) (hl : ¬ longT s keys) (hasc : ascL keys = true) (hkids : whyK kids (a + 1) = 0) : whyT ⟨k, n, s, keys, kids⟩ a = 0 := by
  have : whyHere k n s keys kids a = 0 := by
    unfold whyHere
    rw [if_neg (by omega), if_neg (by omega), if_neg (fun h => h hf), if_neg hl, if_pos hasc]
  rw [whyT, if_pos this]
  exact hkids
theorem nil_toList' : (⟨#[]⟩ : ByteArray).toList = [] := by rw [toList_data]
structure InvL' (dict : Bool) (a : Nat) (keys : List ByteArray) (kids : List S25) : Prop where
  why : whyK kids (a + 1) = 0
  small : smallK kids
  inn : inK kids
  yes : dict = true → keys.length = kids.length ∧ ascL keys = true ∧ ∀ x ∈ keys, x.size ≤ 1048576
  no : dict = false → keys = []
theorem why_list' {dict : Bool} {a : Nat} {keys : List ByteArray} {kids : List S25} (ha : a ≤ 7) (h : InvL' dict a keys kids) : whyT (Tl dict keys kids) a = 0 := by
  unfold Tl
  cases dict with
  | false =>
    have := h.no rfl
    subst this
    exact why_ok' ha ⟨by decide, by decide⟩ (by unfold fitT; simp [nil_toList']) (by unfold longT; rintro (h | ⟨x, hx, _⟩); exact absurd h (by decide); cases hx) rfl h.why
  | true =>
    obtain ⟨h1, h2, h3⟩ := h.yes rfl
    exact why_ok' ha ⟨by decide, by decide⟩ (by unfold fitT; simp [nil_toList', h1]) (by unfold longT; rintro (h | ⟨x, hx, hs⟩); exact absurd h (by decide); have := h3 x hx; omega) h2 h.why
theorem putT_list' (dict : Bool) (keys : List ByteArray) (kids : List S25) : putT (Tl dict keys kids) = (if dict = true then 100 else 108) :: (putK dict keys kids ++ [101]) := by
  cases dict <;> simp [Tl, putT]
theorem bV_step' (k : Nat) (rest : List Int) (level : Int) : bV.f (k + 1) rest level = (rb_part.f k rest level).bind fun p => match p.1 with
    | .wrong e => some (z25, e, p.2)
    | .num n => some (⟨1, n, ⟨#[]⟩, [], []⟩, 0, p.2)
    | .text s => some (⟨2, 0, s, [], []⟩, 0, p.2)
    | .opn c => bM.f k p.2 level (c == 100) (Tl (c == 100) [] []) := rfl
def kpB' (k : Nat) (rest : List Int) (dict : Bool) (keys : List ByteArray) : Option (List ByteArray × Int × List Int) := if dict = true then (rb_key.f k rest keys).map (fun q => (keys ++ [q.1], q.2.1, q.2.2)) else some (keys, 0, rest)
theorem bM_step' (k : Nat) (rest : List Int) (level : Int) (dict : Bool) (keys : List ByteArray) (kids : List S25) (h1 : keys.length < 1099511627776) (h2 : kids.length < 1099511627776) (he : (rb_ends.f rest).1 = false) :
    bM.f (k + 1) rest level dict (Tl dict keys kids) = (kpB' k rest dict keys).bind fun q => if q.2.1 = 0 then (bV.f k q.2.2 (wrap64 (level + 1))).bind fun r => if r.2.1 = 0 then bM.f k r.2.2 level dict (Tl dict q.1 (kids ++ [r.1])) else some (z25, r.2.1, r.2.2) else some (z25, q.2.1, q.2.2) := by
  rw [bM.f, he]
  simp only [Bool.false_eq_true, if_false]
  rw [if_pos (show (Tl dict keys kids).f3.length < 1099511627776 ∧ (Tl dict keys kids).f4.length < 1099511627776 from ⟨h1, h2⟩)]
  rfl
theorem key_one (l : List Int) (hb : Bytes l) (dict : Bool) (keys : List ByteArray) :
    (∃ e ks r', e ≠ 0 ∧ Ev (fun k => kpB' k l dict keys) (ks, e, r')) ∨
    (∃ keys1 r, Bytes r ∧ r.length ≤ l.length ∧ Ev (fun k => kpB' k l dict keys) (keys1, 0, r) ∧
      (dict = false → keys1 = keys ∧ r = l) ∧ (dict = true → ∃ x, keys1 = keys ++ [x] ∧ r.length < l.length ∧ x.size ≤ 1048576 ∧ (match keys.getLast? with | none => true | some y => Op.bytesLess y.toList x.toList) = true ∧ l = txtL x ++ r)) := by
  cases dict with
  | false => exact .inr ⟨keys, l, hb, Nat.le_refl _, ev_some _, fun _ => ⟨rfl, rfl⟩, fun h => by cases h⟩
  | true =>
    unfold kpB'
    simp only [if_true]
    rcases l with _ | ⟨c, t⟩
    · exact .inl ⟨2, _, _, by decide, ev_map' (r := (⟨#[]⟩, 2, [])) (by simp only [rb_key.f]; exact ev_some _)⟩
    by_cases hd : digB c = true
    · rcases text_one (c :: t) hb (by simpa using (digB_45' hd).1) with ⟨e, r', he, h1⟩ | ⟨g, r, hg, hbr, hgl, hrl, hlt, h1⟩
      · refine .inl ⟨e, _, _, he, ev_map' (r := (⟨#[]⟩, e, r')) ?_⟩
        simp only [rb_key.f, if_pos hd]
        refine ev_bind h1 ?_
        exact ev_some _
      · have hkey : Ev (fun k => rb_key.f k (c :: t) keys) (if keyUp keys (strOfNums g) = true then (strOfNums g, 0, r) else (⟨#[]⟩, 3, r)) := by
          simp only [rb_key.f, if_pos hd]
          refine ev_bind h1 ?_
          by_cases hk : keyUp keys (strOfNums g) = true
          · simp only [if_pos hk]; exact ev_some _
          · simp only [if_neg hk]; exact ev_some _
        by_cases hk : keyUp keys (strOfNums g) = true
        · rw [if_pos hk] at hkey
          refine .inr ⟨_, r, hbr, by omega, ev_map' hkey, (fun h => by cases h), fun _ => ⟨strOfNums g, rfl, hrl, by rw [strOfNums_size]; exact hgl, by rw [← keyUp_less]; exact hk, hlt⟩⟩
        · rw [if_neg hk] at hkey
          exact .inl ⟨3, _, _, by decide, ev_map' hkey⟩
    · refine .inl ⟨3, _, _, by decide, ev_map' (r := (⟨#[]⟩, 3, c :: t)) ?_⟩
      simp only [rb_key.f, if_neg hd]
      exact ev_some _
def VO (l : List Int) (a : Nat) : Prop :=
  (∃ e r', e ≠ 0 ∧ Ev (fun k => bV.f k l ((a : Int) + 1)) (z25, e, r')) ∨
  (∃ T r, Bytes r ∧ r.length < l.length ∧ whyT T a = 0 ∧ smallT T ∧ inT T ∧ l = putT T ++ r ∧ Ev (fun k => bV.f k l ((a : Int) + 1)) (T, 0, r))
theorem list_one (a : Nat) (ha : a ≤ 7) (dict : Bool) (n : Nat) (hn : n < 1000000000) (hV : ∀ l, Bytes l → l.length ≤ n → VO l (a + 1)) :
    ∀ (d : Nat) (l l0 : List Int) (keys : List ByteArray) (kids : List S25), Bytes l → l.length ≤ d → d ≤ n → keys.length + l.length ≤ n → kids.length + l.length ≤ n → InvL' dict a keys kids → l0 = putK dict keys kids ++ l →
    (∃ e r', e ≠ 0 ∧ Ev (fun k => bM.f k l ((a : Int) + 1) dict (Tl dict keys kids)) (z25, e, r')) ∨
    (∃ keys' kids' r, Bytes r ∧ r.length < l.length ∧ InvL' dict a keys' kids' ∧ keys'.length ≤ n ∧ kids'.length ≤ n ∧ l0 = putK dict keys' kids' ++ 101 :: r ∧ Ev (fun k => bM.f k l ((a : Int) + 1) dict (Tl dict keys kids)) (Tl dict keys' kids', 0, r)) := by
  intro d
  induction d with
  | zero =>
    intro l l0 keys kids hb hd hdn hk1 hk2 hI hp
    obtain rfl : l = [] := List.length_eq_zero_iff.1 (by omega)
    have heB : (rb_ends.f []).1 = false := rfl
    have hwl : wrap64 ((a : Int) + 1 + 1) = ((a + 1 : Nat) : Int) + 1 := by rw [w64 (by omega) (by omega)]; omega
    rcases key_one [] hb dict keys with ⟨e, ks, r', he, h1⟩ | ⟨keys1, r, hbr, hrl, h1, _⟩
    · refine .inl ⟨e, r', he, ev_succ ?_⟩
      simp only [bM_step' _ _ _ _ keys kids (by omega) (by omega) heB]
      refine ev_bind h1 ?_
      simp only [if_neg he]
      exact ev_some _
    · obtain rfl : r = [] := List.length_eq_zero_iff.1 (by simpa using hrl)
      rcases hV [] hb (by simp) with ⟨e, r', he, h5⟩ | ⟨T, m, _, h6, _⟩
      · refine .inl ⟨e, r', he, ev_succ ?_⟩
        simp only [bM_step' _ _ _ _ keys kids (by omega) (by omega) heB]
        refine ev_bind h1 ?_
        simp only [if_true, hwl]
        refine ev_bind h5 ?_
        simp only [if_neg he]
        exact ev_some _
      · simp at h6
  | succ d ih =>
    intro l l0 keys kids hb hd hdn hk1 hk2 hI hp
    by_cases hend : ∃ t, l = 101 :: t
    · obtain ⟨t, rfl⟩ := hend
      refine .inr ⟨keys, kids, t, fun x hx => hb x (by simp [hx]), by simp, hI, by omega, by omega, hp, ev_succ ?_⟩
      simp only [bM.f, rb_ends.f, if_true]
      exact ev_some _
    · have heB : (rb_ends.f l).1 = false := by
        rcases l with _ | ⟨c, t⟩
        · rfl
        · have : ¬ c = 101 := fun h => hend ⟨t, by rw [h]⟩
          simp [rb_ends.f, this]
      have hwl : wrap64 ((a : Int) + 1 + 1) = ((a + 1 : Nat) : Int) + 1 := by rw [w64 (by omega) (by omega)]; omega
      rcases key_one l hb dict keys with ⟨e, ks, r', he, h1⟩ | ⟨keys1, r, hbr, hrl, h1, h3, h4⟩
      · refine .inl ⟨e, r', he, ev_succ ?_⟩
        simp only [bM_step' _ _ _ _ keys kids (by omega) (by omega) heB]
        refine ev_bind h1 ?_
        simp only [if_neg he]
        exact ev_some _
      · rcases hV r hbr (by omega) with ⟨e, r', he, h5⟩ | ⟨T, m, hbm, hml, hw, hs, hit, hpt, h5⟩
        · refine .inl ⟨e, r', he, ev_succ ?_⟩
          simp only [bM_step' _ _ _ _ keys kids (by omega) (by omega) heB]
          refine ev_bind h1 ?_
          simp only [if_true, hwl]
          refine ev_bind h5 ?_
          simp only [if_neg he]
          exact ev_some _
        · have hI2 : InvL' dict a keys1 (kids ++ [T]) := by
            refine ⟨whyK_snoc _ _ _ hI.why hw, smallK_snoc _ _ hI.small hs, inK_snoc _ _ hI.inn hit, fun hd => ?_, fun hd => ?_⟩
            · obtain ⟨x, rfl, _, hx, hlt, _⟩ := h4 hd
              obtain ⟨i1, i2, i3⟩ := hI.yes hd
              refine ⟨by simp [i1], by rw [ascL_snoc, i2, hlt]; rfl, fun y hy => ?_⟩
              rcases List.mem_append.1 hy with h | h
              · exact i3 y h
              · rw [List.mem_singleton.1 h]; exact hx
            · rw [(h3 hd).1]; exact hI.no hd
          have hp2 : l0 = putK dict keys1 (kids ++ [T]) ++ m := by
            cases dict with
            | false =>
              obtain ⟨rfl, rfl⟩ := h3 rfl
              have hk := hI.no rfl
              subst hk
              rw [putK_list, List.append_assoc, ← hpt, ← hp]
            | true =>
              obtain ⟨x, rfl, _, _, _, htx⟩ := h4 rfl
              rw [putK_dict _ _ _ _ (hI.yes rfl).1, List.append_assoc, List.append_assoc, ← hpt, ← htx, ← hp]
          have hk3 : keys1.length + m.length ≤ n := by
            cases dict with
            | false => rw [(h3 rfl).1]; omega
            | true =>
              obtain ⟨x, rfl, hlt, _⟩ := h4 rfl
              simp; omega
          have hrec := ih m l0 keys1 (kids ++ [T]) hbm (by omega) (by omega) hk3 (by simp; omega) hI2 hp2
          rcases hrec with ⟨e, r', he, h9⟩ | ⟨keys', kids', r', g3, g4, g5, g6, g7, g8, h9⟩
          · refine .inl ⟨e, r', he, ev_succ ?_⟩
            simp only [bM_step' _ _ _ _ keys kids (by omega) (by omega) heB]
            refine ev_bind h1 ?_
            simp only [if_true, hwl]
            refine ev_bind h5 ?_
            simp only [if_true]
            exact h9
          · refine .inr ⟨keys', kids', r', g3, by omega, g5, g6, g7, g8, ev_succ ?_⟩
            simp only [bM_step' _ _ _ _ keys kids (by omega) (by omega) heB]
            refine ev_bind h1 ?_
            simp only [if_true, hwl]
            refine ev_bind h5 ?_
            simp only [if_true]
            exact h9
theorem value_one : ∀ (n : Nat) (l : List Int) (a : Nat), Bytes l → l.length ≤ n → n < 1000000000 → a ≤ 8 → VO l a := by
  have hshort : ∀ a, VO [] a := by
    intro a
    refine .inl ⟨2, [], by decide, ev_succ ?_⟩
    simp only [bV_step', rb_part.f, Option.bind_some]
    exact ev_some _
  intro n
  induction n with
  | zero =>
    intro l a _ h0 _ ha
    obtain rfl : l = [] := List.length_eq_zero_iff.1 (by omega)
    exact hshort a
  | succ n ih =>
    intro l a hb hd hn ha
    rcases l with _ | ⟨c, t⟩
    · exact hshort a
    have hbt : Bytes t := fun x hx => hb x (by simp [hx])
    simp only [List.length_cons] at hd
    by_cases h1 : c ≠ 105 ∧ c ≠ 108 ∧ c ≠ 100 ∧ digB c = false
    · refine .inl ⟨3, c :: t, by decide, ev_succ ?_⟩
      simp only [bV_step', rb_part.f, if_pos h1, Option.bind_some]
      exact ev_some _
    by_cases h2 : a > 7
    · refine .inl ⟨6, c :: t, by decide, ev_succ ?_⟩
      simp only [bV_step', rb_part.f, if_neg h1, if_pos (show (a : Int) + 1 > 8 by omega), Option.bind_some]
      exact ev_some _
    have h2' : ¬ (a : Int) + 1 > 8 := by omega
    by_cases h3 : digB c = true
    · rcases text_one (c :: t) hb (by simpa using (digB_45' h3).1) with ⟨e, r', he, h5⟩ | ⟨g, r, hg, hbr, hgl, hrl, hlt, h5⟩
      · refine .inl ⟨e, r', he, ev_succ ?_⟩
        simp only [bV_step', rb_part.f, if_neg h1, if_neg h2', if_pos h3]
        refine ev_bind h5 ?_
        exact ev_some _
      · refine .inr ⟨⟨2, 0, strOfNums g, [], []⟩, r, hbr, hrl, ?_, by simp [smallT, smallK], by simp [inT, inK], ?_, ev_succ ?_⟩
        · refine why_ok' (by omega) ⟨by decide, by decide⟩ (by unfold fitT; simp) ?_ rfl (by simp [whyK])
          unfold longT
          rintro (h | ⟨x, hx, _⟩)
          · rw [strOfNums_size] at h; omega
          · cases hx
        · rw [hlt]; simp [putT]
        · simp only [bV_step', rb_part.f, if_neg h1, if_neg h2', if_pos h3]
          refine ev_bind h5 ?_
          exact ev_some _
    by_cases h4 : c = 105
    · rcases lk_upTo t hbt 101 ⟨by decide, by decide⟩ with ⟨e, r', he, h5, _⟩ | ⟨n', hn', ho, ht, h5⟩
      · refine .inl ⟨e, r', he, ev_succ ?_⟩
        simp only [bV_step', rb_part.f, if_neg h1, if_neg h2', if_neg h3, if_pos h4]
        refine ev_bind h5 ?_
        exact ev_some _
      · have hl := off_at ho
        rw [ht] at hl
        refine .inr ⟨⟨1, n', ⟨#[]⟩, [], []⟩, t.drop (off 101 t + 1), bytes_drop hbt _, by simp; omega, ?_, by simp [smallT, smallK], by rw [inT]; exact ⟨hn', by simp [inK]⟩, ?_, ev_succ ?_⟩
        · refine why_ok' (by omega) ⟨by decide, by decide⟩ (by unfold fitT; simp [nil_toList']) ?_ rfl (by simp [whyK])
          unfold longT
          rintro (h | ⟨x, hx, _⟩)
          · exact absurd h (by decide)
          · cases hx
        · rw [h4]
          simp only [putT, if_true, List.cons_append, List.append_assoc, List.singleton_append, List.nil_append]
          rw [← hl]
        · simp only [bV_step', rb_part.f, if_neg h1, if_neg h2', if_neg h3, if_pos h4]
          refine ev_bind h5 ?_
          exact ev_some _
    have hcc : c = if (c == 100) = true then 100 else 108 := by
      by_cases h : c = 100
      · simp [h]
      · have h108 : c = 108 := by
          refine Classical.byContradiction fun h' => h1 ⟨h4, h', h, by simpa using h3⟩
        simp [h108]
    rcases list_one a (by omega) (c == 100) n (by omega) (fun l' g1 g2 => ih l' (a + 1) g1 g2 (by omega) (by omega)) _ t t [] [] hbt (Nat.le_refl _) (by omega) (by simp; omega) (by simp; omega)
      ⟨by simp [whyK], by simp [smallK], by simp [inK], fun _ => ⟨rfl, rfl, fun x hx => by cases hx⟩, fun _ => rfl⟩ (by simp [putK]) with ⟨e, r', he, h5⟩ | ⟨keys', kids', r, g0, g1, hI, g3, g4, hpt, h5⟩
    · refine .inl ⟨e, r', he, ev_succ ?_⟩
      simp only [bV_step', rb_part.f, if_neg h1, if_neg h2', if_neg h3, if_neg h4, Option.bind_some]
      exact h5
    · refine .inr ⟨Tl (c == 100) keys' kids', r, g0, by simp; omega, why_list' (by omega) hI, ?_, ?_, ?_, ev_succ ?_⟩
      · unfold Tl
        rw [smallT]
        exact ⟨by omega, by omega, hI.small⟩
      · unfold Tl
        rw [inT]
        exact ⟨⟨by decide, by decide⟩, hI.inn⟩
      · rw [putT_list', ← hcc, hpt]
        simp
      · simp only [bV_step', rb_part.f, if_neg h1, if_neg h2', if_neg h3, if_neg h4, Option.bind_some]
        exact h5
theorem idxO_any' {α : Type} (f : α → Option Bool) (p : α → Bool) (hf : ∀ x, f x = some (p x)) : ∀ (l : List α) (i : Int), 0 ≤ i → ∃ j, idxO f l i = some j ∧ decide (0 ≤ j) = l.any p
  | [], i, _ => ⟨-1, rfl, rfl⟩
  | x :: l, i, hi => by
    rw [idxO, hf x]
    by_cases hp : p x = true
    · exact ⟨i, by simp [hp], by simp [hp, hi]⟩
    · have hp' : p x = false := by simpa using hp
      obtain ⟨j, h1, h2⟩ := idxO_any' f p hf l (i + 1) (by omega)
      exact ⟨j, by simp [hp', h1], by simp [hp', h2]⟩
theorem lk_fits (k n : Int) (s : ByteArray) (keys : List ByteArray) (kids : List S25) (h : 1 ≤ k ∧ k ≤ 4) : ∃ b, tree_fits.f k n s keys kids = some b ∧ (b = true ↔ fitT k n s keys kids) := by
  unfold tree_fits.f fitT
  have hk : ((keys.length : Int) > 0) = ¬ keys = [] := by
    cases keys with
    | nil => simp
    | cons x l => simp
  have hd : decide ((kids.length : Int) > 0) = !decide (kids = []) := by
    cases kids with
    | nil => simp
    | cons x l => simp
  have hkd : decide ((keys.length : Int) > 0) = !decide (keys = []) := by
    cases keys with
    | nil => simp
    | cons x l => simp
  rw [hd, hkd]
  simp only [hk]
  by_cases h1 : k = 1
  · simp only [if_pos h1]
    by_cases hs : s.toList = []
    · by_cases hky : keys = []
      · exact ⟨_, by rw [if_neg (fun h => h hs), if_neg (fun h => h hky)], by simp [hs, hky]⟩
      · exact ⟨_, by rw [if_neg (fun h => h hs), if_pos hky], by simp [hky]⟩
    · exact ⟨_, by rw [if_pos hs], by simp [hs]⟩
  simp only [if_neg h1]
  by_cases h2 : k = 2
  · simp only [if_pos h2]
    by_cases hs : n = 0
    · by_cases hky : keys = []
      · exact ⟨_, by rw [if_pos hs, if_neg (fun h => h hky)], by simp [hs, hky]⟩
      · exact ⟨_, by rw [if_pos hs, if_pos hky], by simp [hky]⟩
    · exact ⟨_, by rw [if_neg hs], by simp [hs]⟩
  simp only [if_neg h2]
  by_cases h3 : k = 3
  · simp only [if_pos h3]
    by_cases hs : n = 0
    · by_cases hky : s.toList = []
      · exact ⟨_, by rw [if_pos hs, if_neg (fun h => h hky)], by simp [hs, hky]⟩
      · exact ⟨_, by rw [if_pos hs, if_pos hky], by simp [hky]⟩
    · exact ⟨_, by rw [if_neg hs], by simp [hs]⟩
  simp only [if_neg h3]
  by_cases hs : n = 0
  · by_cases hky : s.toList = []
    · exact ⟨_, by rw [if_pos hs, if_neg (fun h => h hky)], by simp [hs, hky]; omega⟩
    · exact ⟨_, by rw [if_pos hs, if_pos hky], by simp [hky]⟩
  · exact ⟨_, by rw [if_neg hs], by simp [hs]⟩
theorem ascL_take_all : ∀ (keys : List ByteArray), ascL keys = true ↔ ∀ i, i + 1 < keys.length → Op.bytesLess (keys.getD i ByteArray.empty).toList (keys.getD (i + 1) ByteArray.empty).toList = true
  | [] => by simp [ascL]
  | [x] => by simp [ascL]
  | x :: y :: l => by
    have ih := ascL_take_all (y :: l)
    simp only [ascL, Bool.and_eq_true, ih]
    constructor
    · rintro ⟨h1, h2⟩ i hi
      cases i with
      | zero => simpa using h1
      | succ i => simpa using h2 i (by simpa using hi)
    · intro h
      refine ⟨by simpa using h 0 (by simp), fun i hi => ?_⟩
      simpa using h (i + 1) (by simpa using hi)
theorem lk_here0 (keys : List ByteArray) (hl : keys.length < 1000000000) (k n : Int) (s : ByteArray) (kids : List S25) (d : Nat) : ∀ i : Nat, 1 ≤ i → keys.length - i = d → (∀ j, j + 1 < i → j + 1 < keys.length → Op.bytesLess (keys.getD j ByteArray.empty).toList (keys.getD (j + 1) ByteArray.empty).toList = true) →
    Ev (fun r => tree_here.l0 r (i : Int) k n s keys kids) (if ascL keys = true then 0 else 3) := by
  induction d with
  | zero =>
    intro i h1 hd hasc
    refine ev_succ ?_
    simp only [tree_here.l0, if_neg (show ¬ (i : Int) < (keys.length : Int) by omega)]
    rw [if_pos ((ascL_take_all keys).2 fun j hj => hasc j (by omega) hj)]
    exact ev_some _
  | succ d ih =>
    intro i h1 hd hasc
    refine ev_succ ?_
    have hw : wrap64 ((i : Int) - 1) = ((i - 1 : Nat) : Int) := by rw [w64 (by omega) (by omega)]; omega
    simp only [tree_here.l0, hw]
    have e1 : rdOf ByteArray.empty keys ((i - 1 : Nat) : Int) = keys.getD (i - 1) ByteArray.empty := by simp [rdOf]
    have e2 : rdOf ByteArray.empty keys (i : Int) = keys.getD i ByteArray.empty := by simp [rdOf]
    simp only [e1, e2, if_pos (show (i : Int) < (keys.length : Int) by omega), if_pos (show (0 : Int) ≤ ((i - 1 : Nat) : Int) by omega), if_pos (show ((i - 1 : Nat) : Int) < (keys.length : Int) by omega), if_pos (show (0 : Int) ≤ (i : Int) by omega)]
    by_cases h : Op.bytesLess (keys.getD (i - 1) ByteArray.empty).toList (keys.getD i ByteArray.empty).toList = true
    · simp only [if_pos h]
      rw [w64 (by omega) (by omega)]
      refine ih (i + 1) (by omega) (by omega) (fun j hj hj2 => ?_)
      by_cases hji : j + 1 = i
      · have : j = i - 1 := by omega
        subst this
        rw [hji]; exact h
      · exact hasc j (by omega) hj2
    · simp only [if_neg h]
      have hn : ¬ ascL keys = true := fun ha => h (by
        have := (ascL_take_all keys).1 ha (i - 1) (by omega)
        rw [show i - 1 + 1 = i by omega] at this
        exact this)
      rw [if_neg hn]
      exact ev_some _
theorem lk_here (k n : Int) (s : ByteArray) (keys : List ByteArray) (kids : List S25) (a : Nat) (ha : a ≤ 8) (hl : keys.length < 1000000000) : Ev (fun r => tree_here.f r k n s keys kids ((a : Int) + 1)) (whyHere k n s keys kids a) := by
  unfold tree_here.f whyHere
  by_cases h1 : a > 7
  · simp only [if_pos h1, if_pos (show (a : Int) + 1 > 8 by omega)]
    exact ev_some _
  simp only [if_neg h1, if_neg (show ¬ (a : Int) + 1 > 8 by omega)]
  by_cases h2 : k < 1
  · simp only [if_pos h2, if_pos (show k < 1 ∨ k > 4 from .inl h2)]
    refine ev_succ ?_
    simp only [tree_here.j0, if_true]
    exact ev_some _
  simp only [if_neg h2]
  by_cases h3 : k > 4
  · simp only [if_pos (show k < 1 ∨ k > 4 from .inr h3), decide_eq_true h3]
    refine ev_succ ?_
    simp only [tree_here.j0, if_true]
    exact ev_some _
  simp only [if_neg (show ¬ (k < 1 ∨ k > 4) from fun h => h.elim h2 h3), decide_eq_false h3]
  refine ev_succ ?_
  simp only [tree_here.j0, Bool.false_eq_true, if_false]
  obtain ⟨b, hb, hf⟩ := lk_fits k n s keys kids ⟨by omega, by omega⟩
  simp only [hb, Option.bind_some]
  by_cases h4 : fitT k n s keys kids
  · simp only [hf.2 h4, if_true, if_neg (show ¬ ¬ fitT k n s keys kids from fun h => h h4)]
    obtain ⟨j, hj, hje⟩ := idxO_any' (fun x : ByteArray => tree_long.f x) (fun x => decide ((x.size : Int) > 1048576)) (fun x => rfl) keys 0 (by omega)
    simp only [tree_long.f, Option.bind_some] at hj ⊢
    have hany : keys.any (fun x => decide ((x.size : Int) > 1048576)) = true ↔ ∃ x ∈ keys, x.size > 1048576 := by
      simp only [List.any_eq_true, decide_eq_true_eq]
      constructor
      · rintro ⟨x, h1, h2⟩; exact ⟨x, h1, by omega⟩
      · rintro ⟨x, h1, h2⟩; exact ⟨x, h1, by omega⟩
    by_cases h5 : (s.size : Int) > 1048576
    · rw [if_pos (show longT s keys from .inl (by omega))]
      simp only [decide_eq_true h5, if_true]
      exact ev_some _
    · simp only [decide_eq_false h5, Bool.false_eq_true, if_false, slices_ContainsFunc_string_string.f, tree_long.f, if_true, hj, Option.bind_some, hje]
      by_cases h6 : ∃ x ∈ keys, x.size > 1048576
      · rw [if_pos (show longT s keys from .inr h6)]
        simp only [hany.2 h6, if_true]
        exact ev_some _
      · rw [if_neg (show ¬ longT s keys from fun h => h.elim (fun h => h5 (by omega)) h6)]
        have : keys.any (fun x => decide ((x.size : Int) > 1048576)) = false := by
          rw [← Bool.not_eq_true, hany]; exact h6
        simp only [this, Bool.false_eq_true, if_false]
        exact lk_here0 keys hl k n s kids _ 1 (by omega) rfl (fun j hj => by omega)
  · have hbf : b = false := by rw [← Bool.not_eq_true, hf]; exact h4
    simp only [hbf, Bool.false_eq_true, if_false, if_pos (show ¬ fitT k n s keys kids from h4)]
    exact ev_some _
theorem rdT_nat' (l : List S25) (i : Nat) (h : i < l.length) : rd_T25 l (i : Int) = l[i] := by simp [rd_T25, h, List.getD]
theorem kids_at {kids rest : List S25} {i : Nat} {t : S25} (hd : kids.drop i = t :: rest) : ∃ hi : i < kids.length, kids[i] = t ∧ kids.drop (i + 1) = rest := by
  have hi : i < kids.length := by
    refine Nat.lt_of_not_le fun h => ?_
    rw [List.drop_of_length_le h] at hd
    cases hd
  rw [List.drop_eq_getElem_cons hi] at hd
  exact ⟨hi, (List.cons.inj hd).1, (List.cons.inj hd).2⟩
mutual
theorem lk_right : ∀ (T : S25) (a : Nat), a ≤ 8 → smallT T → Ev (fun r => tree_right.f r T.f0 T.f1 T.f2 T.f3 T.f4 ((a : Int) + 1)) (whyT T a)
  | ⟨k, n, s, keys, kids⟩, a, ha, h => by
    rw [smallT] at h
    refine ev_succ ?_
    simp only [tree_right.f]
    refine ev_bind (lk_here k n s keys kids a ha h.1) ?_
    rw [whyT]
    by_cases h0 : whyHere k n s keys kids a = 0
    · simp only [if_pos h0]
      have ha7 : a ≤ 7 := by
        refine Nat.le_of_not_lt fun h' => ?_
        unfold whyHere at h0
        rw [if_pos h'] at h0
        exact absurd h0 (by decide)
      exact lk_right_kids kids 0 kids (a + 1) (by omega) (by omega) h.2.2 rfl
    · simp only [if_neg h0]
      exact ev_some _
theorem lk_right_kids : ∀ (rest : List S25) (i : Nat) (kids : List S25) (a : Nat), a ≤ 8 → kids.length < 1000000000000 → smallK rest → kids.drop i = rest →
    Ev (fun r => tree_right.l0 r (a : Int) kids (kids.length : Int) (i : Int)) (whyK rest a)
  | [], i, kids, a, _, hl, _, hd => by
    have : kids.length ≤ i := List.drop_eq_nil_iff.1 hd
    refine ev_succ ?_
    simp only [tree_right.l0, if_neg (show ¬ (i : Int) < (kids.length : Int) by omega), whyK]
    exact ev_some _
  | t :: rest, i, kids, a, ha, hl, hs, hd => by
    rw [smallK] at hs
    obtain ⟨hi, ht, hr⟩ := kids_at hd
    refine ev_succ ?_
    simp only [tree_right.l0, if_pos (show (i : Int) < (kids.length : Int) by omega), if_pos (show (0 : Int) ≤ (i : Int) by omega)]
    rw [rdT_nat' kids i hi, ht, w64 (n := (a : Int) + 1) (by omega) (by omega)]
    refine ev_bind (lk_right t a ha hs.1) ?_
    rw [whyK]
    by_cases h0 : whyT t a = 0
    · simp only [if_pos h0]
      rw [w64 (by omega) (by omega)]
      exact lk_right_kids rest (i + 1) kids a ha hl hs.2 hr
    · simp only [if_neg h0]
      exact ev_some _
end
theorem lk_Right (T : S25) (h : smallT T) : Ev (fun r => tree_Right.f r T.f0 T.f1 T.f2 T.f3 T.f4) (whyT T 0) := by
  unfold tree_Right.f
  refine ev_bind (lk_right T 0 (by omega) h) ?_
  exact ev_some _
/-! ### the bytes -/
theorem len_txtL (s : ByteArray) (h : s.size < 1000000000) : (txtL s).length ≤ s.size + 20 := by
  unfold txtL
  have : (numL (s.size : Int)).length ≤ 19 := by
    unfold numL
    rw [if_neg (by omega)]
    exact digL_len 18 _ (by omega)
  simp only [List.length_append, List.length_cons, bytesOf_length]
  omega
theorem bt_one (l : List Int) (s : ByteArray) (h : l.length + s.size < 100000000000) : bt_text.f l s = some (l ++ txtL s) := by
  unfold bt_text.f
  rw [lk_num_Put _ (by omega) (by omega), Option.bind_some, strOfNums_size]
  have : (numL (s.size : Int)).length ≤ 19 := by
    unfold numL
    rw [if_neg (by omega)]
    exact digL_len 18 _ (by omega)
  rw [if_pos (by omega), bytesOf_str (numL_bytes _)]
  unfold txtL
  simp
theorem whyT_here {T : S25} {a : Nat} (h : whyT T a = 0) : whyHere T.f0 T.f1 T.f2 T.f3 T.f4 a = 0 ∧ whyK T.f4 (a + 1) = 0 := by
  obtain ⟨k, n, s, keys, kids⟩ := T
  rw [whyT] at h
  by_cases h0 : whyHere k n s keys kids a = 0
  · rw [if_pos h0] at h; exact ⟨h0, h⟩
  · rw [if_neg h0] at h; exact absurd h h0
theorem here_open {k n : Int} {s : ByteArray} {keys : List ByteArray} {kids : List S25} {a : Nat} (h : whyHere k n s keys kids a = 0) : a ≤ 7 ∧ 1 ≤ k ∧ k ≤ 4 ∧ fitT k n s keys kids ∧ ¬ longT s keys ∧ ascL keys = true := by
  unfold whyHere at h
  by_cases h1 : a > 7
  · rw [if_pos h1] at h; exact absurd h (by decide)
  rw [if_neg h1] at h
  by_cases h2 : k < 1 ∨ k > 4
  · rw [if_pos h2] at h; exact absurd h (by decide)
  rw [if_neg h2] at h
  by_cases h3 : ¬ fitT k n s keys kids
  · rw [if_pos h3] at h; exact absurd h (by decide)
  rw [if_neg h3] at h
  by_cases h4 : longT s keys
  · rw [if_pos h4] at h; exact absurd h (by decide)
  rw [if_neg h4] at h
  by_cases h5 : ascL keys = true
  · exact ⟨by omega, by omega, by omega, Classical.not_not.1 h3, h4, h5⟩
  · rw [if_neg h5] at h; exact absurd h (by decide)
mutual
theorem lk_put : ∀ (T : S25) (a : Nat) (l : List Int), whyT T a = 0 → inT T → l.length + (putT T).length < 10000000000 → Ev (fun r => bp_put.f r l T) (l ++ putT T)
  | ⟨k, n, s, keys, kids⟩, a, l, hw, hin, hl => by
    obtain ⟨hh, hkids⟩ := whyT_here hw
    obtain ⟨_, h1, h4, hfit, hlong, _⟩ := here_open hh
    dsimp only at h1 h4 hfit hlong hkids
    rw [inT] at hin
    refine ev_succ ?_
    simp only [bp_put.f]
    by_cases k1 : k = 1
    · simp only [if_pos k1, putT] at hl ⊢
      rw [lk_num_Put n hin.1.1 hin.1.2]
      have : (numL n).length ≤ 30 := by
        unfold numL
        split
        · have := digL_len20 (n := (-n).toNat) (by omega); simp; omega
        · have := digL_len20 (n := n.toNat) (by omega); omega
      simp only [Option.bind_some, strOfNums_size, if_pos (show l.length + (numL n).length + 2 < 140737488355328 by simp at hl; omega), bytesOf_str (numL_bytes n)]
      refine ev_eq (ev_some _) ?_
      simp
    simp only [if_neg k1]
    by_cases k2 : k = 2
    · simp only [if_pos k2, putT, if_neg k1] at hl ⊢
      have hs : s.size ≤ 1048576 := Nat.le_of_not_lt fun h => hlong (.inl h)
      have hlen := len_txtL s (by omega)
      rw [bt_one l s (by omega)]
      exact ev_some _
    simp only [if_neg k2, putT, if_neg k1] at hl ⊢
    simp only [if_pos (show l.length + 1 < 140737488355328 by simp at hl; omega)]
    have hfit2 : k = 4 → keys.length = kids.length := by
      intro h
      unfold fitT at hfit
      rw [if_neg k1, if_neg k2, if_neg (by omega)] at hfit
      exact hfit.2.2
    have := lk_put_kids kids 0 k n s keys kids keys (a + 1) (l ++ [if k = 3 then 108 else 100]) hkids hin.2 rfl (by simp) (fun h => by simpa using hfit2 h) (fun x hx => Nat.le_of_not_lt fun h => hlong (.inr ⟨x, hx, h⟩)) (by omega) (by simp at hl ⊢; omega)
    refine ev_eq this ?_
    simp
theorem lk_put_kids : ∀ (rest : List S25) (i : Nat) (k n : Int) (s : ByteArray) (keys : List ByteArray) (kids : List S25) (krest : List ByteArray) (a : Nat) (l : List Int), whyK rest a = 0 → inK rest → kids.drop i = rest → keys.drop i = krest → (k = 4 → krest.length = rest.length) → (∀ x ∈ keys, x.size ≤ 1048576) → 3 ≤ k →
    l.length + (putK (decide (k = 4)) krest rest).length + 1 < 10000000000 →
    Ev (fun r => bp_kids.f r l ⟨k, n, s, keys, kids⟩ i) (l ++ putK (decide (k = 4)) krest rest ++ [101])
  | [], i, k, n, s, keys, kids, krest, a, l, _, _, hd, _, _, _, _, hl => by
    have : kids.length ≤ i := List.drop_eq_nil_iff.1 hd
    refine ev_succ ?_
    simp only [bp_kids.f, if_neg (show ¬ i < kids.length by omega), putK, List.append_nil] at hl ⊢
    simp only [if_pos (show l.length + 1 < 140737488355328 by simp at hl; omega)]
    exact ev_some _
  | t :: rest, i, k, n, s, keys, kids, krest, a, l, hw, hin, hd, hkd, hkl, hks, hk3, hl => by
    rw [whyK] at hw
    have ht0 : whyT t a = 0 := by
      by_cases h : whyT t a = 0
      · exact h
      · rw [if_neg h] at hw; exact hw
    rw [if_pos ht0] at hw
    rw [inK] at hin
    obtain ⟨hi, ht, hr⟩ := kids_at hd
    have hg : kids.getD i z25 = t := by simp [List.getD, hi, ht]
    refine ev_succ ?_
    simp only [bp_kids.f, if_pos hi, hg]
    by_cases k4 : k = 4
    · obtain ⟨key, kr, rfl⟩ : ∃ key kr, krest = key :: kr := by
        rcases krest with _ | ⟨x, r⟩
        · simp at hkl; exact absurd k4 hkl
        · exact ⟨x, r, rfl⟩
      have hik : i < keys.length := by
        refine Nat.lt_of_not_le fun h => ?_
        rw [List.drop_of_length_le h] at hkd
        cases hkd
      have hkg : keys.getD i (⟨#[]⟩ : ByteArray) = key := by
        rw [List.drop_eq_getElem_cons hik] at hkd
        simp [List.getD, hik, (List.cons.inj hkd).1]
      have hkr : keys.drop (i + 1) = kr := by
        rw [List.drop_eq_getElem_cons hik] at hkd
        exact (List.cons.inj hkd).2
      have hsz : key.size ≤ 1048576 := by
        refine hks key ?_
        rw [← hkg]
        simp [List.getD, hik]
      simp only [putK, k4, decide_true, if_true, List.headD_cons, List.tail_cons] at hl ⊢
      simp only [if_pos hik, hkg]
      have hlen := len_txtL key (by omega)
      simp only [List.length_append] at hl
      rw [bt_one l key (by omega)]
      simp only [Option.bind_some]
      refine ev_bind (lk_put t a (l ++ txtL key) ht0 hin.1 (by simp; omega)) ?_
      have := lk_put_kids rest (i + 1) 4 n s keys kids kr a (l ++ txtL key ++ putT t) hw hin.2 hr hkr (fun _ => by simpa using hkl k4) hks (by omega) (by simp; omega)
      simp only [decide_true] at this
      refine ev_eq this ?_
      simp
    · simp only [putK, k4, decide_false, Bool.false_eq_true, if_false, List.nil_append] at hl ⊢
      simp only [Option.bind_some]
      simp only [List.length_append] at hl
      refine ev_bind (lk_put t a l ht0 hin.1 (by omega)) ?_
      have := lk_put_kids rest (i + 1) k n s keys kids krest.tail a (l ++ putT t) hw hin.2 hr (by rw [← hkd]; simp) (fun h => absurd h k4) hks hk3 (by simp [k4]; omega)
      simp only [k4, decide_false] at this
      refine ev_eq this ?_
      simp
end
theorem numL_notin (n : Int) (c : Int) (h : c ≠ 45) (h2 : c < 48 ∨ 57 < c) : c ∉ numL n := by
  intro hm
  unfold numL at hm
  split at hm
  · rcases List.mem_cons.1 hm with h3 | h3
    · exact h h3
    · have := digL_digits _ c h3; omega
  · have := digL_digits _ c hm; omega
theorem upTo_back (n : Int) (hn : InI n) (c : Int) (hc : Byte c) (h : c ≠ 45) (h2 : c < 48 ∨ 57 < c) (r : List Int) (hr : Bytes r) : Ev (fun k => ben_upTo.f k (numL n ++ c :: r) c) (.num n, r) := by
  have ho := off_app c (numL n) r (numL_notin n c h h2)
  have hb : Bytes (numL n ++ c :: r) := bytes_append (numL_bytes n) (bytes_cons hc hr)
  have ht : (numL n ++ c :: r).take (off c (numL n ++ c :: r)) = numL n := by rw [ho]; simp
  rcases lk_upTo (numL n ++ c :: r) hb c hc with ⟨e, r', he, h1, hw⟩ | ⟨n', hn', ho', ht', h1⟩
  · rcases hw with ⟨h3, _⟩ | ⟨_, _, q, hq, hq2⟩
    · rw [ho] at h3; simp at h3; omega
    · rw [ht] at hq
      have := isGet_uniq hq (.inr (.inl ⟨n, hn, rfl, rfl⟩))
      rw [this] at hq2
      exact absurd rfl hq2
  · rw [ht] at ht'
    have := numL_inj ht'
    subst this
    have hd : (numL n ++ c :: r).drop (off c (numL n ++ c :: r) + 1) = r := by
      rw [ho, ← List.drop_drop]
      simp
    rw [hd] at h1
    exact h1
theorem digL_cons (n : Nat) : ∃ c t, digL n = c :: t ∧ digB c = true := by
  have hd := digL_digits n
  have hp := digL_pos n
  rcases hq : digL n with _ | ⟨c, t⟩
  · rw [hq] at hp; simp at hp
  · refine ⟨c, t, rfl, ?_⟩
    have := hd c (by rw [hq]; simp)
    unfold digB
    rw [decide_eq_true this.1, decide_eq_true this.2]
    rfl
theorem txtL_cons (s : ByteArray) (r : List Int) : ∃ c t, txtL s ++ r = c :: t ∧ digB c = true := by
  obtain ⟨c, t, h, hd⟩ := digL_cons s.size
  unfold txtL numL
  rw [if_neg (by omega), Int.toNat_natCast, h]
  exact ⟨c, _, rfl, hd⟩
theorem text_back (s : ByteArray) (hs : s.size ≤ 1048576) (r : List Int) (hr : Bytes r) : Ev (fun k => rb_text.f k (txtL s ++ r)) (.text s, r) := by
  have h := upTo_back (s.size : Int) ⟨by omega, by omega⟩ 58 ⟨by decide, by decide⟩ (by decide) (.inr (by decide)) (bytesOf s ++ r) (bytes_append (bytesOf_bytes s) hr)
  have e : txtL s ++ r = numL (s.size : Int) ++ 58 :: (bytesOf s ++ r) := by unfold txtL; simp
  rw [e]
  unfold rb_text.f
  refine ev_bind h ?_
  have hl : (bytesOf s ++ r).length = s.size + r.length := by rw [List.length_append, bytesOf_length]
  simp only [if_neg (show ¬ (s.size : Int) > 1048576 by omega), if_neg (show ¬ (s.size : Int) > ((bytesOf s ++ r).length : Int) by omega), if_pos (show (0 : Int) ≤ (s.size : Int) by omega), Int.toNat_natCast]
  refine ev_eq (ev_some _) ?_
  have h1 : (bytesOf s ++ r).take s.size = bytesOf s := by rw [← bytesOf_length s]; simp
  have h2 : (bytesOf s ++ r).drop s.size = r := by rw [← bytesOf_length s]; simp
  rw [h1, h2, str_bytesOf]
theorem digB_not {c : Int} (h : digB c = true) : ¬ (c ≠ 105 ∧ c ≠ 108 ∧ c ≠ 100 ∧ digB c = false) := fun h' => by rw [h] at h'; exact absurd h'.2.2.2 (by decide)
theorem ascL_pre : ∀ (l m : List ByteArray), ascL (l ++ m) = true → ascL l = true := by
  intro l m h
  rw [ascL_take_all] at h ⊢
  intro i hi
  have := h i (by simp; omega)
  rwa [show (l ++ m).getD i ByteArray.empty = l.getD i ByteArray.empty by simp [List.getD, List.getElem?_append_left (show i < l.length by omega)], show (l ++ m).getD (i + 1) ByteArray.empty = l.getD (i + 1) ByteArray.empty by simp [List.getD, List.getElem?_append_left (show i + 1 < l.length by omega)]] at this
theorem putT_head (T : S25) (r : List Int) : ∃ c t, putT T ++ r = c :: t ∧ c ≠ 101 := by
  obtain ⟨k, n, s, keys, kids⟩ := T
  rw [putT]
  by_cases h1 : k = 1
  · rw [if_pos h1]; exact ⟨105, _, rfl, by decide⟩
  rw [if_neg h1]
  by_cases h2 : k = 2
  · rw [if_pos h2]
    obtain ⟨c, t, h, hd⟩ := txtL_cons s r
    exact ⟨c, t, h, by have := digB_45' hd; omega⟩
  rw [if_neg h2]
  by_cases h3 : k = 3
  · rw [if_pos h3]; exact ⟨108, _, rfl, by decide⟩
  · rw [if_neg h3]; exact ⟨100, _, rfl, by decide⟩
mutual
theorem lk_back : ∀ (T : S25) (a : Nat) (r : List Int), whyT T a = 0 → inT T → smallT T → Bytes r → Ev (fun k => bV.f k (putT T ++ r) ((a : Int) + 1)) (T, 0, r)
  | ⟨k, n, s, keys, kids⟩, a, r, hw, hin, hsm, hr => by
    obtain ⟨hh, hkids⟩ := whyT_here hw
    obtain ⟨ha, h1, h4, hfit, hlong, hasc⟩ := here_open hh
    dsimp only at h1 h4 hfit hlong hkids hasc
    rw [inT] at hin
    rw [smallT] at hsm
    have hlev : ¬ (a : Int) + 1 > 8 := by omega
    unfold fitT at hfit
    refine ev_succ ?_
    simp only [bV_step']
    by_cases k1 : k = 1
    · subst k1
      rw [if_pos rfl] at hfit
      obtain ⟨hs, rfl, rfl⟩ := hfit
      have hs0 : s = (⟨#[]⟩ : ByteArray) := bytes_eq_of_toList (by rw [hs, nil_toList'])
      subst hs0
      have h := upTo_back n hin.1 101 ⟨by decide, by decide⟩ (by decide) (.inr (by decide)) r hr
      have e : putT ⟨1, n, ⟨#[]⟩, [], []⟩ ++ r = 105 :: (numL n ++ 101 :: r) := by simp [putT]
      rw [e]
      simp only [rb_part.f, if_neg (show ¬ ((105 : Int) ≠ 105 ∧ (105 : Int) ≠ 108 ∧ (105 : Int) ≠ 100 ∧ digB 105 = false) from fun h => h.1 rfl), if_neg hlev, if_neg (show ¬ digB 105 = true by decide), if_true]
      refine ev_bind h ?_
      exact ev_some _
    rw [if_neg k1] at hfit
    by_cases k2 : k = 2
    · subst k2
      rw [if_pos rfl] at hfit
      obtain ⟨rfl, rfl, rfl⟩ := hfit
      have hs : s.size ≤ 1048576 := Nat.le_of_not_lt fun h => hlong (.inl h)
      have h := text_back s hs r hr
      have e : putT ⟨2, 0, s, [], []⟩ ++ r = txtL s ++ r := by simp [putT]
      rw [e]
      obtain ⟨c, t, hct, hd⟩ := txtL_cons s r
      rw [hct] at h ⊢
      simp only [rb_part.f, if_neg (digB_not hd), if_neg hlev, if_pos hd]
      refine ev_bind h ?_
      exact ev_some _
    rw [if_neg k2] at hfit
    by_cases k3 : k = 3
    · subst k3
      rw [if_pos rfl] at hfit
      obtain ⟨rfl, hs, rfl⟩ := hfit
      have hs0 : s = (⟨#[]⟩ : ByteArray) := bytes_eq_of_toList (by rw [hs, nil_toList'])
      subst hs0
      have e : putT ⟨3, 0, ⟨#[]⟩, [], kids⟩ ++ r = 108 :: (putK false [] kids ++ 101 :: r) := by simp [putT]
      rw [e]
      simp only [rb_part.f, if_neg (show ¬ ((108 : Int) ≠ 105 ∧ (108 : Int) ≠ 108 ∧ (108 : Int) ≠ 100 ∧ digB 108 = false) from fun h => h.2.1 rfl), if_neg hlev, if_neg (show ¬ digB 108 = true by decide), if_neg (show ¬ (108 : Int) = 105 by decide), Option.bind_some]
      have := lk_back_kids kids a false [] [] [] r ha hkids hin.2 hsm.2.2 (fun h => by cases h) (fun _ => rfl) rfl (fun x hx => by cases hx) (by simp) (by simpa using hsm.2.1) hr
      exact this
    rw [if_neg k3] at hfit
    obtain rfl : k = 4 := by omega
    obtain ⟨rfl, hs, hkl⟩ := hfit
    have hs0 : s = (⟨#[]⟩ : ByteArray) := bytes_eq_of_toList (by rw [hs, nil_toList'])
    subst hs0
    have e : putT ⟨4, 0, ⟨#[]⟩, keys, kids⟩ ++ r = 100 :: (putK true keys kids ++ 101 :: r) := by simp [putT]
    rw [e]
    simp only [rb_part.f, if_neg (show ¬ ((100 : Int) ≠ 105 ∧ (100 : Int) ≠ 108 ∧ (100 : Int) ≠ 100 ∧ digB 100 = false) from fun h => h.2.2.1 rfl), if_neg hlev, if_neg (show ¬ digB 100 = true by decide), if_neg (show ¬ (100 : Int) = 105 by decide), Option.bind_some]
    have := lk_back_kids kids a true [] [] keys r ha hkids hin.2 hsm.2.2 (fun _ => hkl) (fun h => by cases h) hasc (fun x hx => Nat.le_of_not_lt fun h => hlong (.inr ⟨x, by simpa using hx, h⟩)) (by simpa using hsm.1) (by simpa using hsm.2.1) hr
    exact this
theorem lk_back_kids : ∀ (rest : List S25) (a : Nat) (d : Bool) (keys : List ByteArray) (kids : List S25) (krest : List ByteArray) (r : List Int), a ≤ 7 → whyK rest (a + 1) = 0 → inK rest → smallK rest → (d = true → krest.length = rest.length) → (d = false → krest = []) → ascL (keys ++ krest) = true → (∀ x ∈ keys ++ krest, x.size ≤ 1048576) →
    (keys ++ krest).length < 1000000000 → (kids ++ rest).length < 1000000000 → Bytes r →
    Ev (fun k => bM.f k (putK d krest rest ++ 101 :: r) ((a : Int) + 1) d (Tl d keys kids)) (Tl d (keys ++ krest) (kids ++ rest), 0, r)
  | [], a, d, keys, kids, krest, r, _, _, _, _, hd1, hd2, _, _, _, _, _ => by
    have hk : krest = [] := by
      cases d with
      | true => exact List.length_eq_zero_iff.1 (by simpa using hd1 rfl)
      | false => exact hd2 rfl
    subst hk
    refine ev_succ ?_
    simp only [putK, List.nil_append, bM.f, rb_ends.f, if_true, List.append_nil]
    exact ev_some _
  | t :: rest, a, d, keys, kids, krest, r, ha, hw, hin, hsm, hd1, hd2, hasc, hsz, hl1, hl2, hr => by
    rw [whyK] at hw
    have ht0 : whyT t (a + 1) = 0 := by
      by_cases h : whyT t (a + 1) = 0
      · exact h
      · rw [if_neg h] at hw; exact hw
    rw [if_pos ht0] at hw
    rw [inK] at hin
    rw [smallK] at hsm
    have hwl : wrap64 ((a : Int) + 1 + 1) = ((a + 1 : Nat) : Int) + 1 := by rw [w64 (by omega) (by omega)]; omega
    simp only [List.length_append, List.length_cons] at hl1 hl2
    cases d with
    | false =>
      have hk := hd2 rfl
      subst hk
      obtain ⟨tl, htl⟩ : ∃ tl, putK false [] rest ++ 101 :: r = tl := ⟨_, rfl⟩
      have hbtl : Bytes tl := by
        rw [← htl]
        exact bytes_append (bytes_putK _ _ _) (bytes_cons ⟨by decide, by decide⟩ hr)
      have e : putK false [] (t :: rest) ++ 101 :: r = putT t ++ tl := by rw [putK, ← htl]; simp
      rw [e]
      have heB : (rb_ends.f (putT t ++ tl)).1 = false := by
        obtain ⟨c, u, hcu, hc⟩ := putT_head t tl
        rw [hcu]; simp [rb_ends.f, hc]
      refine ev_succ ?_
      simp only [bM_step' _ _ _ _ keys kids (by omega) (by omega) heB, kpB', Bool.false_eq_true, if_false, Option.bind_some, if_true, hwl]
      refine ev_bind (lk_back t (a + 1) tl ht0 hin.1 hsm.1 hbtl) ?_
      simp only [if_true]
      have := lk_back_kids rest a false keys (kids ++ [t]) [] r ha hw hin.2 hsm.2 (fun h => by cases h) (fun _ => rfl) hasc hsz (by simp; omega) (by simp; omega) hr
      rw [htl] at this
      simpa using this
    | true =>
      obtain ⟨key, kr, rfl⟩ : ∃ key kr, krest = key :: kr := by
        rcases krest with _ | ⟨x, q⟩
        · simp at hd1
        · exact ⟨x, q, rfl⟩
      simp only [List.length_cons] at hl1
      obtain ⟨tl, htl⟩ : ∃ tl, putK true kr rest ++ 101 :: r = tl := ⟨_, rfl⟩
      have hbtl : Bytes tl := by
        rw [← htl]
        exact bytes_append (bytes_putK _ _ _) (bytes_cons ⟨by decide, by decide⟩ hr)
      have e : putK true (key :: kr) (t :: rest) ++ 101 :: r = txtL key ++ (putT t ++ tl) := by rw [putK, ← htl]; simp
      rw [e]
      have hks : key.size ≤ 1048576 := hsz key (by simp)
      have hasc2 : ascL ((keys ++ [key]) ++ kr) = true := by simpa using hasc
      have hup : keyUp keys key = true := by
        have := ascL_pre _ _ hasc2
        rw [ascL_snoc, Bool.and_eq_true] at this
        rw [keyUp_less]
        exact this.2
      have htb := text_back key hks (putT t ++ tl) (bytes_append (bytes_putT t) hbtl)
      obtain ⟨c, u, hcu, hdc⟩ := txtL_cons key (putT t ++ tl)
      have hkey : Ev (fun k => rb_key.f k (txtL key ++ (putT t ++ tl)) keys) (key, 0, putT t ++ tl) := by
        rw [hcu] at htb ⊢
        simp only [rb_key.f, if_pos hdc]
        refine ev_bind htb ?_
        simp only [if_pos hup]
        exact ev_some _
      have heB : (rb_ends.f (txtL key ++ (putT t ++ tl))).1 = false := by
        rw [hcu]
        have := digB_45' hdc
        simp [rb_ends.f, show ¬ c = 101 by omega]
      refine ev_succ ?_
      simp only [bM_step' _ _ _ _ keys kids (by omega) (by omega) heB, kpB', if_true]
      refine ev_bind (ev_map' hkey) ?_
      simp only [if_true, hwl]
      refine ev_bind (lk_back t (a + 1) tl ht0 hin.1 hsm.1 hbtl) ?_
      simp only [if_true]
      have := lk_back_kids rest a true (keys ++ [key]) (kids ++ [t]) kr r ha hw hin.2 hsm.2 (fun h => by simpa using hd1 h) (fun h => by cases h) hasc2 (fun x hx => hsz x (by simpa using hx)) (by simp; omega) (by simp; omega) hr
      rw [htl] at this
      simpa using this
end
def sumP : List S25 → Nat
  | [] => 0
  | t :: ts => (putT t).length + sumP ts
theorem len_putK (d : Bool) : ∀ (keys : List ByteArray) (kids : List S25), (∀ x ∈ keys, x.size ≤ 300) → (putK d keys kids).length ≤ 321 * kids.length + sumP kids
  | _, [], _ => by simp [putK]
  | keys, t :: ts, h => by
    have ih := len_putK d keys.tail ts (fun x hx => h x (List.mem_of_mem_tail hx))
    have hh : (keys.headD (⟨#[]⟩ : ByteArray)).size ≤ 300 := by
      cases keys with
      | nil => exact Nat.zero_le 300
      | cons x l => exact h x (by simp)
    have h1 := len_txtL (keys.headD (⟨#[]⟩ : ByteArray)) (by omega)
    rw [putK, sumP]
    split
    · simp only [List.length_append, List.length_cons]; omega
    · simp only [List.length_append, List.length_cons, List.length_nil]; omega
theorem lk_room_keys (keys : List ByteArray) (hl : keys.length ≤ 20) (lev left : Int) (k n : Int) (s : ByteArray) (kids : List S25) (d : Nat) : ∀ i : Nat, i ≤ keys.length → keys.length - i = d → (∀ x ∈ keys.take i, x.size ≤ 300) →
    (∀ q : Int, (Ev (fun r => annuletlaw11_room.l1 r lev left 0 k n s keys kids) q) → (∀ x ∈ keys, x.size ≤ 300) → Ev (fun r => annuletlaw11_room.l0 r lev left (i : Int) k n s keys kids) q) ∧ ((¬ ∀ x ∈ keys, x.size ≤ 300) → Ev (fun r => annuletlaw11_room.l0 r lev left (i : Int) k n s keys kids) (-1)) := by
  induction d with
  | zero =>
    intro i hi hd hp
    rw [List.take_of_length_le (by omega)] at hp
    refine ⟨fun q hq _ => ev_succ ?_, fun hn => absurd hp hn⟩
    simp only [annuletlaw11_room.l0, if_neg (show ¬ (i : Int) < (keys.length : Int) by omega)]
    exact hq
  | succ d ih =>
    intro i hi hd hp
    have e1 : rdOf ByteArray.empty keys (i : Int) = keys[i]'(by omega) := by simp [rdOf, List.getD, show i < keys.length by omega]
    by_cases hb : ((keys[i]'(by omega)).size : Int) > 300
    · refine ⟨fun q hq hall => absurd (hall (keys[i]'(by omega)) (List.getElem_mem _)) (by omega), fun _ => ev_succ ?_⟩
      simp only [annuletlaw11_room.l0, if_pos (show (i : Int) < (keys.length : Int) by omega), if_pos (show (0 : Int) ≤ (i : Int) by omega), e1, if_pos hb]
      exact ev_some _
    · have hp2 : ∀ x ∈ keys.take (i + 1), x.size ≤ 300 := by
        intro x hx
        rw [List.take_succ_eq_append_getElem (by omega)] at hx
        rcases List.mem_append.1 hx with h | h
        · exact hp x h
        · rw [List.mem_singleton.1 h]; omega
      obtain ⟨g1, g2⟩ := ih (i + 1) (by omega) (by omega) hp2
      refine ⟨fun q hq hall => ev_succ ?_, fun hn => ev_succ ?_⟩
      · simp only [annuletlaw11_room.l0, if_pos (show (i : Int) < (keys.length : Int) by omega), if_pos (show (0 : Int) ≤ (i : Int) by omega), e1, if_neg hb]
        rw [w64 (by omega) (by omega)]
        exact g1 q hq hall
      · simp only [annuletlaw11_room.l0, if_pos (show (i : Int) < (keys.length : Int) by omega), if_pos (show (0 : Int) ≤ (i : Int) by omega), e1, if_neg hb]
        rw [w64 (by omega) (by omega)]
        exact g2 hn
/-- what a tree that has room is like -/
def Fits (T : S25) (left r : Int) : Prop := 0 ≤ r → r < left ∧ smallT T ∧ ((putT T).length : Int) ≤ 8000 * (left - r)
mutual
theorem lk_room : ∀ (T : S25) (lev left : Int), inT T → 1 ≤ lev → lev ≤ 21 → left ≤ 400 → -1 ≤ left → ∃ r, -1 ≤ r ∧ Ev (fun q => annuletlaw11_room.f q T.f0 T.f1 T.f2 T.f3 T.f4 lev left) r ∧ Fits T left r
  | ⟨k, n, s, keys, kids⟩, lev, left, hin, hl1, hl2, hf1, hf2 => by
    rw [inT] at hin
    have out : Ev (fun q => annuletlaw11_room.j0 q lev left true k n s keys kids) (-1) := by
      refine ev_succ ?_
      simp only [annuletlaw11_room.j0, if_true]
      exact ev_some _
    by_cases h1 : left < 1
    · refine ⟨-1, by omega, ev_succ ?_, fun h => absurd h (by decide)⟩
      simp only [annuletlaw11_room.f, if_pos h1]
      exact out
    by_cases h2 : lev > 20
    · refine ⟨-1, by omega, ev_succ ?_, fun h => absurd h (by decide)⟩
      simp only [annuletlaw11_room.f, if_neg h1, if_pos h2]
      exact out
    by_cases h3 : (s.size : Int) > 300
    · refine ⟨-1, by omega, ev_succ ?_, fun h => absurd h (by decide)⟩
      simp only [annuletlaw11_room.f, if_neg h1, if_neg h2, if_pos h3]
      exact out
    by_cases h4 : (keys.length : Int) > 20
    · refine ⟨-1, by omega, ev_succ ?_, fun h => absurd h (by decide)⟩
      simp only [annuletlaw11_room.f, if_neg h1, if_neg h2, if_neg h3, if_pos h4]
      exact out
    by_cases h5 : (kids.length : Int) > 20
    · refine ⟨-1, by omega, ev_succ ?_, fun h => absurd h (by decide)⟩
      simp only [annuletlaw11_room.f, if_neg h1, if_neg h2, if_neg h3, if_neg h4, decide_eq_true h5]
      exact out
    obtain ⟨r, hr1, hr2, hr3⟩ := lk_room_kids kids 0 kids keys k n s lev (left - 1) hin.2 (by omega) hl1 (by omega) (by omega) (by omega) rfl
    obtain ⟨g1, g2⟩ := lk_room_keys keys (by omega) lev (left - 1) k n s kids _ 0 (Nat.zero_le _) rfl (fun x hx => by simp at hx)
    by_cases hk : ∀ x ∈ keys, x.size ≤ 300
    · refine ⟨r, hr1, ev_succ ?_, fun h0 => ?_⟩
      · simp only [annuletlaw11_room.f, if_neg h1, if_neg h2, if_neg h3, if_neg h4, decide_eq_false h5]
        refine ev_succ ?_
        simp only [annuletlaw11_room.j0, Bool.false_eq_true, if_false]
        rw [w64 (by omega) (by omega)]
        exact g1 r hr2 hk
      · obtain ⟨h6, h7, h8⟩ := hr3 h0
        refine ⟨by omega, by rw [smallT]; exact ⟨by omega, by omega, h7⟩, ?_⟩
        have hK := len_putK (decide (k = 4)) keys kids hk
        have hT := len_txtL s (by omega)
        have hn : (numL n).length ≤ 30 := by
          unfold numL
          split
          · have := digL_len20 (n := (-n).toNat) (by omega); simp; omega
          · have := digL_len20 (n := n.toNat) (by omega); omega
        rw [putT]
        split
        · simp only [List.length_cons, List.length_append, List.length_nil]; omega
        · split
          · omega
          · simp only [List.length_cons, List.length_append, List.length_nil]; omega
    · refine ⟨-1, by omega, ev_succ ?_, fun h => absurd h (by decide)⟩
      simp only [annuletlaw11_room.f, if_neg h1, if_neg h2, if_neg h3, if_neg h4, decide_eq_false h5]
      refine ev_succ ?_
      simp only [annuletlaw11_room.j0, Bool.false_eq_true, if_false]
      rw [w64 (by omega) (by omega)]
      exact g2 hk
theorem lk_room_kids : ∀ (rest : List S25) (i : Nat) (kids : List S25) (keys : List ByteArray) (k n : Int) (s : ByteArray) (lev left : Int), inK rest → kids.length ≤ 20 → 1 ≤ lev → lev ≤ 20 → left ≤ 400 → -1 ≤ left → kids.drop i = rest →
    ∃ r, -1 ≤ r ∧ Ev (fun q => annuletlaw11_room.l1 q lev left (i : Int) k n s keys kids) r ∧ (0 ≤ r → r ≤ left ∧ smallK rest ∧ (sumP rest : Int) ≤ 8000 * (left - r))
  | [], i, kids, keys, k, n, s, lev, left, _, hl, _, _, _, hf, hd => by
    have : kids.length ≤ i := List.drop_eq_nil_iff.1 hd
    refine ⟨left, hf, ev_succ ?_, fun _ => ⟨by omega, by simp [smallK], by simp [sumP]⟩⟩
    simp only [annuletlaw11_room.l1, if_neg (show ¬ (i : Int) < (kids.length : Int) by omega)]
    exact ev_some _
  | t :: rest, i, kids, keys, k, n, s, lev, left, hin, hl, hl1, hl2, hf1, hf2, hd => by
    rw [inK] at hin
    obtain ⟨hi, ht, hr⟩ := kids_at hd
    obtain ⟨r1, ha, hb, hc⟩ := lk_room t (lev + 1) left hin.1 (by omega) (by omega) hf1 hf2
    by_cases h0 : r1 < 0
    · refine ⟨-1, by omega, ev_succ ?_, fun h => absurd h (by decide)⟩
      simp only [annuletlaw11_room.l1, if_pos (show (i : Int) < (kids.length : Int) by omega), if_pos (show (0 : Int) ≤ (i : Int) by omega)]
      rw [rdT_nat' kids i hi, ht, w64 (n := lev + 1) (by omega) (by omega)]
      refine ev_bind hb ?_
      simp only [if_pos h0]
      exact ev_some _
    · obtain ⟨h6, h7, h8⟩ := hc (by omega)
      obtain ⟨r2, hx, hy, hz⟩ := lk_room_kids rest (i + 1) kids keys k n s lev r1 hin.2 hl hl1 hl2 (by omega) (by omega) hr
      refine ⟨r2, hx, ev_succ ?_, fun h => ?_⟩
      · simp only [annuletlaw11_room.l1, if_pos (show (i : Int) < (kids.length : Int) by omega), if_pos (show (0 : Int) ≤ (i : Int) by omega)]
        rw [rdT_nat' kids i hi, ht, w64 (n := lev + 1) (by omega) (by omega)]
        refine ev_bind hb ?_
        simp only [if_neg h0]
        rw [w64 (by omega) (by omega)]
        exact hy
      · obtain ⟨a1, a2, a3⟩ := hz h
        exact ⟨by omega, by rw [smallK]; exact ⟨h7, a2⟩, by rw [sumP]; omega⟩
end
theorem in_of_wf : ∀ {T : S25}, wfT25 T → inT T := by
  intro T h
  induction h with
  | mk x h hk ih =>
    obtain ⟨k, n, s, keys, kids⟩ := x
    rw [inT]
    exact ⟨wf_i64 h.2.1, inK_of _ ih⟩
theorem lk_Large (T : S25) (h : inT T) : (∃ k, annuletlaw11_Large.f k T.f0 T.f1 T.f2 T.f3 T.f4 1 = some true) ∨ (Ev (fun k => annuletlaw11_Large.f k T.f0 T.f1 T.f2 T.f3 T.f4 1) false ∧ smallT T ∧ (putT T).length ≤ 3200000) := by
  obtain ⟨r, h1, h2, h3⟩ := lk_room T 1 400 h (by omega) (by omega) (by omega) (by omega)
  by_cases h0 : r < 0
  · left
    have : Ev (fun k => annuletlaw11_Large.f k T.f0 T.f1 T.f2 T.f3 T.f4 1) true := by
      unfold annuletlaw11_Large.f
      refine ev_bind h2 ?_
      simp only [decide_eq_true h0]
      exact ev_some _
    exact this.rounds
  · right
    obtain ⟨h4, h5, h6⟩ := h3 (by omega)
    refine ⟨?_, h5, by omega⟩
    unfold annuletlaw11_Large.f
    refine ev_bind h2 ?_
    simp only [decide_eq_false h0]
    exact ev_some _
theorem lk_texts_same (l : List ByteArray) (hl : l.length < 1000000000000) (d : Nat) : ∀ i : Nat, i ≤ l.length → l.length - i = d → Ev (fun k => annuletref11_texts.l0 k l l (i : Int)) true := by
  induction d with
  | zero =>
    intro i h hd
    refine ev_succ ?_
    simp only [annuletref11_texts.l0, if_neg (show ¬ (i : Int) < (l.length : Int) by omega)]
    exact ev_some _
  | succ d ih =>
    intro i h hd
    refine ev_succ ?_
    simp only [annuletref11_texts.l0, if_pos (show (i : Int) < (l.length : Int) by omega), if_pos (show (0 : Int) ≤ (i : Int) by omega), if_true]
    rw [w64 (by omega) (by omega)]
    exact ih (i + 1) (by omega) (by omega)
theorem rdT_nat (l : List S25) (i : Nat) (h : i < l.length) : rd_T25 l (i : Int) = l[i] := by simp [rd_T25, h, List.getD]
mutual
theorem lk_Same_self : ∀ (T : S25), smallT T → Ev (fun k => annuletref11_Same.f k T.f0 T.f1 T.f2 T.f3 T.f4 T.f0 T.f1 T.f2 T.f3 T.f4) true
  | ⟨k0, n, s, keys, kids⟩, h => by
    rw [smallT] at h
    refine ev_succ ?_
    simp only [annuletref11_Same.f, if_true]
    have h1 := lk_texts_same keys (by omega) _ 0 (Nat.zero_le _) rfl
    have h2 : Ev (fun k => annuletref11_texts.f k keys keys) true := by
      unfold annuletref11_texts.f
      simp only [if_true]
      exact h1
    refine ev_bind h2 ?_
    simp only [if_true]
    refine ev_succ ?_
    have hne : ((kids.length : Int) != (kids.length : Int)) = false := bne_self_eq_false _
    simp only [hne, annuletref11_Same.j0, Bool.false_eq_true, if_false]
    exact lk_Same_kids kids 0 kids k0 n s keys (by omega) h.2.2 rfl
theorem lk_Same_kids : ∀ (rest : List S25) (i : Nat) (kids : List S25) (k0 n : Int) (s : ByteArray) (keys : List ByteArray), kids.length < 1000000000000 → smallK rest → kids.drop i = rest →
    Ev (fun k => annuletref11_Same.l0 k (i : Int) k0 n s keys kids k0 n s keys kids) true
  | [], i, kids, k0, n, s, keys, hl, _, hd => by
    have : kids.length ≤ i := List.drop_eq_nil_iff.1 hd
    refine ev_succ ?_
    simp only [annuletref11_Same.l0, if_neg (show ¬ (i : Int) < (kids.length : Int) by omega)]
    exact ev_some _
  | t :: rest, i, kids, k0, n, s, keys, hl, hs, hd => by
    rw [smallK] at hs
    have hi : i < kids.length := by
      refine Nat.lt_of_not_le fun h => ?_
      rw [List.drop_of_length_le h] at hd
      cases hd
    have ht : kids[i] = t := by
      rw [List.drop_eq_getElem_cons hi] at hd
      exact (List.cons.inj hd).1
    have hr : kids.drop (i + 1) = rest := by
      rw [List.drop_eq_getElem_cons hi] at hd
      exact (List.cons.inj hd).2
    refine ev_succ ?_
    simp only [annuletref11_Same.l0, if_pos (show (i : Int) < (kids.length : Int) by omega), if_pos (show (0 : Int) ≤ (i : Int) by omega)]
    rw [rdT_nat kids i hi, ht]
    refine ev_bind (lk_Same_self t hs.1) ?_
    simp only [if_true]
    rw [w64 (by omega) (by omega)]
    exact lk_Same_kids rest (i + 1) kids k0 n s keys hl hs.2 hr
end
theorem ben_part {l : List Int} {e : Int} (h : (ben_Parse.f 60 l).map (·.2) = some e) : ∃ T, ben_Parse.f 60 l = some (T, e) := by
  obtain ⟨⟨T, e1⟩, h1, h2⟩ := Option.map_eq_some_iff.1 h
  cases h2
  exact ⟨T, h1⟩
theorem ben_awake : law12_awake.ok 60 := by
  refine ⟨by kernel_rfl, ben_part (by kernel_rfl), ben_part (by kernel_rfl), ben_part (by kernel_rfl), ben_part (by kernel_rfl), ?_⟩
  have h : (ben_Parse.f 60 [100, 49, 58, 97, 105, 49, 101, 49, 58, 98, 105, 50, 101, 101]).map (fun r => (r.2, r.1.f3.length)) = some (0, 2) := by kernel_rfl
  obtain ⟨⟨T, e1⟩, h1, h2⟩ := Option.map_eq_some_iff.1 h
  injection h2 with h3 h4
  dsimp only at h3 h4
  subst h3
  exact ⟨T, h1, h4⟩
theorem lk_Print (T : S25) (hs : smallT T) (hin : inT T) (hl : (putT T).length < 1000000000) : Ev (fun k => ben_Print.f k T) (if whyT T 0 = 0 then (putT T, 0) else ([], whyT T 0)) := by
  unfold ben_Print.f
  refine ev_bind (lk_Right T hs) ?_
  by_cases h : whyT T 0 = 0
  · simp only [if_pos h]
    have := lk_put T 0 [] h hin (by simp; omega)
    refine ev_bind this ?_
    refine ev_eq (ev_some _) ?_
    simp
  · simp only [if_neg h]
    exact ev_some _
theorem z25_in : inT z25 := by simp [z25, inT, inK]
theorem z25_small : smallT z25 := by simp [z25, smallT, smallK]
theorem z25_why : whyT z25 0 = 9 := by
  have : whyHere 0 0 (⟨#[]⟩ : ByteArray) [] [] 0 = 9 := by
    unfold whyHere
    rw [if_neg (by decide), if_pos (by decide)]
  simp only [z25, whyT, this]
  rfl
theorem lk_Parse (l : List Int) (hb : Bytes l) (hl : l.length < 1000000000) : (∃ e, e ≠ 0 ∧ Ev (fun k => ben_Parse.f k l) (z25, e)) ∨ ∃ T, whyT T 0 = 0 ∧ smallT T ∧ inT T ∧ l = putT T ∧ Ev (fun k => ben_Parse.f k l) (T, 0) := by
  rcases value_one _ l 0 hb (Nat.le_refl _) hl (by omega) with ⟨e, r', he, h1⟩ | ⟨T, r, hbr, hrl, hw, hs, hin, hp, h1⟩
  · refine .inl ⟨e, he, ?_⟩
    unfold ben_Parse.f
    refine ev_bind h1 ?_
    simp only [if_neg he]
    exact ev_some _
  · by_cases hr : 0 < r.length
    · refine .inl ⟨4, by decide, ?_⟩
      unfold ben_Parse.f
      refine ev_bind h1 ?_
      simp only [if_true, if_pos hr]
      exact ev_some _
    · obtain rfl : r = [] := List.length_eq_zero_iff.1 (by omega)
      refine .inr ⟨T, hw, hs, hin, by simpa using hp, ?_⟩
      unfold ben_Parse.f
      refine ev_bind h1 ?_
      simp only [if_true, if_neg hr]
      exact ev_some _
theorem BenBack_law : annuletlaw12_BenBack.Pure := by
  intro a0 a1 a2 l3 l4 b h0 h1 h2 h3 h4 hb
  refine ⟨60, ?_⟩
  unfold annuletlaw12_BenBack.f
  refine if_pos ⟨ben_awake, ?_⟩
  obtain ⟨T, hT⟩ : ∃ T : S25, T = ⟨a0, a1, a2, l3, l4⟩ := ⟨_, rfl⟩
  rw [← hT]
  have hin : inT T := by rw [hT]; exact in_of_wf (wfT25.mk _ ⟨h0, h1, h2, h3, h4.1⟩ h4.2)
  rcases lk_Large T hin with hL | ⟨hL, hsm, hlen⟩
  · exact .inl hL
  refine .inr ?_
  obtain ⟨K1, g1⟩ := hL
  by_cases hbl : b.length > 2000
  · exact ⟨K1, g1 _ (Nat.le_refl _), .inl hbl⟩
  have hbb := bytes_of_wf hb.2
  obtain ⟨K2, g2⟩ := lk_Print T hsm hin (by omega)
  obtain ⟨KS, gS⟩ := lk_Same_self T hsm
  -- the printed tree, parsed
  have hX : ∃ (a : List Int) (e1 : Int) (X : S25) (f1 : Int), (if whyT T 0 = 0 then (putT T, (0 : Int)) else ([], whyT T 0)) = (a, e1) ∧ a.length < 140737488355328 ∧ Ev (fun k => ben_Parse.f k a) (X, f1) ∧ (e1 = 0 → f1 = 0 ∧ X = T) := by
    by_cases hw : whyT T 0 = 0
    · refine ⟨putT T, 0, T, 0, by rw [if_pos hw], by omega, ?_, fun _ => ⟨rfl, rfl⟩⟩
      have := lk_back T 0 [] hw hin hsm bytes_nil
      rw [List.append_nil] at this
      unfold ben_Parse.f
      refine ev_bind this ?_
      simp only [if_true, if_neg (show ¬ 0 < ([] : List Int).length by decide)]
      exact ev_some _
    · rcases lk_Parse [] bytes_nil (by simp) with ⟨e, he, hp⟩ | ⟨X, _, _, _, _, hp⟩
      · exact ⟨[], whyT T 0, z25, e, by rw [if_neg hw], by simp, hp, fun h => absurd h hw⟩
      · exact ⟨[], whyT T 0, X, 0, by rw [if_neg hw], by simp, hp, fun h => absurd h hw⟩
  obtain ⟨a, e1, X, f1, hpr, hal, ⟨K3, g3⟩, hXT⟩ := hX
  rw [hpr] at g2
  have hY : ∃ (Y : S25) (g : Int) (C : List Int) (h : Int), Ev (fun k => ben_Parse.f k b) (Y, g) ∧ Ev (fun k => ben_Print.f k Y) (C, h) ∧ (g = 0 → h = 0 ∧ C = b) := by
    rcases lk_Parse b hbb (by omega) with ⟨e, he, hp⟩ | ⟨Y, hw, hs, hi, hbe, hp⟩
    · have := lk_Print z25 z25_small z25_in (by simp [z25, putT, putK])
      rw [z25_why, if_neg (by decide)] at this
      exact ⟨z25, e, [], 9, hp, this, fun h => absurd h he⟩
    · have := lk_Print Y hs hi (by rw [← hbe]; omega)
      rw [if_pos hw, ← hbe] at this
      exact ⟨Y, 0, b, 0, hp, this, fun _ => ⟨rfl, rfl⟩⟩
  obtain ⟨Y, g, C, h, ⟨K4, g4⟩, ⟨K5, g5⟩, hC⟩ := hY
  refine ⟨K1 + K2 + K3 + K4 + K5 + KS, g1 _ (by omega), .inr ⟨a, e1, X, f1, Y, g, C, h, g2 _ (by omega), hal, g3 _ (by omega), fun he => ?_, g4 _ (by omega), g5 _ (by omega), hC⟩⟩
  obtain ⟨hf, rfl⟩ := hXT he
  exact ⟨hf, gS _ (by omega)⟩
end Go.Proofs.Ytekcnfngcgchcaa.PBenBack
namespace Go.Proofs.Ytekcnfngcgchcaa.Pure
open Go.Proofs.Ytekcnfngcgchcaa.PBenBack
theorem BenBack : annuletlaw12_BenBack.Pure := BenBack_law
end Go.Proofs.Ytekcnfngcgchcaa.Pure
