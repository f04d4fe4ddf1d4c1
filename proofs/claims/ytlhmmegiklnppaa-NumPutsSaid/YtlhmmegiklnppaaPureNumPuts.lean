/- NumPuts: any number and any bytes as texts are the document's texts. No condition. -/
import Derived.Test.YtlhmmegiklnppaaPNumPutsx3
import Derived.Test.YtlhmmegiklnppaaMath
set_option linter.unusedVariables false
set_option linter.unusedSimpArgs false
namespace Go.Proofs.Ytlhmmegiklnppaa.PNumPuts
open Go.RowKit Go.Proofs.YtlhmmegiklnppaaW.PrintWords Go.Proofs.YtlhmmegiklnppaaW.PrintLast Go.Proofs.YtlhmmegiklnppaaW.PrintMore Annulet

/-! ### package num: the printed functions and the lists -/
theorem lk_num_digits (n : Int) (h0 : 0 ≤ n) (h1 : n < 18446744073709551616) : num_digits.f n = some (strOfNums (digL n.toNat)) := by
  unfold num_digits.f
  rw [if_pos h0, if_pos h1]
theorem lk_num_Put (n : Int) (h : -9223372036854775808 ≤ n) (h' : n < 9223372036854775808) : num_Put.f n = some (strOfNums (numL n)) := by
  unfold num_Put.f numL
  by_cases h0 : n < 0
  · rw [if_pos h0, if_pos h0, w64 (n := n + 1) (by omega) (by omega), w64 (n := -(n + 1)) (by omega) (by omega), wu64_id (n := -(n + 1)) (by omega) (by omega), wu64_id (n := -(n + 1) + 1) (by omega) (by omega), lk_num_digits _ (by omega) (by omega)]
    have e : (-(n + 1) + 1).toNat = (-n).toNat := by omega
    have hl := digL_len20 (n := (-n).toNat) (by omega)
    simp only [Option.bind_some, e, strOfNums_size]
    rw [if_pos (by omega)]
    rw [show (⟨#[45]⟩ : ByteArray) = strOfNums [45] from rfl, strOfNums_append]
    rfl
  · rw [if_neg h0, if_neg h0, wu64_id (by omega) (by omega), lk_num_digits _ (by omega) (by omega)]
    rfl
theorem lk_num_Hex0 (u : Nat) (hu : u < 18446744073709551616) (d : Nat) : ∀ (i : Nat) (b : List Int), 16 - i = d → i ≤ 16 → b.length = 16 → b.drop (16 - i) = hexL i u →
    Ev (fun k => num_Hex.l0 k (u : Int) b 16 (i : Int)) (strOfNums (hexL 16 u)) := by
  induction d with
  | zero =>
    intro i b hd hi hl hb
    obtain rfl : i = 16 := by omega
    refine ev_succ ?_
    simp only [num_Hex.l0]
    simp only [if_neg (show ¬ ((16 : Nat) : Int) < 16 by omega)]
    rw [show 16 - 16 = 0 from rfl, List.drop_zero] at hb
    rw [hb]
    exact ev_some _
  | succ d ih =>
    intro i b hd hi hl hb
    refine ev_succ ?_
    simp only [num_Hex.l0]
    rw [w64 (n := 4 * (i : Int)) (by omega) (by omega), w64 (n := 15 - (i : Int)) (by omega) (by omega), w64 (n := (i : Int) + 1) (by omega) (by omega)]
    have hs : shr .u64 (u : Int) (4 * (i : Int)) = ((u / 16 ^ i : Nat) : Int) := by
      have := shr_u64 (u : Int) (4 * i) (by omega)
      rw [show ((4 * i : Nat) : Int) = 4 * (i : Int) by omega] at this
      have e : (16 : Nat) ^ i = 2 ^ (4 * i) := by rw [Nat.pow_mul]
      rw [this, e, Int.natCast_ediv, Int.natCast_pow]
      rfl
    have hlt : u / 16 ^ i < 18446744073709551616 := Nat.lt_of_le_of_lt (Nat.div_le_self _ _) hu
    rw [hs]
    generalize hv : u / 16 ^ i = v at *
    rw [and15_u64 (by omega) (by omega)]
    simp only [if_pos (show (i : Int) < 16 by omega), if_pos (show 0 ≤ 4 * (i : Int) by omega), if_pos (show 0 ≤ (v : Int) % 16 by omega), if_pos (show (v : Int) % 16 < 16 by omega), if_pos (show 0 ≤ 15 - (i : Int) by omega), if_pos (show 15 - (i : Int) < (b.length : Int) by omega)]
    have hp := bt_place ((v : Int) % 16) (by omega) (by omega)
    unfold placesS at hp
    rw [hp]
    refine ih (i + 1) _ (by omega) (by omega) (by rw [List.length_set]; exact hl) ?_
    rw [show (15 - (i : Int)).toNat = 15 - i by omega, show 16 - (i + 1) = 15 - i by omega, set_snoc _ _ _ (by omega), show 15 - i + 1 = 16 - i by omega, hb]
    rw [show i + 1 = 1 + i by omega, hexL_add 1 i u]
    simp [hexL, hv]
theorem lk_num_Hex (u : Int) (h0 : 0 ≤ u) (h1 : u < 18446744073709551616) : Ev (fun k => num_Hex.f k u) (strOfNums (hexL 16 u.toNat)) := by
  unfold num_Hex.f
  simp only [if_pos (show 16 ≤ 281474976710656 by omega), Option.bind_some]
  have := lk_num_Hex0 u.toNat (by omega) 16 0 (List.replicate 16 0) (by omega) (by omega) (by simp) (by simp [hexL])
  rw [show ((u.toNat : Nat) : Int) = u by omega] at this
  exact this
theorem lk_num_Bytes0 (l : List Int) (hb : Bytes l) (hl : l.length < 1000000000000) (d : Nat) : ∀ i : Nat, i ≤ l.length → l.length - i = d →
    Ev (fun k => num_Bytes.l0 k (bytesL (l.take i)) l (l.length : Int) (i : Int)) (strOfNums (bytesL l)) := by
  induction d with
  | zero =>
    intro i hi hd
    refine ev_succ ?_
    simp only [num_Bytes.l0]
    simp only [if_neg (show ¬ (i : Int) < (l.length : Int) by omega)]
    rw [List.take_of_length_le (by omega)]
    exact ev_some _
  | succ d ih =>
    intro i hi hd
    have hr := rd_byte hb (i : Int)
    unfold Byte at hr
    refine ev_succ ?_
    simp only [num_Bytes.l0]
    rw [and15 hr.1 hr.2]
    simp only [if_pos (show (i : Int) < (l.length : Int) by omega), if_pos (show (0 : Int) ≤ (i : Int) by omega), if_pos (show 0 ≤ rd l (i : Int) / 16 by omega), if_pos (show rd l (i : Int) / 16 < 16 by omega), if_pos (show 0 ≤ rd l (i : Int) % 16 by omega), if_pos (show rd l (i : Int) % 16 < 16 by omega), Option.bind_some]
    have h1 := bt_place (rd l (i : Int) / 16) (by omega) (by omega)
    have h2 := bt_place (rd l (i : Int) % 16) (by omega) (by omega)
    unfold placesS at h1 h2
    rw [h1, h2, w64 (by omega) (by omega)]
    have hbl := bytesL_len (l.take i)
    rw [List.length_take] at hbl
    simp only [if_pos (show (bytesL (l.take i)).length + [place (rd l (i : Int) / 16), place (rd l (i : Int) % 16)].length < 140737488355328 by simp only [List.length_cons, List.length_nil]; omega)]
    have e : bytesL (l.take i) ++ [place (rd l (i : Int) / 16), place (rd l (i : Int) % 16)] = bytesL (l.take (i + 1)) := by
      rw [take_succ_rd l i (by omega), bytesL_append]
      simp [bytesL, twoL]
    rw [e]
    exact ih (i + 1) (by omega) (by omega)
/-- the text of bytes -/
theorem lk_num_Bytes (l : List Int) (hb : Bytes l) (hl : l.length < 1000000000000) : Ev (fun k => num_Bytes.f k l) (strOfNums (if l.length = 0 then [45] else bytesL l)) := by
  unfold num_Bytes.f
  by_cases h0 : l.length = 0
  · simp only [if_pos (show (l.length : Int) = 0 by omega), if_pos h0]
    exact ev_some _
  · simp only [if_neg (show ¬ (l.length : Int) = 0 by omega), if_neg h0]
    rw [w64 (by omega) (by omega)]
    simp only [if_pos (show 0 ≤ 2 * (l.length : Int) by omega), if_pos (show (2 * (l.length : Int)).toNat ≤ 281474976710656 by omega)]
    exact lk_num_Bytes0 l hb hl _ 0 (by omega) rfl
theorem lk_awake07 : Ev (fun k => annuletlaw07_awake.f k) true := Ev.of annuletlaw07_awake.mono (k := 40) (by decide +kernel)
theorem lk_ref07_Put_nat (n : Nat) : n < 9223372036854775808 → Ev (fun k => annuletref07_Put.f k (n : Int)) (strOfNums (digL n)) := by
  induction n using digL.induct with
  | case1 n h =>
    intro hn
    rw [digL_small h]
    refine ev_succ ?_
    simp only [annuletref07_Put.f]
    rw [w64 (n := 48 + (n : Int)) (by omega) (by omega), show (48 + (n : Int)) % 256 = 48 + n by omega]
    simp only [if_neg (show ¬ (n : Int) < -9 by omega), if_neg (show ¬ (n : Int) < 0 by omega), if_neg (show ¬ (n : Int) > 9 by omega)]
    exact ev_some _
  | case2 n h ih =>
    intro hn
    have hd := digL_len20 (n := n / 10) (by omega)
    rw [digL_great h]
    refine ev_succ ?_
    simp only [annuletref07_Put.f]
    rw [tdiv_nat (by omega), tmod_nat (by omega), w64 (n := (n : Int) / 10) (by omega) (by omega)]
    simp only [if_neg (show ¬ (n : Int) < -9 by omega), if_neg (show ¬ (n : Int) < 0 by omega), if_pos (show (n : Int) > 9 by omega)]
    refine ev_bind (ih (by omega)) ?_
    have hs : Ev (fun k => annuletref07_Put.f k ((n : Int) % 10)) (strOfNums [48 + ((n % 10 : Nat) : Int)]) := by
      refine ev_succ ?_
      simp only [annuletref07_Put.f]
      rw [w64 (n := 48 + (n : Int) % 10) (by omega) (by omega), show (48 + (n : Int) % 10) % 256 = 48 + ((n % 10 : Nat) : Int) by omega]
      simp only [if_neg (show ¬ (n : Int) % 10 < -9 by omega), if_neg (show ¬ (n : Int) % 10 < 0 by omega), if_neg (show ¬ (n : Int) % 10 > 9 by omega)]
      exact ev_some _
    refine ev_bind hs ?_
    simp only [strOfNums_size, List.length_singleton, if_pos (show (digL (n / 10)).length + 1 ≤ 9223372036854775807 by omega)]
    rw [strOfNums_append]
    exact ev_some _
theorem lk_ref07_Put_neg (n : Nat) : 0 < n → n ≤ 9223372036854775808 → Ev (fun k => annuletref07_Put.f k (-(n : Int))) (strOfNums (45 :: digL n)) := by
  induction n using digL.induct with
  | case1 n h =>
    intro h0 hn
    have hd := digL_len20 (n := n) (by omega)
    refine ev_succ ?_
    simp only [annuletref07_Put.f]
    rw [w64 (n := - -(n : Int)) (by omega) (by omega), Int.neg_neg]
    simp only [if_neg (show ¬ -(n : Int) < -9 by omega), if_pos (show -(n : Int) < 0 by omega)]
    refine ev_bind (lk_ref07_Put_nat n (by omega)) ?_
    simp only [strOfNums_size, if_pos (show 1 + (digL n).length ≤ 9223372036854775807 by omega)]
    rw [show (⟨#[45]⟩ : ByteArray) = strOfNums [45] from rfl, strOfNums_append]
    exact ev_some _
  | case2 n h ih =>
    intro h0 hn
    have hd := digL_len20 (n := n / 10) (by omega)
    have hd' := digL_len20 (n := n % 10) (by omega)
    refine ev_succ ?_
    simp only [annuletref07_Put.f]
    rw [Int.neg_tdiv, Int.neg_tmod, tdiv_nat (by omega), tmod_nat (by omega), w64 (n := -((n : Int) / 10)) (by omega) (by omega), w64 (n := - -((n : Int) % 10)) (by omega) (by omega), Int.neg_neg]
    simp only [if_pos (show -(n : Int) < -9 by omega)]
    have i1 := ih (by omega) (by omega)
    rw [show ((n / 10 : Nat) : Int) = (n : Int) / 10 by omega] at i1
    refine ev_bind i1 ?_
    have i2 := lk_ref07_Put_nat (n % 10) (by omega)
    rw [show ((n % 10 : Nat) : Int) = (n : Int) % 10 by omega] at i2
    refine ev_bind i2 ?_
    simp only [strOfNums_size, List.length_cons, if_pos (show (digL (n / 10)).length + 1 + (digL (n % 10)).length ≤ 9223372036854775807 by omega)]
    rw [strOfNums_append]
    rw [show 45 :: digL n = 45 :: digL (n / 10) ++ digL (n % 10) by rw [digL_great h, digL_small (n := n % 10) (by omega)]; rfl]
    exact ev_some _
theorem lk_ref07_Put (n : Int) (h : -9223372036854775808 ≤ n) (h' : n < 9223372036854775808) : Ev (fun k => annuletref07_Put.f k n) (strOfNums (numL n)) := by
  unfold numL
  by_cases h0 : n < 0
  · rw [if_pos h0]
    have := lk_ref07_Put_neg (-n).toNat (by omega) (by omega)
    rw [show -(((-n).toNat : Nat) : Int) = n by omega] at this
    exact this
  · rw [if_neg h0]
    have := lk_ref07_Put_nat n.toNat (by omega)
    rw [show ((n.toNat : Nat) : Int) = n by omega] at this
    exact this
theorem lk_ref07_two (c : Int) (h : Byte c) : annuletref07_two.f c = some (strOfNums (twoL c)) := by
  have key : ∀ i : Fin 256, annuletref07_two.f ((i.val : Nat) : Int) = some (strOfNums (twoL ((i.val : Nat) : Int))) := by decide +kernel
  unfold Byte at h
  have := key ⟨c.toNat, by omega⟩
  rw [show ((c.toNat : Nat) : Int) = c by omega] at this
  exact this
theorem lk_ref07_Hex0 (u : Nat) (hu : u < 18446744073709551616) (d : Nat) : ∀ (i v : Nat) (b : List Int), 8 - i = d → i ≤ 8 → v = u / 16 ^ (2 * i) → b = hexL (2 * i) u →
    Ev (fun k => annuletref07_Hex.l0 k (v : Int) (strOfNums b) (i : Int)) (strOfNums (hexL 16 u)) := by
  induction d with
  | zero =>
    intro i v b hd hi hv hb
    obtain rfl : i = 8 := by omega
    refine ev_succ ?_
    simp only [annuletref07_Hex.l0]
    simp only [if_neg (show ¬ ((8 : Nat) : Int) < 8 by omega)]
    rw [hb]
    exact ev_some _
  | succ d ih =>
    intro i v b hd hi hv hb
    have hvl : v < 18446744073709551616 := hv ▸ Nat.lt_of_le_of_lt (Nat.div_le_self _ _) hu
    have hbl : b.length = 2 * i := by rw [hb, hexL_len]
    refine ev_succ ?_
    simp only [annuletref07_Hex.l0]
    rw [tmod_nat (by omega), tdiv_nat (by omega), Int.emod_emod, lk_ref07_two _ ⟨by omega, by omega⟩, w64 (n := (i : Int) + 1) (by omega) (by omega), wu64_id (n := (v : Int) / 256) (by omega) (by omega)]
    simp only [if_pos (show (i : Int) < 8 by omega), Option.bind_some, strOfNums_size]
    simp only [if_pos (show (twoL ((v : Int) % 256)).length + b.length ≤ 9223372036854775807 by simp only [twoL, List.length_cons, List.length_nil]; omega)]
    rw [strOfNums_append]
    have := ih (i + 1) (v / 256) (twoL ((v : Int) % 256) ++ b) (by omega) (by omega) (by rw [hv, Nat.div_div_eq_div_mul, show 2 * (i + 1) = 2 * i + 2 by omega, Nat.pow_add]) (by
      rw [show 2 * (i + 1) = 2 + 2 * i by omega, hexL_add 2 (2 * i) u, ← hv, hb]
      congr 1
      simp only [hexL, twoL, List.nil_append, List.cons_append]
      rw [show ((v / 16 % 16 : Nat) : Int) = (v : Int) % 256 / 16 by omega, show ((v % 16 : Nat) : Int) = (v : Int) % 256 % 16 by omega])
    rw [show ((v / 256 : Nat) : Int) = (v : Int) / 256 by omega] at this
    exact this
theorem lk_ref07_Hex (u : Int) (h0 : 0 ≤ u) (h1 : u < 18446744073709551616) : Ev (fun k => annuletref07_Hex.f k u) (strOfNums (hexL 16 u.toNat)) := by
  unfold annuletref07_Hex.f
  have := lk_ref07_Hex0 u.toNat (by omega) 8 0 u.toNat [] (by omega) (by omega) (by simp) (by simp [hexL])
  rw [show ((u.toNat : Nat) : Int) = u by omega] at this
  exact this
theorem lk_ref07_Bytes0 (l : List Int) (hb : Bytes l) (hl : l.length < 1000000000000) (d : Nat) : ∀ i : Nat, i ≤ l.length → l.length - i = d →
    Ev (fun k => annuletref07_Bytes.l0 k l (strOfNums (bytesL (l.take i))) (i : Int)) (strOfNums (bytesL l)) := by
  induction d with
  | zero =>
    intro i hi hd
    refine ev_succ ?_
    simp only [annuletref07_Bytes.l0]
    simp only [if_neg (show ¬ (i : Int) < (l.length : Int) by omega)]
    rw [List.take_of_length_le (by omega)]
    exact ev_some _
  | succ d ih =>
    intro i hi hd
    have hbl := bytesL_len (l.take i)
    rw [List.length_take] at hbl
    refine ev_succ ?_
    simp only [annuletref07_Bytes.l0]
    rw [lk_ref07_two _ (rd_byte hb _), w64 (by omega) (by omega)]
    simp only [if_pos (show (i : Int) < (l.length : Int) by omega), if_pos (show (0 : Int) ≤ (i : Int) by omega), Option.bind_some, strOfNums_size]
    simp only [if_pos (show (bytesL (l.take i)).length + (twoL (rd l (i : Int))).length ≤ 9223372036854775807 by simp only [twoL, List.length_cons, List.length_nil]; omega)]
    rw [strOfNums_append]
    have e : bytesL (l.take i) ++ twoL (rd l (i : Int)) = bytesL (l.take (i + 1)) := by
      rw [take_succ_rd l i (by omega), bytesL_append]
      simp [bytesL]
    rw [e]
    exact ih (i + 1) (by omega) (by omega)
theorem lk_ref07_Bytes (l : List Int) (hb : Bytes l) (hl : l.length < 1000000000000) : Ev (fun k => annuletref07_Bytes.f k l) (strOfNums (if l.length = 0 then [45] else bytesL l)) := by
  unfold annuletref07_Bytes.f
  by_cases h0 : l.length = 0
  · simp only [if_pos (show (l.length : Int) = 0 by omega), if_pos h0]
    exact ev_some _
  · simp only [if_neg (show ¬ (l.length : Int) = 0 by omega), if_neg h0]
    exact lk_ref07_Bytes0 l hb hl _ 0 (by omega) rfl
theorem NumPuts_law : annuletlaw07_NumPuts.Pure := by
  intro a0 a1 l2 h0 h1 hm hm2 hb
  have hb := bytes_of_wf hb
  have h0 := wf_i64 h0
  have h1 := wf_u64 h1
  show ∃ k, annuletlaw07_NumPuts.f k a0 a1 l2 = some true
  have : Ev (fun k => annuletlaw07_NumPuts.f k a0 a1 l2) true := by
    unfold annuletlaw07_NumPuts.f
    by_cases hl : (l2.length : Int) > 300
    · simp only [if_pos hl]
      exact ev_bind lk_awake07 (ev_some _)
    · simp only [if_neg hl]
      rw [lk_num_Put a0 h0.1 h0.2]
      simp only [Option.bind_some]
      refine ev_bind (lk_ref07_Put a0 h0.1 h0.2) ?_
      simp only [if_true]
      refine ev_bind (lk_num_Hex a1 h1.1 h1.2) ?_
      refine ev_bind (lk_ref07_Hex a1 h1.1 h1.2) ?_
      simp only [if_true]
      refine ev_bind (lk_num_Bytes l2 hb (by omega)) ?_
      refine ev_bind (lk_ref07_Bytes l2 hb (by omega)) ?_
      simp only [if_true]
      exact ev_bind lk_awake07 (ev_some _)
  exact Ev.rounds this
end Go.Proofs.Ytlhmmegiklnppaa.PNumPuts
namespace Go.Proofs.Ytlhmmegiklnppaa.Pure
open Go.Proofs.Ytlhmmegiklnppaa.PNumPuts
theorem NumPuts : annuletlaw07_NumPuts.Pure := NumPuts_law
end Go.Proofs.Ytlhmmegiklnppaa.Pure
