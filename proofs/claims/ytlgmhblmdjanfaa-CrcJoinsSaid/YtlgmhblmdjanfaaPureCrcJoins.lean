/- CrcJoins: any two sums joined, over any length up to 2000, are the document's; over very great ones, done at once or one behind the other, they are the same. No condition. -/
import Derived.Test.YtlgmhblmdjanfaaPCrcJoinsx2
import Derived.Test.YtlgmhblmdjanfaaMath
set_option linter.unusedVariables false
set_option linter.unusedSimpArgs false
namespace Go.Proofs.Ytlgmhblmdjanfaa.PCrcJoins
open Go.RowKit Go.Proofs.YtlgmhblmdjanfaaW.PrintWords Go.Proofs.YtlgmhblmdjanfaaW.PrintLast Go.Proofs.YtlgmhblmdjanfaaW.PrintMore Annulet

/-! ### package crc -/
theorem lk_crc_Step (s : Int) (l : List Int) (h0 : 0 ≤ s) (h1 : s < 4294967296) (hb : Bytes l) : crc_Step.f s l = some ((stepN s.toNat l : Nat) : Int) := by
  obtain ⟨n, rfl⟩ := Int.eq_ofNat_of_zero_le h0
  unfold crc_Step.f
  rw [Int.toNat_natCast]
  split
  · rw [stepSmall_nat l hb n (by omega)]
  · rw [stepTab_nat l hb n (by omega)]
theorem lk_crc_Sum (l : List Int) (hb : Bytes l) : crc_Sum.f l = some ((sumN l : Nat) : Int) := by
  unfold crc_Sum.f
  rw [lk_crc_Step 4294967295 l (by omega) (by omega) hb]
  have hl := stepN_lt l hb 4294967295 (by decide)
  simp only [Option.bind_some]
  rw [show (4294967295 : Int).toNat = 4294967295 from rfl, show (4294967295 : Int) = ((4294967295 : Nat) : Int) from rfl, u32_xor_nat _ _ (by decide) hl]
  rfl
theorem lk_ref02_step (s : Nat) (b : Bool) (h : s < 4294967296) : annuletref02_step.f (s : Int) b = some ((refN s b : Nat) : Int) := by
  unfold annuletref02_step.f refN
  rw [tmod_nat (by omega), tdiv_nat (by omega), show (s : Int) / 2 % 4294967296 = ((s / 2 : Nat) : Int) by omega, show (2197175160 : Int) = ((2197175160 : Nat) : Int) from rfl, u32_xor_nat _ _ (by omega) (by decide)]
  rcases Nat.mod_two_eq_zero_or_one s with h0 | h0
  · have hi : ¬ (s : Int) % 2 = 1 := by omega
    cases b <;> simp [h0, hi]
  · have hi : (s : Int) % 2 = 1 := by omega
    cases b <;> simp [h0, hi]
theorem lk_ref02_Step1 (l : List Int) (i : Nat) (hi : i < l.length) (hl : l.length < 1000000000000) (r : Int) (d : Nat) : ∀ (s c j : Nat), j ≤ 8 → 8 - j = d → s < 4294967296 → c < 256 →
    Ev (fun k => annuletref02_Step.l0 k ((refIt (8 - j) s c : Nat) : Int) l ((i + 1 : Nat) : Int)) r → Ev (fun k => annuletref02_Step.l1 k (s : Int) l (i : Int) (c : Int) (j : Int)) r := by
  induction d with
  | zero =>
    intro s c j hj hd hs hc h
    obtain rfl : j = 8 := by omega
    refine ev_succ ?_
    simp only [annuletref02_Step.l1]
    rw [w64 (n := (i : Int) + 1) (by omega) (by omega)]
    simp only [if_neg (show ¬ ((8 : Nat) : Int) < 8 by omega)]
    exact h
  | succ d ih =>
    intro s c j hj hd hs hc h
    refine ev_succ ?_
    simp only [annuletref02_Step.l1]
    rw [tmod_nat (by omega), tdiv_nat (by omega), w64 (n := (c : Int) / 2) (by omega) (by omega), w64 (n := (j : Int) + 1) (by omega) (by omega), show ((c : Int) % 2 == 1) = decide (c % 2 = 1) by rw [Bool.eq_iff_iff]; simp; omega, lk_ref02_step s _ hs]
    simp only [if_pos (show (j : Int) < 8 by omega), Option.bind_some]
    have := ih (refN s (decide (c % 2 = 1))) (c / 2) (j + 1) (by omega) (by omega) (refN_lt hs _) (by omega) (by
      rw [show 8 - j = (8 - (j + 1)) + 1 by omega, refIt] at h
      exact h)
    rw [show ((c / 2 : Nat) : Int) = (c : Int) / 2 by omega] at this
    exact this
theorem lk_ref02_Step0 (l : List Int) (hb : Bytes l) (hl : l.length < 1000000000000) (d : Nat) : ∀ (i s : Nat), i ≤ l.length → l.length - i = d → s < 4294967296 →
    Ev (fun k => annuletref02_Step.l0 k (s : Int) l (i : Int)) ((stepN s (l.drop i) : Nat) : Int) := by
  induction d with
  | zero =>
    intro i s hi hd hs
    rw [List.drop_eq_nil_of_le (by omega)]
    refine ev_succ ?_
    simp only [annuletref02_Step.l0]
    simp only [if_neg (show ¬ (i : Int) < (l.length : Int) by omega)]
    exact ev_some _
  | succ d ih =>
    intro i s hi hd hs
    have hr := rd_byte hb (i : Int)
    unfold Byte at hr
    have hx : s ^^^ (rd l (i : Int)).toNat < 4294967296 := Nat.xor_lt_two_pow (n := 32) (by omega) (by omega)
    rw [drop_rd l i (by omega), stepN]
    refine ev_succ ?_
    simp only [annuletref02_Step.l0]
    rw [w64 (by omega) (by omega)]
    simp only [if_pos (show (i : Int) < (l.length : Int) by omega), if_pos (show (0 : Int) ≤ (i : Int) by omega)]
    have := lk_ref02_Step1 l i (by omega) hl ((stepN (iterN bitN 8 (s ^^^ (rd l (i : Int)).toNat)) (l.drop (i + 1)) : Nat) : Int) 8 s (rd l (i : Int)).toNat 0 (by omega) rfl hs (by omega) (by
      rw [show 8 - 0 = 8 from rfl, refIt_byte _ _ (by omega)]
      exact ih (i + 1) _ (by omega) (by omega) (iterN_lt hx 8))
    rw [show (((rd l (i : Int)).toNat : Nat) : Int) = rd l (i : Int) by omega] at this
    exact this
theorem lk_ref02_Step (s : Int) (l : List Int) (h0 : 0 ≤ s) (h1 : s < 4294967296) (hb : Bytes l) (hl : l.length < 1000000000000) : Ev (fun k => annuletref02_Step.f k s l) ((stepN s.toNat l : Nat) : Int) := by
  unfold annuletref02_Step.f
  have := lk_ref02_Step0 l hb hl _ 0 s.toNat (by omega) rfl (by omega)
  rw [show ((s.toNat : Nat) : Int) = s by omega] at this
  exact this
theorem lk_crc_Join (a b : Nat) (n : Int) (ha : a < 4294967296) (hb : b < 4294967296) (hn : n < 9223372036854775808) : crc_Join.f (a : Int) (b : Int) n = some ((iterN (iterN bitN 8) n.toNat a ^^^ b : Nat) : Int) := by
  unfold crc_Join.f
  rw [if_pos hn, byteL_mat, joinL_eq _ good_bit8 a ha, u32_xor_nat _ _ (iterN_lt8 ha _) hb]
theorem lk_awake02 : annuletlaw02_awake.f = some true := by
  have e1 : crc_Sum.f (([49, 50, 51, 52, 53, 54, 55, 56, 57] : List Int)) = some 3808858755 := by decide +kernel
  have e2 : crc_Sum.f ([] : List Int) = some 0 := by decide +kernel
  have e3 : crc_Flip.f (([0, 0] : List Int)) 7 3 = some [128, 1] := by decide +kernel
  have e4 : crc_Join.f 5 6 0 = some 3 := by
    unfold crc_Join.f
    rw [if_pos (by omega), show (0 : Int).toNat = 0 from rfl, joinL, if_pos rfl]
    decide +kernel
  unfold annuletlaw02_awake.f
  rw [e1, e2, e3, e4]
  decide +kernel
theorem stepN_zeros : ∀ (n s : Nat), stepN s (List.replicate n 0) = iterN (iterN bitN 8) n s
  | 0, s => rfl
  | n + 1, s => by
    rw [List.replicate_succ, stepN, stepN_zeros n]
    rw [show (0 : Int).toNat = 0 from rfl, Nat.xor_zero]
    rfl
theorem lk_ref02_Join (a b : Nat) (n : Int) (ha : a < 4294967296) (hb : b < 4294967296) (hn : n ≤ 2000) : Ev (fun k => annuletref02_Join.f k (a : Int) (b : Int) n) ((iterN (iterN bitN 8) n.toNat a ^^^ b : Nat) : Int) := by
  unfold annuletref02_Join.f
  have hlt := iterN_lt8 ha n.toNat
  by_cases h : n > 0
  · simp only [if_pos h, if_pos (show (0 : Int) ≤ n by omega), if_pos (show n.toNat ≤ 281474976710656 by omega)]
    have hz : Bytes (List.replicate n.toNat (0 : Int)) := fun x hx => by rw [(List.mem_replicate.1 hx).2]; exact ⟨by omega, by omega⟩
    refine ev_bind (lk_ref02_Step (a : Int) (List.replicate n.toNat 0) (by omega) (by omega) hz (by simp; omega)) ?_
    rw [Int.toNat_natCast, stepN_zeros, u32_xor_nat _ _ hlt hb]
    exact ev_some _
  · simp only [if_neg h]
    have : n.toNat = 0 := by omega
    rw [this, u32_xor_nat _ _ ha hb]
    exact ev_some _
theorem CrcJoins_law : annuletlaw02_CrcJoins.Pure := by
  intro a0 a1 n x y hw0 hw1 hn hx hy
  have h0 := wf_u32 hw0
  have h1 := wf_u32 hw1
  have hn := wf_i64 hn
  have hx := wf_u32 hx
  have hy := wf_u32 hy
  obtain ⟨a, rfl⟩ := Int.eq_ofNat_of_zero_le h0.1
  obtain ⟨b, rfl⟩ := Int.eq_ofNat_of_zero_le h1.1
  refine Ev.rounds (g := fun k => annuletlaw02_CrcJoins.f k (a : Int) (b : Int) n x y) ?_
  have hj : Ev (fun k => annuletlaw02_CrcJoins.j0 k (a : Int) (b : Int) false x y) true := by
    refine ev_const fun k => ?_
    have e1 := lk_crc_Join a 0 x (by omega) (by omega) (by omega)
    have e2 := lk_crc_Join (iterN (iterN bitN 8) x.toNat a ^^^ 0) b y (by rw [Nat.xor_zero]; exact iterN_lt8 (by omega) _) (by omega) (by omega)
    have e3 := lk_crc_Join a b (x + y) (by omega) (by omega) (by omega)
    rw [Nat.xor_zero, ← iterN_add] at e2
    rw [show (x + y).toNat = x.toNat + y.toNat by omega] at e3
    rw [Nat.xor_zero] at e1
    rw [annuletlaw02_CrcJoins.j0, if_neg (by decide), w64 (n := x) (by omega) (by omega), w64 (n := y) (by omega) (by omega), w64 (n := x + y) (by omega) (by omega)]
    have e1' : crc_Join.f (a : Int) 0 x = some ((iterN (iterN bitN 8) x.toNat a : Nat) : Int) := e1
    rw [e1', Option.bind_some, e2, Option.bind_some, e3, Option.bind_some, if_pos rfl, lk_awake02]
    rfl
  unfold annuletlaw02_CrcJoins.f
  by_cases c : n ≤ 2000
  · simp only [if_pos c]
    rw [lk_crc_Join a b n (by omega) (by omega) (by omega)]
    simp only [Option.bind_some]
    refine ev_bind (lk_ref02_Join a b n (by omega) (by omega) c) ?_
    simp only [bne_self_eq_false]
    exact hj
  · simp only [if_neg c]
    exact hj
end Go.Proofs.Ytlgmhblmdjanfaa.PCrcJoins
namespace Go.Proofs.Ytlgmhblmdjanfaa.Pure
open Go.Proofs.Ytlgmhblmdjanfaa.PCrcJoins
theorem CrcJoins : annuletlaw02_CrcJoins.Pure := CrcJoins_law
end Go.Proofs.Ytlgmhblmdjanfaa.Pure
