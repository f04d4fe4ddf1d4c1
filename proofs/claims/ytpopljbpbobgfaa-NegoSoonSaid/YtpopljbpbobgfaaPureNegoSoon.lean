/- NegoSoon: of two nodes of which one asks, the hello is sent anew each four ticks on, and when it comes, and its reply, both have settled on their greatest common version, or are both refused. No condition. -/
import Derived.Test.YtpopljbpbobgfaaPNegoSoonx2
import Derived.Test.YtpopljbpbobgfaaMath
set_option linter.unusedVariables false
set_option linter.unusedSimpArgs false
namespace Go.Proofs.Ytpopljbpbobgfaa.PNegoSoon
open Go.RowKit Go.Proofs.YtpopljbpbobgfaaW.PrintWords Go.Proofs.YtpopljbpbobgfaaW.PrintLast Go.Proofs.YtpopljbpbobgfaaW.PrintMore Annulet
theorem lk_buf_Fix0 (x s : Nat) (hs : s ≤ 8) : ∀ (c : Nat) (l : List Int), c ≤ s → l.length + c < 100000000000000 → Ev (fun k => buf_Fix.l0 k l (x : Int) ((c : Int) - 1)) (l ++ beL c x) := by
  intro c
  induction c with
  | zero =>
    intro l hc hl
    refine ev_const fun k => ?_
    rw [buf_Fix.l0, if_neg (by omega), beL, List.append_nil]
  | succ c ih =>
    intro l hc hl
    refine ev_succ ?_
    simp only [buf_Fix.l0]
    rw [show ((c + 1 : Nat) : Int) - 1 = (c : Int) by omega, w64 (n := 8 * (c : Int)) (by omega) (by omega), w64 (n := (c : Int) - 1) (by omega) (by omega), shr8_byte x c (by omega)]
    simp only [if_pos (show (c : Int) ≥ 0 by omega), if_pos (show (0 : Int) ≤ 8 * (c : Int) by omega), if_pos (show l.length < 140737488355328 by omega)]
    have := ih (l ++ [((x / 256 ^ c % 256 : Nat) : Int)]) (by omega) (by simp; omega)
    rw [beL_head]
    rw [List.append_assoc] at this
    exact this
theorem lk_buf_Fix (l : List Int) (x s : Nat) (h1 : 1 ≤ s) (h8 : s ≤ 8) (hl : l.length < 10000000000000) : Ev (fun k => buf_Fix.f k l (x : Int) (s : Int)) (l ++ beL s x) := by
  unfold buf_Fix.f
  simp only [if_neg (show ¬ (s : Int) < 1 by omega), decide_eq_false (show ¬ (s : Int) > 8 by omega)]
  refine ev_succ ?_
  simp only [buf_Fix.j0]
  rw [w64 (by omega) (by omega)]
  simp only [Bool.false_eq_true, if_false]
  exact lk_buf_Fix0 x s h8 s l (Nat.le_refl _) (by omega)
theorem lk_nego_Hello (a : Int) (b : Bool) (h0 : 0 ≤ a) (h1 : a < 65536) : Ev (fun k => nego_Hello.f k a b) ((if b = true then 2 else 1) :: beL 2 a.toNat) := by
  unfold nego_Hello.f
  have f := lk_buf_Fix [(if b = true then (2 : Int) else 1)] a.toNat 2 (by omega) (by omega) (by simp)
  rw [show ((a.toNat : Nat) : Int) = a by omega] at f
  rw [wu64_id (n := a) (by omega) (by omega)]
  cases b with
  | true =>
    simp only [if_true]
    refine ev_bind (lk_buf_Fix [] 2 1 (by omega) (by omega) (by simp)) ?_
    have e : ([] : List Int) ++ beL 1 2 = [2] := by simp [beL]
    rw [e]
    exact ev_bind f (ev_some _)
  | false =>
    simp only [Bool.false_eq_true, if_false]
    refine ev_bind (lk_buf_Fix [] 1 1 (by omega) (by omega) (by simp)) ?_
    have e : ([] : List Int) ++ beL 1 1 = [1] := by simp [beL]
    rw [e]
    exact ev_bind f (ev_some _)
theorem lk_nego_Read (l : List Int) (hl : l.length < 140737488355328) : nego_Read.f l = some (negoRd l) := by
  unfold nego_Read.f
  rw [if_pos hl]
theorem lk_vers_Best (a b : Int) (ha : 0 ≤ a ∧ a < 65536) (hb : 0 ≤ b ∧ b < 65536) : vers_Best.f a b = some ((bestN a.toNat b.toNat : Nat) : Int) := by
  unfold vers_Best.f bits_Len16.f
  have e := u16_and_nat a.toNat b.toNat (by omega) (by omega)
  rw [show ((a.toNat : Nat) : Int) = a by omega, show ((b.toNat : Nat) : Int) = b by omega] at e
  have hle : a.toNat &&& b.toNat ≤ a.toNat := Nat.and_le_left
  rw [e, if_pos (by omega), if_pos (by omega), Int.toNat_natCast]
  rfl
theorem lk_ref24_Has0 (x : Nat) (hx : x < 65536) (v : Nat) (h1 : 1 ≤ v) (h16 : v ≤ 16) (d : Nat) : ∀ i : Nat, 1 ≤ i → i + d = v → Ev (fun k => annuletref24_Has.l0 k (v : Int) ((x / 2 ^ (i - 1) : Nat) : Int) (i : Int)) (x.testBit (v - 1)) := by
  induction d with
  | zero =>
    intro i hi hd
    obtain rfl : i = v := by omega
    refine ev_const fun k => ?_
    rw [annuletref24_Has.l0, if_neg (by omega), if_pos (by omega), if_pos (by omega), tmod_nat (Int.natCast_nonneg _), Nat.testBit_eq_decide_div_mod_eq]
    generalize x / 2 ^ (i - 1) = q
    congr 1
    rw [Bool.eq_iff_iff]
    simp
    omega
  | succ d ih =>
    intro i hi hd
    refine ev_succ ?_
    simp only [annuletref24_Has.l0]
    have hq : x / 2 ^ (i - 1) ≤ x := Nat.div_le_self _ _
    have e : x / 2 ^ (i - 1) / 2 = x / 2 ^ (i + 1 - 1) := by
      rw [Nat.div_div_eq_div_mul, ← Nat.pow_succ]
      congr 2
      omega
    have := ih (i + 1) (by omega) (by omega)
    rw [← e] at this
    generalize x / 2 ^ (i - 1) = q at hq this ⊢
    rw [tdiv_nat (by omega), w64 (n := (i : Int) + 1) (by omega) (by omega), w64 (by omega) (by omega)]
    simp only [if_pos (show (i : Int) < (v : Int) by omega), if_pos (show (i : Int) < 17 by omega)]
    exact this
theorem lk_ref24_Has (x : Int) (h0 : 0 ≤ x) (hx : x < 65536) (v : Nat) (h1 : 1 ≤ v) (h16 : v ≤ 16) : Ev (fun k => annuletref24_Has.f k x (v : Int)) (x.toNat.testBit (v - 1)) := by
  unfold annuletref24_Has.f
  rw [w64 (by omega) (by omega)]
  have := lk_ref24_Has0 x.toNat (by omega) v h1 h16 (v - 1) 1 (by omega) (by omega)
  simp only [Nat.sub_self, Nat.pow_zero, Nat.div_one] at this
  rw [show ((x.toNat : Nat) : Int) = x by omega] at this
  exact this
theorem lk_ref24_Best0 (a b : Int) (ha : 0 ≤ a ∧ a < 65536) (hb : 0 ≤ b ∧ b < 65536) : ∀ v : Nat, v ≤ 16 → Ev (fun k => annuletref24_Best.l0 k a b (v : Int)) ((Lib.bitLen ((a.toNat &&& b.toNat) % 2 ^ v) : Nat) : Int)
  | 0, _ => by
    refine ev_const fun k => ?_
    rw [annuletref24_Best.l0, if_neg (by omega), Nat.pow_zero, Nat.mod_one]
    rfl
  | v + 1, hv => by
    refine ev_succ ?_
    simp only [annuletref24_Best.l0]
    rw [w64 (by omega) (by omega), show ((v + 1 : Nat) : Int) - 1 = (v : Int) by omega]
    simp only [if_pos (show ((v + 1 : Nat) : Int) > 0 by omega)]
    have ih := lk_ref24_Best0 a b ha hb v (by omega)
    have hA := lk_ref24_Has a ha.1 ha.2 (v + 1) (by omega) hv
    have hB := lk_ref24_Has b hb.1 hb.2 (v + 1) (by omega) hv
    rw [show v + 1 - 1 = v by omega] at hA hB
    rw [bitLen_mod_succ v _ (by omega), Nat.testBit_and]
    refine ev_bind hA ?_
    cases hta : a.toNat.testBit v with
    | false =>
      simp only [Bool.false_eq_true, if_false, Bool.false_and]
      exact ih
    | true =>
      simp only [if_true, Bool.true_and]
      refine ev_bind hB ?_
      cases htb : b.toNat.testBit v with
      | false =>
        simp only [Bool.false_eq_true, if_false]
        exact ih
      | true =>
        simp only [if_true]
        exact ev_some _
theorem lk_ref24_Best (a b : Int) (ha : 0 ≤ a ∧ a < 65536) (hb : 0 ≤ b ∧ b < 65536) : Ev (fun k => annuletref24_Best.f k a b) ((bestN a.toNat b.toNat : Nat) : Int) := by
  unfold annuletref24_Best.f bestN
  have := lk_ref24_Best0 a b ha hb 16 (by omega)
  have hle : a.toNat &&& b.toNat ≤ a.toNat := Nat.and_le_left
  rw [Nat.mod_eq_of_lt (by omega)] at this
  exact this
theorem lk_awake25 : Ev (fun k => annuletlaw25_awake.f k) true := Ev.of annuletlaw25_awake.mono (k := 20) (by decide +kernel)
theorem nego_hello_read (a : Int) (h0 : 0 ≤ a) (h1 : a < 65536) (b : Bool) : negoRd ((if b = true then 2 else 1) :: beL 2 a.toNat) = (a, b, 0) := by
  have e : beL 2 a.toNat = [a / 256 % 256, a % 256] := by
    simp [beL]
    omega
  rw [e, negoRd_three _ _ _ (by cases b <;> exact ⟨by decide, by decide⟩) ⟨by omega, by omega⟩ ⟨by omega, by omega⟩]
  cases b
  · rw [if_neg (by decide)]
    simp
    omega
  · rw [if_neg (by decide)]
    simp
    omega
theorem soon_end (a b : Int) (ha : 0 ≤ a ∧ a < 65536) (hb : 0 ≤ b ∧ b < 65536) (x2 x9 : Int) (h : ¬ x9 < wrap64 (Int.tmod x2 5)) :
    Ev (fun k => annuletlaw25_NegoSoon.l0 k a b x2 x9 0 1 0 0 0 0 0 []) true := by
  refine ev_succ ?_
  simp only [annuletlaw25_NegoSoon.l0]
  simp only [if_neg h]
  refine ev_bind (lk_nego_Hello a false ha.1 ha.2) ?_
  rw [lk_nego_Read _ (by simp [beL_len]), nego_hello_read a ha.1 ha.2]
  simp only [Option.bind_some]
  unfold nego_Hear.f
  rw [lk_vers_Best b a hb ha]
  simp only [Option.bind_some]
  have hc := bestN_comm b.toNat a.toNat
  rw [hc]
  by_cases hz : ((bestN a.toNat b.toNat : Nat) : Int) = 0
  · simp only [if_pos hz, Option.bind_some]
    refine ev_bind (lk_nego_Hello b true hb.1 hb.2) ?_
    rw [lk_nego_Read _ (by simp [beL_len]), nego_hello_read b hb.1 hb.2]
    simp only [Option.bind_some]
    rw [lk_vers_Best a b ha hb]
    simp only [Option.bind_some, if_pos hz]
    refine ev_bind (lk_ref24_Best a b ha hb) ?_
    simp only [Bool.not_false, Bool.not_true, if_true, Bool.false_eq_true, if_false, show ¬ (3 : Int) = 2 by decide]
    simp only [if_neg (show ¬ ((bestN a.toNat b.toNat : Nat) : Int) > 0 by omega)]
    exact ev_bind lk_awake25 (ev_some _)
  · simp only [if_neg hz, Option.bind_some]
    refine ev_bind (lk_nego_Hello b true hb.1 hb.2) ?_
    rw [lk_nego_Read _ (by simp [beL_len]), nego_hello_read b hb.1 hb.2]
    simp only [Option.bind_some]
    rw [lk_vers_Best a b ha hb]
    simp only [Option.bind_some, if_neg hz]
    refine ev_bind (lk_ref24_Best a b ha hb) ?_
    simp only [Bool.not_false, Bool.not_true, if_true, Bool.false_eq_true, if_false]
    simp only [if_pos (show ((bestN a.toNat b.toNat : Nat) : Int) > 0 by omega)]
    exact ev_bind lk_awake25 (ev_some _)
theorem soon_round (a b x2 x9 : Int) (r : Bool) (h9 : 0 ≤ x9) (h9' : x9 < 100) (h : Ev (fun k => annuletlaw25_NegoSoon.l0 k a b x2 (x9 + 1) 0 1 0 0 0 0 0 []) r) :
    Ev (fun k => annuletlaw25_NegoSoon.l1 k a b x2 x9 1 0 1 0 0 0 0 0 []) r := by
  have w1 : wrap64 (1 : Int) = 1 := w64 (by omega) (by omega)
  have w2 : wrap64 (2 : Int) = 2 := w64 (by omega) (by omega)
  have w3 : wrap64 (3 : Int) = 3 := w64 (by omega) (by omega)
  have w4 : wrap64 (4 : Int) = 4 := w64 (by omega) (by omega)
  have w5 : wrap64 (5 : Int) = 5 := w64 (by omega) (by omega)
  have w9 : wrap64 (x9 + 1) = x9 + 1 := w64 (by omega) (by omega)
  obtain ⟨K, hK⟩ := h
  refine ⟨K + 5, fun k hk => ?_⟩
  obtain ⟨m, rfl⟩ : ∃ m, k = m + 5 := ⟨k - 5, by omega⟩
  have := hK m (by omega)
  simp [annuletlaw25_NegoSoon.l1, nego_Tick.f, w1, w2, w3, w4, w5, w9]
  exact this
theorem NegoSoon_law : annuletlaw25_NegoSoon.Pure := by
  intro a0 a1 a2 hw0 hw1 hw2
  have h0 := wf_u16 hw0
  have h1 := wf_u16 hw1
  have h2 := wf_u8 hw2
  refine Ev.rounds (g := fun k => annuletlaw25_NegoSoon.f k a0 a1 a2) ?_
  have hl : ∀ (d : Nat) (i : Nat), i + d = (a2 % 5).toNat → Ev (fun k => annuletlaw25_NegoSoon.l0 k a0 a1 a2 (i : Int) 0 1 0 0 0 0 0 []) true := by
    intro d
    induction d with
    | zero =>
      intro i hi
      refine soon_end a0 a1 h0 h1 a2 i ?_
      rw [tmod_nat (by omega), w64 (by omega) (by omega)]
      omega
    | succ d ih =>
      intro i hi
      refine ev_succ ?_
      simp only [annuletlaw25_NegoSoon.l0]
      have hlt : (i : Int) < wrap64 (Int.tmod a2 5) := by
        rw [tmod_nat (by omega), w64 (by omega) (by omega)]
        omega
      simp only [if_pos hlt]
      exact soon_round a0 a1 a2 i true (by omega) (by omega) (ih (i + 1) (by omega))
  unfold annuletlaw25_NegoSoon.f nego_Ask.f
  simp only [if_true, Option.bind_some]
  exact hl (a2 % 5).toNat 0 (by omega)
end Go.Proofs.Ytpopljbpbobgfaa.PNegoSoon
namespace Go.Proofs.Ytpopljbpbobgfaa.Pure
open Go.Proofs.Ytpopljbpbobgfaa.PNegoSoon
theorem NegoSoon : annuletlaw25_NegoSoon.Pure := NegoSoon_law
end Go.Proofs.Ytpopljbpbobgfaa.Pure
