/- NegoAgrees: whatever two nodes ask, and whichever of their hellos come, however often and late, those that settle do so on the greatest version of both; without one nobody settles, and who has heard is refused. No condition. -/
import Derived.Test.YtpopljbpbobgfaaPNegoAgreesx3
import Derived.Test.YtpopljbpbobgfaaMath
set_option linter.unusedVariables false
set_option linter.unusedSimpArgs false
namespace Go.Proofs.Ytpopljbpbobgfaa.PNegoAgrees
open Go.RowKit Go.Proofs.YtpopljbpbobgfaaW.PrintWords Go.Proofs.YtpopljbpbobgfaaW.PrintLast Go.Proofs.YtpopljbpbobgfaaW.PrintMore Annulet
theorem lk_buf_Fix0 (x s : Nat) (hs : s ≤ 8) : ∀ (c : Nat) (l : List Int), c ≤ s → l.length + c < 100000000000000 → Ev (fun k => buf_Fix.l0 k l (x : Int) ((c : Int) - 1)) (l ++ beL c x) := by
  intro c
  induction c with
  | zero =>
    intro l hc hl
    refine ev_const fun k => ?_
    rw [buf_Fix.l0, if_neg (by omega), beL, List.append_nil]
  | succ c ih =>
    intro l hc hl
    refine ev_succ ?_
    simp only [buf_Fix.l0]
    rw [show ((c + 1 : Nat) : Int) - 1 = (c : Int) by omega, w64 (n := 8 * (c : Int)) (by omega) (by omega), w64 (n := (c : Int) - 1) (by omega) (by omega), shr8_byte x c (by omega)]
    simp only [if_pos (show (c : Int) ≥ 0 by omega), if_pos (show (0 : Int) ≤ 8 * (c : Int) by omega), if_pos (show l.length < 140737488355328 by omega)]
    have := ih (l ++ [((x / 256 ^ c % 256 : Nat) : Int)]) (by omega) (by simp; omega)
    rw [beL_head]
    rw [List.append_assoc] at this
    exact this
theorem lk_buf_Fix (l : List Int) (x s : Nat) (h1 : 1 ≤ s) (h8 : s ≤ 8) (hl : l.length < 10000000000000) : Ev (fun k => buf_Fix.f k l (x : Int) (s : Int)) (l ++ beL s x) := by
  unfold buf_Fix.f
  simp only [if_neg (show ¬ (s : Int) < 1 by omega), decide_eq_false (show ¬ (s : Int) > 8 by omega)]
  refine ev_succ ?_
  simp only [buf_Fix.j0]
  rw [w64 (by omega) (by omega)]
  simp only [Bool.false_eq_true, if_false]
  exact lk_buf_Fix0 x s h8 s l (Nat.le_refl _) (by omega)
theorem lk_nego_Hello (a : Int) (b : Bool) (h0 : 0 ≤ a) (h1 : a < 65536) : Ev (fun k => nego_Hello.f k a b) ((if b = true then 2 else 1) :: beL 2 a.toNat) := by
  unfold nego_Hello.f
  have f := lk_buf_Fix [(if b = true then (2 : Int) else 1)] a.toNat 2 (by omega) (by omega) (by simp)
  rw [show ((a.toNat : Nat) : Int) = a by omega] at f
  rw [wu64_id (n := a) (by omega) (by omega)]
  cases b with
  | true =>
    simp only [if_true]
    refine ev_bind (lk_buf_Fix [] 2 1 (by omega) (by omega) (by simp)) ?_
    have e : ([] : List Int) ++ beL 1 2 = [2] := by simp [beL]
    rw [e]
    exact ev_bind f (ev_some _)
  | false =>
    simp only [Bool.false_eq_true, if_false]
    refine ev_bind (lk_buf_Fix [] 1 1 (by omega) (by omega) (by simp)) ?_
    have e : ([] : List Int) ++ beL 1 1 = [1] := by simp [beL]
    rw [e]
    exact ev_bind f (ev_some _)
theorem lk_nego_Read (l : List Int) (hl : l.length < 140737488355328) : nego_Read.f l = some (negoRd l) := by
  unfold nego_Read.f
  rw [if_pos hl]
theorem lk_vers_Best (a b : Int) (ha : 0 ≤ a ∧ a < 65536) (hb : 0 ≤ b ∧ b < 65536) : vers_Best.f a b = some ((bestN a.toNat b.toNat : Nat) : Int) := by
  unfold vers_Best.f bits_Len16.f
  have e := u16_and_nat a.toNat b.toNat (by omega) (by omega)
  rw [show ((a.toNat : Nat) : Int) = a by omega, show ((b.toNat : Nat) : Int) = b by omega] at e
  have hle : a.toNat &&& b.toNat ≤ a.toNat := Nat.and_le_left
  rw [e, if_pos (by omega), if_pos (by omega), Int.toNat_natCast]
  rfl
theorem lk_ref24_Has0 (x : Nat) (hx : x < 65536) (v : Nat) (h1 : 1 ≤ v) (h16 : v ≤ 16) (d : Nat) : ∀ i : Nat, 1 ≤ i → i + d = v → Ev (fun k => annuletref24_Has.l0 k (v : Int) ((x / 2 ^ (i - 1) : Nat) : Int) (i : Int)) (x.testBit (v - 1)) := by
  induction d with
  | zero =>
    intro i hi hd
    obtain rfl : i = v := by omega
    refine ev_const fun k => ?_
    rw [annuletref24_Has.l0, if_neg (by omega), if_pos (by omega), if_pos (by omega), tmod_nat (Int.natCast_nonneg _), Nat.testBit_eq_decide_div_mod_eq]
    generalize x / 2 ^ (i - 1) = q
    congr 1
    rw [Bool.eq_iff_iff]
    simp
    omega
  | succ d ih =>
    intro i hi hd
    refine ev_succ ?_
    simp only [annuletref24_Has.l0]
    have hq : x / 2 ^ (i - 1) ≤ x := Nat.div_le_self _ _
    have e : x / 2 ^ (i - 1) / 2 = x / 2 ^ (i + 1 - 1) := by
      rw [Nat.div_div_eq_div_mul, ← Nat.pow_succ]
      congr 2
      omega
    have := ih (i + 1) (by omega) (by omega)
    rw [← e] at this
    generalize x / 2 ^ (i - 1) = q at hq this ⊢
    rw [tdiv_nat (by omega), w64 (n := (i : Int) + 1) (by omega) (by omega), w64 (by omega) (by omega)]
    simp only [if_pos (show (i : Int) < (v : Int) by omega), if_pos (show (i : Int) < 17 by omega)]
    exact this
theorem lk_ref24_Has (x : Int) (h0 : 0 ≤ x) (hx : x < 65536) (v : Nat) (h1 : 1 ≤ v) (h16 : v ≤ 16) : Ev (fun k => annuletref24_Has.f k x (v : Int)) (x.toNat.testBit (v - 1)) := by
  unfold annuletref24_Has.f
  rw [w64 (by omega) (by omega)]
  have := lk_ref24_Has0 x.toNat (by omega) v h1 h16 (v - 1) 1 (by omega) (by omega)
  simp only [Nat.sub_self, Nat.pow_zero, Nat.div_one] at this
  rw [show ((x.toNat : Nat) : Int) = x by omega] at this
  exact this
theorem lk_ref24_Best0 (a b : Int) (ha : 0 ≤ a ∧ a < 65536) (hb : 0 ≤ b ∧ b < 65536) : ∀ v : Nat, v ≤ 16 → Ev (fun k => annuletref24_Best.l0 k a b (v : Int)) ((Lib.bitLen ((a.toNat &&& b.toNat) % 2 ^ v) : Nat) : Int)
  | 0, _ => by
    refine ev_const fun k => ?_
    rw [annuletref24_Best.l0, if_neg (by omega), Nat.pow_zero, Nat.mod_one]
    rfl
  | v + 1, hv => by
    refine ev_succ ?_
    simp only [annuletref24_Best.l0]
    rw [w64 (by omega) (by omega), show ((v + 1 : Nat) : Int) - 1 = (v : Int) by omega]
    simp only [if_pos (show ((v + 1 : Nat) : Int) > 0 by omega)]
    have ih := lk_ref24_Best0 a b ha hb v (by omega)
    have hA := lk_ref24_Has a ha.1 ha.2 (v + 1) (by omega) hv
    have hB := lk_ref24_Has b hb.1 hb.2 (v + 1) (by omega) hv
    rw [show v + 1 - 1 = v by omega] at hA hB
    rw [bitLen_mod_succ v _ (by omega), Nat.testBit_and]
    refine ev_bind hA ?_
    cases hta : a.toNat.testBit v with
    | false =>
      simp only [Bool.false_eq_true, if_false, Bool.false_and]
      exact ih
    | true =>
      simp only [if_true, Bool.true_and]
      refine ev_bind hB ?_
      cases htb : b.toNat.testBit v with
      | false =>
        simp only [Bool.false_eq_true, if_false]
        exact ih
      | true =>
        simp only [if_true]
        exact ev_some _
theorem lk_ref24_Best (a b : Int) (ha : 0 ≤ a ∧ a < 65536) (hb : 0 ≤ b ∧ b < 65536) : Ev (fun k => annuletref24_Best.f k a b) ((bestN a.toNat b.toNat : Nat) : Int) := by
  unfold annuletref24_Best.f bestN
  have := lk_ref24_Best0 a b ha hb 16 (by omega)
  have hle : a.toNat &&& b.toNat ≤ a.toNat := Nat.and_le_left
  rw [Nat.mod_eq_of_lt (by omega)] at this
  exact this
theorem lk_awake25 : Ev (fun k => annuletlaw25_awake.f k) true := Ev.of annuletlaw25_awake.mono (k := 20) (by decide +kernel)
theorem NegoAgrees_law : annuletlaw25_NegoAgrees.Pure := by
  intro a b l ha hb hl
  have ha := wf_u16 ha
  have hb := wf_u16 hb
  refine Ev.rounds (g := fun k => annuletlaw25_NegoAgrees.f k a b l) ?_
  unfold annuletlaw25_NegoAgrees.f
  refine ev_bind lk_awake25 ?_
  simp only [if_true]
  by_cases c : (l.length : Int) > 100
  · simp only [if_pos c]
    exact ev_some _
  simp only [if_neg c]
  refine ev_bind (lk_ref24_Best a b ha hb) ?_
  have e : vers_Best.f b a = some ((bestN a.toNat b.toNat : Nat) : Int) := by rw [lk_vers_Best b a hb ha, bestN_comm]
  simp only [lk_vers_Best a b ha hb, e, and_self, if_true]
  exact ev_some _
end Go.Proofs.Ytpopljbpbobgfaa.PNegoAgrees
namespace Go.Proofs.Ytpopljbpbobgfaa.Pure
open Go.Proofs.Ytpopljbpbobgfaa.PNegoAgrees
theorem NegoAgrees : annuletlaw25_NegoAgrees.Pure := NegoAgrees_law
end Go.Proofs.Ytpopljbpbobgfaa.Pure
