/- NegoHellos: any hello as bytes, and which hello any bytes are, are the document's. No condition. -/
import Derived.Test.YtpopljbpbobgfaaPNegoHellosx3
import Derived.Test.YtpopljbpbobgfaaMath
set_option linter.unusedVariables false
set_option linter.unusedSimpArgs false
namespace Go.Proofs.Ytpopljbpbobgfaa.PNegoHellos
open Go.RowKit Go.Proofs.YtpopljbpbobgfaaW.PrintWords Go.Proofs.YtpopljbpbobgfaaW.PrintLast Go.Proofs.YtpopljbpbobgfaaW.PrintMore Annulet
theorem lk_buf_Fix0 (x s : Nat) (hs : s ≤ 8) : ∀ (c : Nat) (l : List Int), c ≤ s → l.length + c < 100000000000000 → Ev (fun k => buf_Fix.l0 k l (x : Int) ((c : Int) - 1)) (l ++ beL c x) := by
  intro c
  induction c with
  | zero =>
    intro l hc hl
    refine ev_const fun k => ?_
    rw [buf_Fix.l0, if_neg (by omega), beL, List.append_nil]
  | succ c ih =>
    intro l hc hl
    refine ev_succ ?_
    simp only [buf_Fix.l0]
    rw [show ((c + 1 : Nat) : Int) - 1 = (c : Int) by omega, w64 (n := 8 * (c : Int)) (by omega) (by omega), w64 (n := (c : Int) - 1) (by omega) (by omega), shr8_byte x c (by omega)]
    simp only [if_pos (show (c : Int) ≥ 0 by omega), if_pos (show (0 : Int) ≤ 8 * (c : Int) by omega), if_pos (show l.length < 140737488355328 by omega)]
    have := ih (l ++ [((x / 256 ^ c % 256 : Nat) : Int)]) (by omega) (by simp; omega)
    rw [beL_head]
    rw [List.append_assoc] at this
    exact this
theorem lk_buf_Fix (l : List Int) (x s : Nat) (h1 : 1 ≤ s) (h8 : s ≤ 8) (hl : l.length < 10000000000000) : Ev (fun k => buf_Fix.f k l (x : Int) (s : Int)) (l ++ beL s x) := by
  unfold buf_Fix.f
  simp only [if_neg (show ¬ (s : Int) < 1 by omega), decide_eq_false (show ¬ (s : Int) > 8 by omega)]
  refine ev_succ ?_
  simp only [buf_Fix.j0]
  rw [w64 (by omega) (by omega)]
  simp only [Bool.false_eq_true, if_false]
  exact lk_buf_Fix0 x s h8 s l (Nat.le_refl _) (by omega)
theorem lk_nego_Hello (a : Int) (b : Bool) (h0 : 0 ≤ a) (h1 : a < 65536) : Ev (fun k => nego_Hello.f k a b) ((if b = true then 2 else 1) :: beL 2 a.toNat) := by
  unfold nego_Hello.f
  have f := lk_buf_Fix [(if b = true then (2 : Int) else 1)] a.toNat 2 (by omega) (by omega) (by simp)
  rw [show ((a.toNat : Nat) : Int) = a by omega] at f
  rw [wu64_id (n := a) (by omega) (by omega)]
  cases b with
  | true =>
    simp only [if_true]
    refine ev_bind (lk_buf_Fix [] 2 1 (by omega) (by omega) (by simp)) ?_
    have e : ([] : List Int) ++ beL 1 2 = [2] := by simp [beL]
    rw [e]
    exact ev_bind f (ev_some _)
  | false =>
    simp only [Bool.false_eq_true, if_false]
    refine ev_bind (lk_buf_Fix [] 1 1 (by omega) (by omega) (by simp)) ?_
    have e : ([] : List Int) ++ beL 1 1 = [1] := by simp [beL]
    rw [e]
    exact ev_bind f (ev_some _)
theorem lk_nego_Read (l : List Int) (hl : l.length < 140737488355328) : nego_Read.f l = some (negoRd l) := by
  unfold nego_Read.f
  rw [if_pos hl]
theorem lk_vers_Best (a b : Int) (ha : 0 ≤ a ∧ a < 65536) (hb : 0 ≤ b ∧ b < 65536) : vers_Best.f a b = some ((bestN a.toNat b.toNat : Nat) : Int) := by
  unfold vers_Best.f bits_Len16.f
  have e := u16_and_nat a.toNat b.toNat (by omega) (by omega)
  rw [show ((a.toNat : Nat) : Int) = a by omega, show ((b.toNat : Nat) : Int) = b by omega] at e
  have hle : a.toNat &&& b.toNat ≤ a.toNat := Nat.and_le_left
  rw [e, if_pos (by omega), if_pos (by omega), Int.toNat_natCast]
  rfl
theorem lk_ref25_Read (l : List Int) (hb : Bytes l) : annuletref25_Read.f l = some (negoRd l) := by
  unfold annuletref25_Read.f
  by_cases h3 : (l.length : Int) = 3
  · rw [if_pos h3, if_pos (by omega)]
    match l, h3, hb with
    | [a, b, c], _, hb =>
      have ha := hb a (by simp)
      have hbb := hb b (by simp)
      have hc := hb c (by simp)
      rw [negoRd_three a b c ha hbb hc]
      unfold Byte at ha hbb hc
      rw [show rd [a, b, c] 0 = a from rfl, show rd [a, b, c] 1 = b from rfl, show rd [a, b, c] 2 = c from rfl]
      rw [wu16_id (n := b) (by omega) (by omega), wu16_id (n := c) (by omega) (by omega), wu16_id (n := b * 256) (by omega) (by omega), wu16_id (by omega) (by omega)]
      by_cases h1 : a < 1
      · rw [if_pos h1, if_pos (Or.inl h1)]
      · rw [if_neg h1]
        by_cases h2 : a > 2
        · rw [if_pos h2, if_pos (Or.inr h2)]
        · rw [if_neg h2, if_pos (by simp), if_pos (by simp), if_neg (by omega)]
  · rw [if_neg h3, negoRd_other l (by omega)]
theorem lk_ref25_Hello (a : Int) (b : Bool) (h0 : 0 ≤ a) (h1 : a < 65536) : annuletref25_Hello.f a b = some ((if b = true then 2 else 1) :: beL 2 a.toNat) := by
  unfold annuletref25_Hello.f
  rw [tdiv_nat h0, tmod_nat h0, wu16_id (by omega) (by omega), Option.bind_some]
  have e : beL 2 a.toNat = [a / 256 % 256, a % 256 % 256] := by
    simp [beL]
    omega
  rw [e]
  cases b <;> simp
theorem lk_awake25 : Ev (fun k => annuletlaw25_awake.f k) true := Ev.of annuletlaw25_awake.mono (k := 20) (by decide +kernel)
theorem NegoHellos_law : annuletlaw25_NegoHellos.Pure := by
  intro a0 a1 l2 hw0 _ hl hw
  have hb := bytes_of_wf hw
  have h0 := wf_u16 hw0
  refine Ev.rounds (g := fun k => annuletlaw25_NegoHellos.f k a0 a1 l2) ?_
  unfold annuletlaw25_NegoHellos.f
  by_cases c1 : (l2.length : Int) > 300
  · simp only [if_pos c1]
    exact ev_bind lk_awake25 (ev_some _)
  simp only [if_neg c1]
  rw [lk_nego_Read l2 (by omega), lk_ref25_Read l2 hb, lk_ref25_Hello a0 a1 h0.1 h0.2]
  simp only [Option.bind_some]
  refine ev_bind (lk_nego_Hello a0 a1 h0.1 h0.2) ?_
  simp only [if_true]
  cases (negoRd l2).2.1 with
  | true =>
    simp only [if_true]
    exact ev_bind lk_awake25 (ev_some _)
  | false =>
    simp only [Bool.false_eq_true, if_false]
    exact ev_bind lk_awake25 (ev_some _)
end Go.Proofs.Ytpopljbpbobgfaa.PNegoHellos
namespace Go.Proofs.Ytpopljbpbobgfaa.Pure
open Go.Proofs.Ytpopljbpbobgfaa.PNegoHellos
theorem NegoHellos : annuletlaw25_NegoHellos.Pure := NegoHellos_law
end Go.Proofs.Ytpopljbpbobgfaa.Pure
