/- NegoMoves: what becomes of any talk that is begun, that hears, and by time, and whether something is to be sent, is the document's. No condition. -/
import Derived.Test.YtpopljbpbobgfaaPNegoMovesx7
import Derived.Test.YtpopljbpbobgfaaMath
set_option linter.unusedVariables false
set_option linter.unusedSimpArgs false
namespace Go.Proofs.Ytpopljbpbobgfaa.PNegoMoves
open Go.RowKit Go.Proofs.YtpopljbpbobgfaaW.PrintWords Go.Proofs.YtpopljbpbobgfaaW.PrintLast Go.Proofs.YtpopljbpbobgfaaW.PrintMore Annulet
theorem lk_buf_Fix0 (x s : Nat) (hs : s ≤ 8) : ∀ (c : Nat) (l : List Int), c ≤ s → l.length + c < 100000000000000 → Ev (fun k => buf_Fix.l0 k l (x : Int) ((c : Int) - 1)) (l ++ beL c x) := by
  intro c
  induction c with
  | zero =>
    intro l hc hl
    refine ev_const fun k => ?_
    rw [buf_Fix.l0, if_neg (by omega), beL, List.append_nil]
  | succ c ih =>
    intro l hc hl
    refine ev_succ ?_
    simp only [buf_Fix.l0]
    rw [show ((c + 1 : Nat) : Int) - 1 = (c : Int) by omega, w64 (n := 8 * (c : Int)) (by omega) (by omega), w64 (n := (c : Int) - 1) (by omega) (by omega), shr8_byte x c (by omega)]
    simp only [if_pos (show (c : Int) ≥ 0 by omega), if_pos (show (0 : Int) ≤ 8 * (c : Int) by omega), if_pos (show l.length < 140737488355328 by omega)]
    have := ih (l ++ [((x / 256 ^ c % 256 : Nat) : Int)]) (by omega) (by simp; omega)
    rw [beL_head]
    rw [List.append_assoc] at this
    exact this
theorem lk_buf_Fix (l : List Int) (x s : Nat) (h1 : 1 ≤ s) (h8 : s ≤ 8) (hl : l.length < 10000000000000) : Ev (fun k => buf_Fix.f k l (x : Int) (s : Int)) (l ++ beL s x) := by
  unfold buf_Fix.f
  simp only [if_neg (show ¬ (s : Int) < 1 by omega), decide_eq_false (show ¬ (s : Int) > 8 by omega)]
  refine ev_succ ?_
  simp only [buf_Fix.j0]
  rw [w64 (by omega) (by omega)]
  simp only [Bool.false_eq_true, if_false]
  exact lk_buf_Fix0 x s h8 s l (Nat.le_refl _) (by omega)
theorem lk_nego_Hello (a : Int) (b : Bool) (h0 : 0 ≤ a) (h1 : a < 65536) : Ev (fun k => nego_Hello.f k a b) ((if b = true then 2 else 1) :: beL 2 a.toNat) := by
  unfold nego_Hello.f
  have f := lk_buf_Fix [(if b = true then (2 : Int) else 1)] a.toNat 2 (by omega) (by omega) (by simp)
  rw [show ((a.toNat : Nat) : Int) = a by omega] at f
  rw [wu64_id (n := a) (by omega) (by omega)]
  cases b with
  | true =>
    simp only [if_true]
    refine ev_bind (lk_buf_Fix [] 2 1 (by omega) (by omega) (by simp)) ?_
    have e : ([] : List Int) ++ beL 1 2 = [2] := by simp [beL]
    rw [e]
    exact ev_bind f (ev_some _)
  | false =>
    simp only [Bool.false_eq_true, if_false]
    refine ev_bind (lk_buf_Fix [] 1 1 (by omega) (by omega) (by simp)) ?_
    have e : ([] : List Int) ++ beL 1 1 = [1] := by simp [beL]
    rw [e]
    exact ev_bind f (ev_some _)
theorem lk_nego_Read (l : List Int) (hl : l.length < 140737488355328) : nego_Read.f l = some (negoRd l) := by
  unfold nego_Read.f
  rw [if_pos hl]
theorem lk_vers_Best (a b : Int) (ha : 0 ≤ a ∧ a < 65536) (hb : 0 ≤ b ∧ b < 65536) : vers_Best.f a b = some ((bestN a.toNat b.toNat : Nat) : Int) := by
  unfold vers_Best.f bits_Len16.f
  have e := u16_and_nat a.toNat b.toNat (by omega) (by omega)
  rw [show ((a.toNat : Nat) : Int) = a by omega, show ((b.toNat : Nat) : Int) = b by omega] at e
  have hle : a.toNat &&& b.toNat ≤ a.toNat := Nat.and_le_left
  rw [e, if_pos (by omega), if_pos (by omega), Int.toNat_natCast]
  rfl
theorem lk_ref24_Has0 (x : Nat) (hx : x < 65536) (v : Nat) (h1 : 1 ≤ v) (h16 : v ≤ 16) (d : Nat) : ∀ i : Nat, 1 ≤ i → i + d = v → Ev (fun k => annuletref24_Has.l0 k (v : Int) ((x / 2 ^ (i - 1) : Nat) : Int) (i : Int)) (x.testBit (v - 1)) := by
  induction d with
  | zero =>
    intro i hi hd
    obtain rfl : i = v := by omega
    refine ev_const fun k => ?_
    rw [annuletref24_Has.l0, if_neg (by omega), if_pos (by omega), if_pos (by omega), tmod_nat (Int.natCast_nonneg _), Nat.testBit_eq_decide_div_mod_eq]
    generalize x / 2 ^ (i - 1) = q
    congr 1
    rw [Bool.eq_iff_iff]
    simp
    omega
  | succ d ih =>
    intro i hi hd
    refine ev_succ ?_
    simp only [annuletref24_Has.l0]
    have hq : x / 2 ^ (i - 1) ≤ x := Nat.div_le_self _ _
    have e : x / 2 ^ (i - 1) / 2 = x / 2 ^ (i + 1 - 1) := by
      rw [Nat.div_div_eq_div_mul, ← Nat.pow_succ]
      congr 2
      omega
    have := ih (i + 1) (by omega) (by omega)
    rw [← e] at this
    generalize x / 2 ^ (i - 1) = q at hq this ⊢
    rw [tdiv_nat (by omega), w64 (n := (i : Int) + 1) (by omega) (by omega), w64 (by omega) (by omega)]
    simp only [if_pos (show (i : Int) < (v : Int) by omega), if_pos (show (i : Int) < 17 by omega)]
    exact this
theorem lk_ref24_Has (x : Int) (h0 : 0 ≤ x) (hx : x < 65536) (v : Nat) (h1 : 1 ≤ v) (h16 : v ≤ 16) : Ev (fun k => annuletref24_Has.f k x (v : Int)) (x.toNat.testBit (v - 1)) := by
  unfold annuletref24_Has.f
  rw [w64 (by omega) (by omega)]
  have := lk_ref24_Has0 x.toNat (by omega) v h1 h16 (v - 1) 1 (by omega) (by omega)
  simp only [Nat.sub_self, Nat.pow_zero, Nat.div_one] at this
  rw [show ((x.toNat : Nat) : Int) = x by omega] at this
  exact this
theorem lk_ref24_Best0 (a b : Int) (ha : 0 ≤ a ∧ a < 65536) (hb : 0 ≤ b ∧ b < 65536) : ∀ v : Nat, v ≤ 16 → Ev (fun k => annuletref24_Best.l0 k a b (v : Int)) ((Lib.bitLen ((a.toNat &&& b.toNat) % 2 ^ v) : Nat) : Int)
  | 0, _ => by
    refine ev_const fun k => ?_
    rw [annuletref24_Best.l0, if_neg (by omega), Nat.pow_zero, Nat.mod_one]
    rfl
  | v + 1, hv => by
    refine ev_succ ?_
    simp only [annuletref24_Best.l0]
    rw [w64 (by omega) (by omega), show ((v + 1 : Nat) : Int) - 1 = (v : Int) by omega]
    simp only [if_pos (show ((v + 1 : Nat) : Int) > 0 by omega)]
    have ih := lk_ref24_Best0 a b ha hb v (by omega)
    have hA := lk_ref24_Has a ha.1 ha.2 (v + 1) (by omega) hv
    have hB := lk_ref24_Has b hb.1 hb.2 (v + 1) (by omega) hv
    rw [show v + 1 - 1 = v by omega] at hA hB
    rw [bitLen_mod_succ v _ (by omega), Nat.testBit_and]
    refine ev_bind hA ?_
    cases hta : a.toNat.testBit v with
    | false =>
      simp only [Bool.false_eq_true, if_false, Bool.false_and]
      exact ih
    | true =>
      simp only [if_true, Bool.true_and]
      refine ev_bind hB ?_
      cases htb : b.toNat.testBit v with
      | false =>
        simp only [Bool.false_eq_true, if_false]
        exact ih
      | true =>
        simp only [if_true]
        exact ev_some _
theorem lk_ref24_Best (a b : Int) (ha : 0 ≤ a ∧ a < 65536) (hb : 0 ≤ b ∧ b < 65536) : Ev (fun k => annuletref24_Best.f k a b) ((bestN a.toNat b.toNat : Nat) : Int) := by
  unfold annuletref24_Best.f bestN
  have := lk_ref24_Best0 a b ha hb 16 (by omega)
  have hle : a.toNat &&& b.toNat ≤ a.toNat := Nat.and_le_left
  rw [Nat.mod_eq_of_lt (by omega)] at this
  exact this
theorem lk_ref08_Peers0 (l : (List (S68))) (hl : l.length ≤ 9223372036854775807) (d : Nat) : ∀ i : Nat, i ≤ l.length → l.length - i = d → Ev (fun k => annuletref08_Peers.l0 k l l (i : Int)) true := by
  induction d with
  | zero =>
    intro i hi hd
    refine ev_const fun k => ?_
    rw [annuletref08_Peers.l0, if_neg (by omega)]
  | succ d ih =>
    intro i hi hd
    refine ev_succ ?_
    simp only [annuletref08_Peers.l0]
    simp only [if_pos (show (i : Int) < (l.length : Int) by omega), if_pos (show (0 : Int) ≤ (i : Int) by omega), beq_self_eq_true, Bool.not_true, Bool.or_self, Bool.false_eq_true, if_false]
    rw [w64 (by omega) (by omega)]
    exact ih (i + 1) (by omega) (by omega)
theorem lk_ref08_Peers (l : (List (S68))) (hl : l.length ≤ 9223372036854775807) : Ev (fun k => annuletref08_Peers.f k l l) true := by
  unfold annuletref08_Peers.f
  simp only [if_true]
  exact lk_ref08_Peers0 l hl _ 0 (by omega) rfl
theorem lk_ref08_Pairs0 (l : (List (S76))) (hl : l.length ≤ 9223372036854775807) (d : Nat) : ∀ i : Nat, i ≤ l.length → l.length - i = d → Ev (fun k => annuletref08_Pairs.l0 k l l (i : Int)) true := by
  induction d with
  | zero =>
    intro i hi hd
    refine ev_const fun k => ?_
    rw [annuletref08_Pairs.l0, if_neg (by omega)]
  | succ d ih =>
    intro i hi hd
    refine ev_succ ?_
    simp only [annuletref08_Pairs.l0]
    simp only [if_pos (show (i : Int) < (l.length : Int) by omega), if_pos (show (0 : Int) ≤ (i : Int) by omega), beq_self_eq_true, Bool.not_true, Bool.or_self, Bool.false_eq_true, if_false]
    rw [w64 (by omega) (by omega)]
    exact ih (i + 1) (by omega) (by omega)
theorem lk_ref08_Pairs (l : (List (S76))) (hl : l.length ≤ 9223372036854775807) : Ev (fun k => annuletref08_Pairs.f k l l) true := by
  unfold annuletref08_Pairs.f
  simp only [if_true]
  exact lk_ref08_Pairs0 l hl _ 0 (by omega) rfl
theorem lk_ref08_Same (a0 a1 a2 : Int) (a3 : Bool) (a4 : Int) (a5 a6 : ByteArray) (a7 a8 : Int) (l9 : (List (S68))) (l10 : (List (S76))) (h9 : l9.length ≤ 9223372036854775807) (h10 : l10.length ≤ 9223372036854775807) :
    Ev (fun k => annuletref08_Same.f k a0 a1 a2 a3 a4 a5 a6 a7 a8 l9 l10 a0 a1 a2 a3 a4 a5 a6 a7 a8 l9 l10) true := by
  unfold annuletref08_Same.f
  simp only [if_true, bne_self_eq_false, Bool.false_eq_true, if_false, beq_self_eq_true, Bool.not_true, Bool.or_self]
  refine ev_succ ?_
  simp only [annuletref08_Same.j0, Bool.false_eq_true, if_false]
  refine ev_bind (lk_ref08_Peers l9 h9) ?_
  simp only [if_true]
  exact ev_bind (lk_ref08_Pairs l10 h10) (ev_some _)
theorem lk_ref16_Same0 (l : (List (S72))) (hl : l.length ≤ 9223372036854775807) (hm : ∀ i : Int, (rd_T72 l i).f8.length ≤ 9223372036854775807 ∧ (rd_T72 l i).f9.length ≤ 9223372036854775807) (d : Nat) : ∀ i : Nat, i ≤ l.length → l.length - i = d → Ev (fun k => annuletref16_Same.l0 k l l (i : Int)) true := by
  induction d with
  | zero =>
    intro i hi hd
    refine ev_const fun k => ?_
    rw [annuletref16_Same.l0, if_neg (by omega)]
  | succ d ih =>
    intro i hi hd
    refine ev_succ ?_
    simp only [annuletref16_Same.l0]
    simp only [if_pos (show (i : Int) < (l.length : Int) by omega), if_pos (show (0 : Int) ≤ (i : Int) by omega)]
    refine ev_bind (lk_ref08_Same _ _ _ _ _ _ _ _ _ _ _ (hm i).1 (hm i).2) ?_
    simp only [if_true]
    rw [w64 (by omega) (by omega)]
    exact ih (i + 1) (by omega) (by omega)
theorem lk_ref16_Same (l : (List (S72))) (hl : l.length ≤ 9223372036854775807) (hm : ∀ x ∈ l, x.f8.length ≤ 9223372036854775807 ∧ x.f9.length ≤ 9223372036854775807) : Ev (fun k => annuletref16_Same.f k l l) true := by
  unfold annuletref16_Same.f
  simp only [if_true]
  refine lk_ref16_Same0 l hl (fun i => ?_) _ 0 (by omega) rfl
  unfold rd_T72
  by_cases hi : i.toNat < l.length
  · have e : l.getD i.toNat z72 = l[i.toNat] := by simp [List.getD, hi]
    rw [e]
    exact hm _ (List.getElem_mem hi)
  · have e : l.getD i.toNat z72 = z72 := by simp [List.getD, Nat.le_of_not_lt hi]
    rw [e]
    exact ⟨by decide, by decide⟩
theorem lk_law25_same (a0 a1 a2 a3 a4 a5 a6 : Int) (l : (List (S72))) (hl : l.length ≤ 9223372036854775807) (hm : ∀ x ∈ l, x.f8.length ≤ 9223372036854775807 ∧ x.f9.length ≤ 9223372036854775807) : Ev (fun k => annuletlaw25_same.f k a0 a1 a2 a3 a4 a5 a6 l a0 a1 a2 a3 a4 a5 a6 l) true := by
  unfold annuletlaw25_same.f
  simp only [if_true]
  exact ev_bind (lk_ref16_Same l hl hm) (ev_some _)
theorem lk_awake25 : Ev (fun k => annuletlaw25_awake.f k) true := Ev.of annuletlaw25_awake.mono (k := 20) (by decide +kernel)
theorem NegoMoves_law : annuletlaw25_NegoMoves.Pure := by
  intro a0 a1 a2 a3 a4 a5 a6 l own theirs reply hw0 hw1 hw2 hw3 hw4 hw5 hw6 hl ho ht
  have h4 := wf_i64 hw4
  have h8 := wf_u16 ho
  have h9 := wf_u16 ht
  have hm : ∀ x ∈ l, x.f8.length ≤ 9223372036854775807 ∧ x.f9.length ≤ 9223372036854775807 := fun x hx => by
    have h1 := (hl.2 x hx).2.2.2.2.2.2.2.2.1.1
    have h2 := (hl.2 x hx).2.2.2.2.2.2.2.2.2.1
    unfold maxLen at h1 h2
    exact ⟨by omega, by omega⟩
  refine Ev.rounds (g := fun k => annuletlaw25_NegoMoves.f k a0 a1 a2 a3 a4 a5 a6 l own theirs reply) ?_
  unfold annuletlaw25_NegoMoves.f annuletlaw25_large.f
  simp only [Option.bind_some]
  by_cases c1 : (l.length : Int) > 40
  · simp only [decide_eq_true c1, if_true]
    exact ev_bind lk_awake25 (ev_some _)
  have hll : l.length ≤ 9223372036854775807 := by omega
  have key : ∀ b0 b1 b2 b3 b4 b5 b6, Ev (fun k => annuletlaw25_same.f k b0 b1 b2 b3 b4 b5 b6 l b0 b1 b2 b3 b4 b5 b6 l) true := fun b0 b1 b2 b3 b4 b5 b6 => lk_law25_same b0 b1 b2 b3 b4 b5 b6 l hll hm
  simp only [decide_eq_false c1, Bool.false_eq_true, if_false]
  have e1 : annuletref25_Ask.f a0 a1 a2 a3 a4 a5 a6 l = nego_Ask.f a0 a1 a2 a3 a4 a5 a6 l := rfl
  have e3 : annuletref25_Tick.f a0 a1 a2 a3 a4 a5 a6 l = nego_Tick.f a0 a1 a2 a3 a4 a5 a6 l := by
    unfold annuletref25_Tick.f nego_Tick.f
    by_cases g1 : a1 = 1
    · rw [if_pos g1, if_pos g1]
      by_cases g2 : a4 < 0
      · rw [if_pos g2, if_neg (show ¬ a4 ≥ 0 by omega)]
      · rw [if_neg g2, if_pos (show a4 ≥ 0 by omega)]
        by_cases g3 : a4 > 2
        · rw [if_pos g3, if_neg (show ¬ a4 < 3 by omega)]
        · rw [if_neg g3, if_pos (show a4 < 3 by omega)]
    · rw [if_neg g1, if_neg g1]
  rw [e1, e3]
  obtain ⟨x, hx⟩ : ∃ x, nego_Ask.f a0 a1 a2 a3 a4 a5 a6 l = some x ∧ x.2.2.2.2.2.2.2.1 = l := by
    unfold nego_Ask.f
    split
    · exact ⟨_, rfl, rfl⟩
    · exact ⟨_, rfl, rfl⟩
  obtain ⟨z, hz⟩ : ∃ z, nego_Tick.f a0 a1 a2 a3 a4 a5 a6 l = some z ∧ z.2.2.2.2.2.2.2.1 = l := by
    unfold nego_Tick.f
    split
    · split
      · split
        · exact ⟨_, rfl, rfl⟩
        · exact ⟨_, rfl, rfl⟩
      · exact ⟨_, rfl, rfl⟩
    · exact ⟨_, rfl, rfl⟩
  obtain ⟨y, hy, hy2, hy3⟩ : ∃ y, nego_Hear.f a0 a1 a2 a3 a4 a5 a6 l own theirs reply = some y ∧ y.2.2.2.2.2.2.2.1 = l ∧ Ev (fun k => annuletref25_Hear.f k a0 a1 a2 a3 a4 a5 a6 l own theirs reply) y := by
    unfold nego_Hear.f annuletref25_Hear.f
    rw [lk_vers_Best own theirs h8 h9]
    simp only [Option.bind_some]
    have hB := lk_ref24_Best own theirs h8 h9
    by_cases g : ((bestN own.toNat theirs.toNat : Nat) : Int) = 0
    · rw [if_pos g]
      refine ⟨_, rfl, rfl, ?_⟩
      refine ev_bind hB ?_
      simp only [if_pos g]
      exact ev_some _
    · rw [if_neg g]
      refine ⟨_, rfl, rfl, ?_⟩
      refine ev_bind hB ?_
      simp only [if_neg g]
      exact ev_some _
  rw [hx.1, hz.1, hy]
  simp only [Option.bind_some]
  refine ev_bind hy3 ?_
  rw [hx.2, hy2, hz.2]
  refine ev_bind (key _ _ _ _ _ _ _) ?_
  simp only [if_true, beq_self_eq_true]
  refine ev_bind (key _ _ _ _ _ _ _) ?_
  simp only [if_true, beq_self_eq_true]
  refine ev_bind (key _ _ _ _ _ _ _) ?_
  simp only [if_true, beq_self_eq_true]
  exact ev_bind lk_awake25 (ev_some _)
end Go.Proofs.Ytpopljbpbobgfaa.PNegoMoves
namespace Go.Proofs.Ytpopljbpbobgfaa.Pure
open Go.Proofs.Ytpopljbpbobgfaa.PNegoMoves
theorem NegoMoves : annuletlaw25_NegoMoves.Pure := NegoMoves_law
end Go.Proofs.Ytpopljbpbobgfaa.Pure
