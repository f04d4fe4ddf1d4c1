/- TaggedBack: a message that is written is read as it was, and bytes that are read are written as they were. No condition. -/
import Derived.Test.YtmohmmpcadlfkaaDoorPTaggedBackx10
import Derived.Test.YtmohmmpcadlfkaaDoorMath
set_option linter.unusedVariables false
set_option linter.unusedSimpArgs false
namespace Go.Proofs.YtmohmmpcadlfkaaDoor.PTaggedBack
open Go.RowKit Go.Proofs.YtmohmmpcadlfkaaDoorW.PrintWords Go.Proofs.YtmohmmpcadlfkaaDoorW.PrintLast Go.Proofs.YtmohmmpcadlfkaaDoorW.PrintMore Annulet

/-! ### package uvar: the printed functions and the lists -/
theorem lk_uvar_Put0 (n : Nat) : ∀ b : List Int, b.length + (putL n).length ≤ 140737488355328 → Ev (fun k => uvar_Put.l0 k b (n : Int)) (b ++ putL n) := by
  induction n using putL.induct with
  | case1 n h =>
    intro b hb
    rw [putL_small h] at hb ⊢
    simp only [List.length_singleton] at hb
    refine ev_succ ?_
    simp only [uvar_Put.l0]
    simp only [if_neg (show ¬ (n : Int) ≥ 128 by omega), if_pos (show b.length < 140737488355328 by omega)]
    rw [show (n : Int) % 256 = n by omega]
    exact ev_some _
  | case2 n h ih =>
    intro b hb
    rw [putL_great h] at hb ⊢
    simp only [List.length_cons] at hb
    refine ev_succ ?_
    simp only [uvar_Put.l0]
    simp only [if_pos (show (n : Int) ≥ 128 by omega), if_pos (show b.length < 140737488355328 by omega)]
    rw [or128 (by omega)]
    have := ih (b ++ [(n : Int) % 128 + 128]) (by simp only [List.length_append, List.length_singleton]; omega)
    simp only [List.append_assoc, List.singleton_append] at this
    exact this
theorem lk_uvar_Put (b : List Int) (n : Int) (h0 : 0 ≤ n) (hl : b.length + (putL n.toNat).length ≤ 140737488355328) : Ev (fun k => uvar_Put.f k b n) (b ++ putL n.toNat) := by
  have := lk_uvar_Put0 n.toNat b hl
  rw [show ((n.toNat : Nat) : Int) = n by omega] at this
  exact this
theorem lk_uvar_last0 (b : List Int) (d : Nat) : ∀ i : Nat, i ≤ 10 → i ≤ b.length → min b.length 10 - i = d → (∀ j < i, 128 ≤ rd b (j : Int)) →
    Ev (fun k => uvar_last.l0 k b (mn (b.length : Int) 10) (i : Int)) (if sizeL b = 10 ∨ sizeL b = b.length then -1 else (sizeL b : Int)) := by
  have hm : mn (b.length : Int) 10 = (min b.length 10 : Nat) := by unfold mn; split <;> omega
  rw [hm]
  induction d with
  | zero =>
    intro i h1 h2 hd ha
    refine ev_succ ?_
    simp only [uvar_last.l0]
    simp only [if_neg (show ¬ (i : Int) < ((min b.length 10 : Nat) : Int) by omega)]
    have hs := sizeL_eq b i h1 h2 ha (fun _ _ => by omega)
    rw [hs, if_pos (by omega)]
    exact ev_some _
  | succ d ih =>
    intro i h1 h2 hd ha
    refine ev_succ ?_
    simp only [uvar_last.l0]
    simp only [if_pos (show (i : Int) < ((min b.length 10 : Nat) : Int) by omega), if_pos (show (0 : Int) ≤ (i : Int) by omega), if_pos (show (i : Int) < (b.length : Int) by omega)]
    by_cases hr : rd b (i : Int) < 128
    · simp only [if_pos hr]
      have hs := sizeL_eq b i h1 h2 ha (fun _ _ => hr)
      rw [hs, if_neg (by omega)]
      exact ev_some _
    · simp only [if_neg hr]
      rw [w64 (by omega) (by omega)]
      exact ih (i + 1) (by omega) (by omega) (by omega) (fun j hj => by
        by_cases e : j = i
        · subst e; omega
        · exact ha j (by omega))
theorem lk_uvar_last (b : List Int) : Ev (fun k => uvar_last.f k b) (if sizeL b = 10 ∨ sizeL b = b.length then -1 else (sizeL b : Int)) := by
  unfold uvar_last.f
  exact lk_uvar_last0 b _ 0 (by omega) (by omega) rfl (fun j hj => by omega)
theorem lk_uvar_Get0 (b : List Int) (hb : Bytes b) (x5 : Int) (h5 : 0 ≤ x5) (h5' : x5 < 9223372036854775807) (m : Nat) : ∀ acc : Int, 0 ≤ acc → m ≤ b.length → m ≤ 9223372036854775807 → valL (b.take m) + 128 ^ m * acc < 18446744073709551616 →
    Ev (fun k => uvar_Get.l0 k b x5 acc ((m : Int) - 1)) (valL (b.take m) + 128 ^ m * acc, x5 + 1, 0) := by
  induction m with
  | zero =>
    intro acc h0 hm hmm hv
    refine ev_succ ?_
    simp only [uvar_Get.l0]
    simp only [if_neg (show ¬ ((0 : Nat) : Int) - 1 ≥ 0 by omega)]
    rw [w64 (by omega) (by omega)]
    exact ev_eq (ev_some _) (by simp [valL])
  | succ m ih =>
    intro acc h0 hm hmm hv
    refine ev_succ ?_
    simp only [uvar_Get.l0]
    simp only [if_pos (show (((m + 1 : Nat) : Int) - 1 ≥ 0) by omega), if_pos (show (0 ≤ ((m + 1 : Nat) : Int) - 1) by omega), if_pos (show ((m + 1 : Nat) : Int) - 1 < (b.length : Int) by omega)]
    have e1 : ((m + 1 : Nat) : Int) - 1 = (m : Int) := by omega
    rw [e1]
    have hr := rd_byte hb (m : Int)
    unfold Byte at hr
    rw [and127 hr.1 hr.2]
    have ht := take_succ_rd b m (by omega)
    have hl : (b.take m).length = m := by rw [List.length_take]; omega
    have hv' : valL (b.take (m + 1)) + 128 ^ (m + 1) * acc = valL (b.take m) + 128 ^ m * (acc * 128 + rd b (m : Int) % 128) := by
      rw [ht, valL_append, hl]
      simp only [valL, Int.mul_zero, Int.add_zero]
      rw [Int.pow_succ, Int.mul_add, Int.mul_assoc, Int.mul_comm 128 acc]; omega
    rw [hv'] at hv ⊢
    have hv0 := valL_nonneg (b.take m)
    have hp : (1 : Int) ≤ 128 ^ m := by
      have : (0 : Int) < 128 ^ m := by exact_mod_cast Nat.pow_pos (by decide : 0 < 128)
      omega
    have hge : acc * 128 + rd b (m : Int) % 128 ≤ 128 ^ m * (acc * 128 + rd b (m : Int) % 128) := by
      have := Int.mul_le_mul_of_nonneg_right hp (show 0 ≤ acc * 128 + rd b (m : Int) % 128 by omega)
      omega
    rw [mod128_step h0 (by omega) (by omega) (by omega), w64 (by omega) (by omega)]
    exact ih _ (by omega) (by omega) (by omega) hv
theorem lk_uvar_Get (b : List Int) (hb : Bytes b) : Ev (fun k => uvar_Get.f k b) (getL b) := by
  unfold uvar_Get.f
  have hs := sizeL_le b
  refine ev_bind (lk_uvar_last b) ?_
  by_cases h : sizeL b = 10 ∨ sizeL b = b.length
  · rw [if_pos h]
    simp only [if_pos (show (-1 : Int) < 0 by omega)]
    refine ev_succ ?_
    simp only [uvar_Get.j0]
    by_cases hl : (b.length : Int) ≥ 10
    · rw [decide_eq_true hl]
      simp only [if_true]
      have : sizeL b = 10 := by omega
      unfold getL
      rw [if_pos this]
      exact ev_some _
    · rw [decide_eq_false hl]
      simp only [Bool.false_eq_true, if_false, if_pos (show (-1 : Int) < 0 by omega)]
      unfold getL
      rw [if_neg (by omega), if_pos (by omega)]
      exact ev_some _
  · rw [if_neg h]
    simp only [if_neg (show ¬ (sizeL b : Int) < 0 by omega)]
    refine ev_succ ?_
    simp only [uvar_Get.j0]
    simp only [Bool.false_eq_true, if_false, if_neg (show ¬ (sizeL b : Int) < 0 by omega)]
    have done : ¬ (sizeL b = 9 ∧ rd b (sizeL b) > 1) → ¬ (0 < sizeL b ∧ rd b (sizeL b) = 0) → Ev (fun k => uvar_Get.j2 k b (sizeL b : Int)) (getL b) := fun h9 h0 => by
      refine ev_succ ?_
      simp only [uvar_Get.j2]
      have hv := getL_val_lt b hb h9 (by omega) (by omega)
      have := lk_uvar_Get0 b hb (sizeL b) (by omega) (by omega) (sizeL b + 1) 0 (by omega) (by omega) (by omega) (by omega)
      rw [show (((sizeL b + 1 : Nat) : Int) - 1) = (sizeL b : Int) by omega] at this
      refine ev_eq this ?_
      unfold getL
      rw [if_neg (by omega), if_neg (by omega), if_neg (fun hc => hc.elim h0 h9), Int.mul_zero, Int.add_zero]
    have j1 : ¬ (0 < sizeL b ∧ rd b (sizeL b) = 0) → Ev (fun k => uvar_Get.j1 k b (sizeL b : Int) false) (getL b) := fun h0 => by
      refine ev_succ ?_
      simp only [uvar_Get.j1]
      simp only [Bool.false_eq_true, if_false]
      by_cases h9 : sizeL b = 9
      · simp only [if_pos (show (sizeL b : Int) = 9 by omega), if_pos (show (0 : Int) ≤ (sizeL b : Int) by omega), if_pos (show (sizeL b : Int) < (b.length : Int) by omega)]
        by_cases h1 : rd b (sizeL b : Int) > 1
        · simp only [if_pos h1]
          unfold getL
          rw [if_neg (by omega), if_neg (by omega), if_pos (.inr ⟨h9, h1⟩)]
          exact ev_some _
        · simp only [if_neg h1]
          exact done (fun h => h1 h.2) h0
      · simp only [if_neg (show ¬ (sizeL b : Int) = 9 by omega)]
        exact done (fun h => h9 h.1) h0
    by_cases hp : sizeL b = 0
    · simp only [if_neg (show ¬ (sizeL b : Int) > 0 by omega)]
      exact j1 (fun h => by omega)
    · simp only [if_pos (show (sizeL b : Int) > 0 by omega), if_pos (show (0 : Int) ≤ (sizeL b : Int) by omega), if_pos (show (sizeL b : Int) < (b.length : Int) by omega)]
      by_cases h0 : rd b (sizeL b : Int) = 0
      · simp only [show (rd b (sizeL b : Int) == 0) = true from by simp [h0]]
        refine ev_succ ?_
        simp only [uvar_Get.j1]
        simp only [if_true]
        unfold getL
        rw [if_neg (by omega), if_neg (by omega), if_pos (.inl ⟨by omega, h0⟩)]
        exact ev_some _
      · simp only [show (rd b (sizeL b : Int) == 0) = false from by simp [h0]]
        exact j1 (fun h => h0 h.2)
theorem lk_buf_Text (l : List Int) (s : ByteArray) (hs : s.size ≤ 1000000000) (hl : l.length ≤ 1000000000) : Ev (fun k => buf_Text.f k l s) (l ++ putL s.size ++ bytesOf s) := by
  have h10 := putL_len10 (n := s.size) (by omega)
  unfold buf_Text.f
  rw [wu64_id (n := (s.size : Int)) (by omega) (by omega)]
  refine ev_bind (lk_uvar_Put l (s.size : Int) (by omega) (by rw [Int.toNat_natCast]; omega)) ?_
  rw [Int.toNat_natCast]
  simp only [if_pos (show (l ++ putL s.size).length + s.size < 140737488355328 by rw [List.length_append]; omega)]
  exact ev_some _
theorem lk_rd_Text (m : Bool) (l : List Int) (hb : Bytes l) (most : Int) (h0 : -9223372036854775808 ≤ most) (h1 : most ≤ 9223372036854775807) (met : Int) :
    Ev (fun k => buf_Reader_Text.f k m l met most) ((textR most l met (getL l).1 (getL l).2.1 (getL l).2.2).1, m, (textR most l met (getL l).1 (getL l).2.1 (getL l).2.2).2.1, (textR most l met (getL l).1 (getL l).2.1 (getL l).2.2).2.2) := by
  have hr := getL_range l hb
  unfold buf_Reader_Text.f
  refine ev_bind (lk_uvar_Get l hb) ?_
  simp only [if_pos (show 0 ≤ (getL l).2.1 ∧ (getL l).2.1 ≤ (l.length : Int) ∧ 0 ≤ (getL l).1 ∧ -9223372036854775808 ≤ most ∧ most ≤ 9223372036854775807 from ⟨hr.2.2.1, hr.2.2.2.1, hr.1, h0, h1⟩)]
  exact ev_some _
theorem textR_put (s : ByteArray) (hs : s.size ≤ 1000000000) (R : List Int) (most : Int) (hm : (s.size : Int) ≤ most) :
    textR most (putL s.size ++ (bytesOf s ++ R)) 0 (getL (putL s.size ++ (bytesOf s ++ R))).1 (getL (putL s.size ++ (bytesOf s ++ R))).2.1 (getL (putL s.size ++ (bytesOf s ++ R))).2.2 = (s, R, 0) := by
  rw [get_put s.size (by omega)]
  have hn : (bytesOf s).length = s.size := bytesOf_length s
  unfold textR
  simp only [ne_eq, not_true_eq_false, if_false]
  rw [if_neg (by omega), if_neg (by simp only [List.length_append]; omega)]
  rw [Int.toNat_natCast, Int.toNat_natCast, List.drop_left' rfl, List.take_left' hn, List.drop_left' hn, str_bytesOf]

/-! ### package msg: kinds -/
def kindsL : List S86 := match msg_kinds.f with | some l => l | none => []
theorem lk_kinds : msg_kinds.f = some kindsL := rfl
def kA (a : Int) : S86 := if 0 ≤ a ∧ a < 13 then rd_T86 kindsL a else rd_T86 kindsL 0
theorem lk_msg_of (a : Int) : msg_of.f a = some ((kA a).f0, (kA a).f1, (kA a).f2) := by
  have hl : kindsL.length = 13 := rfl
  unfold msg_of.f kA
  rw [lk_kinds]
  simp only [Option.bind_some, hl]
  by_cases h0 : a < 0
  · rw [if_pos h0, if_pos (by omega), if_neg (by omega)]
  · rw [if_neg h0]
    by_cases h1 : a ≥ ((13 : Nat) : Int)
    · rw [if_pos h1, if_pos (by omega), if_neg (by omega)]
    · rw [if_neg h1, if_pos (by omega), if_pos (by omega), if_pos (by omega)]
theorem kA_cases (a : Int) : (kA a = rd_T86 kindsL 0 ∧ ¬ (1 ≤ a ∧ a ≤ 12)) ∨ a = 1 ∨ a = 2 ∨ a = 3 ∨ a = 4 ∨ a = 5 ∨ a = 6 ∨ a = 7 ∨ a = 8 ∨ a = 9 ∨ a = 10 ∨ a = 11 ∨ a = 12 := by
  by_cases h : 1 ≤ a ∧ a ≤ 12
  · right; omega
  · left
    refine ⟨?_, h⟩
    unfold kA
    by_cases h0 : a = 0
    · subst h0; rfl
    · rw [if_neg (by omega)]
theorem lk_msg_Name (a : Int) : msg_Name.f a = some (kA a).f0 := by
  unfold msg_Name.f
  rw [lk_msg_of]
  rfl
def flI (a : Int) (h : Bool) : Int := if Go.bits .and .i64 (kA a).f1 256 = 0 then Go.bits .andNot .i64 (kA a).f1 256 else (if h = true then Go.bits .andNot .i64 (kA a).f1 256 else Go.bits .andNot .i64 (Go.bits .andNot .i64 (kA a).f1 72) 256)
theorem lk_msg_fields (m0 : Int) (m1 : Int) (m2 : Int) (m3 : Bool) (m4 : Int) (m5 : ByteArray) (m6 : ByteArray) (m7 : Int) (m8 : Int) (m9 : List S26) (m10 : List S43) : msg_fields.f m0 m1 m2 m3 m4 m5 m6 m7 m8 m9 m10 = some (flI m0 m3) := by
  unfold msg_fields.f flI
  rw [lk_msg_of]
  simp only [Option.bind_some]
  by_cases h : Go.bits .and .i64 (kA m0).f1 256 = 0
  · rw [if_pos h, if_pos h]
  · rw [if_neg h, if_neg h]
    by_cases h' : m3 = true
    · rw [if_pos h', if_pos h']
    · rw [if_neg h', if_neg h']
theorem flI_idem (a : Int) (h : Bool) : flI a (if Go.bits .and .i64 (flI a h) 2 = 0 then false else h) = flI a h := by
  rcases kA_cases a with ⟨e, _⟩ | e | e | e | e | e | e | e | e | e | e | e | e
  · unfold flI
    rw [e]
    cases h <;> decide +kernel
  all_goals (subst e; cases h <;> decide +kernel)
abbrev MsgT := Int × Int × Int × Bool × Int × ByteArray × ByteArray × Int × Int × List S26 × List S43
def bareW (fl : Int) (m : MsgT) : MsgT := (m.1, m.2.1, (if Go.bits .and .i64 fl 1 = 0 then 0 else m.2.2.1), (if Go.bits .and .i64 fl 2 = 0 then false else m.2.2.2.1), (if Go.bits .and .i64 fl 4 = 0 then 0 else m.2.2.2.2.1), (if Go.bits .and .i64 fl 32 = 0 then (⟨#[]⟩ : ByteArray) else m.2.2.2.2.2.1), (if Go.bits .and .i64 fl 64 = 0 then (⟨#[]⟩ : ByteArray) else m.2.2.2.2.2.2.1), (if Go.bits .and .i64 fl 8 = 0 then 0 else m.2.2.2.2.2.2.2.1), (if Go.bits .and .i64 fl 8 = 0 then 0 else m.2.2.2.2.2.2.2.2.1), (if Go.bits .and .i64 fl 16 = 0 then [] else m.2.2.2.2.2.2.2.2.2.1), (if Go.bits .and .i64 fl 128 = 0 then [] else m.2.2.2.2.2.2.2.2.2.2))
def bareOf (m : MsgT) : MsgT := bareW (flI m.1 m.2.2.2.1) m
theorem bareB_flI (a : Int) (h : Bool) : bareB (flI a h) := by
  rcases kA_cases a with ⟨e, _⟩ | e | e | e | e | e | e | e | e | e | e | e | e
  · unfold flI
    rw [e]
    cases h <;> decide +kernel
  all_goals (subst e; cases h <;> decide +kernel)
theorem lk_Bare (m : MsgT) (hp : m.2.2.2.2.2.2.2.2.2.1.length < 8796093022208) (hq : m.2.2.2.2.2.2.2.2.2.2.length < 4398046511104) : msg_Bare.f m.1 m.2.1 m.2.2.1 m.2.2.2.1 m.2.2.2.2.1 m.2.2.2.2.2.1 m.2.2.2.2.2.2.1 m.2.2.2.2.2.2.2.1 m.2.2.2.2.2.2.2.2.1 m.2.2.2.2.2.2.2.2.2.1 m.2.2.2.2.2.2.2.2.2.2 = some (bareOf m) := by
  unfold msg_Bare.f bareOf bareW
  rw [lk_msg_fields]
  simp only [Option.bind_some]
  rw [if_pos ⟨hp, hq, bareB_flI _ _⟩]
theorem bareOf_len (m : MsgT) : (bareOf m).2.2.2.2.2.2.2.2.2.1.length ≤ m.2.2.2.2.2.2.2.2.2.1.length ∧ (bareOf m).2.2.2.2.2.2.2.2.2.2.length ≤ m.2.2.2.2.2.2.2.2.2.2.length := by
  unfold bareOf bareW
  constructor
  · show (if _ then [] else _ : List S26).length ≤ _
    split <;> simp
  · show (if _ then [] else _ : List S43).length ≤ _
    split <;> simp
theorem lk_Peers (l l' : List S26) (hl : l.length < 9223372036854775807) : ∃ c, Ev (fun k => api_Peer_62.f k l l') c ∧ (l = l' → c = true) := by
  unfold api_Peer_62.f
  by_cases he : (l.length : Int) = (l'.length : Int)
  · simp only [if_pos he]
    have loop : ∀ (d i : Nat), i + d = l.length → ∃ c, Ev (fun k => api_Peer_62.l0 k l l' (l.length : Int) (i : Int)) c ∧ (l = l' → c = true) := by
      intro d
      induction d with
      | zero =>
        intro i hi
        refine ⟨true, ev_const fun k => ?_, fun _ => rfl⟩
        rw [api_Peer_62.l0, if_neg (by omega)]
      | succ d ih =>
        intro i hi
        obtain ⟨c, h1, h2⟩ := ih (i + 1) (by omega)
        by_cases hd : (!(((rd_T26 l (i : Int)).f0) == ((rd_T26 l' (i : Int)).f0)) || (!(((rd_T26 l (i : Int)).f1) == ((rd_T26 l' (i : Int)).f1)))) = true
        · refine ⟨false, ev_const fun k => ?_, fun e => ?_⟩
          · rw [api_Peer_62.l0, if_pos (by omega), if_pos (by omega), if_pos (by omega), if_pos (by omega), if_pos hd]
          · subst e; simp at hd
        · refine ⟨c, ?_, h2⟩
          refine ev_succ ?_
          simp only [api_Peer_62.l0, if_pos (show (i : Int) < (l.length : Int) by omega), if_pos (show (0 : Int) ≤ (i : Int) by omega), if_pos (show (i : Int) < (l'.length : Int) by omega), if_neg hd]
          rw [w64 (by omega) (by omega)]
          exact h1
    exact loop l.length 0 (by omega)
  · simp only [if_neg he]
    exact ⟨false, ev_some _, fun e => absurd (by rw [e]) he⟩
theorem lk_Pairs (l l' : List S43) (hl : l.length < 9223372036854775807) : ∃ c, Ev (fun k => api_Pair_63.f k l l') c ∧ (l = l' → c = true) := by
  unfold api_Pair_63.f
  by_cases he : (l.length : Int) = (l'.length : Int)
  · simp only [if_pos he]
    have loop : ∀ (d i : Nat), i + d = l.length → ∃ c, Ev (fun k => api_Pair_63.l0 k l l' (l.length : Int) (i : Int)) c ∧ (l = l' → c = true) := by
      intro d
      induction d with
      | zero =>
        intro i hi
        refine ⟨true, ev_const fun k => ?_, fun _ => rfl⟩
        rw [api_Pair_63.l0, if_neg (by omega)]
      | succ d ih =>
        intro i hi
        obtain ⟨c, h1, h2⟩ := ih (i + 1) (by omega)
        by_cases hd : (!((((rd_T43 l (i : Int)).f0).toList) == (((rd_T43 l' (i : Int)).f0).toList)) || (!((((rd_T43 l (i : Int)).f1).toList) == (((rd_T43 l' (i : Int)).f1).toList)))) = true
        · refine ⟨false, ev_const fun k => ?_, fun e => ?_⟩
          · rw [api_Pair_63.l0, if_pos (by omega), if_pos (by omega), if_pos (by omega), if_pos (by omega), if_pos hd]
          · subst e; simp at hd
        · refine ⟨c, ?_, h2⟩
          refine ev_succ ?_
          simp only [api_Pair_63.l0, if_pos (show (i : Int) < (l.length : Int) by omega), if_pos (show (0 : Int) ≤ (i : Int) by omega), if_pos (show (i : Int) < (l'.length : Int) by omega), if_neg hd]
          rw [w64 (by omega) (by omega)]
          exact h1
    exact loop l.length 0 (by omega)
  · simp only [if_neg he]
    exact ⟨false, ev_some _, fun e => absurd (by rw [e]) he⟩
theorem lk_Same (m n : MsgT) (hp : m.2.2.2.2.2.2.2.2.2.1.length < 9223372036854775807) (hq : m.2.2.2.2.2.2.2.2.2.2.length < 9223372036854775807) : ∃ c, Ev (fun k => msg_Same.f k m.1 m.2.1 m.2.2.1 m.2.2.2.1 m.2.2.2.2.1 m.2.2.2.2.2.1 m.2.2.2.2.2.2.1 m.2.2.2.2.2.2.2.1 m.2.2.2.2.2.2.2.2.1 m.2.2.2.2.2.2.2.2.2.1 m.2.2.2.2.2.2.2.2.2.2 n.1 n.2.1 n.2.2.1 n.2.2.2.1 n.2.2.2.2.1 n.2.2.2.2.2.1 n.2.2.2.2.2.2.1 n.2.2.2.2.2.2.2.1 n.2.2.2.2.2.2.2.2.1 n.2.2.2.2.2.2.2.2.2.1 n.2.2.2.2.2.2.2.2.2.2) c ∧ (m = n → c = true) := by
  obtain ⟨q1, h1, e1⟩ := lk_Peers m.2.2.2.2.2.2.2.2.2.1 n.2.2.2.2.2.2.2.2.2.1 hp
  obtain ⟨q2, h2, e2⟩ := lk_Pairs m.2.2.2.2.2.2.2.2.2.2 n.2.2.2.2.2.2.2.2.2.2 hq
  unfold msg_Same.f
  have no : ∀ {P : Prop}, ¬ P → (m = n → P) → ∃ c, Ev (fun _ : Nat => some false) c ∧ (m = n → c = true) := fun hP hi => ⟨false, ev_some _, fun e => absurd (hi e) hP⟩
  by_cases c0 : m.1 = n.1
  case neg => simp only [if_neg c0]; exact no c0 (fun e => by subst e; simp)
  simp only [if_pos c0]
  by_cases c1 : m.2.1 = n.2.1
  case neg => simp only [if_neg c1]; exact no c1 (fun e => by subst e; simp)
  simp only [if_pos c1]
  by_cases c2 : m.2.2.1 = n.2.2.1
  case neg => simp only [if_neg c2]; exact no c2 (fun e => by subst e; simp)
  simp only [if_pos c2]
  by_cases c3 : (m.2.2.2.1 == n.2.2.2.1) = true
  case neg => simp only [if_neg c3]; exact no c3 (fun e => by subst e; simp)
  simp only [if_pos c3]
  by_cases c4 : m.2.2.2.2.1 = n.2.2.2.2.1
  case neg => simp only [if_neg c4]; exact no c4 (fun e => by subst e; simp)
  simp only [if_pos c4]
  by_cases c5 : m.2.2.2.2.2.1.toList = n.2.2.2.2.2.1.toList
  case neg => simp only [if_neg c5]; exact no c5 (fun e => by subst e; simp)
  simp only [if_pos c5]
  by_cases c6 : m.2.2.2.2.2.2.1.toList = n.2.2.2.2.2.2.1.toList
  case neg => simp only [if_neg c6]; exact no c6 (fun e => by subst e; simp)
  simp only [if_pos c6]
  by_cases c7 : (m.2.2.2.2.2.2.2.1 == n.2.2.2.2.2.2.2.1 && (m.2.2.2.2.2.2.2.2.1 == n.2.2.2.2.2.2.2.2.1)) = true
  case neg => simp only [if_neg c7]; exact no c7 (fun e => by subst e; simp)
  simp only [if_pos c7]
  cases q1 with
  | false => exact ⟨false, ev_bind h1 (by simp only [Bool.false_eq_true, if_false]; exact ev_some _), fun e => absurd (e1 (by subst e; rfl)) (by simp)⟩
  | true => exact ⟨q2, ev_bind h1 (by simp only [if_true]; exact ev_bind h2 (ev_some _)), fun e => e2 (by subst e; rfl)⟩
theorem lk_Key_tot (s : ByteArray) : ∃ b, msg_Key.f s = some b := by
  unfold msg_Key.f
  by_cases h : s.toList = []
  · rw [if_pos h]; exact ⟨_, rfl⟩
  · rw [if_neg h]
    by_cases h1 : (s.size : Int) ≤ 96
    · rw [if_pos h1]
      unfold utf_Valid.f utf_Count.f
      rw [if_pos (by omega), if_pos (by omega)]
      simp only [Option.bind_some]
      split
      · exact ⟨_, rfl⟩
      · exact ⟨_, rfl⟩
    · rw [if_neg h1]; exact ⟨_, rfl⟩
theorem idxO_tot {α : Type} (f : α → Option Bool) (hf : ∀ x, ∃ b, f x = some b) : ∀ (l : List α) (i : Int), ∃ j, idxO f l i = some j
  | [], i => ⟨-1, rfl⟩
  | x :: l, i => by
    obtain ⟨b, hb⟩ := hf x
    rw [idxO, hb]
    simp only [Option.bind_some]
    split
    · exact ⟨i, rfl⟩
    · exact idxO_tot f hf l (i + 1)
theorem lk_text_tot (m0 : Int) (m1 : Int) (m2 : Int) (m3 : Bool) (m4 : Int) (m5 : ByteArray) (m6 : ByteArray) (m7 : Int) (m8 : Int) (m9 : List S26) (m10 : List S43) (g : Int) : ∃ b, msg_text.f m0 m1 m2 m3 m4 m5 m6 m7 m8 m9 m10 g = some b := by
  obtain ⟨i, hi⟩ := idxO_tot (fun x : S43 => msg_text_1.f x.f0 x.f1) (fun x => by
    obtain ⟨b, hb⟩ := lk_Key_tot x.f0
    exact ⟨!b, by unfold msg_text_1.f; rw [hb]; rfl⟩) m10 0
  obtain ⟨b, hb⟩ := lk_Key_tot m5
  unfold msg_text.f api_Pair_67.f
  rw [hb]
  simp only [if_true, hi, Option.bind_some]
  split
  · exact ⟨_, rfl⟩
  · split
    · exact ⟨_, rfl⟩
    · exact ⟨_, rfl⟩
theorem lk_long_tot (m0 : Int) (m1 : Int) (m2 : Int) (m3 : Bool) (m4 : Int) (m5 : ByteArray) (m6 : ByteArray) (m7 : Int) (m8 : Int) (m9 : List S26) (m10 : List S43) : ∃ b, msg_long.f m0 m1 m2 m3 m4 m5 m6 m7 m8 m9 m10 = some b := by
  obtain ⟨i, hi⟩ := idxO_tot (fun x : S43 => msg_long_1.f x.f0 x.f1) (fun x => ⟨_, rfl⟩) m10 0
  unfold msg_long.f api_Pair_67.f
  simp only [if_neg (show ¬ (48 : Nat) = 47 by decide), if_true, hi, Option.bind_some]
  split
  · exact ⟨_, rfl⟩
  · split
    · exact ⟨_, rfl⟩
    · split
      · exact ⟨_, rfl⟩
      · exact ⟨_, rfl⟩
theorem lk_Right (m : MsgT) (hp : m.2.2.2.2.2.2.2.2.2.1.length < 8796093022208) (hq : m.2.2.2.2.2.2.2.2.2.2.length < 4398046511104) (c : Bool) (hc : Ev (fun k => msg_Same.f k m.1 m.2.1 m.2.2.1 m.2.2.2.1 m.2.2.2.2.1 m.2.2.2.2.2.1 m.2.2.2.2.2.2.1 m.2.2.2.2.2.2.2.1 m.2.2.2.2.2.2.2.2.1 m.2.2.2.2.2.2.2.2.2.1 m.2.2.2.2.2.2.2.2.2.2 (bareOf m).1 (bareOf m).2.1 (bareOf m).2.2.1 (bareOf m).2.2.2.1 (bareOf m).2.2.2.2.1 (bareOf m).2.2.2.2.2.1 (bareOf m).2.2.2.2.2.2.1 (bareOf m).2.2.2.2.2.2.2.1 (bareOf m).2.2.2.2.2.2.2.2.1 (bareOf m).2.2.2.2.2.2.2.2.2.1 (bareOf m).2.2.2.2.2.2.2.2.2.2) c) :
    ∃ r, Ev (fun k => msg_Right.f k m.1 m.2.1 m.2.2.1 m.2.2.2.1 m.2.2.2.2.1 m.2.2.2.2.2.1 m.2.2.2.2.2.2.1 m.2.2.2.2.2.2.2.1 m.2.2.2.2.2.2.2.2.1 m.2.2.2.2.2.2.2.2.2.1 m.2.2.2.2.2.2.2.2.2.2) r ∧ (r = 0 → c = true) ∧ (c = true → r ≠ 1) := by
  obtain ⟨b1, h1⟩ := lk_text_tot m.1 m.2.1 m.2.2.1 m.2.2.2.1 m.2.2.2.2.1 m.2.2.2.2.2.1 m.2.2.2.2.2.2.1 m.2.2.2.2.2.2.2.1 m.2.2.2.2.2.2.2.2.1 m.2.2.2.2.2.2.2.2.2.1 m.2.2.2.2.2.2.2.2.2.2 (flI m.1 m.2.2.2.1)
  obtain ⟨b2, h2⟩ := lk_long_tot m.1 m.2.1 m.2.2.1 m.2.2.2.1 m.2.2.2.2.1 m.2.2.2.2.2.1 m.2.2.2.2.2.2.1 m.2.2.2.2.2.2.2.1 m.2.2.2.2.2.2.2.2.1 m.2.2.2.2.2.2.2.2.2.1 m.2.2.2.2.2.2.2.2.2.2
  have hS : ∃ b3, msg_short.f m.1 m.2.1 m.2.2.1 m.2.2.2.1 m.2.2.2.2.1 m.2.2.2.2.2.1 m.2.2.2.2.2.2.1 m.2.2.2.2.2.2.2.1 m.2.2.2.2.2.2.2.2.1 m.2.2.2.2.2.2.2.2.2.1 m.2.2.2.2.2.2.2.2.2.2 = some b3 := by
    unfold msg_short.f
    split
    · exact ⟨_, rfl⟩
    · split
      · exact ⟨_, rfl⟩
      · split
        · exact ⟨_, rfl⟩
        · exact ⟨_, rfl⟩
  obtain ⟨b3, h3⟩ := hS
  unfold msg_Right.f
  rw [lk_msg_fields, lk_msg_Name]
  simp only [Option.bind_some]
  by_cases hn : (kA m.1).f0.toList = ([63] : List UInt8)
  · simp only [if_pos hn]
    exact ⟨9, ev_some _, (fun h => by cases h), (fun _ h => by cases h)⟩
  simp only [if_neg hn, lk_Bare m hp hq, h1, h2, h3, Option.bind_some]
  cases c with
  | false =>
    refine ⟨1, (ev_bind hc ?_), (fun h => by cases h), (fun h => by cases h)⟩
    simp only [Bool.false_eq_true, if_false]
    exact ev_some _
  | true =>
    refine ⟨if b1 = true then (if b2 = true then 5 else (if b3 = true then 2 else 0)) else 7, (ev_bind hc ?_), fun _ => rfl, fun _ => ?_⟩
    · simp only [if_true]
      cases b1 <;> cases b2 <;> cases b3 <;> exact ev_some _
    · cases b1 <;> cases b2 <;> cases b3 <;> decide
theorem lk_Large (m0 : Int) (m1 : Int) (m2 : Int) (m3 : Bool) (m4 : Int) (m5 : ByteArray) (m6 : ByteArray) (m7 : Int) (m8 : Int) (m9 : List S26) (m10 : List S43) : ∃ b, Ev (fun k => annuletlaw08_Large.f k m0 m1 m2 m3 m4 m5 m6 m7 m8 m9 m10) b ∧ (b = false → m9.length ≤ 40 ∧ m10.length ≤ 20) := by
  have jt : Ev (fun k => annuletlaw08_Large.j0 k true m0 m1 m2 m3 m4 m5 m6 m7 m8 m9 m10) true := ev_const fun k => by rw [annuletlaw08_Large.j0, if_pos rfl]
  have loop : m10.length ≤ 20 → ∀ (d i : Nat), i + d = m10.length → ∃ b, Ev (fun k => annuletlaw08_Large.l0 k (i : Int) m0 m1 m2 m3 m4 m5 m6 m7 m8 m9 m10) b := by
    intro hl d
    induction d with
    | zero =>
      intro i hi
      refine ⟨false, ev_const fun k => ?_⟩
      rw [annuletlaw08_Large.l0, if_neg (by omega)]
    | succ d ih =>
      intro i hi
      obtain ⟨b, hb⟩ := ih (i + 1) (by omega)
      by_cases h1 : (((rd_T43 m10 (i : Int)).f0).size : Int) > 300
      · refine ⟨true, ev_const fun k => ?_⟩
        rw [annuletlaw08_Large.l0, if_pos (by omega), if_pos (by omega), if_pos h1]
      · by_cases h2 : (((rd_T43 m10 (i : Int)).f1).size : Int) > 700
        · refine ⟨true, ev_const fun k => ?_⟩
          rw [annuletlaw08_Large.l0, if_pos (by omega), if_pos (by omega), if_neg h1, if_pos h2]
        · refine ⟨b, ev_succ ?_⟩
          simp only [annuletlaw08_Large.l0, if_pos (show (i : Int) < (m10.length : Int) by omega), if_pos (show (0 : Int) ≤ (i : Int) by omega), if_neg h1, if_neg h2]
          rw [w64 (by omega) (by omega)]
          exact hb
  unfold annuletlaw08_Large.f
  by_cases c1 : (m5.size : Int) > 300
  · simp only [if_pos c1]; exact ⟨true, jt, fun h => by cases h⟩
  by_cases c2 : (m6.size : Int) > 700
  · simp only [if_neg c1, if_pos c2]; exact ⟨true, jt, fun h => by cases h⟩
  by_cases c3 : (m9.length : Int) > 40
  · simp only [if_neg c1, if_neg c2, if_pos c3]; exact ⟨true, jt, fun h => by cases h⟩
  simp only [if_neg c1, if_neg c2, if_neg c3]
  by_cases c4 : (m10.length : Int) > 20
  · simp only [decide_eq_true c4]; exact ⟨true, jt, fun h => by cases h⟩
  · simp only [decide_eq_false c4]
    obtain ⟨b, hb⟩ := loop (by omega) m10.length 0 (by omega)
    refine ⟨b, ev_succ ?_, fun _ => ⟨by omega, by omega⟩⟩
    simp only [annuletlaw08_Large.j0, Bool.false_eq_true, if_false]
    exact hb

/-! ### tagged: the bytes of a message -/
def fNum (tag : Nat) (x : Int) : List Int := if x = 0 then [] else putL tag ++ putL x.toNat
def txtL (s : ByteArray) : List Int := putL s.size ++ bytesOf s
def fText (tag : Nat) (s : ByteArray) : List Int := if s.size = 0 then [] else putL tag ++ txtL s
def peerL (p : S26) : List Int := putL p.f0.toNat ++ putL p.f1.toNat
def pairL (q : S43) : List Int := txtL q.f0 ++ txtL q.f1
def peersL : List S26 → List Int
  | [] => []
  | p :: l => peerL p ++ peersL l
def pairsL : List S43 → List Int
  | [] => []
  | q :: l => pairL q ++ pairsL l
def fld (t : Nat) (m : Mg) : List Int :=
  if t = 1 then fNum 1 m.r else if t = 2 then fNum 2 m.c else if t = 3 then (if m.h = true then putL 3 else []) else if t = 4 then fNum 4 m.i else if t = 5 then fText 5 m.key else if t = 6 then fText 6 m.val else
  if t = 7 then (if m.p = 0 ∧ m.a = 0 then [] else putL 7 ++ peerL ⟨m.p, m.a⟩) else if t = 8 then (if m.ps.length = 0 then [] else putL 8 ++ (putL m.ps.length ++ peersL m.ps)) else
  if t = 9 then (if m.qs.length = 0 then [] else putL 9 ++ (putL m.qs.length ++ pairsL m.qs)) else []
def encTo : Nat → Mg → List Int
  | 0, m => putL m.k.toNat
  | n + 1, m => encTo n m ++ fld (n + 1) m
/-- a message whose numbers are of their kinds, and that isn't long -/
structure MgW (m : Mg) : Prop where
  r : 0 ≤ m.r ∧ m.r < 4294967296
  c : 0 ≤ m.c ∧ m.c < 256
  i : 0 ≤ m.i ∧ m.i < 18446744073709551616
  p : 0 ≤ m.p ∧ m.p < 18446744073709551616
  a : 0 ≤ m.a ∧ m.a < 65536
  key : m.key.size ≤ 1000
  val : m.val.size ≤ 1000
  psl : m.ps.length ≤ 100
  ps : ∀ x ∈ m.ps, (0 ≤ x.f0 ∧ x.f0 < 18446744073709551616) ∧ (0 ≤ x.f1 ∧ x.f1 < 65536)
  qsl : m.qs.length ≤ 100
  qs : ∀ x ∈ m.qs, x.f0.size ≤ 1000 ∧ x.f1.size ≤ 1000
theorem putL_10 {x : Int} (h : x < 18446744073709551616) : (putL x.toNat).length ≤ 10 := putL_len10 (by omega)
theorem putL_10n {x : Nat} (h : x < 18446744073709551616) : (putL x).length ≤ 10 := putL_len10 h
theorem txtL_len {s : ByteArray} (h : s.size ≤ 1000) : (txtL s).length ≤ 1010 := by
  have := putL_10n (x := s.size) (by omega)
  have h2 := bytesOf_length s
  unfold txtL
  rw [List.length_append]
  omega
theorem fNum_len (tag : Nat) (ht : tag < 100) {x : Int} (h : x < 18446744073709551616) : (fNum tag x).length ≤ 20 := by
  unfold fNum
  have := putL_10 h
  have := putL_10n (x := tag) (by omega)
  split
  · simp
  · rw [List.length_append]; omega
theorem fText_len (tag : Nat) (ht : tag < 100) {s : ByteArray} (h : s.size ≤ 1000) : (fText tag s).length ≤ 1020 := by
  unfold fText
  have := txtL_len h
  have := putL_10n (x := tag) (by omega)
  split
  · simp
  · rw [List.length_append]; omega
theorem peersL_len : ∀ (l : List S26), (∀ x ∈ l, (0 ≤ x.f0 ∧ x.f0 < 18446744073709551616) ∧ (0 ≤ x.f1 ∧ x.f1 < 65536)) → (peersL l).length ≤ 20 * l.length
  | [], _ => Nat.le_refl _
  | p :: l, h => by
    have ih := peersL_len l (fun x hx => h x (List.mem_cons_of_mem _ hx))
    have hp := h p List.mem_cons_self
    have := putL_10 (x := p.f0) (by omega)
    have := putL_10 (x := p.f1) (by omega)
    simp only [peersL, peerL, List.length_append, List.length_cons]
    omega
theorem pairsL_len : ∀ (l : List S43), (∀ x ∈ l, x.f0.size ≤ 1000 ∧ x.f1.size ≤ 1000) → (pairsL l).length ≤ 2020 * l.length
  | [], _ => Nat.le_refl _
  | p :: l, h => by
    have ih := pairsL_len l (fun x hx => h x (List.mem_cons_of_mem _ hx))
    have hp := h p List.mem_cons_self
    have := txtL_len hp.1
    have := txtL_len hp.2
    simp only [pairsL, pairL, List.length_append, List.length_cons]
    omega
theorem putL3 : putL 3 = [3] := putL_small (by decide)
theorem fld_len (t : Nat) {m : Mg} (h : MgW m) : (fld t m).length ≤ 300000 := by
  have h1 := peersL_len _ h.ps
  have h2 := pairsL_len _ h.qs
  have h3 := putL_10n (x := m.ps.length) (by have := h.psl; omega)
  have h4 := putL_10n (x := m.qs.length) (by have := h.qsl; omega)
  have h5 := putL_10n (x := 7) (by omega)
  have h6 := putL_10n (x := 8) (by omega)
  have h7 := putL_10n (x := 9) (by omega)
  have h8 := putL_10 h.p.2
  have h9 := putL_10 (x := m.a) (by have := h.a; omega)
  have := h.psl
  have := h.qsl
  unfold fld
  by_cases c1 : t = 1
  · rw [if_pos c1]; have := fNum_len 1 (by decide) (x := m.r) (by have := h.r; omega); omega
  rw [if_neg c1]
  by_cases c2 : t = 2
  · rw [if_pos c2]; have := fNum_len 2 (by decide) (x := m.c) (by have := h.c; omega); omega
  rw [if_neg c2]
  by_cases c3 : t = 3
  · rw [if_pos c3, putL3]; split <;> simp
  rw [if_neg c3]
  by_cases c4 : t = 4
  · rw [if_pos c4]; have := fNum_len 4 (by decide) h.i.2; omega
  rw [if_neg c4]
  by_cases c5 : t = 5
  · rw [if_pos c5]; have := fText_len 5 (by decide) h.key; omega
  rw [if_neg c5]
  by_cases c6 : t = 6
  · rw [if_pos c6]; have := fText_len 6 (by decide) h.val; omega
  rw [if_neg c6]
  by_cases c7 : t = 7
  · rw [if_pos c7]
    split
    · simp
    · simp only [peerL, List.length_append]; omega
  rw [if_neg c7]
  by_cases c8 : t = 8
  · rw [if_pos c8]
    split
    · simp
    · simp only [List.length_append]; omega
  rw [if_neg c8]
  by_cases c9 : t = 9
  · rw [if_pos c9]
    split
    · simp
    · simp only [List.length_append]; omega
  rw [if_neg c9]
  simp
theorem encTo_len {m : Mg} (h : MgW m) (hk : m.k < 18446744073709551616) : ∀ n, (encTo n m).length ≤ 10 + 300000 * n
  | 0 => by
    have := putL_10 hk
    rw [encTo]; omega
  | n + 1 => by
    have := encTo_len h hk n
    have := fld_len (n + 1) h
    rw [encTo, List.length_append]
    omega
theorem lk_wnum : ∀ (ns l : List Int), (∀ n ∈ ns, 0 ≤ n ∧ n < 18446744073709551616) → l.length + 10 * ns.length ≤ 1000000000 → Ev (fun k => wnum k l ns) (l ++ putAllL ns)
  | [], l, _, _ => by
    refine ev_eq (ev_some l) ?_
    simp [putAllL]
  | n :: ns, l, h, hl => by
    have hn := h n List.mem_cons_self
    have h10 := putL_10 hn.2
    have ih := lk_wnum ns (l ++ putL n.toNat) (fun x hx => h x (List.mem_cons_of_mem _ hx)) (by simp only [List.length_append, List.length_cons] at hl ⊢; omega)
    simp only [List.length_cons] at hl
    show Ev (fun k => (uvar_Put.f k l n).bind fun l1 => wnum k l1 ns) _
    refine ev_bind (lk_uvar_Put l n hn.1 (by omega)) (ev_eq ih ?_)
    simp [putAllL]
theorem lk_wnum1 (l : List Int) (x : Int) (hx : 0 ≤ x ∧ x < 18446744073709551616) (hl : l.length ≤ 100000000) : Ev (fun k => wnum k l [x]) (l ++ putL x.toNat) := by
  refine ev_eq (lk_wnum [x] l (by simpa using hx) (by simp; omega)) ?_
  simp [putAllL]
theorem lk_wnum2 (l : List Int) (x y : Int) (hx : 0 ≤ x ∧ x < 18446744073709551616) (hy : 0 ≤ y ∧ y < 18446744073709551616) (hl : l.length ≤ 100000000) : Ev (fun k => wnum k l [x, y]) (l ++ (putL x.toNat ++ putL y.toNat)) := by
  refine ev_eq (lk_wnum [x, y] l (by simp; exact ⟨hx, hy⟩) (by simp; omega)) ?_
  simp [putAllL]
theorem lk_wsome (l : List Int) (tag : Nat) (n : Int) (ht : tag < 100) (hn : 0 ≤ n ∧ n < 18446744073709551616) (hl : l.length ≤ 100000000) : Ev (fun k => wsome k l (tag : Int) n) (l ++ fNum tag n) := by
  unfold wsome fNum
  by_cases h : n = 0
  · simp only [if_pos h]; exact ev_eq (ev_some _) (by simp)
  · simp only [if_neg h]
    exact ev_eq (lk_wnum2 l (tag : Int) n (by omega) hn hl) (by rw [Int.toNat_natCast])
theorem toList_size (s : ByteArray) : s.toList = [] ↔ s.size = 0 := by
  rw [toList_data, Array.toList_eq_nil_iff]
  show s.data = #[] ↔ s.data.size = 0
  exact Array.size_eq_zero_iff.symm
theorem lk_wtext (l : List Int) (tag : Nat) (s : ByteArray) (ht : tag < 100) (hs : s.size ≤ 1000) (hl : l.length ≤ 100000000) : Ev (fun k => wtext k l (tag : Int) s) (l ++ fText tag s) := by
  unfold wtext fText
  by_cases h : s.toList = []
  · simp only [if_pos h, if_pos ((toList_size s).1 h)]; exact ev_eq (ev_some _) (by simp)
  · simp only [if_neg h, if_neg (fun e => h ((toList_size s).2 e))]
    have := putL_10n (x := tag) (by omega)
    refine ev_bind (lk_wnum1 l (tag : Int) (by omega) hl) ?_
    rw [Int.toNat_natCast]
    refine ev_eq (lk_buf_Text _ s (by omega) (by rw [List.length_append]; omega)) ?_
    simp [txtL]
theorem lk_wpeers : ∀ (ps : List S26) (l : List Int), (∀ x ∈ ps, (0 ≤ x.f0 ∧ x.f0 < 18446744073709551616) ∧ (0 ≤ x.f1 ∧ x.f1 < 65536)) → l.length + 20 * ps.length ≤ 100000000 → Ev (fun k => wpeers k l ps) (l ++ peersL ps)
  | [], l, _, _ => ev_eq (ev_some l) (by simp [peersL])
  | p :: ps, l, h, hl => by
    have hp := h p List.mem_cons_self
    have h1 := putL_10 (x := p.f0) (by omega)
    have h2 := putL_10 (x := p.f1) (by omega)
    simp only [List.length_cons] at hl
    have ih := lk_wpeers ps (l ++ peerL p) (fun x hx => h x (List.mem_cons_of_mem _ hx)) (by simp only [peerL, List.length_append]; omega)
    show Ev (fun k => (wnum k l [p.f0, IntKind.u64.wrap p.f1]).bind fun l1 => wpeers k l1 ps) _
    rw [wu64_id (n := p.f1) (by omega) (by omega)]
    refine ev_bind (lk_wnum2 l p.f0 p.f1 hp.1 (by omega) (by omega)) (ev_eq ih ?_)
    simp [peersL]
theorem lk_wpairs : ∀ (ps : List S43) (l : List Int), (∀ x ∈ ps, x.f0.size ≤ 1000 ∧ x.f1.size ≤ 1000) → l.length + 2020 * ps.length ≤ 100000000 → Ev (fun k => wpairs k l ps) (l ++ pairsL ps)
  | [], l, _, _ => ev_eq (ev_some l) (by simp [pairsL])
  | p :: ps, l, h, hl => by
    have hp := h p List.mem_cons_self
    have h1 := txtL_len hp.1
    have h2 := txtL_len hp.2
    simp only [List.length_cons] at hl
    have ih := lk_wpairs ps (l ++ pairL p) (fun x hx => h x (List.mem_cons_of_mem _ hx)) (by simp only [pairL, List.length_append]; omega)
    show Ev (fun k => (buf_Text.f k l p.f0).bind fun l1 => (buf_Text.f k l1 p.f1).bind fun l2 => wpairs k l2 ps) _
    refine ev_bind (lk_buf_Text l p.f0 (by omega) (by omega)) ?_
    rw [List.append_assoc, show putL p.f0.size ++ bytesOf p.f0 = txtL p.f0 from rfl]
    refine ev_bind (lk_buf_Text _ p.f1 (by omega) (by rw [List.length_append]; omega)) ?_
    rw [List.append_assoc, show putL p.f1.size ++ bytesOf p.f1 = txtL p.f1 from rfl]
    refine ev_eq ?_ (show (l ++ pairL p) ++ pairsL ps = _ from by simp [pairsL])
    rw [List.append_assoc, show txtL p.f0 ++ txtL p.f1 = pairL p from rfl]
    exact ih
theorem lk_wlists (l : List Int) {m : Mg} (h : MgW m) (hl : l.length ≤ 10000000) : Ev (fun k => wlists k l m.ps m.qs) (l ++ fld 8 m ++ fld 9 m) := by
  have a8 : fld 8 m = if m.ps.length = 0 then [] else putL 8 ++ (putL m.ps.length ++ peersL m.ps) := rfl
  have a9 : fld 9 m = if m.qs.length = 0 then [] else putL 9 ++ (putL m.qs.length ++ pairsL m.qs) := rfl
  have p8 := fld_len 8 h
  have hps := h.psl
  have hqs := h.qsl
  have h3 := putL_10n (x := m.ps.length) (by omega)
  have h4 := putL_10n (x := m.qs.length) (by omega)
  have h6 := putL_10n (x := 8) (by omega)
  have h7 := putL_10n (x := 9) (by omega)
  have e8 : Ev (fun k => ((if 0 < m.ps.length then wnum k l [8, (m.ps.length : Int)] else some l : Option (List Int))).bind fun l1 => wpeers k l1 m.ps) (l ++ fld 8 m) := by
    rw [a8]
    by_cases c : m.ps.length = 0
    · simp only [if_pos c, if_neg (show ¬ 0 < m.ps.length by omega), Option.bind_some]
      have hn : m.ps = [] := List.eq_nil_of_length_eq_zero c
      rw [hn]
      exact ev_eq (lk_wpeers [] l (by simp) (by simp; omega)) (by simp [peersL])
    · simp only [if_neg c, if_pos (show 0 < m.ps.length by omega)]
      refine ev_bind (lk_wnum2 l 8 (m.ps.length : Int) (by omega) (by omega) (by omega)) ?_
      rw [Int.toNat_natCast]
      refine ev_eq (lk_wpeers m.ps _ h.ps (by simp only [List.length_append, show (8 : Int).toNat = 8 from rfl]; omega)) ?_
      simp
  have e9 : ∀ l2 : List Int, l2.length ≤ 20000000 → Ev (fun k => ((if 0 < m.qs.length then wnum k l2 [9, (m.qs.length : Int)] else some l2 : Option (List Int))).bind fun l3 => wpairs k l3 m.qs) (l2 ++ fld 9 m) := by
    intro l2 hl2
    rw [a9]
    by_cases c : m.qs.length = 0
    · simp only [if_pos c, if_neg (show ¬ 0 < m.qs.length by omega), Option.bind_some]
      have hn : m.qs = [] := List.eq_nil_of_length_eq_zero c
      rw [hn]
      exact ev_eq (lk_wpairs [] l2 (by simp) (by simp; omega)) (by simp [pairsL])
    · simp only [if_neg c, if_pos (show 0 < m.qs.length by omega)]
      refine ev_bind (lk_wnum2 l2 9 (m.qs.length : Int) (by omega) (by omega) (by omega)) ?_
      rw [Int.toNat_natCast]
      refine ev_eq (lk_wpairs m.qs _ h.qs (by simp only [List.length_append, show (9 : Int).toNat = 9 from rfl]; omega)) ?_
      simp
  unfold wlists
  have hb : Ev (fun k => (((if 0 < m.ps.length then wnum k l [8, (m.ps.length : Int)] else some l : Option (List Int))).bind fun l1 => wpeers k l1 m.ps).bind fun l2 => ((if 0 < m.qs.length then wnum k l2 [9, (m.qs.length : Int)] else some l2 : Option (List Int))).bind fun l3 => wpairs k l3 m.qs) (l ++ fld 8 m ++ fld 9 m) :=
    ev_bind e8 (e9 _ (by rw [List.length_append]; omega))
  simpa only [Option.bind_assoc] using hb
theorem lk_tagEnc {m : Mg} (h : MgW m) (hk : 0 ≤ m.k ∧ m.k < 256) : Ev (fun k => tagEnc k m.k m.r m.c m.h m.i m.key m.val m.p m.a m.ps m.qs) (encTo 9 m) := by
  have hl := encTo_len h (by omega)
  have h0 := hl 0
  have h1 := hl 1
  have h2 := hl 2
  have h3 := hl 3
  have h4 := hl 4
  have h5 := hl 5
  have h6 := hl 6
  have h7 := hl 7
  unfold tagEnc
  have hr := h.r
  have hc := h.c
  have ha := h.a
  have hp := h.p
  rw [wu64_id (n := m.k) (by omega) (by omega), wu64_id (n := m.r) (by omega) (by omega), wu64_id (n := m.c) (by omega) (by omega), wu64_id (n := m.a) (by omega) (by omega)]
  refine ev_bind (ev_eq (lk_wnum1 [] m.k (by omega) (by simp)) (show _ = encTo 0 m from by simp [encTo])) ?_
  refine ev_bind (lk_wsome _ 1 m.r (by omega) (by omega) (by omega)) ?_
  rw [show encTo 0 m ++ fNum 1 m.r = encTo 1 m from rfl]
  refine ev_bind (lk_wsome _ 2 m.c (by omega) (by omega) (by omega)) ?_
  rw [show encTo 1 m ++ fNum 2 m.c = encTo 2 m from rfl]
  refine ev_bind (a := encTo 3 m) ?_ ?_
  · have e3 : encTo 3 m = encTo 2 m ++ (if m.h = true then putL 3 else []) := rfl
    rw [e3]
    by_cases c : m.h = true
    · simp only [if_pos c]; exact lk_wnum1 _ 3 (by omega) (by omega)
    · simp only [if_neg c]; exact ev_eq (ev_some _) (by simp)
  refine ev_bind (lk_wsome _ 4 m.i (by omega) h.i (by omega)) ?_
  rw [show encTo 3 m ++ fNum 4 m.i = encTo 4 m from rfl]
  refine ev_bind (lk_wtext _ 5 m.key (by omega) h.key (by omega)) ?_
  rw [show encTo 4 m ++ fText 5 m.key = encTo 5 m from rfl]
  refine ev_bind (lk_wtext _ 6 m.val (by omega) h.val (by omega)) ?_
  rw [show encTo 5 m ++ fText 6 m.val = encTo 6 m from rfl]
  refine ev_bind (a := encTo 7 m) ?_ ?_
  · have e7 : encTo 7 m = encTo 6 m ++ (if m.p = 0 ∧ m.a = 0 then [] else putL 7 ++ peerL ⟨m.p, m.a⟩) := rfl
    rw [e7]
    by_cases c : m.p = 0 ∧ m.a = 0
    · simp only [if_pos c]; exact ev_eq (ev_some _) (by simp)
    · simp only [if_neg c]
      have := putL_10n (x := 7) (by omega)
      refine ev_bind (lk_wnum1 _ 7 (by omega) (by omega)) ?_
      refine ev_eq (lk_wnum2 _ m.p m.a hp (by omega) (by rw [List.length_append, show (7 : Int).toNat = 7 from rfl]; omega)) ?_
      simp [peerL]
  exact lk_wlists _ h (by omega)

/-! ### tagged: what a reader of bytes tells -/
theorem ev_shift {α : Type} {g : Nat → Option α} {r : α} (h : Ev g r) (c : Nat) : Ev (fun k => g (k + c)) r := by
  obtain ⟨K, hK⟩ := h
  exact ⟨K, fun k hk => hK (k + c) (by omega)⟩
def ruL (most : Int) (l : List Int) (met : Int) : Int × List Int × Int := uvarR most l met (getL l).1 (getL l).2.1 (getL l).2.2
def rtL (most : Int) (l : List Int) (met : Int) : ByteArray × List Int × Int := textR most l met (getL l).1 (getL l).2.1 (getL l).2.2
theorem lk_rU (l : List Int) (hb : Bytes l) (met most : Int) : Ev (fun k => rU k l met most) (ruL most l met) := by
  have hr := getL_range l hb
  unfold rU buf_Reader_Uvar.f
  refine ev_bind (a := ((ruL most l met).1, true, (ruL most l met).2.1, (ruL most l met).2.2)) ?_ ?_
  · refine ev_bind (lk_uvar_Get l hb) ?_
    simp only [if_pos hr.2.2.1, if_pos hr.2.2.2.1]
    exact ev_some _
  · simp only [if_true]
    exact ev_some _
theorem lk_rT (l : List Int) (hb : Bytes l) (met most : Int) (h0 : -9223372036854775808 ≤ most) (h1 : most ≤ 9223372036854775807) : Ev (fun k => rT k l met most) (rtL most l met) := by
  unfold rT
  refine ev_bind (lk_rd_Text true l hb most h0 h1 met) ?_
  simp only [if_true]
  exact ev_some _
theorem ru_put (most : Int) (n : Nat) (R : List Int) (hn : n < 18446744073709551616) (hm : (n : Int) ≤ most) : ruL most (putL n ++ R) 0 = ((n : Int), R, 0) := by
  unfold ruL uvarR
  rw [get_put n hn]
  simp only [ne_eq, not_true_eq_false, if_false]
  rw [if_neg (by omega), Int.toNat_natCast, List.drop_left' rfl]
theorem ru_met (most : Int) (l : List Int) {met : Int} (h : met ≠ 0) : ruL most l met = (0, l, met) := by
  unfold ruL uvarR
  rw [if_pos h]
theorem ru_ok (most : Int) (l : List Int) (hb : Bytes l) (met : Int) (h : (ruL most l met).2.2 = 0) : met = 0 ∧ ∃ n : Nat, n < 18446744073709551616 ∧ (n : Int) ≤ most ∧ (ruL most l met).1 = (n : Int) ∧ l = putL n ++ (ruL most l met).2.1 := by
  by_cases hm : met = 0
  case neg => rw [ru_met most l hm] at h; exact absurd h hm
  subst hm
  refine ⟨rfl, ?_⟩
  obtain ⟨n, s, e⟩ : ∃ n s e, getL l = (n, s, e) := ⟨_, _, _, rfl⟩
  have hg : ∃ n s e, getL l = (n, s, e) := ⟨_, _, _, rfl⟩
  obtain ⟨n, s, e, hg⟩ := hg
  unfold ruL uvarR at h ⊢
  rw [hg] at h ⊢
  simp only [ne_eq, not_true_eq_false, if_false] at h ⊢
  by_cases he : e = 0
  case neg => rw [if_pos he] at h; exact absurd h he
  subst he
  simp only [not_true_eq_false, if_false] at h ⊢
  obtain ⟨p1, p2, p3, p4, p5, p6⟩ := put_get l hb n s hg
  by_cases hn : n > most
  · rw [if_pos hn] at h; cases h
  rw [if_neg hn]
  refine ⟨n.toNat, by omega, by omega, by simp; omega, ?_⟩
  simp only
  rw [p6, List.take_append_drop]
theorem ru_rest (most : Int) (l : List Int) (met : Int) : ∃ j, (ruL most l met).2.1 = l.drop j := by
  unfold ruL uvarR
  split
  · exact ⟨0, rfl⟩
  · split
    · exact ⟨0, rfl⟩
    · split
      · exact ⟨0, rfl⟩
      · exact ⟨_, rfl⟩
theorem ru_bytes {most : Int} {l : List Int} {met : Int} (hb : Bytes l) : Bytes (ruL most l met).2.1 := by
  obtain ⟨j, h⟩ := ru_rest most l met
  rw [h]
  exact bytes_drop hb j
theorem ru_len (most : Int) (l : List Int) (met : Int) : (ruL most l met).2.1.length ≤ l.length := by
  obtain ⟨j, h⟩ := ru_rest most l met
  rw [h, List.length_drop]
  omega
theorem ru_less (most : Int) (l : List Int) (hb : Bytes l) (met : Int) (h : (ruL most l met).2.2 = 0) : (ruL most l met).2.1.length < l.length := by
  obtain ⟨_, n, _, _, _, hl⟩ := ru_ok most l hb met h
  have := congrArg List.length hl
  rw [List.length_append] at this
  have := putL_pos n
  omega
theorem ru_val (most : Int) (l : List Int) (hb : Bytes l) (met : Int) (h0 : 0 ≤ most) : 0 ≤ (ruL most l met).1 ∧ (ruL most l met).1 ≤ most ∧ (ruL most l met).1 < 18446744073709551616 := by
  have hr := getL_range l hb
  unfold ruL uvarR
  split
  · simp; omega
  · split
    · simp; omega
    · split
      · simp; omega
      · simp only; omega
theorem rt_put (most : Int) (s : ByteArray) (R : List Int) (hs : s.size ≤ 1000000000) (hm : (s.size : Int) ≤ most) : rtL most (txtL s ++ R) 0 = (s, R, 0) := by
  unfold rtL txtL
  rw [List.append_assoc]
  exact textR_put s hs R most hm
theorem rt_met (most : Int) (l : List Int) {met : Int} (h : met ≠ 0) : rtL most l met = ((⟨#[]⟩ : ByteArray), l, met) := by
  unfold rtL textR
  rw [if_pos h]
theorem strOfNums_size (l : List Int) : (strOfNums l).size = l.length := by
  show (strOfNums l).data.size = l.length
  rw [← Array.length_toList, strOfNums_data]
  simp
theorem rt_ok (most : Int) (l : List Int) (hb : Bytes l) (met : Int) (h : (rtL most l met).2.2 = 0) : met = 0 ∧ ((rtL most l met).1.size : Int) ≤ most ∧ l = txtL (rtL most l met).1 ++ (rtL most l met).2.1 := by
  by_cases hm : met = 0
  case neg => rw [rt_met most l hm] at h; exact absurd h hm
  subst hm
  refine ⟨rfl, ?_⟩
  have hg : ∃ n s e, getL l = (n, s, e) := ⟨_, _, _, rfl⟩
  obtain ⟨n, s, e, hg⟩ := hg
  unfold rtL textR at h ⊢
  rw [hg] at h ⊢
  simp only [ne_eq, not_true_eq_false, if_false] at h ⊢
  by_cases he : e = 0
  case neg => rw [if_pos he] at h; exact absurd h he
  subst he
  simp only [not_true_eq_false, if_false] at h ⊢
  obtain ⟨p1, p2, p3, p4, p5, p6⟩ := put_get l hb n s hg
  by_cases hn : most < 0 ∨ n > most
  · rw [if_pos hn] at h; cases h
  rw [if_neg hn] at h ⊢
  by_cases hn2 : n > (l.length : Int) - s
  · rw [if_pos hn2] at h; cases h
  rw [if_neg hn2]
  have hlen : ((l.drop s.toNat).take n.toNat).length = n.toNat := by
    rw [List.length_take, List.length_drop]; omega
  have hby : Bytes ((l.drop s.toNat).take n.toNat) := bytes_take (bytes_drop hb _) _
  simp only
  refine ⟨by rw [strOfNums_size, hlen]; omega, ?_⟩
  unfold txtL
  rw [strOfNums_size, hlen, p6, bytesOf_str hby, List.append_assoc, List.take_append_drop, List.take_append_drop]
theorem rt_rest (most : Int) (l : List Int) (met : Int) : ∃ j, (rtL most l met).2.1 = l.drop j := by
  unfold rtL textR
  split
  · exact ⟨0, rfl⟩
  · split
    · exact ⟨0, rfl⟩
    · split
      · exact ⟨0, rfl⟩
      · split
        · exact ⟨0, rfl⟩
        · simp only [List.drop_drop]; exact ⟨_, rfl⟩
theorem rt_bytes {most : Int} {l : List Int} {met : Int} (hb : Bytes l) : Bytes (rtL most l met).2.1 := by
  obtain ⟨j, h⟩ := rt_rest most l met
  rw [h]
  exact bytes_drop hb j
theorem rt_len (most : Int) (l : List Int) (met : Int) : (rtL most l met).2.1.length ≤ l.length := by
  obtain ⟨j, h⟩ := rt_rest most l met
  rw [h, List.length_drop]
  omega
theorem rt_size (most : Int) (l : List Int) (hb : Bytes l) (met : Int) (h0 : 0 ≤ most) : ((rtL most l met).1.size : Int) ≤ most := by
  have hr := getL_range l hb
  unfold rtL textR
  have z : ((⟨#[]⟩ : ByteArray).size : Int) ≤ most := h0
  split
  · exact z
  · split
    · exact z
    · split
      · exact z
      · split
        · exact z
        · simp only [strOfNums_size, List.length_take]; omega
def peerR (l : List Int) (met : Int) : Int × Int × List Int × Int :=
  let a := ruL 18446744073709551615 l met
  let b := ruL 65535 a.2.1 a.2.2
  (a.1, b.1, b.2.1, b.2.2)
theorem wu16 {x : Int} (h0 : 0 ≤ x) (h1 : x ≤ 65535) : IntKind.u16.wrap x = x := by
  simp only [IntKind.wrap, IntKind.bits, IntKind.signed]
  simp
  omega
theorem lk_tpeer (l : List Int) (hb : Bytes l) (met : Int) : Ev (fun k => tpeer k l met) (peerR l met) := by
  unfold tpeer
  refine ev_bind (lk_rU l hb met _) (ev_bind (lk_rU _ (ru_bytes hb) _ _) ?_)
  have := ru_val 65535 (ruL 18446744073709551615 l met).2.1 (ru_bytes hb) (ruL 18446744073709551615 l met).2.2 (by omega)
  rw [wu16 this.1 this.2.1]
  exact ev_some _
theorem peer_bytes {l : List Int} (hb : Bytes l) (met : Int) : Bytes (peerR l met).2.2.1 := ru_bytes (ru_bytes hb)
theorem peer_len (l : List Int) (met : Int) : (peerR l met).2.2.1.length ≤ l.length := Nat.le_trans (ru_len _ _ _) (ru_len _ _ _)
theorem peer_val (l : List Int) (hb : Bytes l) (met : Int) : (0 ≤ (peerR l met).1 ∧ (peerR l met).1 < 18446744073709551616) ∧ (0 ≤ (peerR l met).2.1 ∧ (peerR l met).2.1 < 65536) := by
  have h1 := ru_val 18446744073709551615 l hb met (by omega)
  have h2 := ru_val 65535 (ruL 18446744073709551615 l met).2.1 (ru_bytes hb) (ruL 18446744073709551615 l met).2.2 (by omega)
  exact ⟨⟨h1.1, h1.2.2⟩, h2.1, by have := h2.2.1; unfold peerR; simp only; omega⟩
theorem peer_put (p : S26) (hp : (0 ≤ p.f0 ∧ p.f0 < 18446744073709551616) ∧ (0 ≤ p.f1 ∧ p.f1 < 65536)) (R : List Int) : peerR (peerL p ++ R) 0 = (p.f0, p.f1, R, 0) := by
  unfold peerR peerL
  rw [List.append_assoc, ru_put 18446744073709551615 p.f0.toNat _ (by omega) (by omega)]
  simp only
  rw [ru_put 65535 p.f1.toNat _ (by omega) (by omega)]
  simp only
  rw [show ((p.f0.toNat : Nat) : Int) = p.f0 by omega, show ((p.f1.toNat : Nat) : Int) = p.f1 by omega]
theorem peer_ok (l : List Int) (hb : Bytes l) (met : Int) (h : (peerR l met).2.2.2 = 0) : met = 0 ∧ l = peerL ⟨(peerR l met).1, (peerR l met).2.1⟩ ++ (peerR l met).2.2.1 := by
  unfold peerR at h ⊢
  simp only at h ⊢
  obtain ⟨h2, n2, _, _, e2, l2⟩ := ru_ok 65535 _ (ru_bytes hb) _ h
  obtain ⟨h1, n1, _, _, e1, l1⟩ := ru_ok 18446744073709551615 l hb met h2
  refine ⟨h1, ?_⟩
  unfold peerL
  simp only
  rw [e1, e2, Int.toNat_natCast, Int.toNat_natCast, List.append_assoc, ← l2, ← l1]
def peersR : Nat → List Int → Int → List S26 × List Int × Int
  | 0, l, met => ([], l, met)
  | n + 1, l, met => (⟨(peerR l met).1, (peerR l met).2.1⟩ :: (peersR n (peerR l met).2.2.1 (peerR l met).2.2.2).1, (peersR n (peerR l met).2.2.1 (peerR l met).2.2.2).2)
theorem lk_tpeersL : ∀ (d i c n : Nat) (acc : List S26) (l : List Int) (met : Int), Bytes l → i + d = n → n ≤ 1000 → acc.length + d ≤ 100000 → Ev (fun k => tpeersL (k + c) k acc (n : Int) (i : Int) l met) (acc ++ (peersR d l met).1, (peersR d l met).2)
  | 0, i, c, n, acc, l, met, hb, hi, hn, ha => by
    refine ev_const fun k => ?_
    rw [tpeersL, if_neg (by omega)]
    simp [peersR]
  | d + 1, i, c, n, acc, l, met, hb, hi, hn, ha => by
    refine ev_succ ?_
    simp only [tpeersL, if_pos (show (i : Int) < (n : Int) by omega)]
    refine ev_bind (ev_shift (ev_shift (lk_tpeer l hb met) c) 1) ?_
    simp only [if_pos (show acc.length < 8796093022208 by omega)]
    have hw : IntKind.u64.wrap ((i : Int) + 1) = ((i + 1 : Nat) : Int) := by rw [wu64_id (by omega) (by omega)]; omega
    rw [hw]
    have ih := lk_tpeersL d (i + 1) (c + 1) n (acc ++ [⟨(peerR l met).1, (peerR l met).2.1⟩]) (peerR l met).2.2.1 (peerR l met).2.2.2 (peer_bytes hb met) (by omega) hn (by simp only [List.length_append, List.length_singleton]; omega)
    have e : (fun k => tpeersL (k + 1 + c) k (acc ++ [⟨(peerR l met).1, (peerR l met).2.1⟩]) (n : Int) ((i + 1 : Nat) : Int) (peerR l met).2.2.1 (peerR l met).2.2.2) = (fun k => tpeersL (k + (c + 1)) k (acc ++ [⟨(peerR l met).1, (peerR l met).2.1⟩]) (n : Int) ((i + 1 : Nat) : Int) (peerR l met).2.2.1 (peerR l met).2.2.2) := by
      funext k
      rw [show k + 1 + c = k + (c + 1) by omega]
    rw [e]
    exact ev_eq ih (by simp [peersR])
theorem peers_bytes : ∀ (n : Nat) (l : List Int) (met : Int), Bytes l → Bytes (peersR n l met).2.1
  | 0, l, met, hb => hb
  | n + 1, l, met, hb => peers_bytes n _ _ (peer_bytes hb met)
theorem peers_len : ∀ (n : Nat) (l : List Int) (met : Int), (peersR n l met).2.1.length ≤ l.length
  | 0, l, met => Nat.le_refl _
  | n + 1, l, met => Nat.le_trans (peers_len n _ _) (peer_len l met)
theorem peers_n : ∀ (n : Nat) (l : List Int) (met : Int), (peersR n l met).1.length = n
  | 0, l, met => rfl
  | n + 1, l, met => by rw [peersR, List.length_cons, peers_n n]
theorem peers_val : ∀ (n : Nat) (l : List Int) (met : Int), Bytes l → ∀ x ∈ (peersR n l met).1, (0 ≤ x.f0 ∧ x.f0 < 18446744073709551616) ∧ (0 ≤ x.f1 ∧ x.f1 < 65536)
  | 0, l, met, hb, x, hx => by cases hx
  | n + 1, l, met, hb, x, hx => by
    rw [peersR] at hx
    rcases List.mem_cons.1 hx with rfl | h
    · exact peer_val l hb met
    · exact peers_val n _ _ (peer_bytes hb met) x h
theorem peers_put : ∀ (ps : List S26) (R : List Int), (∀ x ∈ ps, (0 ≤ x.f0 ∧ x.f0 < 18446744073709551616) ∧ (0 ≤ x.f1 ∧ x.f1 < 65536)) → peersR ps.length (peersL ps ++ R) 0 = (ps, R, 0)
  | [], R, _ => rfl
  | p :: ps, R, h => by
    have hp := peer_put p (h p List.mem_cons_self) (peersL ps ++ R)
    have ih := peers_put ps R (fun x hx => h x (List.mem_cons_of_mem _ hx))
    rw [List.length_cons, peersR, peersL, List.append_assoc, hp]
    simp only
    rw [ih]
theorem peers_ok : ∀ (n : Nat) (l : List Int) (met : Int), Bytes l → (peersR n l met).2.2 = 0 → met = 0 ∧ l = peersL (peersR n l met).1 ++ (peersR n l met).2.1
  | 0, l, met, hb, h => ⟨h, rfl⟩
  | n + 1, l, met, hb, h => by
    rw [peersR] at h ⊢
    simp only at h ⊢
    obtain ⟨h1, h2⟩ := peers_ok n _ _ (peer_bytes hb met) h
    obtain ⟨h3, h4⟩ := peer_ok l hb met h1
    refine ⟨h3, ?_⟩
    rw [peersL, List.append_assoc, ← h2, ← h4]

/-! ### tagged: fields -/
def pairR (l : List Int) (met : Int) : ByteArray × ByteArray × List Int × Int :=
  ((rtL 96 l met).1, (rtL 512 (rtL 96 l met).2.1 (rtL 96 l met).2.2).1, (rtL 512 (rtL 96 l met).2.1 (rtL 96 l met).2.2).2.1, (rtL 512 (rtL 96 l met).2.1 (rtL 96 l met).2.2).2.2)
theorem pair_bytes {l : List Int} (hb : Bytes l) (met : Int) : Bytes (pairR l met).2.2.1 := rt_bytes (rt_bytes hb)
theorem pair_len (l : List Int) (met : Int) : (pairR l met).2.2.1.length ≤ l.length := Nat.le_trans (rt_len _ _ _) (rt_len _ _ _)
theorem pair_val (l : List Int) (hb : Bytes l) (met : Int) : (pairR l met).1.size ≤ 1000 ∧ (pairR l met).2.1.size ≤ 1000 := by
  have h1 := rt_size 96 l hb met (by omega)
  have h2 := rt_size 512 (rtL 96 l met).2.1 (rt_bytes hb) (rtL 96 l met).2.2 (by omega)
  unfold pairR
  simp only
  omega
theorem pair_put (q : S43) (h : q.f0.size ≤ 96 ∧ q.f1.size ≤ 512) (R : List Int) : pairR (pairL q ++ R) 0 = (q.f0, q.f1, R, 0) := by
  unfold pairR pairL
  rw [List.append_assoc, rt_put 96 q.f0 _ (by omega) (by omega)]
  simp only
  rw [rt_put 512 q.f1 _ (by omega) (by omega)]
theorem pair_ok (l : List Int) (hb : Bytes l) (met : Int) (h : (pairR l met).2.2.2 = 0) : met = 0 ∧ l = pairL ⟨(pairR l met).1, (pairR l met).2.1⟩ ++ (pairR l met).2.2.1 := by
  unfold pairR at h ⊢
  simp only at h ⊢
  obtain ⟨h2, _, l2⟩ := rt_ok 512 _ (rt_bytes hb) _ h
  obtain ⟨h1, _, l1⟩ := rt_ok 96 l hb met h2
  refine ⟨h1, ?_⟩
  unfold pairL
  simp only
  rw [List.append_assoc, ← l2, ← l1]
def pairsR : Nat → List Int → Int → List S43 × List Int × Int
  | 0, l, met => ([], l, met)
  | n + 1, l, met => (⟨(pairR l met).1, (pairR l met).2.1⟩ :: (pairsR n (pairR l met).2.2.1 (pairR l met).2.2.2).1, (pairsR n (pairR l met).2.2.1 (pairR l met).2.2.2).2)
theorem lk_tpairsL : ∀ (d i c n : Nat) (acc : List S43) (l : List Int) (met : Int), Bytes l → i + d = n → n ≤ 1000 → acc.length + d ≤ 100000 → Ev (fun k => tpairsL (k + c) k acc (n : Int) (i : Int) l met) (acc ++ (pairsR d l met).1, (pairsR d l met).2)
  | 0, i, c, n, acc, l, met, hb, hi, hn, ha => by
    refine ev_const fun k => ?_
    rw [tpairsL, if_neg (by omega)]
    simp [pairsR]
  | d + 1, i, c, n, acc, l, met, hb, hi, hn, ha => by
    refine ev_succ ?_
    simp only [tpairsL, if_pos (show (i : Int) < (n : Int) by omega)]
    refine ev_bind (ev_shift (ev_shift (lk_rT l hb met 96 (by omega) (by omega)) c) 1) ?_
    refine ev_bind (ev_shift (ev_shift (lk_rT _ (rt_bytes hb) _ 512 (by omega) (by omega)) c) 1) ?_
    simp only [if_pos (show acc.length < 4398046511104 by omega)]
    have hw : IntKind.u64.wrap ((i : Int) + 1) = ((i + 1 : Nat) : Int) := by rw [wu64_id (by omega) (by omega)]; omega
    rw [hw]
    have ih := lk_tpairsL d (i + 1) (c + 1) n (acc ++ [⟨(pairR l met).1, (pairR l met).2.1⟩]) (pairR l met).2.2.1 (pairR l met).2.2.2 (pair_bytes hb met) (by omega) hn (by simp only [List.length_append, List.length_singleton]; omega)
    have e : (fun k => tpairsL (k + 1 + c) k (acc ++ [⟨(pairR l met).1, (pairR l met).2.1⟩]) (n : Int) ((i + 1 : Nat) : Int) (pairR l met).2.2.1 (pairR l met).2.2.2) = (fun k => tpairsL (k + (c + 1)) k (acc ++ [⟨(pairR l met).1, (pairR l met).2.1⟩]) (n : Int) ((i + 1 : Nat) : Int) (pairR l met).2.2.1 (pairR l met).2.2.2) := by
      funext k
      rw [show k + 1 + c = k + (c + 1) by omega]
    rw [← e] at ih
    exact ev_eq ih (by simp [pairsR])
theorem pairs_bytes : ∀ (n : Nat) (l : List Int) (met : Int), Bytes l → Bytes (pairsR n l met).2.1
  | 0, l, met, hb => hb
  | n + 1, l, met, hb => pairs_bytes n _ _ (pair_bytes hb met)
theorem pairs_len : ∀ (n : Nat) (l : List Int) (met : Int), (pairsR n l met).2.1.length ≤ l.length
  | 0, l, met => Nat.le_refl _
  | n + 1, l, met => Nat.le_trans (pairs_len n _ _) (pair_len l met)
theorem pairs_n : ∀ (n : Nat) (l : List Int) (met : Int), (pairsR n l met).1.length = n
  | 0, l, met => rfl
  | n + 1, l, met => by rw [pairsR, List.length_cons, pairs_n n]
theorem pairs_val : ∀ (n : Nat) (l : List Int) (met : Int), Bytes l → ∀ x ∈ (pairsR n l met).1, x.f0.size ≤ 1000 ∧ x.f1.size ≤ 1000
  | 0, l, met, hb, x, hx => by cases hx
  | n + 1, l, met, hb, x, hx => by
    rw [pairsR] at hx
    rcases List.mem_cons.1 hx with rfl | h
    · exact pair_val l hb met
    · exact pairs_val n _ _ (pair_bytes hb met) x h
theorem pairs_put : ∀ (ps : List S43) (R : List Int), (∀ x ∈ ps, x.f0.size ≤ 96 ∧ x.f1.size ≤ 512) → pairsR ps.length (pairsL ps ++ R) 0 = (ps, R, 0)
  | [], R, _ => rfl
  | p :: ps, R, h => by
    have hp := pair_put p (h p List.mem_cons_self) (pairsL ps ++ R)
    have ih := pairs_put ps R (fun x hx => h x (List.mem_cons_of_mem _ hx))
    rw [List.length_cons, pairsR, pairsL, List.append_assoc, hp]
    simp only
    rw [ih]
theorem pairs_ok : ∀ (n : Nat) (l : List Int) (met : Int), Bytes l → (pairsR n l met).2.2 = 0 → met = 0 ∧ l = pairsL (pairsR n l met).1 ++ (pairsR n l met).2.1
  | 0, l, met, hb, h => ⟨h, rfl⟩
  | n + 1, l, met, hb, h => by
    rw [pairsR] at h ⊢
    simp only at h ⊢
    obtain ⟨h1, h2⟩ := pairs_ok n _ _ (pair_bytes hb met) h
    obtain ⟨h3, h4⟩ := pair_ok l hb met h1
    refine ⟨h3, ?_⟩
    rw [pairsL, List.append_assoc, ← h2, ← h4]
def psR (l : List Int) (met : Int) : List S26 × List Int × Int := peersR (ruL 16 l met).1.toNat (ruL 16 l met).2.1 (ruL 16 l met).2.2
def qsR (l : List Int) (met : Int) : List S43 × List Int × Int := pairsR (ruL 8 l met).1.toNat (ruL 8 l met).2.1 (ruL 8 l met).2.2
theorem lk_tpeers (l : List Int) (hb : Bytes l) (met : Int) : Ev (fun k => tpeers k l met) (psR l met) := by
  have hv := ru_val 16 l hb met (by omega)
  unfold tpeers
  refine ev_bind (lk_rU l hb met 16) ?_
  have := lk_tpeersL (ruL 16 l met).1.toNat 0 0 (ruL 16 l met).1.toNat [] (ruL 16 l met).2.1 (ruL 16 l met).2.2 (ru_bytes hb) (by omega) (by omega) (by simp; omega)
  rw [show (((ruL 16 l met).1.toNat : Nat) : Int) = (ruL 16 l met).1 by omega] at this
  exact this
theorem lk_tpairs (l : List Int) (hb : Bytes l) (met : Int) : Ev (fun k => tpairs k l met) (qsR l met) := by
  have hv := ru_val 8 l hb met (by omega)
  unfold tpairs
  refine ev_bind (lk_rU l hb met 8) ?_
  have := lk_tpairsL (ruL 8 l met).1.toNat 0 0 (ruL 8 l met).1.toNat [] (ruL 8 l met).2.1 (ruL 8 l met).2.2 (ru_bytes hb) (by omega) (by omega) (by simp; omega)
  rw [show (((ruL 8 l met).1.toNat : Nat) : Int) = (ruL 8 l met).1 by omega] at this
  exact this
def fR (t : Int) (m : Mg) (l : List Int) (met : Int) : Bool × Mg × List Int × Int :=
  if t = 1 then (decide ((ruL 4294967295 l met).1 = 0), { m with r := (ruL 4294967295 l met).1 }, (ruL 4294967295 l met).2) else
  if t = 2 then (decide ((ruL 255 l met).1 = 0), { m with c := (ruL 255 l met).1 }, (ruL 255 l met).2) else
  if t = 3 then (false, { m with h := true }, l, met) else
  if t = 4 then (decide ((ruL 18446744073709551615 l met).1 = 0), { m with i := (ruL 18446744073709551615 l met).1 }, (ruL 18446744073709551615 l met).2) else
  if t = 5 then ((rtL 96 l met).1.toList.isEmpty, { m with key := (rtL 96 l met).1 }, (rtL 96 l met).2) else
  if t = 6 then ((rtL 512 l met).1.toList.isEmpty, { m with val := (rtL 512 l met).1 }, (rtL 512 l met).2) else
  if t = 7 then (decide ((peerR l met).1 = 0) && decide ((peerR l met).2.1 = 0), { m with p := (peerR l met).1, a := (peerR l met).2.1 }, (peerR l met).2.2) else
  if t = 8 then (((psR l met).1.length : Int) == 0, { m with ps := (psR l met).1 }, (psR l met).2) else
  if t = 9 then (((qsR l met).1.length : Int) == 0, { m with qs := (qsR l met).1 }, (qsR l met).2) else
  (true, m, l, met)
theorem lk_tfield (t : Int) (m : Mg) (l : List Int) (hb : Bytes l) (met : Int) : Ev (fun k => tfield k t m l met) (fR t m l met) := by
  unfold tfield fR
  by_cases c1 : t = 1
  · simp only [if_pos c1]
    have hv := ru_val 4294967295 l hb met (by omega)
    refine ev_bind (lk_rU l hb met _) ?_
    have hw : IntKind.u32.wrap (ruL 4294967295 l met).1 = (ruL 4294967295 l met).1 := by simp [IntKind.wrap, IntKind.bits, IntKind.signed]; omega
    rw [hw]
    exact ev_some _
  simp only [if_neg c1]
  by_cases c2 : t = 2
  · simp only [if_pos c2]
    have hv := ru_val 255 l hb met (by omega)
    refine ev_bind (lk_rU l hb met _) ?_
    have hw : IntKind.u8.wrap (ruL 255 l met).1 = (ruL 255 l met).1 := by simp [IntKind.wrap, IntKind.bits, IntKind.signed]; omega
    rw [hw]
    exact ev_some _
  simp only [if_neg c2]
  by_cases c3 : t = 3
  · simp only [if_pos c3]; exact ev_some _
  simp only [if_neg c3]
  by_cases c4 : t = 4
  · simp only [if_pos c4]; exact ev_bind (lk_rU l hb met _) (ev_some _)
  simp only [if_neg c4]
  by_cases c5 : t = 5
  · simp only [if_pos c5]; exact ev_bind (lk_rT l hb met _ (by omega) (by omega)) (ev_some _)
  simp only [if_neg c5]
  by_cases c6 : t = 6
  · simp only [if_pos c6]; exact ev_bind (lk_rT l hb met _ (by omega) (by omega)) (ev_some _)
  simp only [if_neg c6]
  by_cases c7 : t = 7
  · simp only [if_pos c7]; exact ev_bind (lk_tpeer l hb met) (ev_some _)
  simp only [if_neg c7]
  by_cases c8 : t = 8
  · simp only [if_pos c8]; exact ev_bind (lk_tpeers l hb met) (ev_some _)
  simp only [if_neg c8]
  by_cases c9 : t = 9
  · simp only [if_pos c9]; exact ev_bind (lk_tpairs l hb met) (ev_some _)
  simp only [if_neg c9]
  exact ev_some _
theorem f_rest (t : Int) (m : Mg) (l : List Int) (hb : Bytes l) (met : Int) : (fR t m l met).2.2.1.length ≤ l.length ∧ Bytes (fR t m l met).2.2.1 := by
  unfold fR
  split
  · exact ⟨ru_len _ _ _, ru_bytes hb⟩
  split
  · exact ⟨ru_len _ _ _, ru_bytes hb⟩
  split
  · exact ⟨Nat.le_refl _, hb⟩
  split
  · exact ⟨ru_len _ _ _, ru_bytes hb⟩
  split
  · exact ⟨rt_len _ _ _, rt_bytes hb⟩
  split
  · exact ⟨rt_len _ _ _, rt_bytes hb⟩
  split
  · exact ⟨peer_len _ _, peer_bytes hb _⟩
  split
  · exact ⟨Nat.le_trans (peers_len _ _ _) (ru_len _ _ _), peers_bytes _ _ _ (ru_bytes hb)⟩
  split
  · exact ⟨Nat.le_trans (pairs_len _ _ _) (ru_len _ _ _), pairs_bytes _ _ _ (ru_bytes hb)⟩
  exact ⟨Nat.le_refl _, hb⟩
theorem f_wf (t : Int) (m : Mg) (hm : MgW m) (l : List Int) (hb : Bytes l) (met : Int) : MgW (fR t m l met).2.1 ∧ (fR t m l met).2.1.k = m.k := by
  have z : (0 : Int) ≤ 4294967295 := by omega
  have v1 := ru_val 4294967295 l hb met (by omega)
  have v2 := ru_val 255 l hb met (by omega)
  have v4 := ru_val 18446744073709551615 l hb met (by omega)
  have v5 := rt_size 96 l hb met (by omega)
  have v6 := rt_size 512 l hb met (by omega)
  have v7 := peer_val l hb met
  have v8 := ru_val 16 l hb met (by omega)
  have v9 := ru_val 8 l hb met (by omega)
  unfold fR
  split
  · exact ⟨{ hm with r := ⟨v1.1, by have := v1.2.1; simp only; omega⟩ }, rfl⟩
  split
  · exact ⟨{ hm with c := ⟨v2.1, by have := v2.2.1; simp only; omega⟩ }, rfl⟩
  split
  · exact ⟨{ hm with }, rfl⟩
  split
  · exact ⟨{ hm with i := ⟨v4.1, v4.2.2⟩ }, rfl⟩
  split
  · exact ⟨{ hm with key := by simp only; omega }, rfl⟩
  split
  · exact ⟨{ hm with val := by simp only; omega }, rfl⟩
  split
  · exact ⟨{ hm with p := v7.1, a := v7.2 }, rfl⟩
  split
  · exact ⟨{ hm with psl := by simp only [psR, peers_n]; omega, ps := peers_val _ _ _ (ru_bytes hb) }, rfl⟩
  split
  · exact ⟨{ hm with qsl := by simp only [qsR, pairs_n]; omega, qs := pairs_val _ _ _ (ru_bytes hb) }, rfl⟩
  exact ⟨hm, rfl⟩

/-! ### tagged: reading what was written, writing what was read -/
theorem f_ok (t : Int) (m : Mg) (l : List Int) (hb : Bytes l) (met : Int) (h : (fR t m l met).2.2.2 = 0) (hx : (fR t m l met).1 = false) :
    met = 0 ∧ (1 ≤ t ∧ t ≤ 9) ∧ (∃ G, l = G ++ (fR t m l met).2.2.1 ∧ fld t.toNat (fR t m l met).2.1 = putL t.toNat ++ G) ∧ ∀ s, s ≠ t.toNat → fld s (fR t m l met).2.1 = fld s m := by
  unfold fR at h hx ⊢
  by_cases c1 : t = 1
  · subst c1
    simp only [if_true] at h hx ⊢
    obtain ⟨h1, n, _, _, e, hl⟩ := ru_ok _ l hb met h
    refine ⟨h1, by omega, ⟨putL n, hl, ?_⟩, fun s hs => ?_⟩
    · show fNum 1 _ = _
      unfold fNum
      rw [if_neg (of_decide_eq_false hx), e]; rfl
    · have hs : ¬ s = 1 := hs
      simp only [fld, if_neg hs]
  simp only [if_neg c1] at h hx ⊢
  by_cases c2 : t = 2
  · subst c2
    simp only [if_true] at h hx ⊢
    obtain ⟨h1, n, _, _, e, hl⟩ := ru_ok _ l hb met h
    refine ⟨h1, by omega, ⟨putL n, hl, ?_⟩, fun s hs => ?_⟩
    · show fNum 2 _ = _
      unfold fNum
      rw [if_neg (of_decide_eq_false hx), e]; rfl
    · have hs : ¬ s = 2 := hs
      simp only [fld, if_neg hs]
  simp only [if_neg c2] at h hx ⊢
  by_cases c3 : t = 3
  · subst c3
    simp only [if_true] at h hx ⊢
    refine ⟨h, by omega, ⟨[], rfl, ?_⟩, fun s hs => ?_⟩
    · show (if true = true then putL 3 else []) = putL 3 ++ []
      simp
    · have hs : ¬ s = 3 := hs
      simp only [fld, if_neg hs]
  simp only [if_neg c3] at h hx ⊢
  by_cases c4 : t = 4
  · subst c4
    simp only [if_true] at h hx ⊢
    obtain ⟨h1, n, _, _, e, hl⟩ := ru_ok _ l hb met h
    refine ⟨h1, by omega, ⟨putL n, hl, ?_⟩, fun s hs => ?_⟩
    · show fNum 4 _ = _
      unfold fNum
      rw [if_neg (of_decide_eq_false hx), e]; rfl
    · have hs : ¬ s = 4 := hs
      simp only [fld, if_neg hs]
  simp only [if_neg c4] at h hx ⊢
  by_cases c5 : t = 5
  · subst c5
    simp only [if_true] at h hx ⊢
    obtain ⟨h1, _, hl⟩ := rt_ok _ l hb met h
    refine ⟨h1, by omega, ⟨_, hl, ?_⟩, fun s hs => ?_⟩
    · show fText 5 _ = _
      unfold fText
      rw [if_neg (fun e => by rw [(toList_size _).2 e] at hx; cases hx)]; rfl
    · have hs : ¬ s = 5 := hs
      simp only [fld, if_neg hs]
  simp only [if_neg c5] at h hx ⊢
  by_cases c6 : t = 6
  · subst c6
    simp only [if_true] at h hx ⊢
    obtain ⟨h1, _, hl⟩ := rt_ok _ l hb met h
    refine ⟨h1, by omega, ⟨_, hl, ?_⟩, fun s hs => ?_⟩
    · show fText 6 _ = _
      unfold fText
      rw [if_neg (fun e => by rw [(toList_size _).2 e] at hx; cases hx)]; rfl
    · have hs : ¬ s = 6 := hs
      simp only [fld, if_neg hs]
  simp only [if_neg c6] at h hx ⊢
  by_cases c7 : t = 7
  · subst c7
    simp only [if_true] at h hx ⊢
    obtain ⟨h1, hl⟩ := peer_ok l hb met h
    refine ⟨h1, by omega, ⟨_, hl, ?_⟩, fun s hs => ?_⟩
    · show (if (peerR l met).1 = 0 ∧ (peerR l met).2.1 = 0 then [] else _) = _
      rw [if_neg (fun e => by rw [e.1, e.2] at hx; cases hx)]; rfl
    · have hs : ¬ s = 7 := hs
      simp only [fld, if_neg hs]
  simp only [if_neg c7] at h hx ⊢
  by_cases c8 : t = 8
  · subst c8
    simp only [if_true] at h hx ⊢
    obtain ⟨h2, hl2⟩ := peers_ok _ _ _ (ru_bytes hb) h
    obtain ⟨h1, n, _, _, e, hl⟩ := ru_ok 16 l hb met h2
    have hn := peers_n (ruL 16 l met).1.toNat (ruL 16 l met).2.1 (ruL 16 l met).2.2
    refine ⟨h1, by omega, ⟨putL n ++ peersL (psR l met).1, ?_, ?_⟩, fun s hs => ?_⟩
    · rw [List.append_assoc]
      unfold psR
      rw [← hl2, ← hl]
    · show (if (psR l met).1.length = 0 then [] else putL 8 ++ (putL (psR l met).1.length ++ peersL (psR l met).1)) = _
      have hz : (psR l met).1.length = n := by unfold psR; rw [hn, e]; rfl
      rw [if_neg (fun e => by rw [e] at hx; cases hx), hz]; rfl
    · have hs : ¬ s = 8 := hs
      simp only [fld, if_neg hs]
  simp only [if_neg c8] at h hx ⊢
  by_cases c9 : t = 9
  · subst c9
    simp only [if_true] at h hx ⊢
    obtain ⟨h2, hl2⟩ := pairs_ok _ _ _ (ru_bytes hb) h
    obtain ⟨h1, n, _, _, e, hl⟩ := ru_ok 8 l hb met h2
    have hn := pairs_n (ruL 8 l met).1.toNat (ruL 8 l met).2.1 (ruL 8 l met).2.2
    refine ⟨h1, by omega, ⟨putL n ++ pairsL (qsR l met).1, ?_, ?_⟩, fun s hs => ?_⟩
    · rw [List.append_assoc]
      unfold qsR
      rw [← hl2, ← hl]
    · show (if (qsR l met).1.length = 0 then [] else putL 9 ++ (putL (qsR l met).1.length ++ pairsL (qsR l met).1)) = _
      have hz : (qsR l met).1.length = n := by unfold qsR; rw [hn, e]; rfl
      rw [if_neg (fun e => by rw [e] at hx; cases hx), hz]; rfl
    · have hs : ¬ s = 9 := hs
      simp only [fld, if_neg hs]
  simp only [if_neg c9] at hx
  cases hx
theorem f_late (t : Int) (m : Mg) (l : List Int) (hb : Bytes l) (met : Int) (h : met ≠ 0) : (fR t m l met).2.2.2 ≠ 0 := by
  have pe : (peerR l met).2.2.2 ≠ 0 := fun e => h (peer_ok l hb met e).1
  unfold fR
  split
  · rw [ru_met _ _ h]; exact h
  split
  · rw [ru_met _ _ h]; exact h
  split
  · exact h
  split
  · rw [ru_met _ _ h]; exact h
  split
  · rw [rt_met _ _ h]; exact h
  split
  · rw [rt_met _ _ h]; exact h
  split
  · exact pe
  split
  · exact fun e => by
      have := (peers_ok _ _ _ (ru_bytes hb) e).1
      rw [ru_met _ _ h] at this
      exact h this
  split
  · exact fun e => by
      have := (pairs_ok _ _ _ (ru_bytes hb) e).1
      rw [ru_met _ _ h] at this
      exact h this
  exact h
theorem encTo_stop {m : Mg} (j : Nat) (h : ∀ s, j < s → fld s m = []) : ∀ n, j ≤ n → encTo n m = encTo j m
  | 0, hn => by rw [show j = 0 by omega]
  | n + 1, hn => by
    by_cases e : j = n + 1
    · rw [e]
    · rw [encTo, h (n + 1) (by omega), List.append_nil, encTo_stop j h n (by omega)]
theorem encTo_eq {m m' : Mg} (hk : m'.k = m.k) : ∀ n, (∀ s, s ≤ n → fld s m' = fld s m) → encTo n m' = encTo n m
  | 0, h => by rw [encTo, encTo, hk]
  | n + 1, h => by rw [encTo, encTo, h (n + 1) (Nat.le_refl _), encTo_eq hk n (fun s hs => h s (by omega))]
theorem enc_step {m m' : Mg} (t : Nat) (ht : 1 ≤ t ∧ t ≤ 9) (hk : m'.k = m.k) (hz : ∀ s, t ≤ s → fld s m = []) (he : ∀ s, s ≠ t → fld s m' = fld s m) : encTo 9 m' = encTo 9 m ++ fld t m' := by
  obtain ⟨j, rfl⟩ : ∃ j, t = j + 1 := ⟨t - 1, by omega⟩
  rw [encTo_stop (m := m') (j + 1) (fun s hs => by rw [he s (by omega)]; exact hz s (by omega)) 9 (by omega)]
  rw [encTo_stop (m := m) j (fun s hs => hz s (by omega)) 9 (by omega)]
  rw [encTo, encTo_eq hk j (fun s hs => he s (by omega))]
/-- the loop of Dec, as a plain function -/
def decR : Nat → Int → Mg → List Int → Int → Mg × List Int × Int
  | 0, _, m, l, met => (m, l, met)
  | n + 1, last, m, l, met => if met = 0 ∧ l ≠ [] then
      (if (ruL 18446744073709551615 l met).1 ≤ last then decR n (ruL 18446744073709551615 l met).1 m (ruL 18446744073709551615 l met).2.1 (if (ruL 18446744073709551615 l met).2.2 = 0 then 3 else (ruL 18446744073709551615 l met).2.2)
      else decR n (ruL 18446744073709551615 l met).1 (fR (ruL 18446744073709551615 l met).1 m (ruL 18446744073709551615 l met).2.1 (ruL 18446744073709551615 l met).2.2).2.1 (fR (ruL 18446744073709551615 l met).1 m (ruL 18446744073709551615 l met).2.1 (ruL 18446744073709551615 l met).2.2).2.2.1 (rFailed (fR (ruL 18446744073709551615 l met).1 m (ruL 18446744073709551615 l met).2.1 (ruL 18446744073709551615 l met).2.2).1 3 (fR (ruL 18446744073709551615 l met).1 m (ruL 18446744073709551615 l met).2.1 (ruL 18446744073709551615 l met).2.2).2.2.2))
    else (m, l, met)
theorem rF_ne {b : Bool} {c met : Int} (hc : c ≠ 0) (h : met ≠ 0) : rFailed b c met ≠ 0 := by
  unfold rFailed
  rw [if_neg h]
  split <;> exact h
theorem rF_zero {b : Bool} {c met : Int} (hc : c ≠ 0) (h : rFailed b c met = 0) : b = false ∧ met = 0 := by
  unfold rFailed at h
  cases b with
  | true =>
    simp only [if_true] at h
    split at h
    · exact absurd h hc
    · rename_i h2; exact absurd h h2
  | false => exact ⟨rfl, by simpa using h⟩
theorem lk_tdecL : ∀ (n c : Nat) (last : Int) (m : Mg) (l : List Int) (met : Int), Bytes l → (met = 0 → l.length < n) → Ev (fun k => tdecL (k + c) k last m l met) (decR n last m l met)
  | 0, c, last, m, l, met, hb, hn => by
    refine ev_const fun k => ?_
    rw [tdecL, if_neg (by rw [if_neg (fun e => absurd (hn e) (by omega))]; omega), decR]
  | n + 1, c, last, m, l, met, hb, hn => by
    by_cases h : met = 0 ∧ l ≠ []
    case neg =>
      refine ev_const fun k => ?_
      rw [tdecL, decR, if_neg h, if_neg ?_]
      by_cases hm : met = 0
      · rw [if_pos hm]
        have : l = [] := Classical.not_not.mp (fun e => h ⟨hm, e⟩)
        rw [this]; simp
      · rw [if_neg hm]; omega
    obtain ⟨hm, hl⟩ := h
    have hpos : 0 < l.length := List.length_pos_iff.2 hl
    refine ev_succ ?_
    rw [decR, if_pos ⟨hm, hl⟩]
    simp only [tdecL, if_pos (show 0 < (if met = 0 then (l.length : Int) else 0) by rw [if_pos hm]; omega)]
    have hls := ru_less 18446744073709551615 l hb met
    have hle := ru_len 18446744073709551615 l met
    have hn := hn hm
    have hcomm : ∀ k : Nat, k + 1 + c = k + (c + 1) := fun k => by omega
    refine ev_bind (ev_shift (ev_shift (lk_rU l hb met _) c) 1) ?_
    by_cases c2 : (ruL 18446744073709551615 l met).1 ≤ last
    · simp only [if_pos c2, hcomm]
      refine lk_tdecL n (c + 1) _ m _ _ (ru_bytes hb) (fun e => ?_)
      exfalso
      split at e
      · cases e
      · rename_i h2; exact h2 e
    · simp only [if_neg c2]
      have hfr := f_rest (ruL 18446744073709551615 l met).1 m (ruL 18446744073709551615 l met).2.1 (ru_bytes hb) (ruL 18446744073709551615 l met).2.2
      refine ev_bind (ev_shift (ev_shift (lk_tfield _ m _ (ru_bytes hb) _) c) 1) ?_
      simp only [hcomm]
      refine lk_tdecL n (c + 1) _ _ _ _ hfr.2 (fun e => ?_)
      have e2 := (rF_zero (by decide) e).2
      have e3 : (ruL 18446744073709551615 l met).2.2 = 0 := Classical.byContradiction fun h => f_late _ m _ (ru_bytes hb) _ h e2
      have := hls e3
      have := hfr.1
      omega
theorem dec_met (n : Nat) (last : Int) (m : Mg) (l : List Int) {met : Int} (h : met ≠ 0) : decR n last m l met = (m, l, met) := by
  cases n with
  | zero => rfl
  | succ n => rw [decR, if_neg (fun e => h e.1)]
theorem dec_ok : ∀ (n : Nat) (last : Int) (m : Mg) (l : List Int) (met : Int), Bytes l → (met = 0 → l.length < n) → 0 ≤ last → (∀ s : Nat, last < (s : Int) → fld s m = []) → MgW m → (decR n last m l met).2.2 = 0 →
    met = 0 ∧ encTo 9 (decR n last m l met).1 = encTo 9 m ++ l ∧ MgW (decR n last m l met).1 ∧ (decR n last m l met).1.k = m.k
  | 0, last, m, l, met, hb, hn, h0, hz, hw, h => absurd (hn h) (by omega)
  | n + 1, last, m, l, met, hb, hn, h0, hz, hw, h => by
    by_cases h9 : met = 0 ∧ l ≠ []
    case neg =>
      rw [decR, if_neg h9] at h ⊢
      have hm : met = 0 := h
      have : l = [] := Classical.not_not.mp (fun e => h9 ⟨hm, e⟩)
      subst this
      exact ⟨hm, by simp, hw, rfl⟩
    obtain ⟨hm, hl⟩ := h9
    rw [decR, if_pos ⟨hm, hl⟩] at h ⊢
    by_cases c2 : (ruL 18446744073709551615 l met).1 ≤ last
    · exfalso
      rw [if_pos c2] at h
      have hx : (if (ruL 18446744073709551615 l met).2.2 = 0 then (3 : Int) else (ruL 18446744073709551615 l met).2.2) ≠ 0 := by
        split
        · decide
        · rename_i h2; exact h2
      rw [dec_met _ _ _ _ hx] at h
      exact hx h
    rw [if_neg c2] at h ⊢
    have hls := ru_less 18446744073709551615 l hb met
    have hle := ru_len 18446744073709551615 l met
    have hn := hn hm
    have hfr := f_rest (ruL 18446744073709551615 l met).1 m (ruL 18446744073709551615 l met).2.1 (ru_bytes hb) (ruL 18446744073709551615 l met).2.2
    have hfw := f_wf (ruL 18446744073709551615 l met).1 m hw (ruL 18446744073709551615 l met).2.1 (ru_bytes hb) (ruL 18446744073709551615 l met).2.2
    by_cases hmet : rFailed (fR (ruL 18446744073709551615 l met).1 m (ruL 18446744073709551615 l met).2.1 (ruL 18446744073709551615 l met).2.2).1 3 (fR (ruL 18446744073709551615 l met).1 m (ruL 18446744073709551615 l met).2.1 (ruL 18446744073709551615 l met).2.2).2.2.2 = 0
    case neg => rw [dec_met _ _ _ _ hmet] at h; exact absurd h hmet
    obtain ⟨e1, e2⟩ := rF_zero (by decide) hmet
    obtain ⟨e3, ht, ⟨G, hG, hF⟩, hS⟩ := f_ok _ m _ (ru_bytes hb) _ e2 e1
    obtain ⟨_, t, _, _, et, hlt⟩ := ru_ok 18446744073709551615 l hb met e3
    have hless := hls e3
    have tn : (ruL 18446744073709551615 l met).1.toNat = t := by rw [et]; rfl
    rw [tn] at hF hS
    obtain ⟨_, i2, i3, i4⟩ := dec_ok n _ _ _ _ hfr.2 (fun _ => by have := hfr.1; omega) (show 0 ≤ (ruL 18446744073709551615 l met).1 by omega) (fun s hs => by rw [hS s (by omega)]; exact hz s (by omega)) hfw.1 h
    refine ⟨hm, ?_, i3, i4.trans hfw.2⟩
    rw [i2, enc_step t (by omega) hfw.2 (fun s hs => hz s (by omega)) hS, hF, List.append_assoc, List.append_assoc, ← hG, ← hlt]

/-! ### tagged: what may be; Enc and Dec -/
theorem lk_LargeW (m0 : Int) (m1 : Int) (m2 : Int) (m3 : Bool) (m4 : Int) (m5 : ByteArray) (m6 : ByteArray) (m7 : Int) (m8 : Int) (m9 : List S26) (m10 : List S43) (h : Ev (fun k => annuletlaw08_Large.f k m0 m1 m2 m3 m4 m5 m6 m7 m8 m9 m10) false) : m5.size ≤ 300 ∧ m6.size ≤ 700 ∧ ∀ x ∈ m10, x.f0.size ≤ 300 ∧ x.f1.size ≤ 700 := by
  have jt : Ev (fun k => annuletlaw08_Large.j0 k true m0 m1 m2 m3 m4 m5 m6 m7 m8 m9 m10) true := ev_const fun k => by rw [annuletlaw08_Large.j0, if_pos rfl]
  have loop : m10.length ≤ 20 → ∀ (d i : Nat), i + d = m10.length → Ev (fun k => annuletlaw08_Large.l0 k (i : Int) m0 m1 m2 m3 m4 m5 m6 m7 m8 m9 m10) false → ∀ j, i ≤ j → (hj : j < m10.length) → (m10[j]).f0.size ≤ 300 ∧ (m10[j]).f1.size ≤ 700 := by
    intro hl d
    induction d with
    | zero => intro i hi _ j h1 h2; omega
    | succ d ih =>
      intro i hi hE j h1 h2
      by_cases c1 : (((rd_T43 m10 (i : Int)).f0).size : Int) > 300
      · have ht : Ev (fun k => annuletlaw08_Large.l0 k (i : Int) m0 m1 m2 m3 m4 m5 m6 m7 m8 m9 m10) true := ev_const fun k => by rw [annuletlaw08_Large.l0, if_pos (by omega), if_pos (by omega), if_pos c1]
        exact absurd (ev_uniq ht hE) (by decide)
      by_cases c2 : (((rd_T43 m10 (i : Int)).f1).size : Int) > 700
      · have ht : Ev (fun k => annuletlaw08_Large.l0 k (i : Int) m0 m1 m2 m3 m4 m5 m6 m7 m8 m9 m10) true := ev_const fun k => by rw [annuletlaw08_Large.l0, if_pos (by omega), if_pos (by omega), if_neg c1, if_pos c2]
        exact absurd (ev_uniq ht hE) (by decide)
      have e : rd_T43 m10 (i : Int) = m10[i]'(by omega) := by simp [rd_T43, List.getD, show i < m10.length by omega]
      by_cases hj : j = i
      · subst hj; rw [e] at c1 c2; omega
      refine ih (i + 1) (by omega) ?_ j (by omega) h2
      obtain ⟨K, hK⟩ := hE
      refine ⟨K, fun k hk => ?_⟩
      have hq := hK (k + 1) (by omega)
      simp only [annuletlaw08_Large.l0, if_pos (show (i : Int) < (m10.length : Int) by omega), if_pos (show (0 : Int) ≤ (i : Int) by omega), if_neg c1, if_neg c2] at hq
      rw [w64 (by omega) (by omega)] at hq
      exact hq
  unfold annuletlaw08_Large.f at h
  by_cases c1 : (m5.size : Int) > 300
  · simp only [if_pos c1] at h; exact absurd (ev_uniq jt h) (by decide)
  by_cases c2 : (m6.size : Int) > 700
  · simp only [if_neg c1, if_pos c2] at h; exact absurd (ev_uniq jt h) (by decide)
  by_cases c3 : (m9.length : Int) > 40
  · simp only [if_neg c1, if_neg c2, if_pos c3] at h; exact absurd (ev_uniq jt h) (by decide)
  simp only [if_neg c1, if_neg c2, if_neg c3] at h
  by_cases c4 : (m10.length : Int) > 20
  · simp only [decide_eq_true c4] at h; exact absurd (ev_uniq jt h) (by decide)
  simp only [decide_eq_false c4] at h
  obtain ⟨K, hK⟩ := h
  have hL : Ev (fun k => annuletlaw08_Large.l0 k ((0 : Nat) : Int) m0 m1 m2 m3 m4 m5 m6 m7 m8 m9 m10) false := ⟨K, fun k hk => by
    have hq := hK (k + 1) (by omega)
    simp only [annuletlaw08_Large.j0, Bool.false_eq_true, if_false] at hq
    exact hq⟩
  refine ⟨by omega, by omega, ?_⟩
  intro x hx
  obtain ⟨j, hj, rfl⟩ := List.getElem_of_mem hx
  exact loop (by omega) m10.length 0 (by omega) hL j (by omega) hj
structure MgD (m : Mg) : Prop where
  w : MgW m
  key : m.key.size ≤ 96
  val : m.val.size ≤ 512
  psl : m.ps.length ≤ 16
  qsl : m.qs.length ≤ 8
  qs : ∀ x ∈ m.qs, x.f0.size ≤ 96 ∧ x.f1.size ≤ 512
theorem idxO_neg {α : Type} (f : α → Option Bool) : ∀ (l : List α) (i j : Int), 0 ≤ i → idxO f l i = some j → j < 0 → ∀ x ∈ l, f x = some false
  | [], i, j, h0, h, hj, x, hx => by cases hx
  | y :: l, i, j, h0, h, hj, x, hx => by
    rw [idxO] at h
    obtain ⟨b, hb, h⟩ := Option.bind_eq_some_iff.mp h
    cases b with
    | true =>
      simp only [if_true] at h
      have := Option.some.inj h
      omega
    | false =>
      simp only [Bool.false_eq_true, if_false] at h
      rcases List.mem_cons.1 hx with rfl | hx
      · exact hb
      · exact idxO_neg f l (i + 1) j (by omega) h hj x hx
theorem key_size {s : ByteArray} (h : msg_Key.f s = some true) : s.size ≤ 96 := by
  unfold msg_Key.f at h
  split at h
  · cases h
  · split at h
    · rename_i h2; omega
    · cases h
theorem same_key {k : Nat} {m n : MsgT} (h : msg_Same.f k m.1 m.2.1 m.2.2.1 m.2.2.2.1 m.2.2.2.2.1 m.2.2.2.2.2.1 m.2.2.2.2.2.2.1 m.2.2.2.2.2.2.2.1 m.2.2.2.2.2.2.2.2.1 m.2.2.2.2.2.2.2.2.2.1 m.2.2.2.2.2.2.2.2.2.2 n.1 n.2.1 n.2.2.1 n.2.2.2.1 n.2.2.2.2.1 n.2.2.2.2.2.1 n.2.2.2.2.2.2.1 n.2.2.2.2.2.2.2.1 n.2.2.2.2.2.2.2.2.1 n.2.2.2.2.2.2.2.2.2.1 n.2.2.2.2.2.2.2.2.2.2 = some true) : m.2.2.2.2.2.1.toList = n.2.2.2.2.2.1.toList := by
  refine Classical.byContradiction fun hc => ?_
  unfold msg_Same.f at h
  simp only [if_neg hc] at h
  repeat' (first | (cases h; done) | (split at h))
abbrev mT (m : Mg) : MsgT := (m.k, m.r, m.c, m.h, m.i, m.key, m.val, m.p, m.a, m.ps, m.qs)
theorem right_tot {m : Mg} (h : MgW m) : ∃ r, Ev (fun k => mgRight k m) r := by
  have h1 := h.psl
  have h2 := h.qsl
  obtain ⟨c, hc, _⟩ := lk_Same (mT m) (bareOf (mT m)) (by show m.ps.length < _; omega) (by show m.qs.length < _; omega)
  obtain ⟨r, hr, _⟩ := lk_Right (mT m) (by show m.ps.length < _; omega) (by show m.qs.length < _; omega) c hc
  exact ⟨r, hr⟩
theorem right0 {m : Mg} (hw : MgW m) (h : Ev (fun k => mgRight k m) 0) : MgD m ∧ (1 ≤ m.k ∧ m.k ≤ 12) ∧ ¬ (kA m.k).f0.toList = ([63] : List UInt8) := by
  obtain ⟨K, hK⟩ := h
  have h0 := hK K (Nat.le_refl _)
  unfold mgRight msg_Right.f at h0
  have l9 := hw.psl
  have l10 := hw.qsl
  rw [lk_msg_fields, lk_msg_Name, lk_Bare (mT m) (by show m.ps.length < _; omega) (by show m.qs.length < _; omega)] at h0
  simp only [Option.bind_some] at h0
  by_cases hn : (kA m.k).f0.toList = ([63] : List UInt8)
  · rw [if_pos hn] at h0; cases h0
  rw [if_neg hn] at h0
  obtain ⟨t1, h1, h0⟩ := Option.bind_eq_some_iff.mp h0
  cases t1 with
  | false => cases h0
  | true =>
  simp only [if_true] at h0
  obtain ⟨t2, h2, h0⟩ := Option.bind_eq_some_iff.mp h0
  cases t2 with
  | false => cases h0
  | true =>
  simp only [if_true] at h0
  obtain ⟨t3, h3, h0⟩ := Option.bind_eq_some_iff.mp h0
  cases t3 with
  | true => cases h0
  | false =>
  have hk := same_key (m := mT m) (n := bareOf (mT m)) h1
  unfold msg_long.f api_Pair_67.f at h3
  by_cases a1 : (m.val.size : Int) > 512
  · rw [if_pos a1] at h3; cases h3
  by_cases a2 : (m.ps.length : Int) > 16
  · rw [if_neg a1, if_pos a2] at h3; cases h3
  by_cases a3 : (m.qs.length : Int) > 8
  · rw [if_neg a1, if_neg a2, if_pos a3] at h3; cases h3
  rw [if_neg a1, if_neg a2, if_neg a3, if_neg (show ¬ (69 : Nat) = 68 by decide), if_pos rfl] at h3
  obtain ⟨b3, h3, e3⟩ := Option.bind_eq_some_iff.mp h3
  obtain ⟨j3, h3, e4⟩ := Option.bind_eq_some_iff.mp h3
  have j3n : j3 < 0 := by
    have := Option.some.inj e3
    subst this
    have := of_decide_eq_false (Option.some.inj e4)
    omega
  have hv := idxO_neg _ _ _ _ (by omega) h3 j3n
  have fin : ∀ b2 : Bool, api_Pair_67.f m.qs 68 = some b2 → b2 = false → ∀ x ∈ m.qs, x.f0.size ≤ 96 := by
    intro b2 hb he x hx
    subst he
    unfold api_Pair_67.f at hb
    rw [if_pos rfl] at hb
    obtain ⟨j2, h4, e5⟩ := Option.bind_eq_some_iff.mp hb
    have j2n : j2 < 0 := by have := of_decide_eq_false (Option.some.inj e5); omega
    have := idxO_neg _ _ _ _ (by omega) h4 j2n x hx
    unfold msg_text_1.f at this
    obtain ⟨b, hb, e6⟩ := Option.bind_eq_some_iff.mp this
    cases b with
    | false => cases e6
    | true => exact key_size hb
  have done : m.key.size ≤ 96 → (∀ x ∈ m.qs, x.f0.size ≤ 96) → MgD m ∧ (1 ≤ m.k ∧ m.k ≤ 12) ∧ ¬ (kA m.k).f0.toList = ([63] : List UInt8) := by
    intro u1 u2
    refine ⟨⟨hw, u1, by omega, by omega, by omega, fun x hx => ⟨u2 x hx, ?_⟩⟩, ?_, hn⟩
    · have := hv x hx
      unfold msg_long_1.f at this
      have := of_decide_eq_false (Option.some.inj this)
      omega
    · rcases kA_cases m.k with ⟨e, _⟩ | e
      · exact absurd (by rw [e]; decide +kernel) hn
      · omega
  unfold msg_text.f at h2
  by_cases a4 : Go.bits .and .i64 (flI m.k m.h) 32 = 0
  · rw [if_pos a4] at h2
    obtain ⟨b2, h2, e2⟩ := Option.bind_eq_some_iff.mp h2
    refine done ?_ (fin b2 h2 (by cases b2; rfl; cases e2))
    have hz : (bareOf (mT m)).2.2.2.2.2.1 = (⟨#[]⟩ : ByteArray) := if_pos a4
    rw [hz] at hk
    have : m.key.toList = [] := hk.trans ((toList_size _).2 rfl)
    have := (toList_size _).1 this
    omega
  · rw [if_neg a4] at h2
    obtain ⟨b1, h5, h2⟩ := Option.bind_eq_some_iff.mp h2
    cases b1 with
    | false => cases h2
    | true =>
    simp only [if_true] at h2
    obtain ⟨b2, h2, e2⟩ := Option.bind_eq_some_iff.mp h2
    exact done (key_size h5) (fin b2 h2 (by cases b2; rfl; cases e2))
def setf (t : Nat) (M m : Mg) : Mg :=
  if t = 1 then { m with r := M.r } else if t = 2 then { m with c := M.c } else if t = 3 then { m with h := true } else if t = 4 then { m with i := M.i } else if t = 5 then { m with key := M.key } else if t = 6 then { m with val := M.val } else
  if t = 7 then { m with p := M.p, a := M.a } else if t = 8 then { m with ps := M.ps } else if t = 9 then { m with qs := M.qs } else m
theorem putL_ne (n : Nat) (R : List Int) : putL n ++ R ≠ [] := by
  intro h
  have := congrArg List.length h
  have h2 := putL_pos n
  simp only [List.length_append, List.length_nil] at this
  omega
theorem fNum_nil {t : Nat} {x : Int} (h : fNum t x = []) : x = 0 := by
  unfold fNum at h
  split at h
  · assumption
  · exact absurd h (putL_ne _ _)
theorem size0 {s : ByteArray} (h : s.size = 0) : s = (⟨#[]⟩ : ByteArray) := by
  obtain ⟨a⟩ := s
  have : a = #[] := Array.size_eq_zero_iff.1 h
  rw [this]
theorem fText_nil {t : Nat} {s : ByteArray} (h : fText t s = []) : s = (⟨#[]⟩ : ByteArray) := by
  unfold fText at h
  split at h
  · rename_i hs; exact size0 hs
  · exact absurd h (putL_ne _ _)
theorem f_put (M : Mg) (hM : MgD M) (t : Nat) (ht : 1 ≤ t ∧ t ≤ 9) (hf : fld t M ≠ []) : ∃ G, fld t M = putL t ++ G ∧ ∀ (R : List Int) (m : Mg), fR (t : Int) m (G ++ R) 0 = (false, setf t M m, R, 0) := by
  have hr := hM.w.r
  have hc := hM.w.c
  have hi := hM.w.i
  rcases (by omega : t = 1 ∨ t = 2 ∨ t = 3 ∨ t = 4 ∨ t = 5 ∨ t = 6 ∨ t = 7 ∨ t = 8 ∨ t = 9) with rfl | rfl | rfl | rfl | rfl | rfl | rfl | rfl | rfl
  · have e : fld 1 M = if M.r = 0 then [] else putL 1 ++ putL M.r.toNat := rfl
    have hz : ¬ M.r = 0 := fun hz => hf (by rw [e, if_pos hz])
    refine ⟨_, by rw [e, if_neg hz], fun R m => ?_⟩
    unfold fR
    rw [if_pos (by decide), ru_put 4294967295 M.r.toNat R (by omega) (by omega), show ((M.r.toNat : Nat) : Int) = M.r by omega]
    simp only [decide_eq_false hz]
    rfl
  · have e : fld 2 M = if M.c = 0 then [] else putL 2 ++ putL M.c.toNat := rfl
    have hz : ¬ M.c = 0 := fun hz => hf (by rw [e, if_pos hz])
    refine ⟨_, by rw [e, if_neg hz], fun R m => ?_⟩
    unfold fR
    rw [if_neg (by decide), if_pos (by decide), ru_put 255 M.c.toNat R (by omega) (by omega), show ((M.c.toNat : Nat) : Int) = M.c by omega]
    simp only [decide_eq_false hz]
    rfl
  · have e : fld 3 M = if M.h = true then putL 3 else [] := rfl
    have hz : M.h = true := Classical.byContradiction fun hz => hf (by rw [e, if_neg hz])
    refine ⟨[], by rw [e, if_pos hz, List.append_nil], fun R m => ?_⟩
    unfold fR
    rw [if_neg (by decide), if_neg (by decide), if_pos (by decide)]
    rfl
  · have e : fld 4 M = if M.i = 0 then [] else putL 4 ++ putL M.i.toNat := rfl
    have hz : ¬ M.i = 0 := fun hz => hf (by rw [e, if_pos hz])
    refine ⟨_, by rw [e, if_neg hz], fun R m => ?_⟩
    unfold fR
    rw [if_neg (by decide), if_neg (by decide), if_neg (by decide), if_pos (by decide), ru_put 18446744073709551615 M.i.toNat R (by omega) (by omega), show ((M.i.toNat : Nat) : Int) = M.i by omega]
    simp only [decide_eq_false hz]
    rfl
  · have e : fld 5 M = if M.key.size = 0 then [] else putL 5 ++ txtL M.key := rfl
    have hz : ¬ M.key.size = 0 := fun hz => hf (by rw [e, if_pos hz])
    have he : M.key.toList.isEmpty = false := by
      cases h : M.key.toList.isEmpty with
      | false => rfl
      | true => exact absurd ((toList_size _).1 (List.isEmpty_iff.1 h)) hz
    refine ⟨_, by rw [e, if_neg hz], fun R m => ?_⟩
    unfold fR
    rw [if_neg (by decide), if_neg (by decide), if_neg (by decide), if_neg (by decide), if_pos (by decide), rt_put 96 M.key R (by have := hM.key; omega) (by have := hM.key; omega)]
    simp only [he]
    rfl
  · have e : fld 6 M = if M.val.size = 0 then [] else putL 6 ++ txtL M.val := rfl
    have hz : ¬ M.val.size = 0 := fun hz => hf (by rw [e, if_pos hz])
    have he : M.val.toList.isEmpty = false := by
      cases h : M.val.toList.isEmpty with
      | false => rfl
      | true => exact absurd ((toList_size _).1 (List.isEmpty_iff.1 h)) hz
    refine ⟨_, by rw [e, if_neg hz], fun R m => ?_⟩
    unfold fR
    rw [if_neg (by decide), if_neg (by decide), if_neg (by decide), if_neg (by decide), if_neg (by decide), if_pos (by decide), rt_put 512 M.val R (by have := hM.val; omega) (by have := hM.val; omega)]
    simp only [he]
    rfl
  · have e : fld 7 M = if M.p = 0 ∧ M.a = 0 then [] else putL 7 ++ peerL ⟨M.p, M.a⟩ := rfl
    have hz : ¬ (M.p = 0 ∧ M.a = 0) := fun hz => hf (by rw [e, if_pos hz])
    refine ⟨_, by rw [e, if_neg hz], fun R m => ?_⟩
    unfold fR
    rw [if_neg (by decide), if_neg (by decide), if_neg (by decide), if_neg (by decide), if_neg (by decide), if_neg (by decide), if_pos (by decide), peer_put ⟨M.p, M.a⟩ ⟨hM.w.p, hM.w.a⟩ R]
    have hd : (decide (M.p = 0) && decide (M.a = 0)) = false := by
      cases h : (decide (M.p = 0) && decide (M.a = 0)) with
      | false => rfl
      | true => exact absurd (by simpa using h) hz
    simp only [hd]
    rfl
  · have e : fld 8 M = if M.ps.length = 0 then [] else putL 8 ++ (putL M.ps.length ++ peersL M.ps) := rfl
    have hz : ¬ M.ps.length = 0 := fun hz => hf (by rw [e, if_pos hz])
    have hl := hM.psl
    refine ⟨_, by rw [e, if_neg hz], fun R m => ?_⟩
    have hp : psR (putL M.ps.length ++ peersL M.ps ++ R) 0 = (M.ps, R, 0) := by
      unfold psR
      rw [List.append_assoc, ru_put 16 M.ps.length _ (by omega) (by omega)]
      exact peers_put M.ps R hM.w.ps
    unfold fR
    rw [if_neg (by decide), if_neg (by decide), if_neg (by decide), if_neg (by decide), if_neg (by decide), if_neg (by decide), if_neg (by decide), if_pos (by decide), hp]
    have hd : (((M.ps.length : Nat) : Int) == 0) = false := by simp; exact fun e => hz (by rw [e]; rfl)
    simp only [hd]
    rfl
  · have e : fld 9 M = if M.qs.length = 0 then [] else putL 9 ++ (putL M.qs.length ++ pairsL M.qs) := rfl
    have hz : ¬ M.qs.length = 0 := fun hz => hf (by rw [e, if_pos hz])
    have hl := hM.qsl
    refine ⟨_, by rw [e, if_neg hz], fun R m => ?_⟩
    have hp : qsR (putL M.qs.length ++ pairsL M.qs ++ R) 0 = (M.qs, R, 0) := by
      unfold qsR
      rw [List.append_assoc, ru_put 8 M.qs.length _ (by omega) (by omega)]
      exact pairs_put M.qs R hM.qs
    unfold fR
    rw [if_neg (by decide), if_neg (by decide), if_neg (by decide), if_neg (by decide), if_neg (by decide), if_neg (by decide), if_neg (by decide), if_neg (by decide), if_pos (by decide), hp]
    have hd : (((M.qs.length : Nat) : Int) == 0) = false := by simp; exact fun e => hz (by rw [e]; rfl)
    simp only [hd]
    rfl
def upto : Nat → Mg → Mg
  | 0, M => { zMg with k := M.k }
  | n + 1, M => if fld (n + 1) M = [] then upto n M else setf (n + 1) M (upto n M)
theorem upto9 (M : Mg) : upto 9 M = M := by
  have s1 : ∀ m : Mg, m.r = 0 → (if fld 1 M = [] then m else setf 1 M m) = { m with r := M.r } := fun m hm => by
    split
    · rename_i h; have := fNum_nil h; rw [this, ← hm]
    · rfl
  have s2 : ∀ m : Mg, m.c = 0 → (if fld 2 M = [] then m else setf 2 M m) = { m with c := M.c } := fun m hm => by
    split
    · rename_i h; have := fNum_nil h; rw [this, ← hm]
    · rfl
  have s3 : ∀ m : Mg, m.h = false → (if fld 3 M = [] then m else setf 3 M m) = { m with h := M.h } := fun m hm => by
    have e : fld 3 M = if M.h = true then putL 3 else [] := rfl
    rw [e]
    cases hh : M.h with
    | true => rw [if_pos rfl, if_neg (by rw [putL3]; simp)]; rfl
    | false => simp only [Bool.false_eq_true, if_false, if_true]; rw [← hm]
  have s4 : ∀ m : Mg, m.i = 0 → (if fld 4 M = [] then m else setf 4 M m) = { m with i := M.i } := fun m hm => by
    split
    · rename_i h; have := fNum_nil h; rw [this, ← hm]
    · rfl
  have s5 : ∀ m : Mg, m.key = (⟨#[]⟩ : ByteArray) → (if fld 5 M = [] then m else setf 5 M m) = { m with key := M.key } := fun m hm => by
    split
    · rename_i h; have := fText_nil h; rw [this, ← hm]
    · rfl
  have s6 : ∀ m : Mg, m.val = (⟨#[]⟩ : ByteArray) → (if fld 6 M = [] then m else setf 6 M m) = { m with val := M.val } := fun m hm => by
    split
    · rename_i h; have := fText_nil h; rw [this, ← hm]
    · rfl
  have s7 : ∀ m : Mg, m.p = 0 → m.a = 0 → (if fld 7 M = [] then m else setf 7 M m) = { m with p := M.p, a := M.a } := fun m hm hm2 => by
    have e : fld 7 M = if M.p = 0 ∧ M.a = 0 then [] else putL 7 ++ peerL ⟨M.p, M.a⟩ := rfl
    rw [e]
    by_cases h : M.p = 0 ∧ M.a = 0
    · obtain ⟨_, _, _, _, _, _, _, _, _, _, _⟩ := m
      simp only at hm hm2
      rw [if_pos h, if_pos rfl, h.1, h.2, hm, hm2]
    · rw [if_neg h, if_neg (putL_ne _ _)]; rfl
  have s8 : ∀ m : Mg, m.ps = [] → (if fld 8 M = [] then m else setf 8 M m) = { m with ps := M.ps } := fun m hm => by
    have e : fld 8 M = if M.ps.length = 0 then [] else putL 8 ++ (putL M.ps.length ++ peersL M.ps) := rfl
    rw [e]
    by_cases h : M.ps.length = 0
    · rw [if_pos h, if_pos rfl, List.eq_nil_of_length_eq_zero h, ← hm]
    · rw [if_neg h, if_neg (putL_ne _ _)]; rfl
  have s9 : ∀ m : Mg, m.qs = [] → (if fld 9 M = [] then m else setf 9 M m) = { m with qs := M.qs } := fun m hm => by
    have e : fld 9 M = if M.qs.length = 0 then [] else putL 9 ++ (putL M.qs.length ++ pairsL M.qs) := rfl
    rw [e]
    by_cases h : M.qs.length = 0
    · rw [if_pos h, if_pos rfl, List.eq_nil_of_length_eq_zero h, ← hm]
    · rw [if_neg h, if_neg (putL_ne _ _)]; rfl
  have u1 : upto 1 M = { zMg with k := M.k, r := M.r } := s1 (upto 0 M) rfl
  have u2 : upto 2 M = { zMg with k := M.k, r := M.r, c := M.c } := by rw [upto, u1]; exact s2 _ rfl
  have u3 : upto 3 M = { zMg with k := M.k, r := M.r, c := M.c, h := M.h } := by rw [upto, u2]; exact s3 _ rfl
  have u4 : upto 4 M = { zMg with k := M.k, r := M.r, c := M.c, h := M.h, i := M.i } := by rw [upto, u3]; exact s4 _ rfl
  have u5 : upto 5 M = { zMg with k := M.k, r := M.r, c := M.c, h := M.h, i := M.i, key := M.key } := by rw [upto, u4]; exact s5 _ rfl
  have u6 : upto 6 M = { zMg with k := M.k, r := M.r, c := M.c, h := M.h, i := M.i, key := M.key, val := M.val } := by rw [upto, u5]; exact s6 _ rfl
  have u7 : upto 7 M = { zMg with k := M.k, r := M.r, c := M.c, h := M.h, i := M.i, key := M.key, val := M.val, p := M.p, a := M.a } := by rw [upto, u6]; exact s7 _ rfl rfl
  have u8 : upto 8 M = { zMg with k := M.k, r := M.r, c := M.c, h := M.h, i := M.i, key := M.key, val := M.val, p := M.p, a := M.a, ps := M.ps } := by rw [upto, u7]; exact s8 _ rfl
  rw [upto, u8]
  exact s9 _ rfl
def restF : Nat → Mg → List Int
  | 0, _ => []
  | d + 1, M => fld (9 - d) M ++ restF d M
theorem encTo_rest (M : Mg) : encTo 9 M = putL M.k.toNat ++ restF 9 M := by
  simp [encTo, restF]
theorem fld_bytes (t : Nat) (M : Mg) : Bytes (fld t M) := by
  have hn : ∀ (t : Nat) (x : Int), Bytes (fNum t x) := fun t x => by
    unfold fNum
    split
    · exact bytes_nil
    · exact bytes_append (putL_bytes _) (putL_bytes _)
  have hx : ∀ s : ByteArray, Bytes (txtL s) := fun s => bytes_append (putL_bytes _) (bytesOf_bytes _)
  have ht : ∀ (t : Nat) (s : ByteArray), Bytes (fText t s) := fun t s => by
    unfold fText
    split
    · exact bytes_nil
    · exact bytes_append (putL_bytes _) (hx _)
  have hp : ∀ l : List S26, Bytes (peersL l) := fun l => by
    induction l with
    | nil => exact bytes_nil
    | cons x l ih => exact bytes_append (bytes_append (putL_bytes _) (putL_bytes _)) ih
  have hq : ∀ l : List S43, Bytes (pairsL l) := fun l => by
    induction l with
    | nil => exact bytes_nil
    | cons x l ih => exact bytes_append (bytes_append (hx _) (hx _)) ih
  unfold fld
  split
  · exact hn _ _
  split
  · exact hn _ _
  split
  · split
    · exact putL_bytes _
    · exact bytes_nil
  split
  · exact hn _ _
  split
  · exact ht _ _
  split
  · exact ht _ _
  split
  · split
    · exact bytes_nil
    · exact bytes_append (putL_bytes _) (bytes_append (putL_bytes _) (putL_bytes _))
  split
  · split
    · exact bytes_nil
    · exact bytes_append (putL_bytes _) (bytes_append (putL_bytes _) (hp _))
  split
  · split
    · exact bytes_nil
    · exact bytes_append (putL_bytes _) (bytes_append (putL_bytes _) (hq _))
  exact bytes_nil
theorem encTo_bytes (M : Mg) : ∀ n, Bytes (encTo n M)
  | 0 => putL_bytes _
  | n + 1 => bytes_append (encTo_bytes M n) (fld_bytes _ _)
theorem dec_put (M : Mg) (hM : MgD M) : ∀ (d : Nat), d ≤ 9 → ∀ (n : Nat) (last : Int), last ≤ ((9 - d : Nat) : Int) → (restF d M).length < n → decR n last (upto (9 - d) M) (restF d M) 0 = (M, [], 0)
  | 0, _, n, last, hl, hn => by
    obtain ⟨n, rfl⟩ : ∃ j, n = j + 1 := ⟨n - 1, by simp [restF] at hn; omega⟩
    rw [decR, restF, if_neg (fun h => h.2 rfl), Nat.sub_zero, upto9]
  | d + 1, hd, n, last, hl, hn => by
    have ih := dec_put M hM d (by omega)
    obtain ⟨t, ht⟩ : ∃ t, 9 - (d + 1) = t := ⟨_, rfl⟩
    have ht9 : 9 - d = t + 1 := by omega
    rw [restF] at hn ⊢
    rw [ht] at hl ⊢
    rw [ht9] at ih hn ⊢
    have eu : upto (t + 1) M = if fld (t + 1) M = [] then upto t M else setf (t + 1) M (upto t M) := rfl
    by_cases hf : fld (t + 1) M = []
    · rw [hf, List.nil_append] at hn ⊢
      rw [if_pos hf] at eu
      rw [← eu]
      exact ih n last (by omega) hn
    · rw [if_neg hf] at eu
      obtain ⟨G, hG, hF⟩ := f_put M hM (t + 1) (by omega) hf
      rw [hG] at hn ⊢
      simp only [List.length_append] at hn
      have hpos := putL_pos (t + 1)
      obtain ⟨n, rfl⟩ : ∃ j, n = j + 1 := ⟨n - 1, by omega⟩
      rw [List.append_assoc, decR, if_pos ⟨rfl, putL_ne _ _⟩, ru_put 18446744073709551615 (t + 1) _ (by omega) (by omega)]
      simp only
      rw [if_neg (by omega), hF]
      simp only
      rw [← eu]
      exact ih n _ (by omega) (by omega)
theorem lk_tbad (x : Int) : tbad x = some (if 255 < x then true else decide ((kA (wrap64 x)).f0.toList = ([63] : List UInt8))) := by
  unfold tbad
  split
  · rfl
  · rw [lk_msg_Name]; rfl
theorem lk_put_dec {M : Mg} (hM : MgD M) (hk : 1 ≤ M.k ∧ M.k ≤ 12) (hn : ¬ (kA M.k).f0.toList = ([63] : List UInt8)) (hr : Ev (fun k => mgRight k M) 0) : Ev (fun k => tdec k (encTo 9 M)) (M, 0) := by
  have hlen := encTo_len hM.w (by omega) 9
  have hby := encTo_bytes M 9
  unfold tdec
  simp only [if_pos (show (encTo 9 M).length < 140737488355328 by omega)]
  refine ev_bind (lk_rU _ hby 0 _) ?_
  rw [encTo_rest, ru_put 18446744073709551615 M.k.toNat _ (by omega) (by omega), show ((M.k.toNat : Nat) : Int) = M.k by omega]
  simp only [lk_tbad, Option.bind_some]
  rw [if_neg (by omega), w64 (by omega) (by omega), decide_eq_false hn]
  have hb2 : Bytes (restF 9 M) := by
    rw [encTo_rest] at hby
    exact fun x hx => hby x (List.mem_append_right _ hx)
  have hz : rFailed false 9 0 = 0 := rfl
  rw [hz]
  have hd := lk_tdecL ((restF 9 M).length + 1) 0 0 { zMg with k := M.k } (restF 9 M) 0 hb2 (fun _ => by omega)
  have he := dec_put M hM 9 (by omega) ((restF 9 M).length + 1) 0 (by omega) (by omega)
  rw [show upto (9 - 9) M = { zMg with k := M.k } from rfl] at he
  rw [he] at hd
  refine ev_bind hd ?_
  simp only [if_true]
  exact ev_bind hr (by simp only [if_true]; exact ev_some _)
theorem fText_zero (t : Nat) : fText t (⟨#[]⟩ : ByteArray) = [] := if_pos rfl
theorem fNum_zero (t : Nat) : fNum t 0 = [] := if_pos rfl
theorem zf (x : Int) (s : Nat) : fld s { zMg with k := x } = [] := by
  unfold fld
  by_cases c1 : s = 1
  · rw [if_pos c1]; exact fNum_zero _
  rw [if_neg c1]
  by_cases c2 : s = 2
  · rw [if_pos c2]; exact fNum_zero _
  rw [if_neg c2]
  by_cases c3 : s = 3
  · rw [if_pos c3]; exact if_neg (by show ¬ false = true; decide)
  rw [if_neg c3]
  by_cases c4 : s = 4
  · rw [if_pos c4]; exact fNum_zero _
  rw [if_neg c4]
  by_cases c5 : s = 5
  · rw [if_pos c5]; exact fText_zero _
  rw [if_neg c5]
  by_cases c6 : s = 6
  · rw [if_pos c6]; exact fText_zero _
  rw [if_neg c6]
  by_cases c7 : s = 7
  · rw [if_pos c7]; exact if_pos ⟨rfl, rfl⟩
  rw [if_neg c7]
  by_cases c8 : s = 8
  · rw [if_pos c8]; exact if_pos rfl
  rw [if_neg c8]
  by_cases c9 : s = 9
  · rw [if_pos c9]; exact if_pos rfl
  rw [if_neg c9]
theorem zW (x : Int) : MgW { zMg with k := x } := by
  have z : (⟨#[]⟩ : ByteArray).size ≤ 1000 := Nat.zero_le _
  constructor
  · show (0 : Int) ≤ 0 ∧ (0 : Int) < 4294967296; omega
  · show (0 : Int) ≤ 0 ∧ (0 : Int) < 256; omega
  · show (0 : Int) ≤ 0 ∧ (0 : Int) < 18446744073709551616; omega
  · show (0 : Int) ≤ 0 ∧ (0 : Int) < 18446744073709551616; omega
  · show (0 : Int) ≤ 0 ∧ (0 : Int) < 65536; omega
  · exact z
  · exact z
  · show 0 ≤ 100; omega
  · intro x hx; exact absurd hx (by show ¬ x ∈ ([] : List S26); simp)
  · show 0 ≤ 100; omega
  · intro x hx; exact absurd hx (by show ¬ x ∈ ([] : List S43); simp)
theorem lk_tdec {l : List Int} (hb : Bytes l) (hl : l.length ≤ 1000000000) : ∃ m x, Ev (fun k => tdec k l) (m, x) ∧ ((x = 0 ∧ encTo 9 m = l ∧ MgW m ∧ (0 ≤ m.k ∧ m.k < 256) ∧ Ev (fun k => mgRight k m) 0) ∨ (x ≠ 0 ∧ m = zMg)) := by
  obtain ⟨a, ha⟩ : ∃ a, ruL 18446744073709551615 l 0 = a := ⟨_, rfl⟩
  obtain ⟨bad, hbad⟩ : ∃ b : Bool, (if 255 < a.1 then true else decide ((kA (wrap64 a.1)).f0.toList = ([63] : List UInt8))) = b := ⟨_, rfl⟩
  obtain ⟨met, hmet⟩ : ∃ e, rFailed bad 9 a.2.2 = e := ⟨_, rfl⟩
  have hb2 : Bytes a.2.1 := by rw [← ha]; exact ru_bytes hb
  obtain ⟨t, ht⟩ : ∃ t, decR (a.2.1.length + 1) 0 { zMg with k := wrap64 a.1 } a.2.1 met = t := ⟨_, rfl⟩
  have hd := lk_tdecL (a.2.1.length + 1) 0 0 { zMg with k := wrap64 a.1 } a.2.1 met hb2 (fun _ => by omega)
  rw [ht] at hd
  have main : ∀ r, Ev (fun k => if t.2.2 = 0 then (mgRight k t.1).bind fun e => if e = 0 then some (t.1, 0) else some (zMg, e) else some (zMg, t.2.2)) r → Ev (fun k => tdec k l) r := by
    intro r hr
    unfold tdec
    simp only [if_pos (show l.length < 140737488355328 by omega)]
    refine ev_bind (lk_rU l hb 0 _) ?_
    rw [ha]
    simp only [lk_tbad, hbad, Option.bind_some, hmet]
    exact ev_bind hd hr
  by_cases hz : t.2.2 = 0
  case neg =>
    refine ⟨zMg, t.2.2, main _ ?_, .inr ⟨hz, rfl⟩⟩
    simp only [if_neg hz]
    exact ev_some _
  have ok := dec_ok (a.2.1.length + 1) 0 { zMg with k := wrap64 a.1 } a.2.1 met hb2 (fun _ => by omega) (by omega) (fun s hs => zf _ s) (zW _) (by rw [ht]; exact hz)
  rw [ht] at ok
  obtain ⟨o1, o2, o3, o4⟩ := ok
  rw [o1] at hmet
  obtain ⟨hbf, he⟩ := rF_zero (by decide) hmet
  rw [← ha] at he
  obtain ⟨_, n, _, _, en, hln⟩ := ru_ok 18446744073709551615 l hb 0 he
  rw [ha] at en hln
  have h255 : ¬ 255 < a.1 := fun h => by rw [if_pos h] at hbad; rw [hbf] at hbad; cases hbad
  have hk : t.1.k = (n : Int) := by
    rw [o4]
    show wrap64 a.1 = _
    rw [en, w64 (by omega) (by omega)]
  have henc : encTo 9 t.1 = l := by
    rw [o2, encTo_stop 0 (fun s _ => zf _ s) 9 (by omega), encTo]
    show putL (wrap64 a.1).toNat ++ a.2.1 = l
    rw [en, w64 (by omega) (by omega), Int.toNat_natCast]
    exact hln.symm
  obtain ⟨e, hE⟩ := right_tot o3
  by_cases e0 : e = 0
  · subst e0
    refine ⟨t.1, 0, main _ ?_, .inl ⟨rfl, henc, o3, by omega, hE⟩⟩
    simp only [if_pos hz]
    exact ev_bind hE (by simp only [if_true]; exact ev_some _)
  · refine ⟨zMg, e, main _ ?_, .inr ⟨e0, rfl⟩⟩
    simp only [if_pos hz]
    exact ev_bind hE (by simp only [if_neg e0]; exact ev_some _)
theorem lk_Enc {m : Mg} (h : MgW m) : ∃ e, Ev (fun k => mgRight k m) e ∧ Ev (fun k => tagged_Enc.f k m.k m.r m.c m.h m.i m.key m.val m.p m.a m.ps m.qs) (if e = 0 then (encTo 9 m, 0) else ([], e)) := by
  obtain ⟨e, hE⟩ := right_tot h
  refine ⟨e, hE, ?_⟩
  unfold tagged_Enc.f
  refine ev_bind hE ?_
  by_cases e0 : e = 0
  · subst e0
    obtain ⟨_, hk, _⟩ := right0 h hE
    simp only [if_true]
    exact ev_bind (lk_tagEnc h (by omega)) (ev_some _)
  · simp only [if_neg e0]
    exact ev_some _

/-! ### tagged: held against itself; awake -/
theorem lk_ref08_Peers0 (l : List S26) (hl : l.length ≤ 9223372036854775807) (d : Nat) : ∀ i : Nat, i ≤ l.length → l.length - i = d → Ev (fun k => annuletref08_Peers.l0 k l l (i : Int)) true := by
  induction d with
  | zero =>
    intro i hi hd
    refine ev_const fun k => ?_
    rw [annuletref08_Peers.l0, if_neg (by omega)]
  | succ d ih =>
    intro i hi hd
    refine ev_succ ?_
    simp only [annuletref08_Peers.l0]
    simp only [if_pos (show (i : Int) < (l.length : Int) by omega), if_pos (show (0 : Int) ≤ (i : Int) by omega), beq_self_eq_true, Bool.not_true, Bool.or_self, Bool.false_eq_true, if_false]
    rw [w64 (by omega) (by omega)]
    exact ih (i + 1) (by omega) (by omega)
theorem lk_ref08_Peers (l : List S26) (hl : l.length ≤ 9223372036854775807) : Ev (fun k => annuletref08_Peers.f k l l) true := by
  unfold annuletref08_Peers.f
  simp only [if_true]
  exact lk_ref08_Peers0 l hl _ 0 (by omega) rfl
theorem lk_ref08_Pairs0 (l : List S43) (hl : l.length ≤ 9223372036854775807) (d : Nat) : ∀ i : Nat, i ≤ l.length → l.length - i = d → Ev (fun k => annuletref08_Pairs.l0 k l l (i : Int)) true := by
  induction d with
  | zero =>
    intro i hi hd
    refine ev_const fun k => ?_
    rw [annuletref08_Pairs.l0, if_neg (by omega)]
  | succ d ih =>
    intro i hi hd
    refine ev_succ ?_
    simp only [annuletref08_Pairs.l0]
    simp only [if_pos (show (i : Int) < (l.length : Int) by omega), if_pos (show (0 : Int) ≤ (i : Int) by omega), beq_self_eq_true, Bool.not_true, Bool.or_self, Bool.false_eq_true, if_false]
    rw [w64 (by omega) (by omega)]
    exact ih (i + 1) (by omega) (by omega)
theorem lk_ref08_Pairs (l : List S43) (hl : l.length ≤ 9223372036854775807) : Ev (fun k => annuletref08_Pairs.f k l l) true := by
  unfold annuletref08_Pairs.f
  simp only [if_true]
  exact lk_ref08_Pairs0 l hl _ 0 (by omega) rfl
theorem lk_ref08_Same (a0 a1 a2 : Int) (a3 : Bool) (a4 : Int) (a5 a6 : ByteArray) (a7 a8 : Int) (l9 : List S26) (l10 : List S43) (h9 : l9.length ≤ 9223372036854775807) (h10 : l10.length ≤ 9223372036854775807) :
    Ev (fun k => annuletref08_Same.f k a0 a1 a2 a3 a4 a5 a6 a7 a8 l9 l10 a0 a1 a2 a3 a4 a5 a6 a7 a8 l9 l10) true := by
  unfold annuletref08_Same.f
  simp only [if_true, beq_self_eq_true, Bool.and_self]
  refine ev_bind (lk_ref08_Peers l9 h9) ?_
  simp only [if_true]
  exact ev_bind (lk_ref08_Pairs l10 h10) (ev_some _)
theorem lk_awake10 : Ev (fun k => annuletlaw10_awake.f k) true := Ev.of annuletlaw10_awake.mono (k := 60) (by decide +kernel)
theorem TaggedBack_law : annuletlaw10_TaggedBack.Pure := by
  intro a0 a1 a2 a3 a4 a5 a6 a7 a8 l9 l10 l w0 w1 w2 w4 w5 w6 w7 w8 w9 w10 wl
  refine Ev.rounds (g := fun k => annuletlaw10_TaggedBack.f k a0 a1 a2 a3 a4 a5 a6 a7 a8 l9 l10 l) ?_
  unfold annuletlaw10_TaggedBack.f
  obtain ⟨b, hb, hl⟩ := lk_Large a0 a1 a2 a3 a4 a5 a6 a7 a8 l9 l10
  have jt : Ev (fun k => annuletlaw10_TaggedBack.j0 k l true a0 a1 a2 a3 a4 a5 a6 a7 a8 l9 l10) true := ev_succ (by simp only [annuletlaw10_TaggedBack.j0, if_true]; exact ev_bind lk_awake10 (ev_some _))
  refine ev_bind hb ?_
  cases b with
  | true => simp only [if_true]; exact jt
  | false =>
    simp only [Bool.false_eq_true, if_false]
    by_cases hs : (l.length : Int) > 6000
    · simp only [decide_eq_true hs]; exact jt
    simp only [decide_eq_false hs]
    have hl := hl rfl
    have hv := lk_LargeW a0 a1 a2 a3 a4 a5 a6 a7 a8 l9 l10 hb
    have hby : Bytes l := bytes_of_wf wl.2
    obtain ⟨m, hm⟩ : ∃ m : Mg, m = ⟨a0, a1, a2, a3, a4, a5, a6, a7, a8, l9, l10⟩ := ⟨_, rfl⟩
    have hW : MgW m := by
      rw [hm]
      exact ⟨wf_u32 w1, wf_u8 w2, wf_u64 w4, wf_u64 w7, wf_u16 w8, by show a5.size ≤ 1000; omega, by show a6.size ≤ 1000; omega, by show l9.length ≤ 100; omega, fun x hx => ⟨wf_u64 (w9.2 x hx).1, wf_u16 (w9.2 x hx).2⟩, by show l10.length ≤ 100; omega, fun x hx => by have := hv.2.2 x hx; omega⟩
    obtain ⟨e, hR, hE⟩ := lk_Enc hW
    have second : Ev (fun k => annuletlaw10_TaggedBack.j1 k l false) true := by
      obtain ⟨y, x, hd, hx⟩ := lk_tdec hby (by omega)
      have hy : MgW y := by
        rcases hx with ⟨_, _, h, _⟩ | ⟨_, h⟩
        · exact h
        · rw [h]; exact zW 0
      obtain ⟨e2, hR2, hE2⟩ := lk_Enc hy
      refine ev_succ ?_
      simp only [annuletlaw10_TaggedBack.j1, Bool.false_eq_true, if_false]
      refine ev_bind (a := (y.k, y.r, y.c, y.h, y.i, y.key, y.val, y.p, y.a, y.ps, y.qs, x)) (ev_bind hd (ev_some _)) ?_
      refine ev_bind hE2 ?_
      rcases hx with ⟨h0, henc, _, _, hr⟩ | ⟨h0, _⟩
      · subst h0
        obtain rfl : e2 = 0 := ev_uniq hR2 hr
        simp only [if_true, henc]
        exact ev_bind lk_awake10 (ev_some _)
      · simp only [if_neg h0]
        exact ev_bind lk_awake10 (ev_some _)
    refine ev_succ ?_
    simp only [annuletlaw10_TaggedBack.j0, Bool.false_eq_true, if_false]
    have hE' : Ev (fun k => tagged_Enc.f k a0 a1 a2 a3 a4 a5 a6 a7 a8 l9 l10) (if e = 0 then (encTo 9 m, 0) else ([], e)) := by rw [hm] at hE ⊢; exact hE
    refine ev_bind hE' ?_
    by_cases e0 : e = 0
    · subst e0
      obtain ⟨hD, hk, hn⟩ := right0 hW hR
      have hd := lk_put_dec hD hk hn hR
      simp only [if_true]
      refine ev_bind (a := (m.k, m.r, m.c, m.h, m.i, m.key, m.val, m.p, m.a, m.ps, m.qs, 0)) (ev_bind hd (ev_some _)) ?_
      simp only [if_true]
      subst hm
      refine ev_bind (lk_ref08_Same a0 a1 a2 a3 a4 a5 a6 a7 a8 l9 l10 (by omega) (by omega)) ?_
      exact second
    · simp only [if_neg e0]
      obtain ⟨y, x, hd, _⟩ := lk_tdec bytes_nil (by simp)
      refine ev_bind (a := (y.k, y.r, y.c, y.h, y.i, y.key, y.val, y.p, y.a, y.ps, y.qs, x)) (ev_bind hd (ev_some _)) ?_
      exact second
end Go.Proofs.YtmohmmpcadlfkaaDoor.PTaggedBack
namespace Go.Proofs.YtmohmmpcadlfkaaDoor.Pure
open Go.Proofs.YtmohmmpcadlfkaaDoor.PTaggedBack
theorem TaggedBack : annuletlaw10_TaggedBack.Pure := TaggedBack_law
end Go.Proofs.YtmohmmpcadlfkaaDoor.Pure
