/- MsgBares: any message without what its kind does not have, copied, and held against any other one, is the document's. No condition. -/
import Derived.Test.YtddnfbcfogpkgaaDoorPMsgBaresx10
import Derived.Test.YtddnfbcfogpkgaaDoorMath
set_option linter.unusedVariables false
set_option linter.unusedSimpArgs false
namespace Go.Proofs.YtddnfbcfogpkgaaDoor.PMsgBares
open Go.RowKit Go.Proofs.YtddnfbcfogpkgaaDoorW.PrintWords Go.Proofs.YtddnfbcfogpkgaaDoorW.PrintLast Go.Proofs.YtddnfbcfogpkgaaDoorW.PrintMore Annulet

/-! ### package msg: kinds -/
def kindsL : List S53 := match msg_kinds.f with | some l => l | none => []
theorem lk_kinds : msg_kinds.f = some kindsL := rfl
def kA (a : Int) : S53 := if 0 ≤ a ∧ a < 13 then rd_T53 kindsL a else rd_T53 kindsL 0
theorem lk_msg_of (a : Int) : msg_of.f a = some ((kA a).f0, (kA a).f1, (kA a).f2) := by
  have hl : kindsL.length = 13 := rfl
  unfold msg_of.f kA
  rw [lk_kinds]
  simp only [Option.bind_some, hl]
  by_cases h0 : a < 0
  · rw [if_pos h0, if_pos (by omega), if_neg (by omega)]
  · rw [if_neg h0]
    by_cases h1 : a ≥ ((13 : Nat) : Int)
    · rw [if_pos h1, if_pos (by omega), if_neg (by omega)]
    · rw [if_neg h1, if_pos (by omega), if_pos (by omega), if_pos (by omega)]
theorem kA_cases (a : Int) : (kA a = rd_T53 kindsL 0 ∧ ¬ (1 ≤ a ∧ a ≤ 12)) ∨ a = 1 ∨ a = 2 ∨ a = 3 ∨ a = 4 ∨ a = 5 ∨ a = 6 ∨ a = 7 ∨ a = 8 ∨ a = 9 ∨ a = 10 ∨ a = 11 ∨ a = 12 := by
  by_cases h : 1 ≤ a ∧ a ≤ 12
  · right; omega
  · left
    refine ⟨?_, h⟩
    unfold kA
    by_cases h0 : a = 0
    · subst h0; rfl
    · rw [if_neg (by omega)]
theorem lk_msg_Name (a : Int) : msg_Name.f a = some (kA a).f0 := by
  unfold msg_Name.f
  rw [lk_msg_of]
  rfl
theorem lk_msg_Asks (a : Int) : msg_Asks.f a = some (decide (((kA a).f2.length : Int) > 0)) := by
  unfold msg_Asks.f
  rw [lk_msg_of]
  rfl
theorem lk_Index0 (l : List Int) (hl : l.length < 9223372036854775807) (v : Int) (d : Nat) : ∀ i : Nat, i + d = l.length → ∃ j, Ev (fun k => slices_Index_int_int.l0 k l v (l.length : Int) (i : Int)) j ∧ decide (j ≥ 0) = decide (v ∈ l.drop i) := by
  induction d with
  | zero =>
    intro i hi
    refine ⟨-1, ?_, ?_⟩
    · refine ev_const fun k => ?_
      rw [slices_Index_int_int.l0, if_neg (by omega)]
    · rw [List.drop_eq_nil_of_le (by omega)]; simp
  | succ d ih =>
    intro i hi
    have hd : l.drop i = rd l (i : Int) :: l.drop (i + 1) := by
      rw [List.drop_eq_getElem_cons (by omega), rd_nat]
      simp [List.getD, show i < l.length by omega]
    obtain ⟨j, hj, he⟩ := ih (i + 1) (by omega)
    by_cases hv : v = rd l (i : Int)
    · refine ⟨(i : Int), ?_, ?_⟩
      · refine ev_const fun k => ?_
        rw [slices_Index_int_int.l0, if_pos (by omega), if_pos (by omega), if_pos (by omega), if_pos hv]
      · rw [hd, ← hv]; simp
    · refine ⟨j, ?_, ?_⟩
      · refine ev_succ ?_
        simp only [slices_Index_int_int.l0, if_pos (show (i : Int) < (l.length : Int) by omega), if_pos (show (0 : Int) ≤ (i : Int) by omega), if_neg hv]
        rw [w64 (by omega) (by omega)]
        exact hj
      · rw [he, hd]; simp [hv]
theorem lk_Contains (l : List Int) (hl : l.length < 9223372036854775807) (v : Int) : Ev (fun k => slices_Contains_int_int.f k l v) (decide (v ∈ l)) := by
  obtain ⟨j, hj, he⟩ := lk_Index0 l hl v l.length 0 (by omega)
  unfold slices_Contains_int_int.f slices_Index_int_int.f
  refine ev_bind hj ?_
  rw [he]
  exact ev_some _
theorem kA_len (a : Int) : (kA a).f2.length ≤ 2 := by
  rcases kA_cases a with ⟨h, _⟩ | h | h | h | h | h | h | h | h | h | h | h | h
  · rw [h]; decide
  all_goals (subst h; decide)
theorem lk_msg_Answers (a r : Int) : Ev (fun k => msg_Answers.f k a r) (decide (r ∈ (kA a).f2)) := by
  unfold msg_Answers.f
  rw [lk_msg_of]
  simp only [Option.bind_some]
  have := kA_len a
  exact ev_bind (lk_Contains _ (by omega) r) (ev_some _)

/-! ### package msg: messages made bare, held against one another -/
def flI (a : Int) (h : Bool) : Int := if Go.bits .and .i64 (kA a).f1 256 = 0 then Go.bits .andNot .i64 (kA a).f1 256 else (if h = true then Go.bits .andNot .i64 (kA a).f1 256 else Go.bits .andNot .i64 (Go.bits .andNot .i64 (kA a).f1 72) 256)
theorem lk_msg_fields (m0 : Int) (m1 : Int) (m2 : Int) (m3 : Bool) (m4 : Int) (m5 : ByteArray) (m6 : ByteArray) (m7 : Int) (m8 : Int) (m9 : List S26) (m10 : List S45) : msg_fields.f m0 m1 m2 m3 m4 m5 m6 m7 m8 m9 m10 = some (flI m0 m3) := by
  unfold msg_fields.f flI
  rw [lk_msg_of]
  simp only [Option.bind_some]
  by_cases h : Go.bits .and .i64 (kA m0).f1 256 = 0
  · rw [if_pos h, if_pos h]
  · rw [if_neg h, if_neg h]
    by_cases h' : m3 = true
    · rw [if_pos h', if_pos h']
    · rw [if_neg h', if_neg h']
theorem flI_idem (a : Int) (h : Bool) : flI a (if Go.bits .and .i64 (flI a h) 2 = 0 then false else h) = flI a h := by
  rcases kA_cases a with ⟨e, _⟩ | e | e | e | e | e | e | e | e | e | e | e | e
  · unfold flI
    rw [e]
    cases h <;> decide +kernel
  all_goals (subst e; cases h <;> decide +kernel)
section
variable (fl : Int) (m0 : Int) (m1 : Int) (m2 : Int) (m3 : Bool) (m4 : Int) (m5 : ByteArray) (m6 : ByteArray) (m7 : Int) (m8 : Int) (m9 : List S26) (m10 : List S45)
theorem lk_Bare_j5 (hp : m9.length < 8796093022208) (hq : m10.length < 4398046511104) (o0 : Int) (o1 : Int) (o2 : Int) (o3 : Bool) (o4 : Int) (o5 : ByteArray) (o6 : ByteArray) (o7 : Int) (o8 : Int) (o9 : List S26) : Ev (fun k => msg_Bare.j5 k fl m0 m1 m2 m3 m4 m5 m6 m7 m8 m9 m10 o0 o1 o2 o3 o4 o5 o6 o7 o8 o9) (o0, o1, o2, o3, o4, o5, (if Go.bits .and .i64 fl 64 = 0 then o6 else m6), o7, o8, o9, (if Go.bits .and .i64 fl 128 = 0 then [] else m10)) := by
  refine ev_const fun k => ?_
  rw [msg_Bare.j5]
  unfold api_Pair_41.f
  rw [if_pos hq]
  by_cases h1 : Go.bits .and .i64 fl 64 = 0
  · by_cases h2 : Go.bits .and .i64 fl 128 = 0
    · simp only [if_pos h1, if_pos h2]
    · simp only [if_pos h1, if_neg h2, Option.bind_some]
  · by_cases h2 : Go.bits .and .i64 fl 128 = 0
    · simp only [if_neg h1, if_pos h2]
    · simp only [if_neg h1, if_neg h2, Option.bind_some]
theorem lk_Bare_j4 (hp : m9.length < 8796093022208) (hq : m10.length < 4398046511104) (o0 : Int) (o1 : Int) (o2 : Int) (o3 : Bool) (o4 : Int) (o5 : ByteArray) (o6 : ByteArray) (o7 : Int) (o8 : Int) (o9 : List S26) : Ev (fun k => msg_Bare.j4 k fl m0 m1 m2 m3 m4 m5 m6 m7 m8 m9 m10 o0 o1 o2 o3 o4 o5 o6 o7 o8 o9) (o0, o1, o2, o3, o4, (if Go.bits .and .i64 fl 32 = 0 then o5 else m5), (if Go.bits .and .i64 fl 64 = 0 then o6 else m6), o7, o8, o9, (if Go.bits .and .i64 fl 128 = 0 then [] else m10)) := by
  refine ev_succ ?_
  simp only [msg_Bare.j4]
  by_cases h : Go.bits .and .i64 fl 32 = 0
  · simp only [if_pos h]
    exact lk_Bare_j5 fl m0 m1 m2 m3 m4 m5 m6 m7 m8 m9 m10 hp hq o0 o1 o2 o3 o4 o5 o6 o7 o8 o9
  · simp only [if_neg h]
    exact lk_Bare_j5 fl m0 m1 m2 m3 m4 m5 m6 m7 m8 m9 m10 hp hq o0 o1 o2 o3 o4 m5 o6 o7 o8 o9
theorem lk_Bare_j3 (hp : m9.length < 8796093022208) (hq : m10.length < 4398046511104) (o0 : Int) (o1 : Int) (o2 : Int) (o3 : Bool) (o4 : Int) (o5 : ByteArray) (o6 : ByteArray) (o7 : Int) (o8 : Int) : Ev (fun k => msg_Bare.j3 k fl m0 m1 m2 m3 m4 m5 m6 m7 m8 m9 m10 o0 o1 o2 o3 o4 o5 o6 o7 o8) (o0, o1, o2, o3, o4, (if Go.bits .and .i64 fl 32 = 0 then o5 else m5), (if Go.bits .and .i64 fl 64 = 0 then o6 else m6), o7, o8, (if Go.bits .and .i64 fl 16 = 0 then [] else m9), (if Go.bits .and .i64 fl 128 = 0 then [] else m10)) := by
  refine ev_succ ?_
  simp only [msg_Bare.j3]
  by_cases h : Go.bits .and .i64 fl 16 = 0
  · simp only [if_pos h]
    exact lk_Bare_j4 fl m0 m1 m2 m3 m4 m5 m6 m7 m8 m9 m10 hp hq o0 o1 o2 o3 o4 o5 o6 o7 o8 []
  · unfold api_Peer_40.f
    simp only [if_neg h, if_pos hp, Option.bind_some]
    exact lk_Bare_j4 fl m0 m1 m2 m3 m4 m5 m6 m7 m8 m9 m10 hp hq o0 o1 o2 o3 o4 o5 o6 o7 o8 m9
theorem lk_Bare_j2 (hp : m9.length < 8796093022208) (hq : m10.length < 4398046511104) (o0 : Int) (o1 : Int) (o2 : Int) (o3 : Bool) (o4 : Int) (o5 : ByteArray) (o6 : ByteArray) (o7 : Int) (o8 : Int) : Ev (fun k => msg_Bare.j2 k fl m0 m1 m2 m3 m4 m5 m6 m7 m8 m9 m10 o0 o1 o2 o3 o4 o5 o6 o7 o8) (o0, o1, o2, o3, o4, (if Go.bits .and .i64 fl 32 = 0 then o5 else m5), (if Go.bits .and .i64 fl 64 = 0 then o6 else m6), (if Go.bits .and .i64 fl 8 = 0 then o7 else m7), (if Go.bits .and .i64 fl 8 = 0 then o8 else m8), (if Go.bits .and .i64 fl 16 = 0 then [] else m9), (if Go.bits .and .i64 fl 128 = 0 then [] else m10)) := by
  refine ev_succ ?_
  simp only [msg_Bare.j2]
  by_cases h : Go.bits .and .i64 fl 8 = 0
  · simp only [if_pos h]
    exact lk_Bare_j3 fl m0 m1 m2 m3 m4 m5 m6 m7 m8 m9 m10 hp hq o0 o1 o2 o3 o4 o5 o6 o7 o8
  · simp only [if_neg h]
    exact lk_Bare_j3 fl m0 m1 m2 m3 m4 m5 m6 m7 m8 m9 m10 hp hq o0 o1 o2 o3 o4 o5 o6 m7 m8
theorem lk_Bare_j1 (hp : m9.length < 8796093022208) (hq : m10.length < 4398046511104) (o0 : Int) (o1 : Int) (o2 : Int) (o3 : Bool) (o4 : Int) (o5 : ByteArray) (o6 : ByteArray) (o7 : Int) (o8 : Int) : Ev (fun k => msg_Bare.j1 k fl m0 m1 m2 m3 m4 m5 m6 m7 m8 m9 m10 o0 o1 o2 o3 o4 o5 o6 o7 o8) (o0, o1, o2, o3, (if Go.bits .and .i64 fl 4 = 0 then o4 else m4), (if Go.bits .and .i64 fl 32 = 0 then o5 else m5), (if Go.bits .and .i64 fl 64 = 0 then o6 else m6), (if Go.bits .and .i64 fl 8 = 0 then o7 else m7), (if Go.bits .and .i64 fl 8 = 0 then o8 else m8), (if Go.bits .and .i64 fl 16 = 0 then [] else m9), (if Go.bits .and .i64 fl 128 = 0 then [] else m10)) := by
  refine ev_succ ?_
  simp only [msg_Bare.j1]
  by_cases h : Go.bits .and .i64 fl 4 = 0
  · simp only [if_pos h]
    exact lk_Bare_j2 fl m0 m1 m2 m3 m4 m5 m6 m7 m8 m9 m10 hp hq o0 o1 o2 o3 o4 o5 o6 o7 o8
  · simp only [if_neg h]
    exact lk_Bare_j2 fl m0 m1 m2 m3 m4 m5 m6 m7 m8 m9 m10 hp hq o0 o1 o2 o3 m4 o5 o6 o7 o8
theorem lk_Bare_j0 (hp : m9.length < 8796093022208) (hq : m10.length < 4398046511104) (o0 : Int) (o1 : Int) (o2 : Int) (o3 : Bool) (o4 : Int) (o5 : ByteArray) (o6 : ByteArray) (o7 : Int) (o8 : Int) : Ev (fun k => msg_Bare.j0 k fl m0 m1 m2 m3 m4 m5 m6 m7 m8 m9 m10 o0 o1 o2 o3 o4 o5 o6 o7 o8) (o0, o1, o2, (if Go.bits .and .i64 fl 2 = 0 then o3 else m3), (if Go.bits .and .i64 fl 4 = 0 then o4 else m4), (if Go.bits .and .i64 fl 32 = 0 then o5 else m5), (if Go.bits .and .i64 fl 64 = 0 then o6 else m6), (if Go.bits .and .i64 fl 8 = 0 then o7 else m7), (if Go.bits .and .i64 fl 8 = 0 then o8 else m8), (if Go.bits .and .i64 fl 16 = 0 then [] else m9), (if Go.bits .and .i64 fl 128 = 0 then [] else m10)) := by
  refine ev_succ ?_
  simp only [msg_Bare.j0]
  by_cases h : Go.bits .and .i64 fl 2 = 0
  · simp only [if_pos h]
    exact lk_Bare_j1 fl m0 m1 m2 m3 m4 m5 m6 m7 m8 m9 m10 hp hq o0 o1 o2 o3 o4 o5 o6 o7 o8
  · simp only [if_neg h]
    exact lk_Bare_j1 fl m0 m1 m2 m3 m4 m5 m6 m7 m8 m9 m10 hp hq o0 o1 o2 m3 o4 o5 o6 o7 o8
end
abbrev MsgT := Int × Int × Int × Bool × Int × ByteArray × ByteArray × Int × Int × List S26 × List S45
def bareW (fl : Int) (m : MsgT) : MsgT := (m.1, m.2.1, (if Go.bits .and .i64 fl 1 = 0 then 0 else m.2.2.1), (if Go.bits .and .i64 fl 2 = 0 then false else m.2.2.2.1), (if Go.bits .and .i64 fl 4 = 0 then 0 else m.2.2.2.2.1), (if Go.bits .and .i64 fl 32 = 0 then (⟨#[]⟩ : ByteArray) else m.2.2.2.2.2.1), (if Go.bits .and .i64 fl 64 = 0 then (⟨#[]⟩ : ByteArray) else m.2.2.2.2.2.2.1), (if Go.bits .and .i64 fl 8 = 0 then 0 else m.2.2.2.2.2.2.2.1), (if Go.bits .and .i64 fl 8 = 0 then 0 else m.2.2.2.2.2.2.2.2.1), (if Go.bits .and .i64 fl 16 = 0 then [] else m.2.2.2.2.2.2.2.2.2.1), (if Go.bits .and .i64 fl 128 = 0 then [] else m.2.2.2.2.2.2.2.2.2.2))
def bareOf (m : MsgT) : MsgT := bareW (flI m.1 m.2.2.2.1) m
theorem lk_Bare (m : MsgT) (hp : m.2.2.2.2.2.2.2.2.2.1.length < 8796093022208) (hq : m.2.2.2.2.2.2.2.2.2.2.length < 4398046511104) : Ev (fun k => msg_Bare.f k m.1 m.2.1 m.2.2.1 m.2.2.2.1 m.2.2.2.2.1 m.2.2.2.2.2.1 m.2.2.2.2.2.2.1 m.2.2.2.2.2.2.2.1 m.2.2.2.2.2.2.2.2.1 m.2.2.2.2.2.2.2.2.2.1 m.2.2.2.2.2.2.2.2.2.2) (bareOf m) := by
  unfold msg_Bare.f bareOf bareW
  rw [lk_msg_fields]
  simp only [Option.bind_some]
  by_cases h : Go.bits .and .i64 (flI m.1 m.2.2.2.1) 1 = 0
  · simp only [if_pos h]
    exact lk_Bare_j0 _ m.1 m.2.1 m.2.2.1 m.2.2.2.1 m.2.2.2.2.1 m.2.2.2.2.2.1 m.2.2.2.2.2.2.1 m.2.2.2.2.2.2.2.1 m.2.2.2.2.2.2.2.2.1 m.2.2.2.2.2.2.2.2.2.1 m.2.2.2.2.2.2.2.2.2.2 hp hq m.1 m.2.1 0 false 0 (⟨#[]⟩ : ByteArray) (⟨#[]⟩ : ByteArray) 0 0
  · simp only [if_neg h]
    exact lk_Bare_j0 _ m.1 m.2.1 m.2.2.1 m.2.2.2.1 m.2.2.2.2.1 m.2.2.2.2.2.1 m.2.2.2.2.2.2.1 m.2.2.2.2.2.2.2.1 m.2.2.2.2.2.2.2.2.1 m.2.2.2.2.2.2.2.2.2.1 m.2.2.2.2.2.2.2.2.2.2 hp hq m.1 m.2.1 m.2.2.1 false 0 (⟨#[]⟩ : ByteArray) (⟨#[]⟩ : ByteArray) 0 0
theorem bareOf_idem (m : MsgT) : bareOf (bareOf m) = bareOf m := by
  have e := flI_idem m.1 m.2.2.2.1
  have e' : flI (bareOf m).1 (bareOf m).2.2.2.1 = flI m.1 m.2.2.2.1 := e
  have key : ∀ {α : Type} (c : Prop) [Decidable c] (a b : α), (if c then a else (if c then a else b)) = if c then a else b := by
    intro α c _ a b
    by_cases h : c
    · rw [if_pos h, if_pos h]
    · rw [if_neg h, if_neg h]
  show bareW (flI (bareOf m).1 (bareOf m).2.2.2.1) (bareOf m) = bareOf m
  rw [e']
  unfold bareOf
  generalize flI m.1 m.2.2.2.1 = fl
  unfold bareW
  simp only [key]
theorem bareOf_len (m : MsgT) : (bareOf m).2.2.2.2.2.2.2.2.2.1.length ≤ m.2.2.2.2.2.2.2.2.2.1.length ∧ (bareOf m).2.2.2.2.2.2.2.2.2.2.length ≤ m.2.2.2.2.2.2.2.2.2.2.length := by
  unfold bareOf bareW
  constructor
  · show (if _ then [] else _ : List S26).length ≤ _
    split <;> simp
  · show (if _ then [] else _ : List S45).length ≤ _
    split <;> simp
theorem lk_Peers (l l' : List S26) (hl : l.length < 9223372036854775807) : ∃ c, Ev (fun k => api_Peer_42.f k l l') c ∧ (l = l' → c = true) := by
  unfold api_Peer_42.f
  by_cases he : (l.length : Int) = (l'.length : Int)
  · simp only [if_pos he]
    have loop : ∀ (d i : Nat), i + d = l.length → ∃ c, Ev (fun k => api_Peer_42.l0 k l l' (l.length : Int) (i : Int)) c ∧ (l = l' → c = true) := by
      intro d
      induction d with
      | zero =>
        intro i hi
        refine ⟨true, ev_const fun k => ?_, fun _ => rfl⟩
        rw [api_Peer_42.l0, if_neg (by omega)]
      | succ d ih =>
        intro i hi
        obtain ⟨c, h1, h2⟩ := ih (i + 1) (by omega)
        by_cases hd : (!(((rd_T26 l (i : Int)).f0) == ((rd_T26 l' (i : Int)).f0)) || (!(((rd_T26 l (i : Int)).f1) == ((rd_T26 l' (i : Int)).f1)))) = true
        · refine ⟨false, ev_const fun k => ?_, fun e => ?_⟩
          · rw [api_Peer_42.l0, if_pos (by omega), if_pos (by omega), if_pos (by omega), if_pos (by omega), if_pos hd]
          · subst e; simp at hd
        · refine ⟨c, ?_, h2⟩
          refine ev_succ ?_
          simp only [api_Peer_42.l0, if_pos (show (i : Int) < (l.length : Int) by omega), if_pos (show (0 : Int) ≤ (i : Int) by omega), if_pos (show (i : Int) < (l'.length : Int) by omega), if_neg hd]
          rw [w64 (by omega) (by omega)]
          exact h1
    exact loop l.length 0 (by omega)
  · simp only [if_neg he]
    exact ⟨false, ev_some _, fun e => absurd (by rw [e]) he⟩
theorem lk_Pairs (l l' : List S45) (hl : l.length < 9223372036854775807) : ∃ c, Ev (fun k => api_Pair_43.f k l l') c ∧ (l = l' → c = true) := by
  unfold api_Pair_43.f
  by_cases he : (l.length : Int) = (l'.length : Int)
  · simp only [if_pos he]
    have loop : ∀ (d i : Nat), i + d = l.length → ∃ c, Ev (fun k => api_Pair_43.l0 k l l' (l.length : Int) (i : Int)) c ∧ (l = l' → c = true) := by
      intro d
      induction d with
      | zero =>
        intro i hi
        refine ⟨true, ev_const fun k => ?_, fun _ => rfl⟩
        rw [api_Pair_43.l0, if_neg (by omega)]
      | succ d ih =>
        intro i hi
        obtain ⟨c, h1, h2⟩ := ih (i + 1) (by omega)
        by_cases hd : (!((((rd_T45 l (i : Int)).f0).toList) == (((rd_T45 l' (i : Int)).f0).toList)) || (!((((rd_T45 l (i : Int)).f1).toList) == (((rd_T45 l' (i : Int)).f1).toList)))) = true
        · refine ⟨false, ev_const fun k => ?_, fun e => ?_⟩
          · rw [api_Pair_43.l0, if_pos (by omega), if_pos (by omega), if_pos (by omega), if_pos (by omega), if_pos hd]
          · subst e; simp at hd
        · refine ⟨c, ?_, h2⟩
          refine ev_succ ?_
          simp only [api_Pair_43.l0, if_pos (show (i : Int) < (l.length : Int) by omega), if_pos (show (0 : Int) ≤ (i : Int) by omega), if_pos (show (i : Int) < (l'.length : Int) by omega), if_neg hd]
          rw [w64 (by omega) (by omega)]
          exact h1
    exact loop l.length 0 (by omega)
  · simp only [if_neg he]
    exact ⟨false, ev_some _, fun e => absurd (by rw [e]) he⟩
theorem lk_Same (m n : MsgT) (hp : m.2.2.2.2.2.2.2.2.2.1.length < 9223372036854775807) (hq : m.2.2.2.2.2.2.2.2.2.2.length < 9223372036854775807) : ∃ c, Ev (fun k => msg_Same.f k m.1 m.2.1 m.2.2.1 m.2.2.2.1 m.2.2.2.2.1 m.2.2.2.2.2.1 m.2.2.2.2.2.2.1 m.2.2.2.2.2.2.2.1 m.2.2.2.2.2.2.2.2.1 m.2.2.2.2.2.2.2.2.2.1 m.2.2.2.2.2.2.2.2.2.2 n.1 n.2.1 n.2.2.1 n.2.2.2.1 n.2.2.2.2.1 n.2.2.2.2.2.1 n.2.2.2.2.2.2.1 n.2.2.2.2.2.2.2.1 n.2.2.2.2.2.2.2.2.1 n.2.2.2.2.2.2.2.2.2.1 n.2.2.2.2.2.2.2.2.2.2) c ∧ (m = n → c = true) := by
  obtain ⟨q1, h1, e1⟩ := lk_Peers m.2.2.2.2.2.2.2.2.2.1 n.2.2.2.2.2.2.2.2.2.1 hp
  obtain ⟨q2, h2, e2⟩ := lk_Pairs m.2.2.2.2.2.2.2.2.2.2 n.2.2.2.2.2.2.2.2.2.2 hq
  unfold msg_Same.f
  have no : ∀ {P : Prop}, ¬ P → (m = n → P) → ∃ c, Ev (fun _ : Nat => some false) c ∧ (m = n → c = true) := fun hP hi => ⟨false, ev_some _, fun e => absurd (hi e) hP⟩
  by_cases c0 : m.1 = n.1
  case neg => simp only [if_neg c0]; exact no c0 (fun e => by subst e; simp)
  simp only [if_pos c0]
  by_cases c1 : m.2.1 = n.2.1
  case neg => simp only [if_neg c1]; exact no c1 (fun e => by subst e; simp)
  simp only [if_pos c1]
  by_cases c2 : m.2.2.1 = n.2.2.1
  case neg => simp only [if_neg c2]; exact no c2 (fun e => by subst e; simp)
  simp only [if_pos c2]
  by_cases c3 : (m.2.2.2.1 == n.2.2.2.1) = true
  case neg => simp only [if_neg c3]; exact no c3 (fun e => by subst e; simp)
  simp only [if_pos c3]
  by_cases c4 : m.2.2.2.2.1 = n.2.2.2.2.1
  case neg => simp only [if_neg c4]; exact no c4 (fun e => by subst e; simp)
  simp only [if_pos c4]
  by_cases c5 : m.2.2.2.2.2.1.toList = n.2.2.2.2.2.1.toList
  case neg => simp only [if_neg c5]; exact no c5 (fun e => by subst e; simp)
  simp only [if_pos c5]
  by_cases c6 : m.2.2.2.2.2.2.1.toList = n.2.2.2.2.2.2.1.toList
  case neg => simp only [if_neg c6]; exact no c6 (fun e => by subst e; simp)
  simp only [if_pos c6]
  by_cases c7 : (m.2.2.2.2.2.2.2.1 == n.2.2.2.2.2.2.2.1 && (m.2.2.2.2.2.2.2.2.1 == n.2.2.2.2.2.2.2.2.1)) = true
  case neg => simp only [if_neg c7]; exact no c7 (fun e => by subst e; simp)
  simp only [if_pos c7]
  cases q1 with
  | false => exact ⟨false, ev_bind h1 (by simp only [Bool.false_eq_true, if_false]; exact ev_some _), fun e => absurd (e1 (by subst e; rfl)) (by simp)⟩
  | true => exact ⟨q2, ev_bind h1 (by simp only [if_true]; exact ev_bind h2 (ev_some _)), fun e => e2 (by subst e; rfl)⟩
theorem lk_Key_tot (s : ByteArray) : ∃ b, msg_Key.f s = some b := by
  unfold msg_Key.f
  by_cases h : s.toList = []
  · rw [if_pos h]; exact ⟨_, rfl⟩
  · rw [if_neg h]
    by_cases h1 : (s.size : Int) ≤ 96
    · rw [if_pos h1]
      unfold utf_Valid.f utf_Count.f
      rw [if_pos (by omega), if_pos (by omega)]
      simp only [Option.bind_some]
      split
      · exact ⟨_, rfl⟩
      · exact ⟨_, rfl⟩
    · rw [if_neg h1]; exact ⟨_, rfl⟩
theorem idxO_tot {α : Type} (f : α → Option Bool) (hf : ∀ x, ∃ b, f x = some b) : ∀ (l : List α) (i : Int), ∃ j, idxO f l i = some j
  | [], i => ⟨-1, rfl⟩
  | x :: l, i => by
    obtain ⟨b, hb⟩ := hf x
    rw [idxO, hb]
    simp only [Option.bind_some]
    split
    · exact ⟨i, rfl⟩
    · exact idxO_tot f hf l (i + 1)
theorem lk_text_tot (m0 : Int) (m1 : Int) (m2 : Int) (m3 : Bool) (m4 : Int) (m5 : ByteArray) (m6 : ByteArray) (m7 : Int) (m8 : Int) (m9 : List S26) (m10 : List S45) (g : Int) : ∃ b, msg_text.f m0 m1 m2 m3 m4 m5 m6 m7 m8 m9 m10 g = some b := by
  obtain ⟨i, hi⟩ := idxO_tot (fun x : S45 => msg_text_1.f x.f0 x.f1) (fun x => by
    obtain ⟨b, hb⟩ := lk_Key_tot x.f0
    exact ⟨!b, by unfold msg_text_1.f; rw [hb]; rfl⟩) m10 0
  obtain ⟨b, hb⟩ := lk_Key_tot m5
  unfold msg_text.f api_Pair_46.f
  rw [hb]
  simp only [if_true, hi, Option.bind_some]
  split
  · exact ⟨_, rfl⟩
  · split
    · exact ⟨_, rfl⟩
    · exact ⟨_, rfl⟩
theorem lk_long_tot (m0 : Int) (m1 : Int) (m2 : Int) (m3 : Bool) (m4 : Int) (m5 : ByteArray) (m6 : ByteArray) (m7 : Int) (m8 : Int) (m9 : List S26) (m10 : List S45) : ∃ b, msg_long.f m0 m1 m2 m3 m4 m5 m6 m7 m8 m9 m10 = some b := by
  obtain ⟨i, hi⟩ := idxO_tot (fun x : S45 => msg_long_1.f x.f0 x.f1) (fun x => ⟨_, rfl⟩) m10 0
  unfold msg_long.f api_Pair_46.f
  simp only [if_neg (show ¬ (48 : Nat) = 47 by decide), if_true, hi, Option.bind_some]
  split
  · exact ⟨_, rfl⟩
  · split
    · exact ⟨_, rfl⟩
    · split
      · exact ⟨_, rfl⟩
      · exact ⟨_, rfl⟩
theorem lk_Right (m : MsgT) (hp : m.2.2.2.2.2.2.2.2.2.1.length < 8796093022208) (hq : m.2.2.2.2.2.2.2.2.2.2.length < 4398046511104) (c : Bool) (hc : Ev (fun k => msg_Same.f k m.1 m.2.1 m.2.2.1 m.2.2.2.1 m.2.2.2.2.1 m.2.2.2.2.2.1 m.2.2.2.2.2.2.1 m.2.2.2.2.2.2.2.1 m.2.2.2.2.2.2.2.2.1 m.2.2.2.2.2.2.2.2.2.1 m.2.2.2.2.2.2.2.2.2.2 (bareOf m).1 (bareOf m).2.1 (bareOf m).2.2.1 (bareOf m).2.2.2.1 (bareOf m).2.2.2.2.1 (bareOf m).2.2.2.2.2.1 (bareOf m).2.2.2.2.2.2.1 (bareOf m).2.2.2.2.2.2.2.1 (bareOf m).2.2.2.2.2.2.2.2.1 (bareOf m).2.2.2.2.2.2.2.2.2.1 (bareOf m).2.2.2.2.2.2.2.2.2.2) c) :
    ∃ r, Ev (fun k => msg_Right.f k m.1 m.2.1 m.2.2.1 m.2.2.2.1 m.2.2.2.2.1 m.2.2.2.2.2.1 m.2.2.2.2.2.2.1 m.2.2.2.2.2.2.2.1 m.2.2.2.2.2.2.2.2.1 m.2.2.2.2.2.2.2.2.2.1 m.2.2.2.2.2.2.2.2.2.2) r ∧ (r = 0 → c = true) ∧ (c = true → r ≠ 1) := by
  obtain ⟨b1, h1⟩ := lk_text_tot m.1 m.2.1 m.2.2.1 m.2.2.2.1 m.2.2.2.2.1 m.2.2.2.2.2.1 m.2.2.2.2.2.2.1 m.2.2.2.2.2.2.2.1 m.2.2.2.2.2.2.2.2.1 m.2.2.2.2.2.2.2.2.2.1 m.2.2.2.2.2.2.2.2.2.2 (flI m.1 m.2.2.2.1)
  obtain ⟨b2, h2⟩ := lk_long_tot m.1 m.2.1 m.2.2.1 m.2.2.2.1 m.2.2.2.2.1 m.2.2.2.2.2.1 m.2.2.2.2.2.2.1 m.2.2.2.2.2.2.2.1 m.2.2.2.2.2.2.2.2.1 m.2.2.2.2.2.2.2.2.2.1 m.2.2.2.2.2.2.2.2.2.2
  have hS : ∃ b3, msg_short.f m.1 m.2.1 m.2.2.1 m.2.2.2.1 m.2.2.2.2.1 m.2.2.2.2.2.1 m.2.2.2.2.2.2.1 m.2.2.2.2.2.2.2.1 m.2.2.2.2.2.2.2.2.1 m.2.2.2.2.2.2.2.2.2.1 m.2.2.2.2.2.2.2.2.2.2 = some b3 := by
    unfold msg_short.f
    split
    · exact ⟨_, rfl⟩
    · split
      · exact ⟨_, rfl⟩
      · split
        · exact ⟨_, rfl⟩
        · exact ⟨_, rfl⟩
  obtain ⟨b3, h3⟩ := hS
  unfold msg_Right.f
  rw [lk_msg_fields, lk_msg_Name]
  simp only [Option.bind_some]
  by_cases hn : (kA m.1).f0.toList = ([63] : List UInt8)
  · simp only [if_pos hn]
    exact ⟨9, ev_some _, (fun h => by cases h), (fun _ h => by cases h)⟩
  simp only [if_neg hn, h1, h2, h3, Option.bind_some]
  cases c with
  | false =>
    refine ⟨1, ev_bind (lk_Bare m hp hq) (ev_bind hc ?_), (fun h => by cases h), (fun h => by cases h)⟩
    simp only [Bool.false_eq_true, if_false]
    exact ev_some _
  | true =>
    refine ⟨if b1 = true then (if b2 = true then 5 else (if b3 = true then 2 else 0)) else 7, ev_bind (lk_Bare m hp hq) (ev_bind hc ?_), fun _ => rfl, fun _ => ?_⟩
    · simp only [if_true]
      cases b1 <;> cases b2 <;> cases b3 <;> exact ev_some _
    · cases b1 <;> cases b2 <;> cases b3 <;> decide
theorem lk_Large (m0 : Int) (m1 : Int) (m2 : Int) (m3 : Bool) (m4 : Int) (m5 : ByteArray) (m6 : ByteArray) (m7 : Int) (m8 : Int) (m9 : List S26) (m10 : List S45) : ∃ b, Ev (fun k => annuletlaw08_Large.f k m0 m1 m2 m3 m4 m5 m6 m7 m8 m9 m10) b ∧ (b = false → m9.length ≤ 40 ∧ m10.length ≤ 20) := by
  have jt : Ev (fun k => annuletlaw08_Large.j0 k true m0 m1 m2 m3 m4 m5 m6 m7 m8 m9 m10) true := ev_const fun k => by rw [annuletlaw08_Large.j0, if_pos rfl]
  have loop : m10.length ≤ 20 → ∀ (d i : Nat), i + d = m10.length → ∃ b, Ev (fun k => annuletlaw08_Large.l0 k (i : Int) m0 m1 m2 m3 m4 m5 m6 m7 m8 m9 m10) b := by
    intro hl d
    induction d with
    | zero =>
      intro i hi
      refine ⟨false, ev_const fun k => ?_⟩
      rw [annuletlaw08_Large.l0, if_neg (by omega)]
    | succ d ih =>
      intro i hi
      obtain ⟨b, hb⟩ := ih (i + 1) (by omega)
      by_cases h1 : (((rd_T45 m10 (i : Int)).f0).size : Int) > 300
      · refine ⟨true, ev_const fun k => ?_⟩
        rw [annuletlaw08_Large.l0, if_pos (by omega), if_pos (by omega), if_pos h1]
      · by_cases h2 : (((rd_T45 m10 (i : Int)).f1).size : Int) > 700
        · refine ⟨true, ev_const fun k => ?_⟩
          rw [annuletlaw08_Large.l0, if_pos (by omega), if_pos (by omega), if_neg h1, if_pos h2]
        · refine ⟨b, ev_succ ?_⟩
          simp only [annuletlaw08_Large.l0, if_pos (show (i : Int) < (m10.length : Int) by omega), if_pos (show (0 : Int) ≤ (i : Int) by omega), if_neg h1, if_neg h2]
          rw [w64 (by omega) (by omega)]
          exact hb
  unfold annuletlaw08_Large.f
  by_cases c1 : (m5.size : Int) > 300
  · simp only [if_pos c1]; exact ⟨true, jt, fun h => by cases h⟩
  by_cases c2 : (m6.size : Int) > 700
  · simp only [if_neg c1, if_pos c2]; exact ⟨true, jt, fun h => by cases h⟩
  by_cases c3 : (m9.length : Int) > 40
  · simp only [if_neg c1, if_neg c2, if_pos c3]; exact ⟨true, jt, fun h => by cases h⟩
  simp only [if_neg c1, if_neg c2, if_neg c3]
  by_cases c4 : (m10.length : Int) > 20
  · simp only [decide_eq_true c4]; exact ⟨true, jt, fun h => by cases h⟩
  · simp only [decide_eq_false c4]
    obtain ⟨b, hb⟩ := loop (by omega) m10.length 0 (by omega)
    refine ⟨b, ev_succ ?_, fun _ => ⟨by omega, by omega⟩⟩
    simp only [annuletlaw08_Large.j0, Bool.false_eq_true, if_false]
    exact hb

/-! ### annuletref08 -/
theorem lk_ref08_Bare (m : MsgT) (hp : m.2.2.2.2.2.2.2.2.2.1.length < 8796093022208) (hq : m.2.2.2.2.2.2.2.2.2.2.length < 4398046511104) : annuletref08_Bare.f m.1 m.2.1 m.2.2.1 m.2.2.2.1 m.2.2.2.2.1 m.2.2.2.2.2.1 m.2.2.2.2.2.2.1 m.2.2.2.2.2.2.2.1 m.2.2.2.2.2.2.2.2.1 m.2.2.2.2.2.2.2.2.2.1 m.2.2.2.2.2.2.2.2.2.2 = some (bareOf m) := by
  obtain ⟨m0, m1, m2, m3, m4, m5, m6, m7, m8, m9, m10⟩ := m
  unfold annuletref08_Bare.f bareOf bareW
  dsimp only at hp hq ⊢
  rcases kA_cases m0 with ⟨h, h'⟩ | h | h | h | h | h | h | h | h | h | h | h | h
  · have e : ∀ b, flI m0 b = 0 := by
      intro b
      unfold flI
      rw [h]
      cases b <;> decide +kernel
    have n : ¬ m0 = 1 ∧ ¬ m0 = 2 ∧ ¬ m0 = 4 ∧ ¬ m0 = 5 ∧ ¬ m0 = 7 ∧ ¬ m0 = 8 ∧ ¬ m0 = 9 ∧ ¬ m0 = 10 ∧ ¬ m0 = 12 := by omega
    rw [e, if_neg n.1, if_neg n.2.1, if_neg n.2.2.1, if_neg n.2.2.2.1, if_neg n.2.2.2.2.1, if_neg n.2.2.2.2.2.1, if_neg n.2.2.2.2.2.2.1, if_neg n.2.2.2.2.2.2.2.1, if_neg n.2.2.2.2.2.2.2.2]
    rfl
  · subst h
    cases m3
    · rw [show flI 1 false = 4 by decide +kernel]
      have z1 : (Go.bits .and .i64 4 1 = 0) = True := eq_true (by decide +kernel)
      have z2 : (Go.bits .and .i64 4 2 = 0) = True := eq_true (by decide +kernel)
      have z4 : (Go.bits .and .i64 4 4 = 0) = False := eq_false (by decide +kernel)
      have z8 : (Go.bits .and .i64 4 8 = 0) = True := eq_true (by decide +kernel)
      have z16 : (Go.bits .and .i64 4 16 = 0) = True := eq_true (by decide +kernel)
      have z32 : (Go.bits .and .i64 4 32 = 0) = True := eq_true (by decide +kernel)
      have z64 : (Go.bits .and .i64 4 64 = 0) = True := eq_true (by decide +kernel)
      have z128 : (Go.bits .and .i64 4 128 = 0) = True := eq_true (by decide +kernel)
      simp [hp, hq, z1, z2, z4, z8, z16, z32, z64, z128]
    · rw [show flI 1 true = 4 by decide +kernel]
      have z1 : (Go.bits .and .i64 4 1 = 0) = True := eq_true (by decide +kernel)
      have z2 : (Go.bits .and .i64 4 2 = 0) = True := eq_true (by decide +kernel)
      have z4 : (Go.bits .and .i64 4 4 = 0) = False := eq_false (by decide +kernel)
      have z8 : (Go.bits .and .i64 4 8 = 0) = True := eq_true (by decide +kernel)
      have z16 : (Go.bits .and .i64 4 16 = 0) = True := eq_true (by decide +kernel)
      have z32 : (Go.bits .and .i64 4 32 = 0) = True := eq_true (by decide +kernel)
      have z64 : (Go.bits .and .i64 4 64 = 0) = True := eq_true (by decide +kernel)
      have z128 : (Go.bits .and .i64 4 128 = 0) = True := eq_true (by decide +kernel)
      simp [hp, hq, z1, z2, z4, z8, z16, z32, z64, z128]
  · subst h
    cases m3
    · rw [show flI 2 false = 18 by decide +kernel]
      have z1 : (Go.bits .and .i64 18 1 = 0) = True := eq_true (by decide +kernel)
      have z2 : (Go.bits .and .i64 18 2 = 0) = False := eq_false (by decide +kernel)
      have z4 : (Go.bits .and .i64 18 4 = 0) = True := eq_true (by decide +kernel)
      have z8 : (Go.bits .and .i64 18 8 = 0) = True := eq_true (by decide +kernel)
      have z16 : (Go.bits .and .i64 18 16 = 0) = False := eq_false (by decide +kernel)
      have z32 : (Go.bits .and .i64 18 32 = 0) = True := eq_true (by decide +kernel)
      have z64 : (Go.bits .and .i64 18 64 = 0) = True := eq_true (by decide +kernel)
      have z128 : (Go.bits .and .i64 18 128 = 0) = True := eq_true (by decide +kernel)
      simp [hp, hq, z1, z2, z4, z8, z16, z32, z64, z128]
    · rw [show flI 2 true = 18 by decide +kernel]
      have z1 : (Go.bits .and .i64 18 1 = 0) = True := eq_true (by decide +kernel)
      have z2 : (Go.bits .and .i64 18 2 = 0) = False := eq_false (by decide +kernel)
      have z4 : (Go.bits .and .i64 18 4 = 0) = True := eq_true (by decide +kernel)
      have z8 : (Go.bits .and .i64 18 8 = 0) = True := eq_true (by decide +kernel)
      have z16 : (Go.bits .and .i64 18 16 = 0) = False := eq_false (by decide +kernel)
      have z32 : (Go.bits .and .i64 18 32 = 0) = True := eq_true (by decide +kernel)
      have z64 : (Go.bits .and .i64 18 64 = 0) = True := eq_true (by decide +kernel)
      have z128 : (Go.bits .and .i64 18 128 = 0) = True := eq_true (by decide +kernel)
      simp [hp, hq, z1, z2, z4, z8, z16, z32, z64, z128]
  · subst h
    cases m3
    · rw [show flI 3 false = 0 by decide +kernel]
      have z1 : (Go.bits .and .i64 0 1 = 0) = True := eq_true (by decide +kernel)
      have z2 : (Go.bits .and .i64 0 2 = 0) = True := eq_true (by decide +kernel)
      have z4 : (Go.bits .and .i64 0 4 = 0) = True := eq_true (by decide +kernel)
      have z8 : (Go.bits .and .i64 0 8 = 0) = True := eq_true (by decide +kernel)
      have z16 : (Go.bits .and .i64 0 16 = 0) = True := eq_true (by decide +kernel)
      have z32 : (Go.bits .and .i64 0 32 = 0) = True := eq_true (by decide +kernel)
      have z64 : (Go.bits .and .i64 0 64 = 0) = True := eq_true (by decide +kernel)
      have z128 : (Go.bits .and .i64 0 128 = 0) = True := eq_true (by decide +kernel)
      simp [hp, hq, z1, z2, z4, z8, z16, z32, z64, z128]
    · rw [show flI 3 true = 0 by decide +kernel]
      have z1 : (Go.bits .and .i64 0 1 = 0) = True := eq_true (by decide +kernel)
      have z2 : (Go.bits .and .i64 0 2 = 0) = True := eq_true (by decide +kernel)
      have z4 : (Go.bits .and .i64 0 4 = 0) = True := eq_true (by decide +kernel)
      have z8 : (Go.bits .and .i64 0 8 = 0) = True := eq_true (by decide +kernel)
      have z16 : (Go.bits .and .i64 0 16 = 0) = True := eq_true (by decide +kernel)
      have z32 : (Go.bits .and .i64 0 32 = 0) = True := eq_true (by decide +kernel)
      have z64 : (Go.bits .and .i64 0 64 = 0) = True := eq_true (by decide +kernel)
      have z128 : (Go.bits .and .i64 0 128 = 0) = True := eq_true (by decide +kernel)
      simp [hp, hq, z1, z2, z4, z8, z16, z32, z64, z128]
  · subst h
    cases m3
    · rw [show flI 4 false = 18 by decide +kernel]
      have z1 : (Go.bits .and .i64 18 1 = 0) = True := eq_true (by decide +kernel)
      have z2 : (Go.bits .and .i64 18 2 = 0) = False := eq_false (by decide +kernel)
      have z4 : (Go.bits .and .i64 18 4 = 0) = True := eq_true (by decide +kernel)
      have z8 : (Go.bits .and .i64 18 8 = 0) = True := eq_true (by decide +kernel)
      have z16 : (Go.bits .and .i64 18 16 = 0) = False := eq_false (by decide +kernel)
      have z32 : (Go.bits .and .i64 18 32 = 0) = True := eq_true (by decide +kernel)
      have z64 : (Go.bits .and .i64 18 64 = 0) = True := eq_true (by decide +kernel)
      have z128 : (Go.bits .and .i64 18 128 = 0) = True := eq_true (by decide +kernel)
      simp [hp, hq, z1, z2, z4, z8, z16, z32, z64, z128]
    · rw [show flI 4 true = 26 by decide +kernel]
      have z1 : (Go.bits .and .i64 26 1 = 0) = True := eq_true (by decide +kernel)
      have z2 : (Go.bits .and .i64 26 2 = 0) = False := eq_false (by decide +kernel)
      have z4 : (Go.bits .and .i64 26 4 = 0) = True := eq_true (by decide +kernel)
      have z8 : (Go.bits .and .i64 26 8 = 0) = False := eq_false (by decide +kernel)
      have z16 : (Go.bits .and .i64 26 16 = 0) = False := eq_false (by decide +kernel)
      have z32 : (Go.bits .and .i64 26 32 = 0) = True := eq_true (by decide +kernel)
      have z64 : (Go.bits .and .i64 26 64 = 0) = True := eq_true (by decide +kernel)
      have z128 : (Go.bits .and .i64 26 128 = 0) = True := eq_true (by decide +kernel)
      simp [hp, hq, z1, z2, z4, z8, z16, z32, z64, z128]
  · subst h
    cases m3
    · rw [show flI 5 false = 8 by decide +kernel]
      have z1 : (Go.bits .and .i64 8 1 = 0) = True := eq_true (by decide +kernel)
      have z2 : (Go.bits .and .i64 8 2 = 0) = True := eq_true (by decide +kernel)
      have z4 : (Go.bits .and .i64 8 4 = 0) = True := eq_true (by decide +kernel)
      have z8 : (Go.bits .and .i64 8 8 = 0) = False := eq_false (by decide +kernel)
      have z16 : (Go.bits .and .i64 8 16 = 0) = True := eq_true (by decide +kernel)
      have z32 : (Go.bits .and .i64 8 32 = 0) = True := eq_true (by decide +kernel)
      have z64 : (Go.bits .and .i64 8 64 = 0) = True := eq_true (by decide +kernel)
      have z128 : (Go.bits .and .i64 8 128 = 0) = True := eq_true (by decide +kernel)
      simp [hp, hq, z1, z2, z4, z8, z16, z32, z64, z128]
    · rw [show flI 5 true = 8 by decide +kernel]
      have z1 : (Go.bits .and .i64 8 1 = 0) = True := eq_true (by decide +kernel)
      have z2 : (Go.bits .and .i64 8 2 = 0) = True := eq_true (by decide +kernel)
      have z4 : (Go.bits .and .i64 8 4 = 0) = True := eq_true (by decide +kernel)
      have z8 : (Go.bits .and .i64 8 8 = 0) = False := eq_false (by decide +kernel)
      have z16 : (Go.bits .and .i64 8 16 = 0) = True := eq_true (by decide +kernel)
      have z32 : (Go.bits .and .i64 8 32 = 0) = True := eq_true (by decide +kernel)
      have z64 : (Go.bits .and .i64 8 64 = 0) = True := eq_true (by decide +kernel)
      have z128 : (Go.bits .and .i64 8 128 = 0) = True := eq_true (by decide +kernel)
      simp [hp, hq, z1, z2, z4, z8, z16, z32, z64, z128]
  · subst h
    cases m3
    · rw [show flI 6 false = 0 by decide +kernel]
      have z1 : (Go.bits .and .i64 0 1 = 0) = True := eq_true (by decide +kernel)
      have z2 : (Go.bits .and .i64 0 2 = 0) = True := eq_true (by decide +kernel)
      have z4 : (Go.bits .and .i64 0 4 = 0) = True := eq_true (by decide +kernel)
      have z8 : (Go.bits .and .i64 0 8 = 0) = True := eq_true (by decide +kernel)
      have z16 : (Go.bits .and .i64 0 16 = 0) = True := eq_true (by decide +kernel)
      have z32 : (Go.bits .and .i64 0 32 = 0) = True := eq_true (by decide +kernel)
      have z64 : (Go.bits .and .i64 0 64 = 0) = True := eq_true (by decide +kernel)
      have z128 : (Go.bits .and .i64 0 128 = 0) = True := eq_true (by decide +kernel)
      simp [hp, hq, z1, z2, z4, z8, z16, z32, z64, z128]
    · rw [show flI 6 true = 0 by decide +kernel]
      have z1 : (Go.bits .and .i64 0 1 = 0) = True := eq_true (by decide +kernel)
      have z2 : (Go.bits .and .i64 0 2 = 0) = True := eq_true (by decide +kernel)
      have z4 : (Go.bits .and .i64 0 4 = 0) = True := eq_true (by decide +kernel)
      have z8 : (Go.bits .and .i64 0 8 = 0) = True := eq_true (by decide +kernel)
      have z16 : (Go.bits .and .i64 0 16 = 0) = True := eq_true (by decide +kernel)
      have z32 : (Go.bits .and .i64 0 32 = 0) = True := eq_true (by decide +kernel)
      have z64 : (Go.bits .and .i64 0 64 = 0) = True := eq_true (by decide +kernel)
      have z128 : (Go.bits .and .i64 0 128 = 0) = True := eq_true (by decide +kernel)
      simp [hp, hq, z1, z2, z4, z8, z16, z32, z64, z128]
  · subst h
    cases m3
    · rw [show flI 7 false = 96 by decide +kernel]
      have z1 : (Go.bits .and .i64 96 1 = 0) = True := eq_true (by decide +kernel)
      have z2 : (Go.bits .and .i64 96 2 = 0) = True := eq_true (by decide +kernel)
      have z4 : (Go.bits .and .i64 96 4 = 0) = True := eq_true (by decide +kernel)
      have z8 : (Go.bits .and .i64 96 8 = 0) = True := eq_true (by decide +kernel)
      have z16 : (Go.bits .and .i64 96 16 = 0) = True := eq_true (by decide +kernel)
      have z32 : (Go.bits .and .i64 96 32 = 0) = False := eq_false (by decide +kernel)
      have z64 : (Go.bits .and .i64 96 64 = 0) = False := eq_false (by decide +kernel)
      have z128 : (Go.bits .and .i64 96 128 = 0) = True := eq_true (by decide +kernel)
      simp [hp, hq, z1, z2, z4, z8, z16, z32, z64, z128]
    · rw [show flI 7 true = 96 by decide +kernel]
      have z1 : (Go.bits .and .i64 96 1 = 0) = True := eq_true (by decide +kernel)
      have z2 : (Go.bits .and .i64 96 2 = 0) = True := eq_true (by decide +kernel)
      have z4 : (Go.bits .and .i64 96 4 = 0) = True := eq_true (by decide +kernel)
      have z8 : (Go.bits .and .i64 96 8 = 0) = True := eq_true (by decide +kernel)
      have z16 : (Go.bits .and .i64 96 16 = 0) = True := eq_true (by decide +kernel)
      have z32 : (Go.bits .and .i64 96 32 = 0) = False := eq_false (by decide +kernel)
      have z64 : (Go.bits .and .i64 96 64 = 0) = False := eq_false (by decide +kernel)
      have z128 : (Go.bits .and .i64 96 128 = 0) = True := eq_true (by decide +kernel)
      simp [hp, hq, z1, z2, z4, z8, z16, z32, z64, z128]
  · subst h
    cases m3
    · rw [show flI 8 false = 32 by decide +kernel]
      have z1 : (Go.bits .and .i64 32 1 = 0) = True := eq_true (by decide +kernel)
      have z2 : (Go.bits .and .i64 32 2 = 0) = True := eq_true (by decide +kernel)
      have z4 : (Go.bits .and .i64 32 4 = 0) = True := eq_true (by decide +kernel)
      have z8 : (Go.bits .and .i64 32 8 = 0) = True := eq_true (by decide +kernel)
      have z16 : (Go.bits .and .i64 32 16 = 0) = True := eq_true (by decide +kernel)
      have z32 : (Go.bits .and .i64 32 32 = 0) = False := eq_false (by decide +kernel)
      have z64 : (Go.bits .and .i64 32 64 = 0) = True := eq_true (by decide +kernel)
      have z128 : (Go.bits .and .i64 32 128 = 0) = True := eq_true (by decide +kernel)
      simp [hp, hq, z1, z2, z4, z8, z16, z32, z64, z128]
    · rw [show flI 8 true = 32 by decide +kernel]
      have z1 : (Go.bits .and .i64 32 1 = 0) = True := eq_true (by decide +kernel)
      have z2 : (Go.bits .and .i64 32 2 = 0) = True := eq_true (by decide +kernel)
      have z4 : (Go.bits .and .i64 32 4 = 0) = True := eq_true (by decide +kernel)
      have z8 : (Go.bits .and .i64 32 8 = 0) = True := eq_true (by decide +kernel)
      have z16 : (Go.bits .and .i64 32 16 = 0) = True := eq_true (by decide +kernel)
      have z32 : (Go.bits .and .i64 32 32 = 0) = False := eq_false (by decide +kernel)
      have z64 : (Go.bits .and .i64 32 64 = 0) = True := eq_true (by decide +kernel)
      have z128 : (Go.bits .and .i64 32 128 = 0) = True := eq_true (by decide +kernel)
      simp [hp, hq, z1, z2, z4, z8, z16, z32, z64, z128]
  · subst h
    cases m3
    · rw [show flI 9 false = 2 by decide +kernel]
      have z1 : (Go.bits .and .i64 2 1 = 0) = True := eq_true (by decide +kernel)
      have z2 : (Go.bits .and .i64 2 2 = 0) = False := eq_false (by decide +kernel)
      have z4 : (Go.bits .and .i64 2 4 = 0) = True := eq_true (by decide +kernel)
      have z8 : (Go.bits .and .i64 2 8 = 0) = True := eq_true (by decide +kernel)
      have z16 : (Go.bits .and .i64 2 16 = 0) = True := eq_true (by decide +kernel)
      have z32 : (Go.bits .and .i64 2 32 = 0) = True := eq_true (by decide +kernel)
      have z64 : (Go.bits .and .i64 2 64 = 0) = True := eq_true (by decide +kernel)
      have z128 : (Go.bits .and .i64 2 128 = 0) = True := eq_true (by decide +kernel)
      simp [hp, hq, z1, z2, z4, z8, z16, z32, z64, z128]
    · rw [show flI 9 true = 66 by decide +kernel]
      have z1 : (Go.bits .and .i64 66 1 = 0) = True := eq_true (by decide +kernel)
      have z2 : (Go.bits .and .i64 66 2 = 0) = False := eq_false (by decide +kernel)
      have z4 : (Go.bits .and .i64 66 4 = 0) = True := eq_true (by decide +kernel)
      have z8 : (Go.bits .and .i64 66 8 = 0) = True := eq_true (by decide +kernel)
      have z16 : (Go.bits .and .i64 66 16 = 0) = True := eq_true (by decide +kernel)
      have z32 : (Go.bits .and .i64 66 32 = 0) = True := eq_true (by decide +kernel)
      have z64 : (Go.bits .and .i64 66 64 = 0) = False := eq_false (by decide +kernel)
      have z128 : (Go.bits .and .i64 66 128 = 0) = True := eq_true (by decide +kernel)
      simp [hp, hq, z1, z2, z4, z8, z16, z32, z64, z128]
  · subst h
    cases m3
    · rw [show flI 10 false = 130 by decide +kernel]
      have z1 : (Go.bits .and .i64 130 1 = 0) = True := eq_true (by decide +kernel)
      have z2 : (Go.bits .and .i64 130 2 = 0) = False := eq_false (by decide +kernel)
      have z4 : (Go.bits .and .i64 130 4 = 0) = True := eq_true (by decide +kernel)
      have z8 : (Go.bits .and .i64 130 8 = 0) = True := eq_true (by decide +kernel)
      have z16 : (Go.bits .and .i64 130 16 = 0) = True := eq_true (by decide +kernel)
      have z32 : (Go.bits .and .i64 130 32 = 0) = True := eq_true (by decide +kernel)
      have z64 : (Go.bits .and .i64 130 64 = 0) = True := eq_true (by decide +kernel)
      have z128 : (Go.bits .and .i64 130 128 = 0) = False := eq_false (by decide +kernel)
      simp [hp, hq, z1, z2, z4, z8, z16, z32, z64, z128]
    · rw [show flI 10 true = 130 by decide +kernel]
      have z1 : (Go.bits .and .i64 130 1 = 0) = True := eq_true (by decide +kernel)
      have z2 : (Go.bits .and .i64 130 2 = 0) = False := eq_false (by decide +kernel)
      have z4 : (Go.bits .and .i64 130 4 = 0) = True := eq_true (by decide +kernel)
      have z8 : (Go.bits .and .i64 130 8 = 0) = True := eq_true (by decide +kernel)
      have z16 : (Go.bits .and .i64 130 16 = 0) = True := eq_true (by decide +kernel)
      have z32 : (Go.bits .and .i64 130 32 = 0) = True := eq_true (by decide +kernel)
      have z64 : (Go.bits .and .i64 130 64 = 0) = True := eq_true (by decide +kernel)
      have z128 : (Go.bits .and .i64 130 128 = 0) = False := eq_false (by decide +kernel)
      simp [hp, hq, z1, z2, z4, z8, z16, z32, z64, z128]
  · subst h
    cases m3
    · rw [show flI 11 false = 0 by decide +kernel]
      have z1 : (Go.bits .and .i64 0 1 = 0) = True := eq_true (by decide +kernel)
      have z2 : (Go.bits .and .i64 0 2 = 0) = True := eq_true (by decide +kernel)
      have z4 : (Go.bits .and .i64 0 4 = 0) = True := eq_true (by decide +kernel)
      have z8 : (Go.bits .and .i64 0 8 = 0) = True := eq_true (by decide +kernel)
      have z16 : (Go.bits .and .i64 0 16 = 0) = True := eq_true (by decide +kernel)
      have z32 : (Go.bits .and .i64 0 32 = 0) = True := eq_true (by decide +kernel)
      have z64 : (Go.bits .and .i64 0 64 = 0) = True := eq_true (by decide +kernel)
      have z128 : (Go.bits .and .i64 0 128 = 0) = True := eq_true (by decide +kernel)
      simp [hp, hq, z1, z2, z4, z8, z16, z32, z64, z128]
    · rw [show flI 11 true = 0 by decide +kernel]
      have z1 : (Go.bits .and .i64 0 1 = 0) = True := eq_true (by decide +kernel)
      have z2 : (Go.bits .and .i64 0 2 = 0) = True := eq_true (by decide +kernel)
      have z4 : (Go.bits .and .i64 0 4 = 0) = True := eq_true (by decide +kernel)
      have z8 : (Go.bits .and .i64 0 8 = 0) = True := eq_true (by decide +kernel)
      have z16 : (Go.bits .and .i64 0 16 = 0) = True := eq_true (by decide +kernel)
      have z32 : (Go.bits .and .i64 0 32 = 0) = True := eq_true (by decide +kernel)
      have z64 : (Go.bits .and .i64 0 64 = 0) = True := eq_true (by decide +kernel)
      have z128 : (Go.bits .and .i64 0 128 = 0) = True := eq_true (by decide +kernel)
      simp [hp, hq, z1, z2, z4, z8, z16, z32, z64, z128]
  · subst h
    cases m3
    · rw [show flI 12 false = 1 by decide +kernel]
      have z1 : (Go.bits .and .i64 1 1 = 0) = False := eq_false (by decide +kernel)
      have z2 : (Go.bits .and .i64 1 2 = 0) = True := eq_true (by decide +kernel)
      have z4 : (Go.bits .and .i64 1 4 = 0) = True := eq_true (by decide +kernel)
      have z8 : (Go.bits .and .i64 1 8 = 0) = True := eq_true (by decide +kernel)
      have z16 : (Go.bits .and .i64 1 16 = 0) = True := eq_true (by decide +kernel)
      have z32 : (Go.bits .and .i64 1 32 = 0) = True := eq_true (by decide +kernel)
      have z64 : (Go.bits .and .i64 1 64 = 0) = True := eq_true (by decide +kernel)
      have z128 : (Go.bits .and .i64 1 128 = 0) = True := eq_true (by decide +kernel)
      simp [hp, hq, z1, z2, z4, z8, z16, z32, z64, z128]
    · rw [show flI 12 true = 1 by decide +kernel]
      have z1 : (Go.bits .and .i64 1 1 = 0) = False := eq_false (by decide +kernel)
      have z2 : (Go.bits .and .i64 1 2 = 0) = True := eq_true (by decide +kernel)
      have z4 : (Go.bits .and .i64 1 4 = 0) = True := eq_true (by decide +kernel)
      have z8 : (Go.bits .and .i64 1 8 = 0) = True := eq_true (by decide +kernel)
      have z16 : (Go.bits .and .i64 1 16 = 0) = True := eq_true (by decide +kernel)
      have z32 : (Go.bits .and .i64 1 32 = 0) = True := eq_true (by decide +kernel)
      have z64 : (Go.bits .and .i64 1 64 = 0) = True := eq_true (by decide +kernel)
      have z128 : (Go.bits .and .i64 1 128 = 0) = True := eq_true (by decide +kernel)
      simp [hp, hq, z1, z2, z4, z8, z16, z32, z64, z128]
theorem lk_Peers2 (l l' : List S26) (hl : l.length < 9223372036854775807) : ∃ c, Ev (fun k => api_Peer_42.f k l l') c ∧ Ev (fun k => annuletref08_Peers.f k l l') c := by
  unfold api_Peer_42.f annuletref08_Peers.f
  by_cases he : (l.length : Int) = (l'.length : Int)
  · simp only [if_pos he]
    have loop : ∀ (d i : Nat), i + d = l.length → ∃ c, Ev (fun k => api_Peer_42.l0 k l l' (l.length : Int) (i : Int)) c ∧ Ev (fun k => annuletref08_Peers.l0 k l l' (i : Int)) c := by
      intro d
      induction d with
      | zero =>
        intro i hi
        refine ⟨true, ev_const fun k => ?_, ev_const fun k => ?_⟩
        · rw [api_Peer_42.l0, if_neg (by omega)]
        · rw [annuletref08_Peers.l0, if_neg (by omega)]
      | succ d ih =>
        intro i hi
        obtain ⟨c, h1, h2⟩ := ih (i + 1) (by omega)
        by_cases hd : (!(((rd_T26 l (i : Int)).f0) == ((rd_T26 l' (i : Int)).f0)) || (!(((rd_T26 l (i : Int)).f1) == ((rd_T26 l' (i : Int)).f1)))) = true
        · refine ⟨false, ev_const fun k => ?_, ev_const fun k => ?_⟩
          · rw [api_Peer_42.l0, if_pos (by omega), if_pos (by omega), if_pos (by omega), if_pos (by omega), if_pos hd]
          · rw [annuletref08_Peers.l0, if_pos (by omega), if_pos (by omega), if_pos (by omega), if_pos hd]
        · refine ⟨c, ev_succ ?_, ev_succ ?_⟩
          · simp only [api_Peer_42.l0, if_pos (show (i : Int) < (l.length : Int) by omega), if_pos (show (0 : Int) ≤ (i : Int) by omega), if_pos (show (i : Int) < (l'.length : Int) by omega), if_neg hd]
            rw [w64 (by omega) (by omega)]
            exact h1
          · simp only [annuletref08_Peers.l0, if_pos (show (i : Int) < (l.length : Int) by omega), if_pos (show (0 : Int) ≤ (i : Int) by omega), if_pos (show (i : Int) < (l'.length : Int) by omega), if_neg hd]
            rw [w64 (by omega) (by omega)]
            exact h2
    exact loop l.length 0 (by omega)
  · simp only [if_neg he]
    exact ⟨false, ev_some _, ev_some _⟩
theorem lk_Pairs2 (l l' : List S45) (hl : l.length < 9223372036854775807) : ∃ c, Ev (fun k => api_Pair_43.f k l l') c ∧ Ev (fun k => annuletref08_Pairs.f k l l') c := by
  unfold api_Pair_43.f annuletref08_Pairs.f
  by_cases he : (l.length : Int) = (l'.length : Int)
  · simp only [if_pos he]
    have loop : ∀ (d i : Nat), i + d = l.length → ∃ c, Ev (fun k => api_Pair_43.l0 k l l' (l.length : Int) (i : Int)) c ∧ Ev (fun k => annuletref08_Pairs.l0 k l l' (i : Int)) c := by
      intro d
      induction d with
      | zero =>
        intro i hi
        refine ⟨true, ev_const fun k => ?_, ev_const fun k => ?_⟩
        · rw [api_Pair_43.l0, if_neg (by omega)]
        · rw [annuletref08_Pairs.l0, if_neg (by omega)]
      | succ d ih =>
        intro i hi
        obtain ⟨c, h1, h2⟩ := ih (i + 1) (by omega)
        by_cases hd : (!((((rd_T45 l (i : Int)).f0).toList) == (((rd_T45 l' (i : Int)).f0).toList)) || (!((((rd_T45 l (i : Int)).f1).toList) == (((rd_T45 l' (i : Int)).f1).toList)))) = true
        · refine ⟨false, ev_const fun k => ?_, ev_const fun k => ?_⟩
          · rw [api_Pair_43.l0, if_pos (by omega), if_pos (by omega), if_pos (by omega), if_pos (by omega), if_pos hd]
          · rw [annuletref08_Pairs.l0, if_pos (by omega), if_pos (by omega), if_pos (by omega), if_pos hd]
        · refine ⟨c, ev_succ ?_, ev_succ ?_⟩
          · simp only [api_Pair_43.l0, if_pos (show (i : Int) < (l.length : Int) by omega), if_pos (show (0 : Int) ≤ (i : Int) by omega), if_pos (show (i : Int) < (l'.length : Int) by omega), if_neg hd]
            rw [w64 (by omega) (by omega)]
            exact h1
          · simp only [annuletref08_Pairs.l0, if_pos (show (i : Int) < (l.length : Int) by omega), if_pos (show (0 : Int) ≤ (i : Int) by omega), if_pos (show (i : Int) < (l'.length : Int) by omega), if_neg hd]
            rw [w64 (by omega) (by omega)]
            exact h2
    exact loop l.length 0 (by omega)
  · simp only [if_neg he]
    exact ⟨false, ev_some _, ev_some _⟩
theorem lk_Same2 (m n : MsgT) (hp : m.2.2.2.2.2.2.2.2.2.1.length < 9223372036854775807) (hq : m.2.2.2.2.2.2.2.2.2.2.length < 9223372036854775807) : ∃ c, Ev (fun k => msg_Same.f k m.1 m.2.1 m.2.2.1 m.2.2.2.1 m.2.2.2.2.1 m.2.2.2.2.2.1 m.2.2.2.2.2.2.1 m.2.2.2.2.2.2.2.1 m.2.2.2.2.2.2.2.2.1 m.2.2.2.2.2.2.2.2.2.1 m.2.2.2.2.2.2.2.2.2.2 n.1 n.2.1 n.2.2.1 n.2.2.2.1 n.2.2.2.2.1 n.2.2.2.2.2.1 n.2.2.2.2.2.2.1 n.2.2.2.2.2.2.2.1 n.2.2.2.2.2.2.2.2.1 n.2.2.2.2.2.2.2.2.2.1 n.2.2.2.2.2.2.2.2.2.2) c ∧ Ev (fun k => annuletref08_Same.f k m.1 m.2.1 m.2.2.1 m.2.2.2.1 m.2.2.2.2.1 m.2.2.2.2.2.1 m.2.2.2.2.2.2.1 m.2.2.2.2.2.2.2.1 m.2.2.2.2.2.2.2.2.1 m.2.2.2.2.2.2.2.2.2.1 m.2.2.2.2.2.2.2.2.2.2 n.1 n.2.1 n.2.2.1 n.2.2.2.1 n.2.2.2.2.1 n.2.2.2.2.2.1 n.2.2.2.2.2.2.1 n.2.2.2.2.2.2.2.1 n.2.2.2.2.2.2.2.2.1 n.2.2.2.2.2.2.2.2.2.1 n.2.2.2.2.2.2.2.2.2.2) c := by
  obtain ⟨q1, h1, g1⟩ := lk_Peers2 m.2.2.2.2.2.2.2.2.2.1 n.2.2.2.2.2.2.2.2.2.1 hp
  obtain ⟨q2, h2, g2⟩ := lk_Pairs2 m.2.2.2.2.2.2.2.2.2.2 n.2.2.2.2.2.2.2.2.2.2 hq
  have jt : Ev (fun k => annuletref08_Same.j0 k true m.1 m.2.1 m.2.2.1 m.2.2.2.1 m.2.2.2.2.1 m.2.2.2.2.2.1 m.2.2.2.2.2.2.1 m.2.2.2.2.2.2.2.1 m.2.2.2.2.2.2.2.2.1 m.2.2.2.2.2.2.2.2.2.1 m.2.2.2.2.2.2.2.2.2.2 n.1 n.2.1 n.2.2.1 n.2.2.2.1 n.2.2.2.2.1 n.2.2.2.2.2.1 n.2.2.2.2.2.2.1 n.2.2.2.2.2.2.2.1 n.2.2.2.2.2.2.2.2.1 n.2.2.2.2.2.2.2.2.2.1 n.2.2.2.2.2.2.2.2.2.2) false := ev_const fun k => by rw [annuletref08_Same.j0, if_pos rfl]
  unfold msg_Same.f annuletref08_Same.f
  by_cases c0 : m.1 = n.1
  case neg => simp only [if_neg c0]; exact ⟨false, ev_some _, jt⟩
  simp only [if_pos c0]
  by_cases c1 : m.2.1 = n.2.1
  case neg => simp only [if_neg c1]; exact ⟨false, ev_some _, jt⟩
  simp only [if_pos c1]
  by_cases c2 : m.2.2.1 = n.2.2.1
  case neg => simp only [if_neg c2]; exact ⟨false, ev_some _, jt⟩
  simp only [if_pos c2]
  by_cases c3 : m.2.2.2.1 = n.2.2.2.1
  case neg =>
    have e1 : ¬ (m.2.2.2.1 == n.2.2.2.1) = true := by simpa using c3
    have e2 : (m.2.2.2.1 != n.2.2.2.1) = true := by simpa using c3
    simp only [if_neg e1, if_pos e2]
    exact ⟨false, ev_some _, jt⟩
  have e1 : (m.2.2.2.1 == n.2.2.2.1) = true := by simpa using c3
  have e2 : ¬ (m.2.2.2.1 != n.2.2.2.1) = true := by simpa using c3
  simp only [if_pos e1, if_neg e2]
  by_cases c4 : m.2.2.2.2.1 = n.2.2.2.2.1
  case neg => simp only [if_neg c4]; exact ⟨false, ev_some _, jt⟩
  simp only [if_pos c4]
  by_cases c5 : m.2.2.2.2.2.1.toList = n.2.2.2.2.2.1.toList
  case neg => simp only [if_neg c5]; exact ⟨false, ev_some _, jt⟩
  simp only [if_pos c5]
  by_cases c6 : m.2.2.2.2.2.2.1.toList = n.2.2.2.2.2.2.1.toList
  case neg => simp only [if_neg c6]; exact ⟨false, ev_some _, jt⟩
  simp only [if_pos c6]
  by_cases c7 : m.2.2.2.2.2.2.2.1 = n.2.2.2.2.2.2.2.1 ∧ m.2.2.2.2.2.2.2.2.1 = n.2.2.2.2.2.2.2.2.1
  case neg =>
    have e3 : ¬ (m.2.2.2.2.2.2.2.1 == n.2.2.2.2.2.2.2.1 && (m.2.2.2.2.2.2.2.2.1 == n.2.2.2.2.2.2.2.2.1)) = true := by simpa using c7
    have e4 : (!(m.2.2.2.2.2.2.2.1 == n.2.2.2.2.2.2.2.1) || (!(m.2.2.2.2.2.2.2.2.1 == n.2.2.2.2.2.2.2.2.1))) = true := by
      rw [Bool.or_eq_true]
      by_cases h : m.2.2.2.2.2.2.2.1 = n.2.2.2.2.2.2.2.1
      · right; simp; exact fun h' => c7 ⟨h, h'⟩
      · left; simpa using h
    simp only [if_neg e3, e4]
    exact ⟨false, ev_some _, jt⟩
  have e3 : (m.2.2.2.2.2.2.2.1 == n.2.2.2.2.2.2.2.1 && (m.2.2.2.2.2.2.2.2.1 == n.2.2.2.2.2.2.2.2.1)) = true := by simpa using c7
  have e4 : (!(m.2.2.2.2.2.2.2.1 == n.2.2.2.2.2.2.2.1) || (!(m.2.2.2.2.2.2.2.2.1 == n.2.2.2.2.2.2.2.2.1))) = false := by simp [c7.1, c7.2]
  simp only [if_pos e3, e4]
  cases q1 with
  | false =>
    refine ⟨false, ev_bind h1 (by simp only [Bool.false_eq_true, if_false]; exact ev_some _), ev_succ ?_⟩
    simp only [annuletref08_Same.j0, Bool.false_eq_true, if_false]
    exact ev_bind g1 (by simp only [Bool.false_eq_true, if_false]; exact ev_some _)
  | true =>
    refine ⟨q2, ev_bind h1 (by simp only [if_true]; exact ev_bind h2 (ev_some _)), ev_succ ?_⟩
    simp only [annuletref08_Same.j0, Bool.false_eq_true, if_false]
    exact ev_bind g1 (by simp only [if_true]; exact ev_bind g2 (ev_some _))
/- MsgBares: what its Pure needs beyond msg2_link and msg3_link -/
theorem lk_LargeV (m0 : Int) (m1 : Int) (m2 : Int) (m3 : Bool) (m4 : Int) (m5 : ByteArray) (m6 : ByteArray) (m7 : Int) (m8 : Int) (m9 : List S26) (m10 : List S45) (h : Ev (fun k => annuletlaw08_Large.f k m0 m1 m2 m3 m4 m5 m6 m7 m8 m9 m10) false) : ∀ x ∈ m10, x.f1.size ≤ 700 := by
  have jt : Ev (fun k => annuletlaw08_Large.j0 k true m0 m1 m2 m3 m4 m5 m6 m7 m8 m9 m10) true := ev_const fun k => by rw [annuletlaw08_Large.j0, if_pos rfl]
  have loop : m10.length ≤ 20 → ∀ (d i : Nat), i + d = m10.length → Ev (fun k => annuletlaw08_Large.l0 k (i : Int) m0 m1 m2 m3 m4 m5 m6 m7 m8 m9 m10) false → ∀ j, i ≤ j → (hj : j < m10.length) → (m10[j]).f1.size ≤ 700 := by
    intro hl d
    induction d with
    | zero => intro i hi _ j h1 h2; omega
    | succ d ih =>
      intro i hi hE j h1 h2
      by_cases c1 : (((rd_T45 m10 (i : Int)).f0).size : Int) > 300
      · have ht : Ev (fun k => annuletlaw08_Large.l0 k (i : Int) m0 m1 m2 m3 m4 m5 m6 m7 m8 m9 m10) true := ev_const fun k => by rw [annuletlaw08_Large.l0, if_pos (by omega), if_pos (by omega), if_pos c1]
        exact absurd (ev_uniq ht hE) (by decide)
      by_cases c2 : (((rd_T45 m10 (i : Int)).f1).size : Int) > 700
      · have ht : Ev (fun k => annuletlaw08_Large.l0 k (i : Int) m0 m1 m2 m3 m4 m5 m6 m7 m8 m9 m10) true := ev_const fun k => by rw [annuletlaw08_Large.l0, if_pos (by omega), if_pos (by omega), if_neg c1, if_pos c2]
        exact absurd (ev_uniq ht hE) (by decide)
      have e : rd_T45 m10 (i : Int) = m10[i]'(by omega) := by simp [rd_T45, List.getD, show i < m10.length by omega]
      by_cases hj : j = i
      · subst hj; rw [e] at c2; omega
      refine ih (i + 1) (by omega) ?_ j (by omega) h2
      obtain ⟨K, hK⟩ := hE
      refine ⟨K, fun k hk => ?_⟩
      have hq := hK (k + 1) (by omega)
      simp only [annuletlaw08_Large.l0, if_pos (show (i : Int) < (m10.length : Int) by omega), if_pos (show (0 : Int) ≤ (i : Int) by omega), if_neg c1, if_neg c2] at hq
      rw [w64 (by omega) (by omega)] at hq
      exact hq
  unfold annuletlaw08_Large.f at h
  by_cases c1 : (m5.size : Int) > 300
  · simp only [if_pos c1] at h; exact absurd (ev_uniq jt h) (by decide)
  by_cases c2 : (m6.size : Int) > 700
  · simp only [if_neg c1, if_pos c2] at h; exact absurd (ev_uniq jt h) (by decide)
  by_cases c3 : (m9.length : Int) > 40
  · simp only [if_neg c1, if_neg c2, if_pos c3] at h; exact absurd (ev_uniq jt h) (by decide)
  simp only [if_neg c1, if_neg c2, if_neg c3] at h
  by_cases c4 : (m10.length : Int) > 20
  · simp only [decide_eq_true c4] at h; exact absurd (ev_uniq jt h) (by decide)
  simp only [decide_eq_false c4] at h
  obtain ⟨K, hK⟩ := h
  have hL : Ev (fun k => annuletlaw08_Large.l0 k ((0 : Nat) : Int) m0 m1 m2 m3 m4 m5 m6 m7 m8 m9 m10) false := ⟨K, fun k hk => by
    have hq := hK (k + 1) (by omega)
    simp only [annuletlaw08_Large.j0, Bool.false_eq_true, if_false] at hq
    exact hq⟩
  intro x hx
  obtain ⟨j, hj, rfl⟩ := List.getElem_of_mem hx
  exact loop (by omega) m10.length 0 (by omega) hL j (by omega) hj
theorem lk_msg_Copy (m0 : Int) (m1 : Int) (m2 : Int) (m3 : Bool) (m4 : Int) (m5 : ByteArray) (m6 : ByteArray) (m7 : Int) (m8 : Int) (m9 : List S26) (m10 : List S45) (hp : m9.length < 8796093022208) (hq : m10.length < 4398046511104) : msg_Copy.f m0 m1 m2 m3 m4 m5 m6 m7 m8 m9 m10 = some (m0, m1, m2, m3, m4, m5, m6, m7, m8, m9, m10) := by
  unfold msg_Copy.f api_Peer_40.f api_Pair_41.f
  rw [if_pos hp, if_pos hq]
  rfl
theorem wrap_ne (x : Int) : (x == Go.IntKind.wrap .u64 (x + 1)) = false := by
  rw [beq_eq_false_iff_ne]
  simp only [IntKind.wrap, IntKind.bits, IntKind.signed]
  simp
  omega
theorem lk_Peers_bmp (l : List S26) (hl : l.length < 9223372036854775807) : Ev (fun k => api_Peer_42.f k l (l.map bmp26)) (l.length == 0) := by
  cases l with
  | nil => exact ev_const fun k => by simp [api_Peer_42.f, api_Peer_42.l0]
  | cons x l =>
    refine ev_const fun k => ?_
    have e : rd_T26 ((x :: l).map bmp26) 0 = bmp26 x := rfl
    have e0 : rd_T26 (x :: l) 0 = x := rfl
    unfold api_Peer_42.f
    rw [if_pos (by simp), api_Peer_42.l0, if_pos (by simp only [List.length_cons]; omega), if_pos (by omega), if_pos (by simp only [List.length_cons]; omega), if_pos (by simp only [List.length_map, List.length_cons]; omega), e, e0]
    have hw : ((x.f0) == (bmp26 x).f0) = false := wrap_ne x.f0
    rw [hw]
    rfl
theorem lk_Pairs_bmp (l : List S45) (hl : l.length < 9223372036854775807) : Ev (fun k => api_Pair_43.f k l (l.map bmp45)) (l.length == 0) := by
  cases l with
  | nil => exact ev_const fun k => by simp [api_Pair_43.f, api_Pair_43.l0]
  | cons x l =>
    refine ev_const fun k => ?_
    have e : rd_T45 ((x :: l).map bmp45) 0 = bmp45 x := rfl
    have e0 : rd_T45 (x :: l) 0 = x := rfl
    unfold api_Pair_43.f
    rw [if_pos (by simp), api_Pair_43.l0, if_pos (by simp only [List.length_cons]; omega), if_pos (by omega), if_pos (by simp only [List.length_cons]; omega), if_pos (by simp only [List.length_map, List.length_cons]; omega), e, e0]
    have hw : ((x.f1).toList == ((bmp45 x).f1).toList) = false := by
      rw [beq_eq_false_iff_ne]
      intro h
      rw [toList_data, toList_data] at h
      have hs := congrArg List.length h
      simp [bmp45] at hs
    rw [hw]
    simp
theorem lk_Same_bmp (m0 : Int) (m1 : Int) (m2 : Int) (m3 : Bool) (m4 : Int) (m5 : ByteArray) (m6 : ByteArray) (m7 : Int) (m8 : Int) (m9 : List S26) (m10 : List S45) (hp : m9.length < 9223372036854775807) (hq : m10.length < 9223372036854775807) : Ev (fun k => msg_Same.f k m0 m1 m2 m3 m4 m5 m6 m7 m8 m9 m10 m0 m1 m2 m3 m4 m5 m6 m7 m8 (m9.map bmp26) (m10.map bmp45)) (m9.length == 0 && m10.length == 0) := by
  unfold msg_Same.f
  simp only [if_true, beq_self_eq_true, Bool.and_self]
  refine ev_bind (lk_Peers_bmp m9 hp) ?_
  cases h : (m9.length == 0) with
  | false => simp only [Bool.false_eq_true, if_false, Bool.false_and]; exact ev_some _
  | true => simp only [if_true, Bool.true_and]; exact ev_bind (lk_Pairs_bmp m10 hq) (ev_some _)
theorem lk_awake08 : Ev (fun k => annuletlaw08_awake.f k) true := Ev.of annuletlaw08_awake.mono (k := 60) (by decide +kernel)
theorem MsgBares_law : annuletlaw08_MsgBares.Pure := by
  intro a0 a1 a2 a3 a4 a5 a6 a7 a8 a9 a10 b0 b1 b2 b3 b4 b5 b6 b7 b8 b9 b10 w0 w1 w2 w3 w4 w5 w6 w7 w8 w9 w10 w11 w12 w13 w14 w15 w16 w17 w18 w19
  obtain ⟨Ka, hKa⟩ := lk_awake08
  obtain ⟨la, hla, hlal⟩ := lk_Large a0 a1 a2 a3 a4 a5 a6 a7 a8 a9 a10
  cases la with
  | true =>
    obtain ⟨K, hK⟩ := hla
    refine ⟨Ka + K, ?_⟩
    unfold annuletlaw08_MsgBares.f
    exact if_pos ⟨hKa _ (by omega), true, hK _ (by omega), .inl rfl⟩
  | false =>
  obtain ⟨lb, hlb, hlbl⟩ := lk_Large b0 b1 b2 b3 b4 b5 b6 b7 b8 b9 b10
  cases lb with
  | true =>
    obtain ⟨K, hK⟩ := hla
    obtain ⟨L, hL⟩ := hlb
    refine ⟨Ka + K + L, ?_⟩
    unfold annuletlaw08_MsgBares.f
    exact if_pos ⟨hKa _ (by omega), false, hK _ (by omega), .inr ⟨true, hL _ (by omega), .inl rfl⟩⟩
  | false =>
  have hv := lk_LargeV a0 a1 a2 a3 a4 a5 a6 a7 a8 a9 a10 hla
  obtain ⟨p9, p10⟩ := hlal rfl
  have hcp := lk_msg_Copy a0 a1 a2 a3 a4 a5 a6 a7 a8 a9 a10 (by omega) (by omega)
  have hbmp := lk_Same_bmp a0 a1 a2 a3 a4 a5 a6 a7 a8 a9 a10 (by omega) (by omega)
  obtain ⟨m, hm⟩ : ∃ m : MsgT, m = (a0, a1, a2, a3, a4, a5, a6, a7, a8, a9, a10) := ⟨_, rfl⟩
  obtain ⟨n, hn⟩ : ∃ m : MsgT, m = (b0, b1, b2, b3, b4, b5, b6, b7, b8, b9, b10) := ⟨_, rfl⟩
  have hp : m.2.2.2.2.2.2.2.2.2.1.length ≤ 40 := by rw [hm]; exact p9
  have hq : m.2.2.2.2.2.2.2.2.2.2.length ≤ 20 := by rw [hm]; exact p10
  have hlen := bareOf_len m
  have hB := lk_Bare m (by omega) (by omega)
  have hR := lk_ref08_Bare m (by omega) (by omega)
  obtain ⟨c1, h1, e1⟩ := lk_Same m m (by omega) (by omega)
  obtain ⟨d1, g1, g1'⟩ := lk_Same2 m m (by omega) (by omega)
  obtain ⟨c2, h2, e2⟩ := lk_Same (bareOf m) (bareOf m) (by omega) (by omega)
  obtain ⟨d2, g2, g2'⟩ := lk_Same2 (bareOf m) (bareOf m) (by omega) (by omega)
  obtain ⟨s, g3, g3'⟩ := lk_Same2 m n (by omega) (by omega)
  obtain rfl : d1 = true := (ev_uniq g1 h1).trans (e1 rfl)
  obtain rfl : d2 = true := (ev_uniq g2 h2).trans (e2 rfl)
  subst hm hn
  obtain ⟨K1, k1⟩ := hla
  obtain ⟨K2, k2⟩ := hlb
  obtain ⟨K3, k3⟩ := g1'
  obtain ⟨K4, k4⟩ := hB
  obtain ⟨K5, k5⟩ := g2'
  obtain ⟨K6, k6⟩ := g3
  obtain ⟨K7, k7⟩ := g3'
  obtain ⟨K8, k8⟩ := hbmp
  refine ⟨Ka + K1 + K2 + K3 + K4 + K5 + K6 + K7 + K8, ?_⟩
  unfold annuletlaw08_MsgBares.f
  exact if_pos ⟨hKa _ (by omega), false, k1 _ (by omega), .inr ⟨false, k2 _ (by omega), .inr ⟨hcp, p9, p10, hv, k3 _ (by omega), ⟨_, _, _, _, _, _, _, _, _, _, _, _, _, _, _, _, _, _, _, _, _, _, k4 _ (by omega), hR, k5 _ (by omega)⟩, ⟨s, k6 _ (by omega), k7 _ (by omega)⟩, k8 _ (by omega)⟩⟩⟩
end Go.Proofs.YtddnfbcfogpkgaaDoor.PMsgBares
namespace Go.Proofs.YtddnfbcfogpkgaaDoor.Pure
open Go.Proofs.YtddnfbcfogpkgaaDoor.PMsgBares
theorem MsgBares : annuletlaw08_MsgBares.Pure := MsgBares_law
end Go.Proofs.YtddnfbcfogpkgaaDoor.Pure
