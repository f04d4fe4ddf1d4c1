/- MsgKinds: the name of any kind, the kind of any name, and which kinds answer which, are the document's. No condition. -/
import Derived.Test.YtddnfbcfogpkgaaDoorPMsgKindsx9
import Derived.Test.YtddnfbcfogpkgaaDoorMath
set_option linter.unusedVariables false
set_option linter.unusedSimpArgs false
namespace Go.Proofs.YtddnfbcfogpkgaaDoor.PMsgKinds
open Go.RowKit Go.Proofs.YtddnfbcfogpkgaaDoorW.PrintWords Go.Proofs.YtddnfbcfogpkgaaDoorW.PrintLast Go.Proofs.YtddnfbcfogpkgaaDoorW.PrintMore Annulet

/-! ### package msg: kinds -/
def kindsL : List S53 := match msg_kinds.f with | some l => l | none => []
theorem lk_kinds : msg_kinds.f = some kindsL := rfl
def kA (a : Int) : S53 := if 0 ≤ a ∧ a < 13 then rd_T53 kindsL a else rd_T53 kindsL 0
theorem lk_msg_of (a : Int) : msg_of.f a = some ((kA a).f0, (kA a).f1, (kA a).f2) := by
  have hl : kindsL.length = 13 := rfl
  unfold msg_of.f kA
  rw [lk_kinds]
  simp only [Option.bind_some, hl]
  by_cases h0 : a < 0
  · rw [if_pos h0, if_pos (by omega), if_neg (by omega)]
  · rw [if_neg h0]
    by_cases h1 : a ≥ ((13 : Nat) : Int)
    · rw [if_pos h1, if_pos (by omega), if_neg (by omega)]
    · rw [if_neg h1, if_pos (by omega), if_pos (by omega), if_pos (by omega)]
theorem kA_cases (a : Int) : (kA a = rd_T53 kindsL 0 ∧ ¬ (1 ≤ a ∧ a ≤ 12)) ∨ a = 1 ∨ a = 2 ∨ a = 3 ∨ a = 4 ∨ a = 5 ∨ a = 6 ∨ a = 7 ∨ a = 8 ∨ a = 9 ∨ a = 10 ∨ a = 11 ∨ a = 12 := by
  by_cases h : 1 ≤ a ∧ a ≤ 12
  · right; omega
  · left
    refine ⟨?_, h⟩
    unfold kA
    by_cases h0 : a = 0
    · subst h0; rfl
    · rw [if_neg (by omega)]
theorem lk_msg_Name (a : Int) : msg_Name.f a = some (kA a).f0 := by
  unfold msg_Name.f
  rw [lk_msg_of]
  rfl
theorem lk_msg_Asks (a : Int) : msg_Asks.f a = some (decide (((kA a).f2.length : Int) > 0)) := by
  unfold msg_Asks.f
  rw [lk_msg_of]
  rfl
theorem lk_Index0 (l : List Int) (hl : l.length < 9223372036854775807) (v : Int) (d : Nat) : ∀ i : Nat, i + d = l.length → ∃ j, Ev (fun k => slices_Index_int_int.l0 k l v (l.length : Int) (i : Int)) j ∧ decide (j ≥ 0) = decide (v ∈ l.drop i) := by
  induction d with
  | zero =>
    intro i hi
    refine ⟨-1, ?_, ?_⟩
    · refine ev_const fun k => ?_
      rw [slices_Index_int_int.l0, if_neg (by omega)]
    · rw [List.drop_eq_nil_of_le (by omega)]; simp
  | succ d ih =>
    intro i hi
    have hd : l.drop i = rd l (i : Int) :: l.drop (i + 1) := by
      rw [List.drop_eq_getElem_cons (by omega), rd_nat]
      simp [List.getD, show i < l.length by omega]
    obtain ⟨j, hj, he⟩ := ih (i + 1) (by omega)
    by_cases hv : v = rd l (i : Int)
    · refine ⟨(i : Int), ?_, ?_⟩
      · refine ev_const fun k => ?_
        rw [slices_Index_int_int.l0, if_pos (by omega), if_pos (by omega), if_pos (by omega), if_pos hv]
      · rw [hd, ← hv]; simp
    · refine ⟨j, ?_, ?_⟩
      · refine ev_succ ?_
        simp only [slices_Index_int_int.l0, if_pos (show (i : Int) < (l.length : Int) by omega), if_pos (show (0 : Int) ≤ (i : Int) by omega), if_neg hv]
        rw [w64 (by omega) (by omega)]
        exact hj
      · rw [he, hd]; simp [hv]
theorem lk_Contains (l : List Int) (hl : l.length < 9223372036854775807) (v : Int) : Ev (fun k => slices_Contains_int_int.f k l v) (decide (v ∈ l)) := by
  obtain ⟨j, hj, he⟩ := lk_Index0 l hl v l.length 0 (by omega)
  unfold slices_Contains_int_int.f slices_Index_int_int.f
  refine ev_bind hj ?_
  rw [he]
  exact ev_some _
theorem kA_len (a : Int) : (kA a).f2.length ≤ 2 := by
  rcases kA_cases a with ⟨h, _⟩ | h | h | h | h | h | h | h | h | h | h | h | h
  · rw [h]; decide
  all_goals (subst h; decide)
theorem lk_msg_Answers (a r : Int) : Ev (fun k => msg_Answers.f k a r) (decide (r ∈ (kA a).f2)) := by
  unfold msg_Answers.f
  rw [lk_msg_of]
  simp only [Option.bind_some]
  have := kA_len a
  exact ev_bind (lk_Contains _ (by omega) r) (ev_some _)
theorem lk_ref08_Name (a : Int) : annuletref08_Name.f a = some (kA a).f0 := by
  rcases kA_cases a with ⟨h, h'⟩ | h | h | h | h | h | h | h | h | h | h | h | h
  · rw [h]
    unfold annuletref08_Name.f
    by_cases h1 : a < 1
    · rw [if_pos h1]; rfl
    · rw [if_neg h1, if_pos (by omega)]; rfl
  all_goals (subst h; rfl)
def ansB (a r : Int) : Bool := decide (r ∈ (kA a).f2)
theorem lk_ref08_Answers (a r : Int) : Ev (fun k => annuletref08_Answers.f k a r) (ansB a r) := by
  unfold ansB
  unfold annuletref08_Answers.f
  have hor : ∀ x y : Int, (if r = x then some true else some (r == y)) = some (decide (r ∈ [x, y])) := by
    intro x y
    by_cases h : r = x
    · rw [if_pos h, h]; simp
    · rw [if_neg h]; congr 1; rw [Bool.eq_iff_iff]; simp [h]
  have hone : ∀ x : Int, (some (r == x) : Option Bool) = some (decide (r ∈ [x])) := by
    intro x; congr 1; rw [Bool.eq_iff_iff]; simp
  have hj : ∀ (x : Int) (b : Bool) (s : Bool), (∀ k, annuletref08_Answers.j0 (k + 1) r x b = some s) → Ev (fun k => annuletref08_Answers.j0 k r x b) s := fun x b s h => ev_const h
  rcases kA_cases a with ⟨h, h'⟩ | h | h | h | h | h | h | h | h | h | h | h | h
  · rw [h]
    have e : ¬ a = 1 ∧ ¬ a = 3 ∧ ¬ a = 5 ∧ ¬ a = 10 ∧ ¬ a = 11 ∧ ¬ a = 7 ∧ ¬ a = 8 := by omega
    have e11 : (a == 11) = false := by simp [e.2.2.2.2.1]
    simp only [if_neg e.1, if_neg e.2.1, if_neg e.2.2.1, if_neg e.2.2.2.1]
    refine hj _ _ _ fun k => ?_
    rw [annuletref08_Answers.j0, e11, if_neg (by simp), if_neg e.2.2.2.2.2.1, if_neg e.2.2.2.2.2.2]
    have : (rd_T53 kindsL 0).f2 = [] := rfl
    rw [this]; simp
  · subst h
    have : (kA 1).f2 = [2, 12] := rfl
    rw [this]; simp only [if_true, hor]; exact ev_some _
  · subst h; refine hj _ _ _ fun k => ?_; rw [annuletref08_Answers.j0]; simp; exact List.not_mem_nil
  · subst h
    have : (kA 3).f2 = [4] := rfl
    rw [this]; simp only [if_neg (show ¬ (3 : Int) = 1 by decide), if_true, hone]; exact ev_some _
  · subst h; refine hj _ _ _ fun k => ?_; rw [annuletref08_Answers.j0]; simp; exact List.not_mem_nil
  · subst h
    have : (kA 5).f2 = [6] := rfl
    rw [this]; refine hj _ _ _ fun k => ?_; rw [annuletref08_Answers.j0, ← hone]; simp
  · subst h; refine hj _ _ _ fun k => ?_; rw [annuletref08_Answers.j0]; simp; exact List.not_mem_nil
  · subst h
    have : (kA 7).f2 = [6, 12] := rfl
    rw [this]; refine hj _ _ _ fun k => ?_; rw [annuletref08_Answers.j0, ← hor]; simp
  · subst h
    have : (kA 8).f2 = [9, 12] := rfl
    rw [this]; refine hj _ _ _ fun k => ?_; rw [annuletref08_Answers.j0, ← hor]; simp
  · subst h; refine hj _ _ _ fun k => ?_; rw [annuletref08_Answers.j0]; simp; exact List.not_mem_nil
  · subst h
    have : (kA 10).f2 = [6] := rfl
    rw [this]; refine hj _ _ _ fun k => ?_; rw [annuletref08_Answers.j0, ← hone]; simp
  · subst h
    have : (kA 11).f2 = [6] := rfl
    rw [this]; refine hj _ _ _ fun k => ?_; rw [annuletref08_Answers.j0, ← hone]; simp
  · subst h; refine hj _ _ _ fun k => ?_; rw [annuletref08_Answers.j0]; simp; exact List.not_mem_nil
theorem lk_ref08_Asks0 (a : Int) (d : Nat) : ∀ i : Nat, i + d = 13 → 1 ≤ i → Ev (fun k => annuletref08_Asks.l0 k a (i : Int)) (decide (∃ j : Nat, j < 13 ∧ i ≤ j ∧ ansB a (j : Int) = true)) := by
  induction d with
  | zero =>
    intro i hi h1
    refine ev_const fun k => ?_
    rw [annuletref08_Asks.l0, if_neg (by omega)]
    congr 1
    symm
    apply decide_eq_false
    rintro ⟨j, h, h', _⟩
    omega
  | succ d ih =>
    intro i hi h1
    refine ev_succ ?_
    simp only [annuletref08_Asks.l0, if_pos (show (i : Int) < 13 by omega)]
    refine ev_bind (lk_ref08_Answers a (i : Int)) ?_
    cases hb : ansB a (i : Int) with
    | true =>
      simp only [if_true]
      have : decide (∃ j : Nat, j < 13 ∧ i ≤ j ∧ ansB a (j : Int) = true) = true := decide_eq_true ⟨i, by omega, Nat.le_refl _, hb⟩
      rw [this]
      exact ev_some _
    | false =>
      simp only [Bool.false_eq_true, if_false]
      rw [w64 (by omega) (by omega)]
      refine ev_eq (ih (i + 1) (by omega) (by omega)) ?_
      apply decide_eq_decide.2
      constructor
      · rintro ⟨j, h, h', h''⟩; exact ⟨j, h, by omega, h''⟩
      · rintro ⟨j, h, h', h''⟩
        refine ⟨j, h, ?_, h''⟩
        have : j ≠ i := by intro e; subst e; rw [hb] at h''; cases h''
        omega
theorem lk_ref08_Asks (a : Int) : Ev (fun k => annuletref08_Asks.f k a) (decide (((kA a).f2.length : Int) > 0)) := by
  unfold annuletref08_Asks.f
  refine ev_eq (lk_ref08_Asks0 a 12 1 (by omega) (by omega)) ?_
  unfold ansB
  rcases kA_cases a with ⟨h, _⟩ | h | h | h | h | h | h | h | h | h | h | h | h
  · rw [h]; decide +kernel
  all_goals (subst h; decide +kernel)
def findN (s : List UInt8) : List (List UInt8) → Int → Int
  | [], _ => 0
  | n :: r, i => if n = s then i else findN s r (i + 1)
theorem idxO_find (s : ByteArray) : ∀ (l : List S53) (i : Int), 0 ≤ i → ∃ j, idxO (fun x : S53 => some (x.f0.toList == s.toList)) l i = some j ∧ mx j 0 = findN s.toList (l.map fun x => x.f0.toList) i
  | [], i, _ => ⟨-1, rfl, rfl⟩
  | x :: l, i, hi => by
    by_cases h : x.f0.toList = s.toList
    · refine ⟨i, ?_, ?_⟩
      · rw [idxO]; simp [h]
      · rw [List.map_cons, findN, if_pos h]
        unfold mx
        rw [if_neg (by omega)]
    · obtain ⟨j, h1, h2⟩ := idxO_find s l (i + 1) (by omega)
      refine ⟨j, ?_, ?_⟩
      · rw [idxO]; simp [h, h1]
      · rw [List.map_cons, findN, if_neg h]; exact h2
def namesL : List ByteArray := match annuletref08_names.f with | some l => l | none => []
theorem lk_names : annuletref08_names.f = some namesL := rfl
theorem lk_ref08_Kind0 (s : ByteArray) (d : Nat) : ∀ i : Nat, i + d = 13 → Ev (fun k => annuletref08_Kind.l0 k s (i : Int)) (findN s.toList ((namesL.drop i).map fun x => x.toList) (i : Int)) := by
  have hl : namesL.length = 13 := rfl
  induction d with
  | zero =>
    intro i hi
    refine ev_const fun k => ?_
    rw [annuletref08_Kind.l0, if_neg (by omega), List.drop_eq_nil_of_le (by omega)]
    rfl
  | succ d ih =>
    intro i hi
    have hd : namesL.drop i = rdOf ByteArray.empty namesL (i : Int) :: namesL.drop (i + 1) := by
      rw [List.drop_eq_getElem_cons (by omega)]
      unfold rdOf
      simp [List.getD, show i < namesL.length by omega]
    have := ih (i + 1) (by omega)
    refine ev_succ ?_
    simp only [annuletref08_Kind.l0, lk_names, Option.bind_some, hl, if_pos (show (i : Int) < 13 by omega), if_pos (show (0 : Int) ≤ (i : Int) by omega), if_pos (show (i : Int) < ((13 : Nat) : Int) by omega)]
    rw [w64 (by omega) (by omega), hd, List.map_cons, findN]
    by_cases h : (rdOf ByteArray.empty namesL (i : Int)).toList = s.toList
    · simp only [if_pos h]; exact ev_some _
    · simp only [if_neg h]; exact this
theorem lk_Kinds (s : ByteArray) : ∃ j, msg_Kind.f s = some j ∧ Ev (fun k => annuletref08_Kind.f k s) j := by
  obtain ⟨j, h1, h2⟩ := idxO_find s kindsL 0 (by omega)
  refine ⟨mx j 0, ?_, ?_⟩
  · unfold msg_Kind.f
    rw [lk_kinds]
    simp only [Option.bind_some, h1]
  · unfold annuletref08_Kind.f
    refine ev_eq (lk_ref08_Kind0 s 12 1 (by omega)) ?_
    rw [h2]
    have hn : (kindsL.map fun x => x.f0.toList) = namesL.map fun x => x.toList := by decide +kernel
    have hd : namesL.map (fun x => x.toList) = [63] :: (namesL.drop 1).map fun x => x.toList := by decide +kernel
    rw [hn, hd, findN]
    by_cases h : ([63] : List UInt8) = s.toList
    · rw [if_pos h, ← h]
      decide +kernel
    · rw [if_neg h]
      rfl
theorem lk_awake08 : Ev (fun k => annuletlaw08_awake.f k) true := Ev.of annuletlaw08_awake.mono (k := 60) (by decide +kernel)
theorem MsgKinds_law : annuletlaw08_MsgKinds.Pure := by
  intro a r s ha hr hs
  refine Ev.rounds (g := fun k => annuletlaw08_MsgKinds.f k a r s) ?_
  unfold annuletlaw08_MsgKinds.f
  obtain ⟨j, h1, h2⟩ := lk_Kinds s
  have hA := lk_ref08_Answers a r
  have hB := lk_msg_Answers a r
  unfold ansB at hA
  rw [lk_msg_Name, lk_ref08_Name, h1, lk_msg_Asks]
  simp only [Option.bind_some, if_true]
  refine ev_bind h2 ?_
  simp only [if_true]
  refine ev_bind (lk_ref08_Asks a) ?_
  cases decide (((kA a).f2.length : Int) > 0) with
  | true =>
    simp only [if_true]
    refine ev_bind hB (ev_bind hA ?_)
    cases decide (r ∈ (kA a).f2) with
    | true => simp only [if_true]; exact ev_bind lk_awake08 (ev_some _)
    | false => simp only [Bool.false_eq_true, if_false]; exact ev_bind lk_awake08 (ev_some _)
  | false =>
    simp only [Bool.false_eq_true, if_false]
    refine ev_bind hB (ev_bind hA ?_)
    cases decide (r ∈ (kA a).f2) with
    | true => simp only [if_true]; exact ev_bind lk_awake08 (ev_some _)
    | false => simp only [Bool.false_eq_true, if_false]; exact ev_bind lk_awake08 (ev_some _)
end Go.Proofs.YtddnfbcfogpkgaaDoor.PMsgKinds
namespace Go.Proofs.YtddnfbcfogpkgaaDoor.Pure
open Go.Proofs.YtddnfbcfogpkgaaDoor.PMsgKinds
theorem MsgKinds : annuletlaw08_MsgKinds.Pure := MsgKinds_law
end Go.Proofs.YtddnfbcfogpkgaaDoor.Pure
