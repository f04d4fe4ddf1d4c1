/- MsgRight: whether any message may be, and why not, and whether any text is a key, are the document's. No condition. -/
import Derived.Test.YtddnfbcfogpkgaaDoorPMsgRightx14
import Derived.Test.YtddnfbcfogpkgaaDoorMath
set_option linter.unusedVariables false
set_option linter.unusedSimpArgs false
namespace Go.Proofs.YtddnfbcfogpkgaaDoor.PMsgRight
open Go.RowKit Go.Proofs.YtddnfbcfogpkgaaDoorW.PrintWords Go.Proofs.YtddnfbcfogpkgaaDoorW.PrintLast Go.Proofs.YtddnfbcfogpkgaaDoorW.PrintMore Annulet
theorem lk_utf_Valid {l : List Int} (hb : Bytes l) (hl : l.length ≤ 140737488355328) : utf_Valid.f (strOfNums l) = some ((partsL l).all fun p => decide (wd p ≠ 0)) := by
  unfold utf_Valid.f
  rw [strOfNums_size, if_pos hl, valid_str hb _ 0 (by omega), List.drop_zero]
theorem lk_utf_Count {l : List Int} (hb : Bytes l) (hl : l.length ≤ 140737488355328) : utf_Count.f (strOfNums l) = some ((partsL l).length : Int) := by
  unfold utf_Count.f
  rw [strOfNums_size, if_pos hl, count_str hb _ 0 (by omega), List.drop_zero]
theorem lk_tail (c : Int) : annuletref04_tail.f c = some (decide (TL c)) := by
  unfold annuletref04_tail.f
  by_cases h : c ≥ 128
  · rw [if_pos h]
    by_cases h2 : c ≤ 191
    · rw [decide_eq_true h2, decide_eq_true (show TL c from ⟨h, h2⟩)]
    · rw [decide_eq_false h2, decide_eq_false (show ¬ TL c from fun t => h2 t.2)]
  · rw [if_neg h, decide_eq_false (show ¬ TL c from fun t => h t.1)]
theorem lk_Width_j2 {l : List Int} (hb : Bytes l) (hl : l.length ≤ 1000000000000) (p : Nat) (c : Int) (x : Bool) (hx : x = true → p + 1 < l.length) :
    Ev (fun k => annuletref04_Width.j2 k (strOfNums l) (p : Int) c x) (if x = true then (if (c = 240 ∧ rd l ((p + 1 : Nat) : Int) < 144) ∨ (c = 244 ∧ 143 < rd l ((p + 1 : Nat) : Int)) then 0 else 4) else 0) := by
  refine ev_succ ?_
  simp only [annuletref04_Width.j2, strOfNums_size]
  by_cases h : x = true
  · have hp := hx h
    rw [w64 (n := (p : Int) + 1) (by omega) (by omega), bt_str hb, show (p : Int) + 1 = ((p + 1 : Nat) : Int) by omega]
    generalize rd l ((p + 1 : Nat) : Int) = b
    simp only [if_pos h, if_pos (show (0 : Int) ≤ ((p + 1 : Nat) : Int) by omega), if_pos (show ((p + 1 : Nat) : Int) < (l.length : Int) by omega)]
    by_cases c1 : c = 240
    · simp only [if_pos c1]
      by_cases c2 : b < 144
      · simp only [if_pos c2, if_pos (show (c = 240 ∧ b < 144) ∨ (c = 244 ∧ 143 < b) by omega)]; exact ev_some _
      · simp only [if_neg c2, if_neg (show ¬ c = 244 by omega), if_neg (show ¬ ((c = 240 ∧ b < 144) ∨ (c = 244 ∧ 143 < b)) by omega)]; exact ev_some _
    · simp only [if_neg c1]
      by_cases c3 : c = 244
      · simp only [if_pos c3]
        by_cases c4 : b > 143
        · simp only [if_pos c4, if_pos (show (c = 240 ∧ b < 144) ∨ (c = 244 ∧ 143 < b) by omega)]; exact ev_some _
        · simp only [if_neg c4, if_neg (show ¬ ((c = 240 ∧ b < 144) ∨ (c = 244 ∧ 143 < b)) by omega)]; exact ev_some _
      · simp only [if_neg c3, if_neg (show ¬ ((c = 240 ∧ b < 144) ∨ (c = 244 ∧ 143 < b)) by omega)]; exact ev_some _
  · simp only [if_neg h]; exact ev_some _
theorem lk_Width_j1 {l : List Int} (hb : Bytes l) (hl : l.length ≤ 1000000000000) (p : Nat) (hp : p < l.length) (c : Int) (x : Bool) (hx : x = true → p + 1 < l.length) :
    Ev (fun k => annuletref04_Width.j1 k (strOfNums l) (p : Int) c ((l.length : Int) - (p : Int)) x) (if x = true then (if (c = 224 ∧ rd l ((p + 1 : Nat) : Int) < 160) ∨ (c = 237 ∧ 159 < rd l ((p + 1 : Nat) : Int)) then 0 else 3) else (if 240 ≤ c ∧ c ≤ 244 ∧ (3 : Int) < (l.length : Int) - (p : Int) ∧ TL (rd l ((p + 1 : Nat) : Int)) ∧ TL (rd l ((p + 2 : Nat) : Int)) ∧ TL (rd l ((p + 3 : Nat) : Int)) then (if (c = 240 ∧ rd l ((p + 1 : Nat) : Int) < 144) ∨ (c = 244 ∧ 143 < rd l ((p + 1 : Nat) : Int)) then 0 else 4) else 0)) := by
  refine ev_succ ?_
  simp only [annuletref04_Width.j1, strOfNums_size]
  rw [w64 (n := (p : Int) + 1) (by omega) (by omega), w64 (n := (p : Int) + 2) (by omega) (by omega), w64 (n := (p : Int) + 3) (by omega) (by omega)]
  simp only [bt_str hb]
  rw [show (p : Int) + 1 = ((p + 1 : Nat) : Int) by omega, show (p : Int) + 2 = ((p + 2 : Nat) : Int) by omega, show (p : Int) + 3 = ((p + 3 : Nat) : Int) by omega]
  have j2 := fun x hx => lk_Width_j2 hb hl p c x hx
  generalize rd l ((p + 1 : Nat) : Int) = b1 at *
  generalize rd l ((p + 2 : Nat) : Int) = b2 at *
  generalize rd l ((p + 3 : Nat) : Int) = b3 at *
  by_cases h : x = true
  · have hp1 := hx h
    simp only [if_pos h, if_pos (show (0 : Int) ≤ ((p + 1 : Nat) : Int) by omega), if_pos (show ((p + 1 : Nat) : Int) < (l.length : Int) by omega)]
    by_cases c1 : c = 224
    · simp only [if_pos c1]
      by_cases c2 : b1 < 160
      · simp only [if_pos c2, if_pos (show (c = 224 ∧ b1 < 160) ∨ (c = 237 ∧ 159 < b1) by omega)]; exact ev_some _
      · simp only [if_neg c2, if_neg (show ¬ c = 237 by omega), if_neg (show ¬ ((c = 224 ∧ b1 < 160) ∨ (c = 237 ∧ 159 < b1)) by omega)]; exact ev_some _
    · simp only [if_neg c1]
      by_cases c3 : c = 237
      · simp only [if_pos c3]
        by_cases c4 : b1 > 159
        · simp only [if_pos c4, if_pos (show (c = 224 ∧ b1 < 160) ∨ (c = 237 ∧ 159 < b1) by omega)]; exact ev_some _
        · simp only [if_neg c4, if_neg (show ¬ ((c = 224 ∧ b1 < 160) ∨ (c = 237 ∧ 159 < b1)) by omega)]; exact ev_some _
      · simp only [if_neg c3, if_neg (show ¬ ((c = 224 ∧ b1 < 160) ∨ (c = 237 ∧ 159 < b1)) by omega)]; exact ev_some _
  · simp only [if_neg h, lk_tail, Option.bind_some]
    have no : ∀ P : Prop, ¬ P → ∀ [Decidable P], Ev (fun k => annuletref04_Width.j2 k (strOfNums l) (p : Int) c false) (if P then (if (c = 240 ∧ b1 < 144) ∨ (c = 244 ∧ 143 < b1) then (0 : Int) else 4) else 0) := by
      intro P hP _
      have := j2 false (fun h => by cases h)
      simp only [Bool.false_eq_true, if_false] at this
      rw [if_neg hP]
      exact this
    by_cases c1 : c ≥ 240
    · simp only [if_pos c1]
      by_cases c2 : c ≤ 244
      · simp only [if_pos c2]
        by_cases c3 : (l.length : Int) - (p : Int) > 3
        · simp only [if_pos c3, if_pos (show (0 : Int) ≤ ((p + 1 : Nat) : Int) by omega), if_pos (show ((p + 1 : Nat) : Int) < (l.length : Int) by omega), if_pos (show (0 : Int) ≤ ((p + 2 : Nat) : Int) by omega), if_pos (show ((p + 2 : Nat) : Int) < (l.length : Int) by omega), if_pos (show (0 : Int) ≤ ((p + 3 : Nat) : Int) by omega), if_pos (show ((p + 3 : Nat) : Int) < (l.length : Int) by omega)]
          by_cases t1 : TL b1
          · simp only [decide_eq_true t1, if_true]
            by_cases t2 : TL b2
            · simp only [decide_eq_true t2, if_true]
              by_cases t3 : TL b3
              · rw [decide_eq_true t3, if_pos (show 240 ≤ c ∧ c ≤ 244 ∧ (3 : Int) < (l.length : Int) - (p : Int) ∧ TL b1 ∧ TL b2 ∧ TL b3 from ⟨c1, c2, c3, t1, t2, t3⟩)]
                exact j2 true (fun _ => by omega)
              · rw [decide_eq_false t3]; exact no _ (fun h => t3 h.2.2.2.2.2)
            · simp only [decide_eq_false t2, Bool.false_eq_true, if_false]; exact no _ (fun h => t2 h.2.2.2.2.1)
          · simp only [decide_eq_false t1, Bool.false_eq_true, if_false]; exact no _ (fun h => t1 h.2.2.2.1)
        · simp only [if_neg c3]; exact no _ (fun h => c3 h.2.2.1)
      · simp only [if_neg c2]; exact no _ (fun h => c2 h.2.1)
    · simp only [if_neg c1]; exact no _ (fun h => c1 h.1)
theorem lk_Width {l : List Int} (hb : Bytes l) (hl : l.length ≤ 1000000000000) (p : Nat) (hp : p < l.length) : Ev (fun k => annuletref04_Width.f k (strOfNums l) (p : Int)) ((wd (l.drop p) : Nat) : Int) := by
  have hw := wd_int (l.drop p)
  rw [drop_getD0, drop_getD0, drop_getD0, drop_getD0, List.length_drop, Nat.add_zero, show ((l.length - p : Nat) : Int) = (l.length : Int) - (p : Int) by omega, ← rd_nat, ← rd_nat, ← rd_nat, ← rd_nat] at hw
  rw [hw]
  unfold annuletref04_Width.f
  simp only [strOfNums_size]
  rw [w64 (n := (p : Int) + 1) (by omega) (by omega), w64 (n := (l.length : Int) - (p : Int)) (by omega) (by omega)]
  simp only [bt_str hb, lk_tail, Option.bind_some]
  rw [show (p : Int) + 1 = ((p + 1 : Nat) : Int) by omega]
  simp only [if_pos (show (0 : Int) ≤ (p : Int) by omega), if_pos (show (p : Int) < (l.length : Int) by omega)]
  have j1 := fun c x hx => lk_Width_j1 hb hl p hp c x hx
  generalize rd l (p : Int) = c at *
  by_cases c0 : c < 128
  · simp only [if_pos c0]
    refine ev_eq (ev_some _) ?_
    unfold wid
    rw [if_pos c0]
  · simp only [if_neg c0]
    -- the second test failed: on to three bytes
    have j0f : ¬ (194 ≤ c ∧ c ≤ 223 ∧ (1 : Int) < (l.length : Int) - (p : Int) ∧ TL (rd l ((p + 1 : Nat) : Int))) → Ev (fun k => annuletref04_Width.j0 k (strOfNums l) (p : Int) c ((l.length : Int) - (p : Int)) false) (wid ((l.length : Int) - (p : Int)) c (rd l ((p + 1 : Nat) : Int)) (rd l ((p + 2 : Nat) : Int)) (rd l ((p + 3 : Nat) : Int))) := by
      intro hno
      refine ev_succ ?_
      simp only [annuletref04_Width.j0, strOfNums_size, Bool.false_eq_true, if_false]
      rw [w64 (n := (p : Int) + 1) (by omega) (by omega), w64 (n := (p : Int) + 2) (by omega) (by omega)]
      simp only [bt_str hb, lk_tail, Option.bind_some]
      rw [show (p : Int) + 1 = ((p + 1 : Nat) : Int) by omega, show (p : Int) + 2 = ((p + 2 : Nat) : Int) by omega]
      have jf := j1 c false (fun h => by cases h)
      have jt := j1 c true
      simp only [if_true, Bool.false_eq_true, if_false] at jf jt
      unfold wid
      rw [if_neg c0, if_neg hno]
      generalize rd l ((p + 1 : Nat) : Int) = b1 at *
      generalize rd l ((p + 2 : Nat) : Int) = b2 at *
      generalize rd l ((p + 3 : Nat) : Int) = b3 at *
      by_cases c1 : c ≥ 224
      · simp only [if_pos c1]
        by_cases c2 : c ≤ 239
        · simp only [if_pos c2]
          by_cases c3 : (l.length : Int) - (p : Int) > 2
          · simp only [if_pos c3, if_pos (show (0 : Int) ≤ ((p + 1 : Nat) : Int) by omega), if_pos (show ((p + 1 : Nat) : Int) < (l.length : Int) by omega), if_pos (show (0 : Int) ≤ ((p + 2 : Nat) : Int) by omega), if_pos (show ((p + 2 : Nat) : Int) < (l.length : Int) by omega)]
            by_cases t1 : TL b1
            · simp only [decide_eq_true t1, if_true]
              by_cases t2 : TL b2
              · rw [decide_eq_true t2, if_pos (show 224 ≤ c ∧ c ≤ 239 ∧ (2 : Int) < (l.length : Int) - (p : Int) ∧ TL b1 ∧ TL b2 from ⟨c1, c2, c3, t1, t2⟩)]
                exact jt (fun _ => by omega)
              · rw [decide_eq_false t2, if_neg (fun h => t2 h.2.2.2.2)]; exact jf
            · simp only [decide_eq_false t1, Bool.false_eq_true, if_false]; rw [if_neg (fun h => t1 h.2.2.2.1)]; exact jf
          · simp only [if_neg c3]; rw [if_neg (fun h => c3 h.2.2.1)]; exact jf
        · simp only [if_neg c2]; rw [if_neg (fun h => c2 h.2.1)]; exact jf
      · simp only [if_neg c1]; rw [if_neg (fun h => c1 h.1)]; exact jf
    by_cases c1 : c ≥ 194
    · simp only [if_pos c1]
      by_cases c2 : c ≤ 223
      · simp only [if_pos c2]
        by_cases c3 : (l.length : Int) - (p : Int) > 1
        · simp only [if_pos c3, if_pos (show (0 : Int) ≤ ((p + 1 : Nat) : Int) by omega), if_pos (show ((p + 1 : Nat) : Int) < (l.length : Int) by omega)]
          by_cases t1 : TL (rd l ((p + 1 : Nat) : Int))
          · rw [decide_eq_true t1]
            refine ev_succ ?_
            simp only [annuletref04_Width.j0, if_true]
            refine ev_eq (ev_some _) ?_
            unfold wid
            rw [if_neg c0, if_pos ⟨c1, c2, c3, t1⟩]
          · rw [decide_eq_false t1]; exact j0f (fun h => t1 h.2.2.2)
        · simp only [if_neg c3]; exact j0f (fun h => c3 h.2.2.1)
      · simp only [if_neg c2]; exact j0f (fun h => c2 h.2.1)
    · simp only [if_neg c1]; exact j0f (fun h => c1 h.1)
theorem parts_len (m : List Int) : (partsL m).length ≤ m.length := by
  refine parts_ind (P := fun m => (partsL m).length ≤ m.length) (by rw [partsL_nil]; simp) (fun m h ih => ?_) m
  rw [partsL_cons h, List.length_cons]
  have := stp_pos m
  have := len_pos h
  rw [List.length_drop] at ih
  omega
theorem lk_Parts_l0 {l : List Int} (hb : Bytes l) (hl : l.length ≤ 1000000000000) (d : Nat) : ∀ (p : Nat) (x : List ByteArray), p ≤ l.length → l.length - p ≤ d → x.length ≤ p →
    Ev (fun k => annuletref04_Parts.l0 k (strOfNums l) x (p : Int)) (x ++ (partsL (l.drop p)).map strOfNums) := by
  induction d with
  | zero =>
    intro p x hp hd hx
    obtain rfl : p = l.length := by omega
    refine ev_succ ?_
    simp only [annuletref04_Parts.l0, strOfNums_size]
    simp only [if_neg (show ¬ (l.length : Int) < (l.length : Int) by omega)]
    rw [List.drop_eq_nil_of_le (Nat.le_refl _), partsL_nil]
    refine ev_eq (ev_some _) ?_
    simp
  | succ d ih =>
    intro p x hp hd hx
    by_cases hlt : p < l.length
    · refine ev_succ ?_
      simp only [annuletref04_Parts.l0, strOfNums_size]
      simp only [if_pos (show (p : Int) < (l.length : Int) by omega)]
      refine ev_bind (lk_Width hb hl p hlt) ?_
      have hne := drop_ne hlt
      have h4 := wd_le4 (l.drop p)
      have hle := wd_le hne
      rw [List.length_drop] at hle
      have hw1 : wrap64 ((p : Int) + 1) = (p : Int) + 1 := w64 (by omega) (by omega)
      have hw2 : wrap64 ((p : Int) + ((wd (l.drop p) : Nat) : Int)) = (p : Int) + ((wd (l.drop p) : Nat) : Int) := w64 (by omega) (by omega)
      have go : ∀ s : Nat, s = stp (l.drop p) → p + s ≤ l.length → Ev (fun k => annuletref04_Parts.l0 k (strOfNums l) (x ++ [(strOfNums l).extract (p : Int).toNat ((p : Int) + (s : Int)).toNat]) ((p : Int) + (s : Int))) (x ++ (partsL (l.drop p)).map strOfNums) := by
        intro s hs hle2
        have := stp_pos (l.drop p)
        have := ih (p + s) (x ++ [strOfNums ((l.drop p).take s)]) (by omega) (by omega) (by simp; omega)
        rw [partsL_cons hne, List.map_cons, ← hs, List.drop_drop]
        rw [show (p : Int).toNat = p by omega, show ((p : Int) + (s : Int)).toNat = p + s by omega, str_extract, List.drop_take, Nat.add_sub_cancel_left, show (p : Int) + (s : Int) = ((p + s : Nat) : Int) by omega]
        rw [List.append_assoc] at this
        exact this
      by_cases z : wd (l.drop p) = 0
      · simp only [if_pos (show ((wd (l.drop p) : Nat) : Int) = 0 by omega), hw1, if_pos (show (0 : Int) ≤ (p : Int) by omega), if_pos (show (p : Int) ≤ (p : Int) + 1 by omega), if_pos (show (p : Int) + 1 ≤ (l.length : Int) by omega), if_pos (show x.length < 8796093022208 by omega)]
        exact go 1 (by unfold stp; rw [if_pos z]) (by omega)
      · simp only [if_neg (show ¬ ((wd (l.drop p) : Nat) : Int) = 0 by omega), hw2, if_pos (show (0 : Int) ≤ (p : Int) by omega), if_pos (show (p : Int) ≤ (p : Int) + ((wd (l.drop p) : Nat) : Int) by omega), if_pos (show (p : Int) + ((wd (l.drop p) : Nat) : Int) ≤ (l.length : Int) by omega), if_pos (show x.length < 8796093022208 by omega)]
        exact go (wd (l.drop p)) (by unfold stp; rw [if_neg z]) (by omega)
    · obtain rfl : p = l.length := by omega
      exact ih l.length x (by omega) (by omega) hx
theorem lk_Parts {l : List Int} (hb : Bytes l) (hl : l.length ≤ 1000000000000) : Ev (fun k => annuletref04_Parts.f k (strOfNums l)) ((partsL l).map strOfNums) := by
  have := lk_Parts_l0 hb hl l.length 0 [] (by omega) (by omega) (by simp)
  rw [List.drop_zero, List.nil_append] at this
  exact this
theorem rdOf_parts (L : List (List Int)) (i : Nat) (h : i < L.length) : rdOf ByteArray.empty (L.map strOfNums) (i : Int) = strOfNums L[i] := by
  unfold rdOf
  simp [List.getD, h]
theorem lk_Valid_l0 {l : List Int} (hb : Bytes l) (hl : l.length ≤ 1000000000) (d : Nat) : ∀ i : Nat, i ≤ (partsL l).length → (partsL l).length - i ≤ d →
    Ev (fun k => annuletref04_Valid.l0 k ((partsL l).map strOfNums) (i : Int)) (((partsL l).drop i).all fun p => decide (wd p ≠ 0)) := by
  have hpl := parts_len l
  induction d with
  | zero =>
    intro i hi hd
    obtain rfl : i = (partsL l).length := by omega
    refine ev_succ ?_
    simp only [annuletref04_Valid.l0, List.length_map]
    simp only [if_neg (show ¬ ((partsL l).length : Int) < ((partsL l).length : Int) by omega)]
    rw [List.drop_eq_nil_of_le (Nat.le_refl _)]
    exact ev_some _
  | succ d ih =>
    intro i hi hd
    by_cases hlt : i < (partsL l).length
    · obtain ⟨p1, p2, p3, p4⟩ := parts_mem l _ (List.getElem_mem hlt)
      refine ev_succ ?_
      simp only [annuletref04_Valid.l0, List.length_map]
      simp only [if_pos (show (i : Int) < ((partsL l).length : Int) by omega), if_pos (show (0 : Int) ≤ (i : Int) by omega)]
      rw [rdOf_parts _ i hlt, w64 (by omega) (by omega), List.drop_eq_getElem_cons hlt, List.all_cons]
      have hw := lk_Width (p4 hb) (by omega) 0 (len_pos p1)
      rw [List.drop_zero] at hw
      refine ev_bind hw ?_
      by_cases z : wd (partsL l)[i] = 0
      · simp only [if_pos (show ((wd (partsL l)[i] : Nat) : Int) = 0 by omega)]
        refine ev_eq (ev_some _) ?_
        simp [z]
      · simp only [if_neg (show ¬ ((wd (partsL l)[i] : Nat) : Int) = 0 by omega)]
        refine ev_eq (ih (i + 1) (by omega) (by omega)) ?_
        simp [z]
    · obtain rfl : i = (partsL l).length := by omega
      exact ih _ (by omega) (by omega)
theorem lk_ref04_Valid {l : List Int} (hb : Bytes l) (hl : l.length ≤ 1000000000) : Ev (fun k => annuletref04_Valid.f k (strOfNums l)) ((partsL l).all fun p => decide (wd p ≠ 0)) := by
  have := lk_Valid_l0 hb hl _ 0 (by omega) (Nat.le_refl _)
  rw [List.drop_zero] at this
  exact ev_bind (lk_Parts hb (by omega)) this

/-! ### package msg: kinds -/
def kindsL : List S53 := match msg_kinds.f with | some l => l | none => []
theorem lk_kinds : msg_kinds.f = some kindsL := rfl
def kA (a : Int) : S53 := if 0 ≤ a ∧ a < 13 then rd_T53 kindsL a else rd_T53 kindsL 0
theorem lk_msg_of (a : Int) : msg_of.f a = some ((kA a).f0, (kA a).f1, (kA a).f2) := by
  have hl : kindsL.length = 13 := rfl
  unfold msg_of.f kA
  rw [lk_kinds]
  simp only [Option.bind_some, hl]
  by_cases h0 : a < 0
  · rw [if_pos h0, if_pos (by omega), if_neg (by omega)]
  · rw [if_neg h0]
    by_cases h1 : a ≥ ((13 : Nat) : Int)
    · rw [if_pos h1, if_pos (by omega), if_neg (by omega)]
    · rw [if_neg h1, if_pos (by omega), if_pos (by omega), if_pos (by omega)]
theorem kA_cases (a : Int) : (kA a = rd_T53 kindsL 0 ∧ ¬ (1 ≤ a ∧ a ≤ 12)) ∨ a = 1 ∨ a = 2 ∨ a = 3 ∨ a = 4 ∨ a = 5 ∨ a = 6 ∨ a = 7 ∨ a = 8 ∨ a = 9 ∨ a = 10 ∨ a = 11 ∨ a = 12 := by
  by_cases h : 1 ≤ a ∧ a ≤ 12
  · right; omega
  · left
    refine ⟨?_, h⟩
    unfold kA
    by_cases h0 : a = 0
    · subst h0; rfl
    · rw [if_neg (by omega)]
theorem lk_msg_Name (a : Int) : msg_Name.f a = some (kA a).f0 := by
  unfold msg_Name.f
  rw [lk_msg_of]
  rfl
theorem lk_msg_Asks (a : Int) : msg_Asks.f a = some (decide (((kA a).f2.length : Int) > 0)) := by
  unfold msg_Asks.f
  rw [lk_msg_of]
  rfl
theorem lk_Index0 (l : List Int) (hl : l.length < 9223372036854775807) (v : Int) (d : Nat) : ∀ i : Nat, i + d = l.length → ∃ j, Ev (fun k => slices_Index_int_int.l0 k l v (l.length : Int) (i : Int)) j ∧ decide (j ≥ 0) = decide (v ∈ l.drop i) := by
  induction d with
  | zero =>
    intro i hi
    refine ⟨-1, ?_, ?_⟩
    · refine ev_const fun k => ?_
      rw [slices_Index_int_int.l0, if_neg (by omega)]
    · rw [List.drop_eq_nil_of_le (by omega)]; simp
  | succ d ih =>
    intro i hi
    have hd : l.drop i = rd l (i : Int) :: l.drop (i + 1) := by
      rw [List.drop_eq_getElem_cons (by omega), rd_nat]
      simp [List.getD, show i < l.length by omega]
    obtain ⟨j, hj, he⟩ := ih (i + 1) (by omega)
    by_cases hv : v = rd l (i : Int)
    · refine ⟨(i : Int), ?_, ?_⟩
      · refine ev_const fun k => ?_
        rw [slices_Index_int_int.l0, if_pos (by omega), if_pos (by omega), if_pos (by omega), if_pos hv]
      · rw [hd, ← hv]; simp
    · refine ⟨j, ?_, ?_⟩
      · refine ev_succ ?_
        simp only [slices_Index_int_int.l0, if_pos (show (i : Int) < (l.length : Int) by omega), if_pos (show (0 : Int) ≤ (i : Int) by omega), if_neg hv]
        rw [w64 (by omega) (by omega)]
        exact hj
      · rw [he, hd]; simp [hv]
theorem lk_Contains (l : List Int) (hl : l.length < 9223372036854775807) (v : Int) : Ev (fun k => slices_Contains_int_int.f k l v) (decide (v ∈ l)) := by
  obtain ⟨j, hj, he⟩ := lk_Index0 l hl v l.length 0 (by omega)
  unfold slices_Contains_int_int.f slices_Index_int_int.f
  refine ev_bind hj ?_
  rw [he]
  exact ev_some _
theorem kA_len (a : Int) : (kA a).f2.length ≤ 2 := by
  rcases kA_cases a with ⟨h, _⟩ | h | h | h | h | h | h | h | h | h | h | h | h
  · rw [h]; decide
  all_goals (subst h; decide)
theorem lk_msg_Answers (a r : Int) : Ev (fun k => msg_Answers.f k a r) (decide (r ∈ (kA a).f2)) := by
  unfold msg_Answers.f
  rw [lk_msg_of]
  simp only [Option.bind_some]
  have := kA_len a
  exact ev_bind (lk_Contains _ (by omega) r) (ev_some _)
theorem lk_ref08_Name (a : Int) : annuletref08_Name.f a = some (kA a).f0 := by
  rcases kA_cases a with ⟨h, h'⟩ | h | h | h | h | h | h | h | h | h | h | h | h
  · rw [h]
    unfold annuletref08_Name.f
    by_cases h1 : a < 1
    · rw [if_pos h1]; rfl
    · rw [if_neg h1, if_pos (by omega)]; rfl
  all_goals (subst h; rfl)

/-! ### package msg: messages made bare, held against one another -/
def flI (a : Int) (h : Bool) : Int := if Go.bits .and .i64 (kA a).f1 256 = 0 then Go.bits .andNot .i64 (kA a).f1 256 else (if h = true then Go.bits .andNot .i64 (kA a).f1 256 else Go.bits .andNot .i64 (Go.bits .andNot .i64 (kA a).f1 72) 256)
theorem lk_msg_fields (m0 : Int) (m1 : Int) (m2 : Int) (m3 : Bool) (m4 : Int) (m5 : ByteArray) (m6 : ByteArray) (m7 : Int) (m8 : Int) (m9 : List S26) (m10 : List S45) : msg_fields.f m0 m1 m2 m3 m4 m5 m6 m7 m8 m9 m10 = some (flI m0 m3) := by
  unfold msg_fields.f flI
  rw [lk_msg_of]
  simp only [Option.bind_some]
  by_cases h : Go.bits .and .i64 (kA m0).f1 256 = 0
  · rw [if_pos h, if_pos h]
  · rw [if_neg h, if_neg h]
    by_cases h' : m3 = true
    · rw [if_pos h', if_pos h']
    · rw [if_neg h', if_neg h']
theorem flI_idem (a : Int) (h : Bool) : flI a (if Go.bits .and .i64 (flI a h) 2 = 0 then false else h) = flI a h := by
  rcases kA_cases a with ⟨e, _⟩ | e | e | e | e | e | e | e | e | e | e | e | e
  · unfold flI
    rw [e]
    cases h <;> decide +kernel
  all_goals (subst e; cases h <;> decide +kernel)
section
variable (fl : Int) (m0 : Int) (m1 : Int) (m2 : Int) (m3 : Bool) (m4 : Int) (m5 : ByteArray) (m6 : ByteArray) (m7 : Int) (m8 : Int) (m9 : List S26) (m10 : List S45)
theorem lk_Bare_j5 (hp : m9.length < 8796093022208) (hq : m10.length < 4398046511104) (o0 : Int) (o1 : Int) (o2 : Int) (o3 : Bool) (o4 : Int) (o5 : ByteArray) (o6 : ByteArray) (o7 : Int) (o8 : Int) (o9 : List S26) : Ev (fun k => msg_Bare.j5 k fl m0 m1 m2 m3 m4 m5 m6 m7 m8 m9 m10 o0 o1 o2 o3 o4 o5 o6 o7 o8 o9) (o0, o1, o2, o3, o4, o5, (if Go.bits .and .i64 fl 64 = 0 then o6 else m6), o7, o8, o9, (if Go.bits .and .i64 fl 128 = 0 then [] else m10)) := by
  refine ev_const fun k => ?_
  rw [msg_Bare.j5]
  unfold api_Pair_41.f
  rw [if_pos hq]
  by_cases h1 : Go.bits .and .i64 fl 64 = 0
  · by_cases h2 : Go.bits .and .i64 fl 128 = 0
    · simp only [if_pos h1, if_pos h2]
    · simp only [if_pos h1, if_neg h2, Option.bind_some]
  · by_cases h2 : Go.bits .and .i64 fl 128 = 0
    · simp only [if_neg h1, if_pos h2]
    · simp only [if_neg h1, if_neg h2, Option.bind_some]
theorem lk_Bare_j4 (hp : m9.length < 8796093022208) (hq : m10.length < 4398046511104) (o0 : Int) (o1 : Int) (o2 : Int) (o3 : Bool) (o4 : Int) (o5 : ByteArray) (o6 : ByteArray) (o7 : Int) (o8 : Int) (o9 : List S26) : Ev (fun k => msg_Bare.j4 k fl m0 m1 m2 m3 m4 m5 m6 m7 m8 m9 m10 o0 o1 o2 o3 o4 o5 o6 o7 o8 o9) (o0, o1, o2, o3, o4, (if Go.bits .and .i64 fl 32 = 0 then o5 else m5), (if Go.bits .and .i64 fl 64 = 0 then o6 else m6), o7, o8, o9, (if Go.bits .and .i64 fl 128 = 0 then [] else m10)) := by
  refine ev_succ ?_
  simp only [msg_Bare.j4]
  by_cases h : Go.bits .and .i64 fl 32 = 0
  · simp only [if_pos h]
    exact lk_Bare_j5 fl m0 m1 m2 m3 m4 m5 m6 m7 m8 m9 m10 hp hq o0 o1 o2 o3 o4 o5 o6 o7 o8 o9
  · simp only [if_neg h]
    exact lk_Bare_j5 fl m0 m1 m2 m3 m4 m5 m6 m7 m8 m9 m10 hp hq o0 o1 o2 o3 o4 m5 o6 o7 o8 o9
theorem lk_Bare_j3 (hp : m9.length < 8796093022208) (hq : m10.length < 4398046511104) (o0 : Int) (o1 : Int) (o2 : Int) (o3 : Bool) (o4 : Int) (o5 : ByteArray) (o6 : ByteArray) (o7 : Int) (o8 : Int) : Ev (fun k => msg_Bare.j3 k fl m0 m1 m2 m3 m4 m5 m6 m7 m8 m9 m10 o0 o1 o2 o3 o4 o5 o6 o7 o8) (o0, o1, o2, o3, o4, (if Go.bits .and .i64 fl 32 = 0 then o5 else m5), (if Go.bits .and .i64 fl 64 = 0 then o6 else m6), o7, o8, (if Go.bits .and .i64 fl 16 = 0 then [] else m9), (if Go.bits .and .i64 fl 128 = 0 then [] else m10)) := by
  refine ev_succ ?_
  simp only [msg_Bare.j3]
  by_cases h : Go.bits .and .i64 fl 16 = 0
  · simp only [if_pos h]
    exact lk_Bare_j4 fl m0 m1 m2 m3 m4 m5 m6 m7 m8 m9 m10 hp hq o0 o1 o2 o3 o4 o5 o6 o7 o8 []
  · unfold api_Peer_40.f
    simp only [if_neg h, if_pos hp, Option.bind_some]
    exact lk_Bare_j4 fl m0 m1 m2 m3 m4 m5 m6 m7 m8 m9 m10 hp hq o0 o1 o2 o3 o4 o5 o6 o7 o8 m9
theorem lk_Bare_j2 (hp : m9.length < 8796093022208) (hq : m10.length < 4398046511104) (o0 : Int) (o1 : Int) (o2 : Int) (o3 : Bool) (o4 : Int) (o5 : ByteArray) (o6 : ByteArray) (o7 : Int) (o8 : Int) : Ev (fun k => msg_Bare.j2 k fl m0 m1 m2 m3 m4 m5 m6 m7 m8 m9 m10 o0 o1 o2 o3 o4 o5 o6 o7 o8) (o0, o1, o2, o3, o4, (if Go.bits .and .i64 fl 32 = 0 then o5 else m5), (if Go.bits .and .i64 fl 64 = 0 then o6 else m6), (if Go.bits .and .i64 fl 8 = 0 then o7 else m7), (if Go.bits .and .i64 fl 8 = 0 then o8 else m8), (if Go.bits .and .i64 fl 16 = 0 then [] else m9), (if Go.bits .and .i64 fl 128 = 0 then [] else m10)) := by
  refine ev_succ ?_
  simp only [msg_Bare.j2]
  by_cases h : Go.bits .and .i64 fl 8 = 0
  · simp only [if_pos h]
    exact lk_Bare_j3 fl m0 m1 m2 m3 m4 m5 m6 m7 m8 m9 m10 hp hq o0 o1 o2 o3 o4 o5 o6 o7 o8
  · simp only [if_neg h]
    exact lk_Bare_j3 fl m0 m1 m2 m3 m4 m5 m6 m7 m8 m9 m10 hp hq o0 o1 o2 o3 o4 o5 o6 m7 m8
theorem lk_Bare_j1 (hp : m9.length < 8796093022208) (hq : m10.length < 4398046511104) (o0 : Int) (o1 : Int) (o2 : Int) (o3 : Bool) (o4 : Int) (o5 : ByteArray) (o6 : ByteArray) (o7 : Int) (o8 : Int) : Ev (fun k => msg_Bare.j1 k fl m0 m1 m2 m3 m4 m5 m6 m7 m8 m9 m10 o0 o1 o2 o3 o4 o5 o6 o7 o8) (o0, o1, o2, o3, (if Go.bits .and .i64 fl 4 = 0 then o4 else m4), (if Go.bits .and .i64 fl 32 = 0 then o5 else m5), (if Go.bits .and .i64 fl 64 = 0 then o6 else m6), (if Go.bits .and .i64 fl 8 = 0 then o7 else m7), (if Go.bits .and .i64 fl 8 = 0 then o8 else m8), (if Go.bits .and .i64 fl 16 = 0 then [] else m9), (if Go.bits .and .i64 fl 128 = 0 then [] else m10)) := by
  refine ev_succ ?_
  simp only [msg_Bare.j1]
  by_cases h : Go.bits .and .i64 fl 4 = 0
  · simp only [if_pos h]
    exact lk_Bare_j2 fl m0 m1 m2 m3 m4 m5 m6 m7 m8 m9 m10 hp hq o0 o1 o2 o3 o4 o5 o6 o7 o8
  · simp only [if_neg h]
    exact lk_Bare_j2 fl m0 m1 m2 m3 m4 m5 m6 m7 m8 m9 m10 hp hq o0 o1 o2 o3 m4 o5 o6 o7 o8
theorem lk_Bare_j0 (hp : m9.length < 8796093022208) (hq : m10.length < 4398046511104) (o0 : Int) (o1 : Int) (o2 : Int) (o3 : Bool) (o4 : Int) (o5 : ByteArray) (o6 : ByteArray) (o7 : Int) (o8 : Int) : Ev (fun k => msg_Bare.j0 k fl m0 m1 m2 m3 m4 m5 m6 m7 m8 m9 m10 o0 o1 o2 o3 o4 o5 o6 o7 o8) (o0, o1, o2, (if Go.bits .and .i64 fl 2 = 0 then o3 else m3), (if Go.bits .and .i64 fl 4 = 0 then o4 else m4), (if Go.bits .and .i64 fl 32 = 0 then o5 else m5), (if Go.bits .and .i64 fl 64 = 0 then o6 else m6), (if Go.bits .and .i64 fl 8 = 0 then o7 else m7), (if Go.bits .and .i64 fl 8 = 0 then o8 else m8), (if Go.bits .and .i64 fl 16 = 0 then [] else m9), (if Go.bits .and .i64 fl 128 = 0 then [] else m10)) := by
  refine ev_succ ?_
  simp only [msg_Bare.j0]
  by_cases h : Go.bits .and .i64 fl 2 = 0
  · simp only [if_pos h]
    exact lk_Bare_j1 fl m0 m1 m2 m3 m4 m5 m6 m7 m8 m9 m10 hp hq o0 o1 o2 o3 o4 o5 o6 o7 o8
  · simp only [if_neg h]
    exact lk_Bare_j1 fl m0 m1 m2 m3 m4 m5 m6 m7 m8 m9 m10 hp hq o0 o1 o2 m3 o4 o5 o6 o7 o8
end
abbrev MsgT := Int × Int × Int × Bool × Int × ByteArray × ByteArray × Int × Int × List S26 × List S45
def bareW (fl : Int) (m : MsgT) : MsgT := (m.1, m.2.1, (if Go.bits .and .i64 fl 1 = 0 then 0 else m.2.2.1), (if Go.bits .and .i64 fl 2 = 0 then false else m.2.2.2.1), (if Go.bits .and .i64 fl 4 = 0 then 0 else m.2.2.2.2.1), (if Go.bits .and .i64 fl 32 = 0 then (⟨#[]⟩ : ByteArray) else m.2.2.2.2.2.1), (if Go.bits .and .i64 fl 64 = 0 then (⟨#[]⟩ : ByteArray) else m.2.2.2.2.2.2.1), (if Go.bits .and .i64 fl 8 = 0 then 0 else m.2.2.2.2.2.2.2.1), (if Go.bits .and .i64 fl 8 = 0 then 0 else m.2.2.2.2.2.2.2.2.1), (if Go.bits .and .i64 fl 16 = 0 then [] else m.2.2.2.2.2.2.2.2.2.1), (if Go.bits .and .i64 fl 128 = 0 then [] else m.2.2.2.2.2.2.2.2.2.2))
def bareOf (m : MsgT) : MsgT := bareW (flI m.1 m.2.2.2.1) m
theorem lk_Bare (m : MsgT) (hp : m.2.2.2.2.2.2.2.2.2.1.length < 8796093022208) (hq : m.2.2.2.2.2.2.2.2.2.2.length < 4398046511104) : Ev (fun k => msg_Bare.f k m.1 m.2.1 m.2.2.1 m.2.2.2.1 m.2.2.2.2.1 m.2.2.2.2.2.1 m.2.2.2.2.2.2.1 m.2.2.2.2.2.2.2.1 m.2.2.2.2.2.2.2.2.1 m.2.2.2.2.2.2.2.2.2.1 m.2.2.2.2.2.2.2.2.2.2) (bareOf m) := by
  unfold msg_Bare.f bareOf bareW
  rw [lk_msg_fields]
  simp only [Option.bind_some]
  by_cases h : Go.bits .and .i64 (flI m.1 m.2.2.2.1) 1 = 0
  · simp only [if_pos h]
    exact lk_Bare_j0 _ m.1 m.2.1 m.2.2.1 m.2.2.2.1 m.2.2.2.2.1 m.2.2.2.2.2.1 m.2.2.2.2.2.2.1 m.2.2.2.2.2.2.2.1 m.2.2.2.2.2.2.2.2.1 m.2.2.2.2.2.2.2.2.2.1 m.2.2.2.2.2.2.2.2.2.2 hp hq m.1 m.2.1 0 false 0 (⟨#[]⟩ : ByteArray) (⟨#[]⟩ : ByteArray) 0 0
  · simp only [if_neg h]
    exact lk_Bare_j0 _ m.1 m.2.1 m.2.2.1 m.2.2.2.1 m.2.2.2.2.1 m.2.2.2.2.2.1 m.2.2.2.2.2.2.1 m.2.2.2.2.2.2.2.1 m.2.2.2.2.2.2.2.2.1 m.2.2.2.2.2.2.2.2.2.1 m.2.2.2.2.2.2.2.2.2.2 hp hq m.1 m.2.1 m.2.2.1 false 0 (⟨#[]⟩ : ByteArray) (⟨#[]⟩ : ByteArray) 0 0
theorem bareOf_idem (m : MsgT) : bareOf (bareOf m) = bareOf m := by
  have e := flI_idem m.1 m.2.2.2.1
  have e' : flI (bareOf m).1 (bareOf m).2.2.2.1 = flI m.1 m.2.2.2.1 := e
  have key : ∀ {α : Type} (c : Prop) [Decidable c] (a b : α), (if c then a else (if c then a else b)) = if c then a else b := by
    intro α c _ a b
    by_cases h : c
    · rw [if_pos h, if_pos h]
    · rw [if_neg h, if_neg h]
  show bareW (flI (bareOf m).1 (bareOf m).2.2.2.1) (bareOf m) = bareOf m
  rw [e']
  unfold bareOf
  generalize flI m.1 m.2.2.2.1 = fl
  unfold bareW
  simp only [key]
theorem bareOf_len (m : MsgT) : (bareOf m).2.2.2.2.2.2.2.2.2.1.length ≤ m.2.2.2.2.2.2.2.2.2.1.length ∧ (bareOf m).2.2.2.2.2.2.2.2.2.2.length ≤ m.2.2.2.2.2.2.2.2.2.2.length := by
  unfold bareOf bareW
  constructor
  · show (if _ then [] else _ : List S26).length ≤ _
    split <;> simp
  · show (if _ then [] else _ : List S45).length ≤ _
    split <;> simp
theorem lk_Peers (l l' : List S26) (hl : l.length < 9223372036854775807) : ∃ c, Ev (fun k => api_Peer_42.f k l l') c ∧ (l = l' → c = true) := by
  unfold api_Peer_42.f
  by_cases he : (l.length : Int) = (l'.length : Int)
  · simp only [if_pos he]
    have loop : ∀ (d i : Nat), i + d = l.length → ∃ c, Ev (fun k => api_Peer_42.l0 k l l' (l.length : Int) (i : Int)) c ∧ (l = l' → c = true) := by
      intro d
      induction d with
      | zero =>
        intro i hi
        refine ⟨true, ev_const fun k => ?_, fun _ => rfl⟩
        rw [api_Peer_42.l0, if_neg (by omega)]
      | succ d ih =>
        intro i hi
        obtain ⟨c, h1, h2⟩ := ih (i + 1) (by omega)
        by_cases hd : (!(((rd_T26 l (i : Int)).f0) == ((rd_T26 l' (i : Int)).f0)) || (!(((rd_T26 l (i : Int)).f1) == ((rd_T26 l' (i : Int)).f1)))) = true
        · refine ⟨false, ev_const fun k => ?_, fun e => ?_⟩
          · rw [api_Peer_42.l0, if_pos (by omega), if_pos (by omega), if_pos (by omega), if_pos (by omega), if_pos hd]
          · subst e; simp at hd
        · refine ⟨c, ?_, h2⟩
          refine ev_succ ?_
          simp only [api_Peer_42.l0, if_pos (show (i : Int) < (l.length : Int) by omega), if_pos (show (0 : Int) ≤ (i : Int) by omega), if_pos (show (i : Int) < (l'.length : Int) by omega), if_neg hd]
          rw [w64 (by omega) (by omega)]
          exact h1
    exact loop l.length 0 (by omega)
  · simp only [if_neg he]
    exact ⟨false, ev_some _, fun e => absurd (by rw [e]) he⟩
theorem lk_Pairs (l l' : List S45) (hl : l.length < 9223372036854775807) : ∃ c, Ev (fun k => api_Pair_43.f k l l') c ∧ (l = l' → c = true) := by
  unfold api_Pair_43.f
  by_cases he : (l.length : Int) = (l'.length : Int)
  · simp only [if_pos he]
    have loop : ∀ (d i : Nat), i + d = l.length → ∃ c, Ev (fun k => api_Pair_43.l0 k l l' (l.length : Int) (i : Int)) c ∧ (l = l' → c = true) := by
      intro d
      induction d with
      | zero =>
        intro i hi
        refine ⟨true, ev_const fun k => ?_, fun _ => rfl⟩
        rw [api_Pair_43.l0, if_neg (by omega)]
      | succ d ih =>
        intro i hi
        obtain ⟨c, h1, h2⟩ := ih (i + 1) (by omega)
        by_cases hd : (!((((rd_T45 l (i : Int)).f0).toList) == (((rd_T45 l' (i : Int)).f0).toList)) || (!((((rd_T45 l (i : Int)).f1).toList) == (((rd_T45 l' (i : Int)).f1).toList)))) = true
        · refine ⟨false, ev_const fun k => ?_, fun e => ?_⟩
          · rw [api_Pair_43.l0, if_pos (by omega), if_pos (by omega), if_pos (by omega), if_pos (by omega), if_pos hd]
          · subst e; simp at hd
        · refine ⟨c, ?_, h2⟩
          refine ev_succ ?_
          simp only [api_Pair_43.l0, if_pos (show (i : Int) < (l.length : Int) by omega), if_pos (show (0 : Int) ≤ (i : Int) by omega), if_pos (show (i : Int) < (l'.length : Int) by omega), if_neg hd]
          rw [w64 (by omega) (by omega)]
          exact h1
    exact loop l.length 0 (by omega)
  · simp only [if_neg he]
    exact ⟨false, ev_some _, fun e => absurd (by rw [e]) he⟩
theorem lk_Same (m n : MsgT) (hp : m.2.2.2.2.2.2.2.2.2.1.length < 9223372036854775807) (hq : m.2.2.2.2.2.2.2.2.2.2.length < 9223372036854775807) : ∃ c, Ev (fun k => msg_Same.f k m.1 m.2.1 m.2.2.1 m.2.2.2.1 m.2.2.2.2.1 m.2.2.2.2.2.1 m.2.2.2.2.2.2.1 m.2.2.2.2.2.2.2.1 m.2.2.2.2.2.2.2.2.1 m.2.2.2.2.2.2.2.2.2.1 m.2.2.2.2.2.2.2.2.2.2 n.1 n.2.1 n.2.2.1 n.2.2.2.1 n.2.2.2.2.1 n.2.2.2.2.2.1 n.2.2.2.2.2.2.1 n.2.2.2.2.2.2.2.1 n.2.2.2.2.2.2.2.2.1 n.2.2.2.2.2.2.2.2.2.1 n.2.2.2.2.2.2.2.2.2.2) c ∧ (m = n → c = true) := by
  obtain ⟨q1, h1, e1⟩ := lk_Peers m.2.2.2.2.2.2.2.2.2.1 n.2.2.2.2.2.2.2.2.2.1 hp
  obtain ⟨q2, h2, e2⟩ := lk_Pairs m.2.2.2.2.2.2.2.2.2.2 n.2.2.2.2.2.2.2.2.2.2 hq
  unfold msg_Same.f
  have no : ∀ {P : Prop}, ¬ P → (m = n → P) → ∃ c, Ev (fun _ : Nat => some false) c ∧ (m = n → c = true) := fun hP hi => ⟨false, ev_some _, fun e => absurd (hi e) hP⟩
  by_cases c0 : m.1 = n.1
  case neg => simp only [if_neg c0]; exact no c0 (fun e => by subst e; simp)
  simp only [if_pos c0]
  by_cases c1 : m.2.1 = n.2.1
  case neg => simp only [if_neg c1]; exact no c1 (fun e => by subst e; simp)
  simp only [if_pos c1]
  by_cases c2 : m.2.2.1 = n.2.2.1
  case neg => simp only [if_neg c2]; exact no c2 (fun e => by subst e; simp)
  simp only [if_pos c2]
  by_cases c3 : (m.2.2.2.1 == n.2.2.2.1) = true
  case neg => simp only [if_neg c3]; exact no c3 (fun e => by subst e; simp)
  simp only [if_pos c3]
  by_cases c4 : m.2.2.2.2.1 = n.2.2.2.2.1
  case neg => simp only [if_neg c4]; exact no c4 (fun e => by subst e; simp)
  simp only [if_pos c4]
  by_cases c5 : m.2.2.2.2.2.1.toList = n.2.2.2.2.2.1.toList
  case neg => simp only [if_neg c5]; exact no c5 (fun e => by subst e; simp)
  simp only [if_pos c5]
  by_cases c6 : m.2.2.2.2.2.2.1.toList = n.2.2.2.2.2.2.1.toList
  case neg => simp only [if_neg c6]; exact no c6 (fun e => by subst e; simp)
  simp only [if_pos c6]
  by_cases c7 : (m.2.2.2.2.2.2.2.1 == n.2.2.2.2.2.2.2.1 && (m.2.2.2.2.2.2.2.2.1 == n.2.2.2.2.2.2.2.2.1)) = true
  case neg => simp only [if_neg c7]; exact no c7 (fun e => by subst e; simp)
  simp only [if_pos c7]
  cases q1 with
  | false => exact ⟨false, ev_bind h1 (by simp only [Bool.false_eq_true, if_false]; exact ev_some _), fun e => absurd (e1 (by subst e; rfl)) (by simp)⟩
  | true => exact ⟨q2, ev_bind h1 (by simp only [if_true]; exact ev_bind h2 (ev_some _)), fun e => e2 (by subst e; rfl)⟩
theorem lk_Key_tot (s : ByteArray) : ∃ b, msg_Key.f s = some b := by
  unfold msg_Key.f
  by_cases h : s.toList = []
  · rw [if_pos h]; exact ⟨_, rfl⟩
  · rw [if_neg h]
    by_cases h1 : (s.size : Int) ≤ 96
    · rw [if_pos h1]
      unfold utf_Valid.f utf_Count.f
      rw [if_pos (by omega), if_pos (by omega)]
      simp only [Option.bind_some]
      split
      · exact ⟨_, rfl⟩
      · exact ⟨_, rfl⟩
    · rw [if_neg h1]; exact ⟨_, rfl⟩
theorem idxO_tot {α : Type} (f : α → Option Bool) (hf : ∀ x, ∃ b, f x = some b) : ∀ (l : List α) (i : Int), ∃ j, idxO f l i = some j
  | [], i => ⟨-1, rfl⟩
  | x :: l, i => by
    obtain ⟨b, hb⟩ := hf x
    rw [idxO, hb]
    simp only [Option.bind_some]
    split
    · exact ⟨i, rfl⟩
    · exact idxO_tot f hf l (i + 1)
theorem lk_text_tot (m0 : Int) (m1 : Int) (m2 : Int) (m3 : Bool) (m4 : Int) (m5 : ByteArray) (m6 : ByteArray) (m7 : Int) (m8 : Int) (m9 : List S26) (m10 : List S45) (g : Int) : ∃ b, msg_text.f m0 m1 m2 m3 m4 m5 m6 m7 m8 m9 m10 g = some b := by
  obtain ⟨i, hi⟩ := idxO_tot (fun x : S45 => msg_text_1.f x.f0 x.f1) (fun x => by
    obtain ⟨b, hb⟩ := lk_Key_tot x.f0
    exact ⟨!b, by unfold msg_text_1.f; rw [hb]; rfl⟩) m10 0
  obtain ⟨b, hb⟩ := lk_Key_tot m5
  unfold msg_text.f api_Pair_46.f
  rw [hb]
  simp only [if_true, hi, Option.bind_some]
  split
  · exact ⟨_, rfl⟩
  · split
    · exact ⟨_, rfl⟩
    · exact ⟨_, rfl⟩
theorem lk_long_tot (m0 : Int) (m1 : Int) (m2 : Int) (m3 : Bool) (m4 : Int) (m5 : ByteArray) (m6 : ByteArray) (m7 : Int) (m8 : Int) (m9 : List S26) (m10 : List S45) : ∃ b, msg_long.f m0 m1 m2 m3 m4 m5 m6 m7 m8 m9 m10 = some b := by
  obtain ⟨i, hi⟩ := idxO_tot (fun x : S45 => msg_long_1.f x.f0 x.f1) (fun x => ⟨_, rfl⟩) m10 0
  unfold msg_long.f api_Pair_46.f
  simp only [if_neg (show ¬ (48 : Nat) = 47 by decide), if_true, hi, Option.bind_some]
  split
  · exact ⟨_, rfl⟩
  · split
    · exact ⟨_, rfl⟩
    · split
      · exact ⟨_, rfl⟩
      · exact ⟨_, rfl⟩
theorem lk_Right (m : MsgT) (hp : m.2.2.2.2.2.2.2.2.2.1.length < 8796093022208) (hq : m.2.2.2.2.2.2.2.2.2.2.length < 4398046511104) (c : Bool) (hc : Ev (fun k => msg_Same.f k m.1 m.2.1 m.2.2.1 m.2.2.2.1 m.2.2.2.2.1 m.2.2.2.2.2.1 m.2.2.2.2.2.2.1 m.2.2.2.2.2.2.2.1 m.2.2.2.2.2.2.2.2.1 m.2.2.2.2.2.2.2.2.2.1 m.2.2.2.2.2.2.2.2.2.2 (bareOf m).1 (bareOf m).2.1 (bareOf m).2.2.1 (bareOf m).2.2.2.1 (bareOf m).2.2.2.2.1 (bareOf m).2.2.2.2.2.1 (bareOf m).2.2.2.2.2.2.1 (bareOf m).2.2.2.2.2.2.2.1 (bareOf m).2.2.2.2.2.2.2.2.1 (bareOf m).2.2.2.2.2.2.2.2.2.1 (bareOf m).2.2.2.2.2.2.2.2.2.2) c) :
    ∃ r, Ev (fun k => msg_Right.f k m.1 m.2.1 m.2.2.1 m.2.2.2.1 m.2.2.2.2.1 m.2.2.2.2.2.1 m.2.2.2.2.2.2.1 m.2.2.2.2.2.2.2.1 m.2.2.2.2.2.2.2.2.1 m.2.2.2.2.2.2.2.2.2.1 m.2.2.2.2.2.2.2.2.2.2) r ∧ (r = 0 → c = true) ∧ (c = true → r ≠ 1) := by
  obtain ⟨b1, h1⟩ := lk_text_tot m.1 m.2.1 m.2.2.1 m.2.2.2.1 m.2.2.2.2.1 m.2.2.2.2.2.1 m.2.2.2.2.2.2.1 m.2.2.2.2.2.2.2.1 m.2.2.2.2.2.2.2.2.1 m.2.2.2.2.2.2.2.2.2.1 m.2.2.2.2.2.2.2.2.2.2 (flI m.1 m.2.2.2.1)
  obtain ⟨b2, h2⟩ := lk_long_tot m.1 m.2.1 m.2.2.1 m.2.2.2.1 m.2.2.2.2.1 m.2.2.2.2.2.1 m.2.2.2.2.2.2.1 m.2.2.2.2.2.2.2.1 m.2.2.2.2.2.2.2.2.1 m.2.2.2.2.2.2.2.2.2.1 m.2.2.2.2.2.2.2.2.2.2
  have hS : ∃ b3, msg_short.f m.1 m.2.1 m.2.2.1 m.2.2.2.1 m.2.2.2.2.1 m.2.2.2.2.2.1 m.2.2.2.2.2.2.1 m.2.2.2.2.2.2.2.1 m.2.2.2.2.2.2.2.2.1 m.2.2.2.2.2.2.2.2.2.1 m.2.2.2.2.2.2.2.2.2.2 = some b3 := by
    unfold msg_short.f
    split
    · exact ⟨_, rfl⟩
    · split
      · exact ⟨_, rfl⟩
      · split
        · exact ⟨_, rfl⟩
        · exact ⟨_, rfl⟩
  obtain ⟨b3, h3⟩ := hS
  unfold msg_Right.f
  rw [lk_msg_fields, lk_msg_Name]
  simp only [Option.bind_some]
  by_cases hn : (kA m.1).f0.toList = ([63] : List UInt8)
  · simp only [if_pos hn]
    exact ⟨9, ev_some _, (fun h => by cases h), (fun _ h => by cases h)⟩
  simp only [if_neg hn, h1, h2, h3, Option.bind_some]
  cases c with
  | false =>
    refine ⟨1, ev_bind (lk_Bare m hp hq) (ev_bind hc ?_), (fun h => by cases h), (fun h => by cases h)⟩
    simp only [Bool.false_eq_true, if_false]
    exact ev_some _
  | true =>
    refine ⟨if b1 = true then (if b2 = true then 5 else (if b3 = true then 2 else 0)) else 7, ev_bind (lk_Bare m hp hq) (ev_bind hc ?_), fun _ => rfl, fun _ => ?_⟩
    · simp only [if_true]
      cases b1 <;> cases b2 <;> cases b3 <;> exact ev_some _
    · cases b1 <;> cases b2 <;> cases b3 <;> decide
theorem lk_Large (m0 : Int) (m1 : Int) (m2 : Int) (m3 : Bool) (m4 : Int) (m5 : ByteArray) (m6 : ByteArray) (m7 : Int) (m8 : Int) (m9 : List S26) (m10 : List S45) : ∃ b, Ev (fun k => annuletlaw08_Large.f k m0 m1 m2 m3 m4 m5 m6 m7 m8 m9 m10) b ∧ (b = false → m9.length ≤ 40 ∧ m10.length ≤ 20) := by
  have jt : Ev (fun k => annuletlaw08_Large.j0 k true m0 m1 m2 m3 m4 m5 m6 m7 m8 m9 m10) true := ev_const fun k => by rw [annuletlaw08_Large.j0, if_pos rfl]
  have loop : m10.length ≤ 20 → ∀ (d i : Nat), i + d = m10.length → ∃ b, Ev (fun k => annuletlaw08_Large.l0 k (i : Int) m0 m1 m2 m3 m4 m5 m6 m7 m8 m9 m10) b := by
    intro hl d
    induction d with
    | zero =>
      intro i hi
      refine ⟨false, ev_const fun k => ?_⟩
      rw [annuletlaw08_Large.l0, if_neg (by omega)]
    | succ d ih =>
      intro i hi
      obtain ⟨b, hb⟩ := ih (i + 1) (by omega)
      by_cases h1 : (((rd_T45 m10 (i : Int)).f0).size : Int) > 300
      · refine ⟨true, ev_const fun k => ?_⟩
        rw [annuletlaw08_Large.l0, if_pos (by omega), if_pos (by omega), if_pos h1]
      · by_cases h2 : (((rd_T45 m10 (i : Int)).f1).size : Int) > 700
        · refine ⟨true, ev_const fun k => ?_⟩
          rw [annuletlaw08_Large.l0, if_pos (by omega), if_pos (by omega), if_neg h1, if_pos h2]
        · refine ⟨b, ev_succ ?_⟩
          simp only [annuletlaw08_Large.l0, if_pos (show (i : Int) < (m10.length : Int) by omega), if_pos (show (0 : Int) ≤ (i : Int) by omega), if_neg h1, if_neg h2]
          rw [w64 (by omega) (by omega)]
          exact hb
  unfold annuletlaw08_Large.f
  by_cases c1 : (m5.size : Int) > 300
  · simp only [if_pos c1]; exact ⟨true, jt, fun h => by cases h⟩
  by_cases c2 : (m6.size : Int) > 700
  · simp only [if_neg c1, if_pos c2]; exact ⟨true, jt, fun h => by cases h⟩
  by_cases c3 : (m9.length : Int) > 40
  · simp only [if_neg c1, if_neg c2, if_pos c3]; exact ⟨true, jt, fun h => by cases h⟩
  simp only [if_neg c1, if_neg c2, if_neg c3]
  by_cases c4 : (m10.length : Int) > 20
  · simp only [decide_eq_true c4]; exact ⟨true, jt, fun h => by cases h⟩
  · simp only [decide_eq_false c4]
    obtain ⟨b, hb⟩ := loop (by omega) m10.length 0 (by omega)
    refine ⟨b, ev_succ ?_, fun _ => ⟨by omega, by omega⟩⟩
    simp only [annuletlaw08_Large.j0, Bool.false_eq_true, if_false]
    exact hb

/-! ### annuletref08 -/
theorem lk_ref08_Bare (m : MsgT) (hp : m.2.2.2.2.2.2.2.2.2.1.length < 8796093022208) (hq : m.2.2.2.2.2.2.2.2.2.2.length < 4398046511104) : annuletref08_Bare.f m.1 m.2.1 m.2.2.1 m.2.2.2.1 m.2.2.2.2.1 m.2.2.2.2.2.1 m.2.2.2.2.2.2.1 m.2.2.2.2.2.2.2.1 m.2.2.2.2.2.2.2.2.1 m.2.2.2.2.2.2.2.2.2.1 m.2.2.2.2.2.2.2.2.2.2 = some (bareOf m) := by
  obtain ⟨m0, m1, m2, m3, m4, m5, m6, m7, m8, m9, m10⟩ := m
  unfold annuletref08_Bare.f bareOf bareW
  dsimp only at hp hq ⊢
  rcases kA_cases m0 with ⟨h, h'⟩ | h | h | h | h | h | h | h | h | h | h | h | h
  · have e : ∀ b, flI m0 b = 0 := by
      intro b
      unfold flI
      rw [h]
      cases b <;> decide +kernel
    have n : ¬ m0 = 1 ∧ ¬ m0 = 2 ∧ ¬ m0 = 4 ∧ ¬ m0 = 5 ∧ ¬ m0 = 7 ∧ ¬ m0 = 8 ∧ ¬ m0 = 9 ∧ ¬ m0 = 10 ∧ ¬ m0 = 12 := by omega
    rw [e, if_neg n.1, if_neg n.2.1, if_neg n.2.2.1, if_neg n.2.2.2.1, if_neg n.2.2.2.2.1, if_neg n.2.2.2.2.2.1, if_neg n.2.2.2.2.2.2.1, if_neg n.2.2.2.2.2.2.2.1, if_neg n.2.2.2.2.2.2.2.2]
    rfl
  · subst h
    cases m3
    · rw [show flI 1 false = 4 by decide +kernel]
      have z1 : (Go.bits .and .i64 4 1 = 0) = True := eq_true (by decide +kernel)
      have z2 : (Go.bits .and .i64 4 2 = 0) = True := eq_true (by decide +kernel)
      have z4 : (Go.bits .and .i64 4 4 = 0) = False := eq_false (by decide +kernel)
      have z8 : (Go.bits .and .i64 4 8 = 0) = True := eq_true (by decide +kernel)
      have z16 : (Go.bits .and .i64 4 16 = 0) = True := eq_true (by decide +kernel)
      have z32 : (Go.bits .and .i64 4 32 = 0) = True := eq_true (by decide +kernel)
      have z64 : (Go.bits .and .i64 4 64 = 0) = True := eq_true (by decide +kernel)
      have z128 : (Go.bits .and .i64 4 128 = 0) = True := eq_true (by decide +kernel)
      simp [hp, hq, z1, z2, z4, z8, z16, z32, z64, z128]
    · rw [show flI 1 true = 4 by decide +kernel]
      have z1 : (Go.bits .and .i64 4 1 = 0) = True := eq_true (by decide +kernel)
      have z2 : (Go.bits .and .i64 4 2 = 0) = True := eq_true (by decide +kernel)
      have z4 : (Go.bits .and .i64 4 4 = 0) = False := eq_false (by decide +kernel)
      have z8 : (Go.bits .and .i64 4 8 = 0) = True := eq_true (by decide +kernel)
      have z16 : (Go.bits .and .i64 4 16 = 0) = True := eq_true (by decide +kernel)
      have z32 : (Go.bits .and .i64 4 32 = 0) = True := eq_true (by decide +kernel)
      have z64 : (Go.bits .and .i64 4 64 = 0) = True := eq_true (by decide +kernel)
      have z128 : (Go.bits .and .i64 4 128 = 0) = True := eq_true (by decide +kernel)
      simp [hp, hq, z1, z2, z4, z8, z16, z32, z64, z128]
  · subst h
    cases m3
    · rw [show flI 2 false = 18 by decide +kernel]
      have z1 : (Go.bits .and .i64 18 1 = 0) = True := eq_true (by decide +kernel)
      have z2 : (Go.bits .and .i64 18 2 = 0) = False := eq_false (by decide +kernel)
      have z4 : (Go.bits .and .i64 18 4 = 0) = True := eq_true (by decide +kernel)
      have z8 : (Go.bits .and .i64 18 8 = 0) = True := eq_true (by decide +kernel)
      have z16 : (Go.bits .and .i64 18 16 = 0) = False := eq_false (by decide +kernel)
      have z32 : (Go.bits .and .i64 18 32 = 0) = True := eq_true (by decide +kernel)
      have z64 : (Go.bits .and .i64 18 64 = 0) = True := eq_true (by decide +kernel)
      have z128 : (Go.bits .and .i64 18 128 = 0) = True := eq_true (by decide +kernel)
      simp [hp, hq, z1, z2, z4, z8, z16, z32, z64, z128]
    · rw [show flI 2 true = 18 by decide +kernel]
      have z1 : (Go.bits .and .i64 18 1 = 0) = True := eq_true (by decide +kernel)
      have z2 : (Go.bits .and .i64 18 2 = 0) = False := eq_false (by decide +kernel)
      have z4 : (Go.bits .and .i64 18 4 = 0) = True := eq_true (by decide +kernel)
      have z8 : (Go.bits .and .i64 18 8 = 0) = True := eq_true (by decide +kernel)
      have z16 : (Go.bits .and .i64 18 16 = 0) = False := eq_false (by decide +kernel)
      have z32 : (Go.bits .and .i64 18 32 = 0) = True := eq_true (by decide +kernel)
      have z64 : (Go.bits .and .i64 18 64 = 0) = True := eq_true (by decide +kernel)
      have z128 : (Go.bits .and .i64 18 128 = 0) = True := eq_true (by decide +kernel)
      simp [hp, hq, z1, z2, z4, z8, z16, z32, z64, z128]
  · subst h
    cases m3
    · rw [show flI 3 false = 0 by decide +kernel]
      have z1 : (Go.bits .and .i64 0 1 = 0) = True := eq_true (by decide +kernel)
      have z2 : (Go.bits .and .i64 0 2 = 0) = True := eq_true (by decide +kernel)
      have z4 : (Go.bits .and .i64 0 4 = 0) = True := eq_true (by decide +kernel)
      have z8 : (Go.bits .and .i64 0 8 = 0) = True := eq_true (by decide +kernel)
      have z16 : (Go.bits .and .i64 0 16 = 0) = True := eq_true (by decide +kernel)
      have z32 : (Go.bits .and .i64 0 32 = 0) = True := eq_true (by decide +kernel)
      have z64 : (Go.bits .and .i64 0 64 = 0) = True := eq_true (by decide +kernel)
      have z128 : (Go.bits .and .i64 0 128 = 0) = True := eq_true (by decide +kernel)
      simp [hp, hq, z1, z2, z4, z8, z16, z32, z64, z128]
    · rw [show flI 3 true = 0 by decide +kernel]
      have z1 : (Go.bits .and .i64 0 1 = 0) = True := eq_true (by decide +kernel)
      have z2 : (Go.bits .and .i64 0 2 = 0) = True := eq_true (by decide +kernel)
      have z4 : (Go.bits .and .i64 0 4 = 0) = True := eq_true (by decide +kernel)
      have z8 : (Go.bits .and .i64 0 8 = 0) = True := eq_true (by decide +kernel)
      have z16 : (Go.bits .and .i64 0 16 = 0) = True := eq_true (by decide +kernel)
      have z32 : (Go.bits .and .i64 0 32 = 0) = True := eq_true (by decide +kernel)
      have z64 : (Go.bits .and .i64 0 64 = 0) = True := eq_true (by decide +kernel)
      have z128 : (Go.bits .and .i64 0 128 = 0) = True := eq_true (by decide +kernel)
      simp [hp, hq, z1, z2, z4, z8, z16, z32, z64, z128]
  · subst h
    cases m3
    · rw [show flI 4 false = 18 by decide +kernel]
      have z1 : (Go.bits .and .i64 18 1 = 0) = True := eq_true (by decide +kernel)
      have z2 : (Go.bits .and .i64 18 2 = 0) = False := eq_false (by decide +kernel)
      have z4 : (Go.bits .and .i64 18 4 = 0) = True := eq_true (by decide +kernel)
      have z8 : (Go.bits .and .i64 18 8 = 0) = True := eq_true (by decide +kernel)
      have z16 : (Go.bits .and .i64 18 16 = 0) = False := eq_false (by decide +kernel)
      have z32 : (Go.bits .and .i64 18 32 = 0) = True := eq_true (by decide +kernel)
      have z64 : (Go.bits .and .i64 18 64 = 0) = True := eq_true (by decide +kernel)
      have z128 : (Go.bits .and .i64 18 128 = 0) = True := eq_true (by decide +kernel)
      simp [hp, hq, z1, z2, z4, z8, z16, z32, z64, z128]
    · rw [show flI 4 true = 26 by decide +kernel]
      have z1 : (Go.bits .and .i64 26 1 = 0) = True := eq_true (by decide +kernel)
      have z2 : (Go.bits .and .i64 26 2 = 0) = False := eq_false (by decide +kernel)
      have z4 : (Go.bits .and .i64 26 4 = 0) = True := eq_true (by decide +kernel)
      have z8 : (Go.bits .and .i64 26 8 = 0) = False := eq_false (by decide +kernel)
      have z16 : (Go.bits .and .i64 26 16 = 0) = False := eq_false (by decide +kernel)
      have z32 : (Go.bits .and .i64 26 32 = 0) = True := eq_true (by decide +kernel)
      have z64 : (Go.bits .and .i64 26 64 = 0) = True := eq_true (by decide +kernel)
      have z128 : (Go.bits .and .i64 26 128 = 0) = True := eq_true (by decide +kernel)
      simp [hp, hq, z1, z2, z4, z8, z16, z32, z64, z128]
  · subst h
    cases m3
    · rw [show flI 5 false = 8 by decide +kernel]
      have z1 : (Go.bits .and .i64 8 1 = 0) = True := eq_true (by decide +kernel)
      have z2 : (Go.bits .and .i64 8 2 = 0) = True := eq_true (by decide +kernel)
      have z4 : (Go.bits .and .i64 8 4 = 0) = True := eq_true (by decide +kernel)
      have z8 : (Go.bits .and .i64 8 8 = 0) = False := eq_false (by decide +kernel)
      have z16 : (Go.bits .and .i64 8 16 = 0) = True := eq_true (by decide +kernel)
      have z32 : (Go.bits .and .i64 8 32 = 0) = True := eq_true (by decide +kernel)
      have z64 : (Go.bits .and .i64 8 64 = 0) = True := eq_true (by decide +kernel)
      have z128 : (Go.bits .and .i64 8 128 = 0) = True := eq_true (by decide +kernel)
      simp [hp, hq, z1, z2, z4, z8, z16, z32, z64, z128]
    · rw [show flI 5 true = 8 by decide +kernel]
      have z1 : (Go.bits .and .i64 8 1 = 0) = True := eq_true (by decide +kernel)
      have z2 : (Go.bits .and .i64 8 2 = 0) = True := eq_true (by decide +kernel)
      have z4 : (Go.bits .and .i64 8 4 = 0) = True := eq_true (by decide +kernel)
      have z8 : (Go.bits .and .i64 8 8 = 0) = False := eq_false (by decide +kernel)
      have z16 : (Go.bits .and .i64 8 16 = 0) = True := eq_true (by decide +kernel)
      have z32 : (Go.bits .and .i64 8 32 = 0) = True := eq_true (by decide +kernel)
      have z64 : (Go.bits .and .i64 8 64 = 0) = True := eq_true (by decide +kernel)
      have z128 : (Go.bits .and .i64 8 128 = 0) = True := eq_true (by decide +kernel)
      simp [hp, hq, z1, z2, z4, z8, z16, z32, z64, z128]
  · subst h
    cases m3
    · rw [show flI 6 false = 0 by decide +kernel]
      have z1 : (Go.bits .and .i64 0 1 = 0) = True := eq_true (by decide +kernel)
      have z2 : (Go.bits .and .i64 0 2 = 0) = True := eq_true (by decide +kernel)
      have z4 : (Go.bits .and .i64 0 4 = 0) = True := eq_true (by decide +kernel)
      have z8 : (Go.bits .and .i64 0 8 = 0) = True := eq_true (by decide +kernel)
      have z16 : (Go.bits .and .i64 0 16 = 0) = True := eq_true (by decide +kernel)
      have z32 : (Go.bits .and .i64 0 32 = 0) = True := eq_true (by decide +kernel)
      have z64 : (Go.bits .and .i64 0 64 = 0) = True := eq_true (by decide +kernel)
      have z128 : (Go.bits .and .i64 0 128 = 0) = True := eq_true (by decide +kernel)
      simp [hp, hq, z1, z2, z4, z8, z16, z32, z64, z128]
    · rw [show flI 6 true = 0 by decide +kernel]
      have z1 : (Go.bits .and .i64 0 1 = 0) = True := eq_true (by decide +kernel)
      have z2 : (Go.bits .and .i64 0 2 = 0) = True := eq_true (by decide +kernel)
      have z4 : (Go.bits .and .i64 0 4 = 0) = True := eq_true (by decide +kernel)
      have z8 : (Go.bits .and .i64 0 8 = 0) = True := eq_true (by decide +kernel)
      have z16 : (Go.bits .and .i64 0 16 = 0) = True := eq_true (by decide +kernel)
      have z32 : (Go.bits .and .i64 0 32 = 0) = True := eq_true (by decide +kernel)
      have z64 : (Go.bits .and .i64 0 64 = 0) = True := eq_true (by decide +kernel)
      have z128 : (Go.bits .and .i64 0 128 = 0) = True := eq_true (by decide +kernel)
      simp [hp, hq, z1, z2, z4, z8, z16, z32, z64, z128]
  · subst h
    cases m3
    · rw [show flI 7 false = 96 by decide +kernel]
      have z1 : (Go.bits .and .i64 96 1 = 0) = True := eq_true (by decide +kernel)
      have z2 : (Go.bits .and .i64 96 2 = 0) = True := eq_true (by decide +kernel)
      have z4 : (Go.bits .and .i64 96 4 = 0) = True := eq_true (by decide +kernel)
      have z8 : (Go.bits .and .i64 96 8 = 0) = True := eq_true (by decide +kernel)
      have z16 : (Go.bits .and .i64 96 16 = 0) = True := eq_true (by decide +kernel)
      have z32 : (Go.bits .and .i64 96 32 = 0) = False := eq_false (by decide +kernel)
      have z64 : (Go.bits .and .i64 96 64 = 0) = False := eq_false (by decide +kernel)
      have z128 : (Go.bits .and .i64 96 128 = 0) = True := eq_true (by decide +kernel)
      simp [hp, hq, z1, z2, z4, z8, z16, z32, z64, z128]
    · rw [show flI 7 true = 96 by decide +kernel]
      have z1 : (Go.bits .and .i64 96 1 = 0) = True := eq_true (by decide +kernel)
      have z2 : (Go.bits .and .i64 96 2 = 0) = True := eq_true (by decide +kernel)
      have z4 : (Go.bits .and .i64 96 4 = 0) = True := eq_true (by decide +kernel)
      have z8 : (Go.bits .and .i64 96 8 = 0) = True := eq_true (by decide +kernel)
      have z16 : (Go.bits .and .i64 96 16 = 0) = True := eq_true (by decide +kernel)
      have z32 : (Go.bits .and .i64 96 32 = 0) = False := eq_false (by decide +kernel)
      have z64 : (Go.bits .and .i64 96 64 = 0) = False := eq_false (by decide +kernel)
      have z128 : (Go.bits .and .i64 96 128 = 0) = True := eq_true (by decide +kernel)
      simp [hp, hq, z1, z2, z4, z8, z16, z32, z64, z128]
  · subst h
    cases m3
    · rw [show flI 8 false = 32 by decide +kernel]
      have z1 : (Go.bits .and .i64 32 1 = 0) = True := eq_true (by decide +kernel)
      have z2 : (Go.bits .and .i64 32 2 = 0) = True := eq_true (by decide +kernel)
      have z4 : (Go.bits .and .i64 32 4 = 0) = True := eq_true (by decide +kernel)
      have z8 : (Go.bits .and .i64 32 8 = 0) = True := eq_true (by decide +kernel)
      have z16 : (Go.bits .and .i64 32 16 = 0) = True := eq_true (by decide +kernel)
      have z32 : (Go.bits .and .i64 32 32 = 0) = False := eq_false (by decide +kernel)
      have z64 : (Go.bits .and .i64 32 64 = 0) = True := eq_true (by decide +kernel)
      have z128 : (Go.bits .and .i64 32 128 = 0) = True := eq_true (by decide +kernel)
      simp [hp, hq, z1, z2, z4, z8, z16, z32, z64, z128]
    · rw [show flI 8 true = 32 by decide +kernel]
      have z1 : (Go.bits .and .i64 32 1 = 0) = True := eq_true (by decide +kernel)
      have z2 : (Go.bits .and .i64 32 2 = 0) = True := eq_true (by decide +kernel)
      have z4 : (Go.bits .and .i64 32 4 = 0) = True := eq_true (by decide +kernel)
      have z8 : (Go.bits .and .i64 32 8 = 0) = True := eq_true (by decide +kernel)
      have z16 : (Go.bits .and .i64 32 16 = 0) = True := eq_true (by decide +kernel)
      have z32 : (Go.bits .and .i64 32 32 = 0) = False := eq_false (by decide +kernel)
      have z64 : (Go.bits .and .i64 32 64 = 0) = True := eq_true (by decide +kernel)
      have z128 : (Go.bits .and .i64 32 128 = 0) = True := eq_true (by decide +kernel)
      simp [hp, hq, z1, z2, z4, z8, z16, z32, z64, z128]
  · subst h
    cases m3
    · rw [show flI 9 false = 2 by decide +kernel]
      have z1 : (Go.bits .and .i64 2 1 = 0) = True := eq_true (by decide +kernel)
      have z2 : (Go.bits .and .i64 2 2 = 0) = False := eq_false (by decide +kernel)
      have z4 : (Go.bits .and .i64 2 4 = 0) = True := eq_true (by decide +kernel)
      have z8 : (Go.bits .and .i64 2 8 = 0) = True := eq_true (by decide +kernel)
      have z16 : (Go.bits .and .i64 2 16 = 0) = True := eq_true (by decide +kernel)
      have z32 : (Go.bits .and .i64 2 32 = 0) = True := eq_true (by decide +kernel)
      have z64 : (Go.bits .and .i64 2 64 = 0) = True := eq_true (by decide +kernel)
      have z128 : (Go.bits .and .i64 2 128 = 0) = True := eq_true (by decide +kernel)
      simp [hp, hq, z1, z2, z4, z8, z16, z32, z64, z128]
    · rw [show flI 9 true = 66 by decide +kernel]
      have z1 : (Go.bits .and .i64 66 1 = 0) = True := eq_true (by decide +kernel)
      have z2 : (Go.bits .and .i64 66 2 = 0) = False := eq_false (by decide +kernel)
      have z4 : (Go.bits .and .i64 66 4 = 0) = True := eq_true (by decide +kernel)
      have z8 : (Go.bits .and .i64 66 8 = 0) = True := eq_true (by decide +kernel)
      have z16 : (Go.bits .and .i64 66 16 = 0) = True := eq_true (by decide +kernel)
      have z32 : (Go.bits .and .i64 66 32 = 0) = True := eq_true (by decide +kernel)
      have z64 : (Go.bits .and .i64 66 64 = 0) = False := eq_false (by decide +kernel)
      have z128 : (Go.bits .and .i64 66 128 = 0) = True := eq_true (by decide +kernel)
      simp [hp, hq, z1, z2, z4, z8, z16, z32, z64, z128]
  · subst h
    cases m3
    · rw [show flI 10 false = 130 by decide +kernel]
      have z1 : (Go.bits .and .i64 130 1 = 0) = True := eq_true (by decide +kernel)
      have z2 : (Go.bits .and .i64 130 2 = 0) = False := eq_false (by decide +kernel)
      have z4 : (Go.bits .and .i64 130 4 = 0) = True := eq_true (by decide +kernel)
      have z8 : (Go.bits .and .i64 130 8 = 0) = True := eq_true (by decide +kernel)
      have z16 : (Go.bits .and .i64 130 16 = 0) = True := eq_true (by decide +kernel)
      have z32 : (Go.bits .and .i64 130 32 = 0) = True := eq_true (by decide +kernel)
      have z64 : (Go.bits .and .i64 130 64 = 0) = True := eq_true (by decide +kernel)
      have z128 : (Go.bits .and .i64 130 128 = 0) = False := eq_false (by decide +kernel)
      simp [hp, hq, z1, z2, z4, z8, z16, z32, z64, z128]
    · rw [show flI 10 true = 130 by decide +kernel]
      have z1 : (Go.bits .and .i64 130 1 = 0) = True := eq_true (by decide +kernel)
      have z2 : (Go.bits .and .i64 130 2 = 0) = False := eq_false (by decide +kernel)
      have z4 : (Go.bits .and .i64 130 4 = 0) = True := eq_true (by decide +kernel)
      have z8 : (Go.bits .and .i64 130 8 = 0) = True := eq_true (by decide +kernel)
      have z16 : (Go.bits .and .i64 130 16 = 0) = True := eq_true (by decide +kernel)
      have z32 : (Go.bits .and .i64 130 32 = 0) = True := eq_true (by decide +kernel)
      have z64 : (Go.bits .and .i64 130 64 = 0) = True := eq_true (by decide +kernel)
      have z128 : (Go.bits .and .i64 130 128 = 0) = False := eq_false (by decide +kernel)
      simp [hp, hq, z1, z2, z4, z8, z16, z32, z64, z128]
  · subst h
    cases m3
    · rw [show flI 11 false = 0 by decide +kernel]
      have z1 : (Go.bits .and .i64 0 1 = 0) = True := eq_true (by decide +kernel)
      have z2 : (Go.bits .and .i64 0 2 = 0) = True := eq_true (by decide +kernel)
      have z4 : (Go.bits .and .i64 0 4 = 0) = True := eq_true (by decide +kernel)
      have z8 : (Go.bits .and .i64 0 8 = 0) = True := eq_true (by decide +kernel)
      have z16 : (Go.bits .and .i64 0 16 = 0) = True := eq_true (by decide +kernel)
      have z32 : (Go.bits .and .i64 0 32 = 0) = True := eq_true (by decide +kernel)
      have z64 : (Go.bits .and .i64 0 64 = 0) = True := eq_true (by decide +kernel)
      have z128 : (Go.bits .and .i64 0 128 = 0) = True := eq_true (by decide +kernel)
      simp [hp, hq, z1, z2, z4, z8, z16, z32, z64, z128]
    · rw [show flI 11 true = 0 by decide +kernel]
      have z1 : (Go.bits .and .i64 0 1 = 0) = True := eq_true (by decide +kernel)
      have z2 : (Go.bits .and .i64 0 2 = 0) = True := eq_true (by decide +kernel)
      have z4 : (Go.bits .and .i64 0 4 = 0) = True := eq_true (by decide +kernel)
      have z8 : (Go.bits .and .i64 0 8 = 0) = True := eq_true (by decide +kernel)
      have z16 : (Go.bits .and .i64 0 16 = 0) = True := eq_true (by decide +kernel)
      have z32 : (Go.bits .and .i64 0 32 = 0) = True := eq_true (by decide +kernel)
      have z64 : (Go.bits .and .i64 0 64 = 0) = True := eq_true (by decide +kernel)
      have z128 : (Go.bits .and .i64 0 128 = 0) = True := eq_true (by decide +kernel)
      simp [hp, hq, z1, z2, z4, z8, z16, z32, z64, z128]
  · subst h
    cases m3
    · rw [show flI 12 false = 1 by decide +kernel]
      have z1 : (Go.bits .and .i64 1 1 = 0) = False := eq_false (by decide +kernel)
      have z2 : (Go.bits .and .i64 1 2 = 0) = True := eq_true (by decide +kernel)
      have z4 : (Go.bits .and .i64 1 4 = 0) = True := eq_true (by decide +kernel)
      have z8 : (Go.bits .and .i64 1 8 = 0) = True := eq_true (by decide +kernel)
      have z16 : (Go.bits .and .i64 1 16 = 0) = True := eq_true (by decide +kernel)
      have z32 : (Go.bits .and .i64 1 32 = 0) = True := eq_true (by decide +kernel)
      have z64 : (Go.bits .and .i64 1 64 = 0) = True := eq_true (by decide +kernel)
      have z128 : (Go.bits .and .i64 1 128 = 0) = True := eq_true (by decide +kernel)
      simp [hp, hq, z1, z2, z4, z8, z16, z32, z64, z128]
    · rw [show flI 12 true = 1 by decide +kernel]
      have z1 : (Go.bits .and .i64 1 1 = 0) = False := eq_false (by decide +kernel)
      have z2 : (Go.bits .and .i64 1 2 = 0) = True := eq_true (by decide +kernel)
      have z4 : (Go.bits .and .i64 1 4 = 0) = True := eq_true (by decide +kernel)
      have z8 : (Go.bits .and .i64 1 8 = 0) = True := eq_true (by decide +kernel)
      have z16 : (Go.bits .and .i64 1 16 = 0) = True := eq_true (by decide +kernel)
      have z32 : (Go.bits .and .i64 1 32 = 0) = True := eq_true (by decide +kernel)
      have z64 : (Go.bits .and .i64 1 64 = 0) = True := eq_true (by decide +kernel)
      have z128 : (Go.bits .and .i64 1 128 = 0) = True := eq_true (by decide +kernel)
      simp [hp, hq, z1, z2, z4, z8, z16, z32, z64, z128]
theorem lk_Peers2 (l l' : List S26) (hl : l.length < 9223372036854775807) : ∃ c, Ev (fun k => api_Peer_42.f k l l') c ∧ Ev (fun k => annuletref08_Peers.f k l l') c := by
  unfold api_Peer_42.f annuletref08_Peers.f
  by_cases he : (l.length : Int) = (l'.length : Int)
  · simp only [if_pos he]
    have loop : ∀ (d i : Nat), i + d = l.length → ∃ c, Ev (fun k => api_Peer_42.l0 k l l' (l.length : Int) (i : Int)) c ∧ Ev (fun k => annuletref08_Peers.l0 k l l' (i : Int)) c := by
      intro d
      induction d with
      | zero =>
        intro i hi
        refine ⟨true, ev_const fun k => ?_, ev_const fun k => ?_⟩
        · rw [api_Peer_42.l0, if_neg (by omega)]
        · rw [annuletref08_Peers.l0, if_neg (by omega)]
      | succ d ih =>
        intro i hi
        obtain ⟨c, h1, h2⟩ := ih (i + 1) (by omega)
        by_cases hd : (!(((rd_T26 l (i : Int)).f0) == ((rd_T26 l' (i : Int)).f0)) || (!(((rd_T26 l (i : Int)).f1) == ((rd_T26 l' (i : Int)).f1)))) = true
        · refine ⟨false, ev_const fun k => ?_, ev_const fun k => ?_⟩
          · rw [api_Peer_42.l0, if_pos (by omega), if_pos (by omega), if_pos (by omega), if_pos (by omega), if_pos hd]
          · rw [annuletref08_Peers.l0, if_pos (by omega), if_pos (by omega), if_pos (by omega), if_pos hd]
        · refine ⟨c, ev_succ ?_, ev_succ ?_⟩
          · simp only [api_Peer_42.l0, if_pos (show (i : Int) < (l.length : Int) by omega), if_pos (show (0 : Int) ≤ (i : Int) by omega), if_pos (show (i : Int) < (l'.length : Int) by omega), if_neg hd]
            rw [w64 (by omega) (by omega)]
            exact h1
          · simp only [annuletref08_Peers.l0, if_pos (show (i : Int) < (l.length : Int) by omega), if_pos (show (0 : Int) ≤ (i : Int) by omega), if_pos (show (i : Int) < (l'.length : Int) by omega), if_neg hd]
            rw [w64 (by omega) (by omega)]
            exact h2
    exact loop l.length 0 (by omega)
  · simp only [if_neg he]
    exact ⟨false, ev_some _, ev_some _⟩
theorem lk_Pairs2 (l l' : List S45) (hl : l.length < 9223372036854775807) : ∃ c, Ev (fun k => api_Pair_43.f k l l') c ∧ Ev (fun k => annuletref08_Pairs.f k l l') c := by
  unfold api_Pair_43.f annuletref08_Pairs.f
  by_cases he : (l.length : Int) = (l'.length : Int)
  · simp only [if_pos he]
    have loop : ∀ (d i : Nat), i + d = l.length → ∃ c, Ev (fun k => api_Pair_43.l0 k l l' (l.length : Int) (i : Int)) c ∧ Ev (fun k => annuletref08_Pairs.l0 k l l' (i : Int)) c := by
      intro d
      induction d with
      | zero =>
        intro i hi
        refine ⟨true, ev_const fun k => ?_, ev_const fun k => ?_⟩
        · rw [api_Pair_43.l0, if_neg (by omega)]
        · rw [annuletref08_Pairs.l0, if_neg (by omega)]
      | succ d ih =>
        intro i hi
        obtain ⟨c, h1, h2⟩ := ih (i + 1) (by omega)
        by_cases hd : (!((((rd_T45 l (i : Int)).f0).toList) == (((rd_T45 l' (i : Int)).f0).toList)) || (!((((rd_T45 l (i : Int)).f1).toList) == (((rd_T45 l' (i : Int)).f1).toList)))) = true
        · refine ⟨false, ev_const fun k => ?_, ev_const fun k => ?_⟩
          · rw [api_Pair_43.l0, if_pos (by omega), if_pos (by omega), if_pos (by omega), if_pos (by omega), if_pos hd]
          · rw [annuletref08_Pairs.l0, if_pos (by omega), if_pos (by omega), if_pos (by omega), if_pos hd]
        · refine ⟨c, ev_succ ?_, ev_succ ?_⟩
          · simp only [api_Pair_43.l0, if_pos (show (i : Int) < (l.length : Int) by omega), if_pos (show (0 : Int) ≤ (i : Int) by omega), if_pos (show (i : Int) < (l'.length : Int) by omega), if_neg hd]
            rw [w64 (by omega) (by omega)]
            exact h1
          · simp only [annuletref08_Pairs.l0, if_pos (show (i : Int) < (l.length : Int) by omega), if_pos (show (0 : Int) ≤ (i : Int) by omega), if_pos (show (i : Int) < (l'.length : Int) by omega), if_neg hd]
            rw [w64 (by omega) (by omega)]
            exact h2
    exact loop l.length 0 (by omega)
  · simp only [if_neg he]
    exact ⟨false, ev_some _, ev_some _⟩
theorem lk_Same2 (m n : MsgT) (hp : m.2.2.2.2.2.2.2.2.2.1.length < 9223372036854775807) (hq : m.2.2.2.2.2.2.2.2.2.2.length < 9223372036854775807) : ∃ c, Ev (fun k => msg_Same.f k m.1 m.2.1 m.2.2.1 m.2.2.2.1 m.2.2.2.2.1 m.2.2.2.2.2.1 m.2.2.2.2.2.2.1 m.2.2.2.2.2.2.2.1 m.2.2.2.2.2.2.2.2.1 m.2.2.2.2.2.2.2.2.2.1 m.2.2.2.2.2.2.2.2.2.2 n.1 n.2.1 n.2.2.1 n.2.2.2.1 n.2.2.2.2.1 n.2.2.2.2.2.1 n.2.2.2.2.2.2.1 n.2.2.2.2.2.2.2.1 n.2.2.2.2.2.2.2.2.1 n.2.2.2.2.2.2.2.2.2.1 n.2.2.2.2.2.2.2.2.2.2) c ∧ Ev (fun k => annuletref08_Same.f k m.1 m.2.1 m.2.2.1 m.2.2.2.1 m.2.2.2.2.1 m.2.2.2.2.2.1 m.2.2.2.2.2.2.1 m.2.2.2.2.2.2.2.1 m.2.2.2.2.2.2.2.2.1 m.2.2.2.2.2.2.2.2.2.1 m.2.2.2.2.2.2.2.2.2.2 n.1 n.2.1 n.2.2.1 n.2.2.2.1 n.2.2.2.2.1 n.2.2.2.2.2.1 n.2.2.2.2.2.2.1 n.2.2.2.2.2.2.2.1 n.2.2.2.2.2.2.2.2.1 n.2.2.2.2.2.2.2.2.2.1 n.2.2.2.2.2.2.2.2.2.2) c := by
  obtain ⟨q1, h1, g1⟩ := lk_Peers2 m.2.2.2.2.2.2.2.2.2.1 n.2.2.2.2.2.2.2.2.2.1 hp
  obtain ⟨q2, h2, g2⟩ := lk_Pairs2 m.2.2.2.2.2.2.2.2.2.2 n.2.2.2.2.2.2.2.2.2.2 hq
  have jt : Ev (fun k => annuletref08_Same.j0 k true m.1 m.2.1 m.2.2.1 m.2.2.2.1 m.2.2.2.2.1 m.2.2.2.2.2.1 m.2.2.2.2.2.2.1 m.2.2.2.2.2.2.2.1 m.2.2.2.2.2.2.2.2.1 m.2.2.2.2.2.2.2.2.2.1 m.2.2.2.2.2.2.2.2.2.2 n.1 n.2.1 n.2.2.1 n.2.2.2.1 n.2.2.2.2.1 n.2.2.2.2.2.1 n.2.2.2.2.2.2.1 n.2.2.2.2.2.2.2.1 n.2.2.2.2.2.2.2.2.1 n.2.2.2.2.2.2.2.2.2.1 n.2.2.2.2.2.2.2.2.2.2) false := ev_const fun k => by rw [annuletref08_Same.j0, if_pos rfl]
  unfold msg_Same.f annuletref08_Same.f
  by_cases c0 : m.1 = n.1
  case neg => simp only [if_neg c0]; exact ⟨false, ev_some _, jt⟩
  simp only [if_pos c0]
  by_cases c1 : m.2.1 = n.2.1
  case neg => simp only [if_neg c1]; exact ⟨false, ev_some _, jt⟩
  simp only [if_pos c1]
  by_cases c2 : m.2.2.1 = n.2.2.1
  case neg => simp only [if_neg c2]; exact ⟨false, ev_some _, jt⟩
  simp only [if_pos c2]
  by_cases c3 : m.2.2.2.1 = n.2.2.2.1
  case neg =>
    have e1 : ¬ (m.2.2.2.1 == n.2.2.2.1) = true := by simpa using c3
    have e2 : (m.2.2.2.1 != n.2.2.2.1) = true := by simpa using c3
    simp only [if_neg e1, if_pos e2]
    exact ⟨false, ev_some _, jt⟩
  have e1 : (m.2.2.2.1 == n.2.2.2.1) = true := by simpa using c3
  have e2 : ¬ (m.2.2.2.1 != n.2.2.2.1) = true := by simpa using c3
  simp only [if_pos e1, if_neg e2]
  by_cases c4 : m.2.2.2.2.1 = n.2.2.2.2.1
  case neg => simp only [if_neg c4]; exact ⟨false, ev_some _, jt⟩
  simp only [if_pos c4]
  by_cases c5 : m.2.2.2.2.2.1.toList = n.2.2.2.2.2.1.toList
  case neg => simp only [if_neg c5]; exact ⟨false, ev_some _, jt⟩
  simp only [if_pos c5]
  by_cases c6 : m.2.2.2.2.2.2.1.toList = n.2.2.2.2.2.2.1.toList
  case neg => simp only [if_neg c6]; exact ⟨false, ev_some _, jt⟩
  simp only [if_pos c6]
  by_cases c7 : m.2.2.2.2.2.2.2.1 = n.2.2.2.2.2.2.2.1 ∧ m.2.2.2.2.2.2.2.2.1 = n.2.2.2.2.2.2.2.2.1
  case neg =>
    have e3 : ¬ (m.2.2.2.2.2.2.2.1 == n.2.2.2.2.2.2.2.1 && (m.2.2.2.2.2.2.2.2.1 == n.2.2.2.2.2.2.2.2.1)) = true := by simpa using c7
    have e4 : (!(m.2.2.2.2.2.2.2.1 == n.2.2.2.2.2.2.2.1) || (!(m.2.2.2.2.2.2.2.2.1 == n.2.2.2.2.2.2.2.2.1))) = true := by
      rw [Bool.or_eq_true]
      by_cases h : m.2.2.2.2.2.2.2.1 = n.2.2.2.2.2.2.2.1
      · right; simp; exact fun h' => c7 ⟨h, h'⟩
      · left; simpa using h
    simp only [if_neg e3, e4]
    exact ⟨false, ev_some _, jt⟩
  have e3 : (m.2.2.2.2.2.2.2.1 == n.2.2.2.2.2.2.2.1 && (m.2.2.2.2.2.2.2.2.1 == n.2.2.2.2.2.2.2.2.1)) = true := by simpa using c7
  have e4 : (!(m.2.2.2.2.2.2.2.1 == n.2.2.2.2.2.2.2.1) || (!(m.2.2.2.2.2.2.2.2.1 == n.2.2.2.2.2.2.2.2.1))) = false := by simp [c7.1, c7.2]
  simp only [if_pos e3, e4]
  cases q1 with
  | false =>
    refine ⟨false, ev_bind h1 (by simp only [Bool.false_eq_true, if_false]; exact ev_some _), ev_succ ?_⟩
    simp only [annuletref08_Same.j0, Bool.false_eq_true, if_false]
    exact ev_bind g1 (by simp only [Bool.false_eq_true, if_false]; exact ev_some _)
  | true =>
    refine ⟨q2, ev_bind h1 (by simp only [if_true]; exact ev_bind h2 (ev_some _)), ev_succ ?_⟩
    simp only [annuletref08_Same.j0, Bool.false_eq_true, if_false]
    exact ev_bind g1 (by simp only [if_true]; exact ev_bind g2 (ev_some _))
def keyB (l : List Int) : Bool := decide (0 < l.length) && (decide (l.length < 97) && (((partsL l).all fun p => decide (wd p ≠ 0)) && decide ((partsL l).length < 33)))
theorem lk_msg_Key {l : List Int} (hb : Bytes l) : msg_Key.f (strOfNums l) = some (keyB l) := by
  unfold msg_Key.f keyB
  simp only [str_nil, strOfNums_size]
  by_cases h0 : l = []
  · rw [if_pos h0, h0]; rfl
  · have hp : 0 < l.length := List.length_pos_iff.2 h0
    rw [if_neg h0, decide_eq_true hp, Bool.true_and]
    by_cases h1 : (l.length : Int) ≤ 96
    · rw [if_pos h1, lk_utf_Valid hb (by omega), lk_utf_Count hb (by omega), decide_eq_true (show l.length < 97 by omega), Bool.true_and]
      simp only [Option.bind_some]
      cases (partsL l).all fun p => decide (wd p ≠ 0) with
      | true =>
        simp only [if_true, Bool.true_and]
        congr 1
        apply decide_eq_decide.2
        omega
      | false => rfl
    · rw [if_neg h1, decide_eq_false (show ¬ l.length < 97 by omega)]
      rfl
theorem lk_ref08_Key {l : List Int} (hb : Bytes l) : Ev (fun k => annuletref08_Key.f k (strOfNums l)) (keyB l) := by
  unfold annuletref08_Key.f keyB
  simp only [strOfNums_size]
  by_cases hp : (l.length : Int) > 0
  · simp only [if_pos hp, decide_eq_true (show 0 < l.length by omega), Bool.true_and]
    by_cases h1 : (l.length : Int) < 97
    · simp only [if_pos h1, decide_eq_true (show l.length < 97 by omega), Bool.true_and]
      refine ev_bind (lk_ref04_Valid hb (by omega)) ?_
      cases (partsL l).all fun p => decide (wd p ≠ 0) with
      | true =>
        simp only [if_true, Bool.true_and]
        refine ev_bind (lk_Parts hb (by omega)) ?_
        simp only [List.length_map]
        refine ev_eq (ev_some _) ?_
        apply decide_eq_decide.2
        omega
      | false => simp only [Bool.false_eq_true, if_false, Bool.false_and]; exact ev_some _
    · simp only [if_neg h1, decide_eq_false (show ¬ l.length < 97 by omega), Bool.false_and]
      exact ev_some _
  · simp only [if_neg hp, decide_eq_false (show ¬ 0 < l.length by omega), Bool.false_and]
    exact ev_some _
def keyS (s : ByteArray) : Bool := keyB (bytesOf s)
theorem lk_keyS (s : ByteArray) : msg_Key.f s = some (keyS s) ∧ Ev (fun k => annuletref08_Key.f k s) (keyS s) := by
  have h1 := lk_msg_Key (bytesOf_bytes s)
  have h2 := lk_ref08_Key (bytesOf_bytes s)
  rw [str_bytesOf] at h1 h2
  exact ⟨h1, h2⟩
theorem idxO_any {α : Type} (f : α → Option Bool) (p : α → Bool) (hf : ∀ x, f x = some (p x)) : ∀ (l : List α) (i : Int), 0 ≤ i → ∃ j, idxO f l i = some j ∧ decide (0 ≤ j) = l.any p
  | [], i, _ => ⟨-1, rfl, rfl⟩
  | x :: l, i, hi => by
    rw [idxO, hf x]
    simp only [Option.bind_some, List.any_cons]
    cases p x with
    | true => exact ⟨i, by rw [if_pos rfl], by simp; exact hi⟩
    | false =>
      obtain ⟨j, h1, h2⟩ := idxO_any f p hf l (i + 1) (by omega)
      exact ⟨j, by rw [if_neg (by simp)]; exact h1, by rw [Bool.false_or]; exact h2⟩
def badK (l : List S45) : Bool := l.any fun x => !keyS x.f0
def longV (l : List S45) : Bool := l.any fun x => decide ((x.f1.size : Int) > 512)
theorem badK_nil : badK [] = false := rfl
theorem longV_nil : longV [] = false := rfl
theorem badK_cons (x : S45) (l : List S45) : badK (x :: l) = (!keyS x.f0 || badK l) := rfl
theorem longV_cons (x : S45) (l : List S45) : longV (x :: l) = (decide ((x.f1.size : Int) > 512) || longV l) := rfl
def textB (m : MsgT) : Bool := (if m.1 = 7 ∨ m.1 = 8 then keyS m.2.2.2.2.2.1 else true) && !badK m.2.2.2.2.2.2.2.2.2.2
def longB (m : MsgT) : Bool := decide ((m.2.2.2.2.2.2.1.size : Int) > 512) || (decide ((m.2.2.2.2.2.2.2.2.2.1.length : Int) > 16) || (decide ((m.2.2.2.2.2.2.2.2.2.2.length : Int) > 8) || longV m.2.2.2.2.2.2.2.2.2.2))
def shortB (m : MsgT) : Bool := if m.1 = 2 then m.2.2.2.2.2.2.2.2.2.1.length == 0 else if m.1 = 10 then m.2.2.2.2.2.2.2.2.2.2.length == 0 else if m.1 = 12 then m.2.2.1 == 0 else false
theorem lk_text (m : MsgT) : msg_text.f m.1 m.2.1 m.2.2.1 m.2.2.2.1 m.2.2.2.2.1 m.2.2.2.2.2.1 m.2.2.2.2.2.2.1 m.2.2.2.2.2.2.2.1 m.2.2.2.2.2.2.2.2.1 m.2.2.2.2.2.2.2.2.2.1 m.2.2.2.2.2.2.2.2.2.2 (flI m.1 m.2.2.2.1) = some (textB m) := by
  obtain ⟨i, hi, he⟩ := idxO_any (fun x : S45 => msg_text_1.f x.f0 x.f1) (fun x => !keyS x.f0) (fun x => by unfold msg_text_1.f; rw [(lk_keyS x.f0).1]; rfl) m.2.2.2.2.2.2.2.2.2.2 0 (by omega)
  unfold msg_text.f api_Pair_46.f textB badK
  rw [(lk_keyS m.2.2.2.2.2.1).1]
  simp only [if_true, hi, Option.bind_some, he]
  have hk : (Go.bits .and .i64 (flI m.1 m.2.2.2.1) 32 = 0) ↔ ¬ (m.1 = 7 ∨ m.1 = 8) := by
    generalize m.2.2.2.1 = h
    generalize m.1 = a
    rcases kA_cases a with ⟨e, e'⟩ | e | e | e | e | e | e | e | e | e | e | e | e
    · have : flI a h = 0 := by unfold flI; rw [e]; cases h <;> decide +kernel
      rw [this]
      constructor
      · intro _; omega
      · intro _; decide +kernel
    all_goals (subst e; cases h <;> decide +kernel)
  by_cases h78 : m.1 = 7 ∨ m.1 = 8
  · rw [if_neg (fun h => (hk.1 h) h78), if_pos h78]
    cases keyS m.2.2.2.2.2.1 <;> simp
  · rw [if_pos (hk.2 h78), if_neg h78]
    simp
theorem lk_long (m : MsgT) : msg_long.f m.1 m.2.1 m.2.2.1 m.2.2.2.1 m.2.2.2.2.1 m.2.2.2.2.2.1 m.2.2.2.2.2.2.1 m.2.2.2.2.2.2.2.1 m.2.2.2.2.2.2.2.2.1 m.2.2.2.2.2.2.2.2.2.1 m.2.2.2.2.2.2.2.2.2.2 = some (longB m) := by
  obtain ⟨i, hi, he⟩ := idxO_any (fun x : S45 => msg_long_1.f x.f0 x.f1) (fun x => decide ((x.f1.size : Int) > 512)) (fun x => rfl) m.2.2.2.2.2.2.2.2.2.2 0 (by omega)
  unfold msg_long.f api_Pair_46.f longB longV
  simp only [if_neg (show ¬ (48 : Nat) = 47 by decide), if_true, hi, Option.bind_some, he]
  by_cases c1 : (m.2.2.2.2.2.2.1.size : Int) > 512
  · rw [if_pos c1, decide_eq_true c1]; rfl
  · rw [if_neg c1, decide_eq_false c1, Bool.false_or]
    by_cases c2 : (m.2.2.2.2.2.2.2.2.2.1.length : Int) > 16
    · rw [if_pos c2, decide_eq_true c2]; rfl
    · rw [if_neg c2, decide_eq_false c2, Bool.false_or]
      by_cases c3 : (m.2.2.2.2.2.2.2.2.2.2.length : Int) > 8
      · rw [if_pos c3, decide_eq_true c3]; rfl
      · rw [if_neg c3, decide_eq_false c3, Bool.false_or]
theorem lk_short (m : MsgT) : msg_short.f m.1 m.2.1 m.2.2.1 m.2.2.2.1 m.2.2.2.2.1 m.2.2.2.2.2.1 m.2.2.2.2.2.2.1 m.2.2.2.2.2.2.2.1 m.2.2.2.2.2.2.2.2.1 m.2.2.2.2.2.2.2.2.2.1 m.2.2.2.2.2.2.2.2.2.2 = some (shortB m) := by
  unfold msg_short.f shortB
  split
  · congr 1; rw [Bool.eq_iff_iff]; simp
  · split
    · congr 1; rw [Bool.eq_iff_iff]; simp
    · split <;> rfl
def rightI (m : MsgT) (c : Bool) : Int := if (kA m.1).f0.toList = ([63] : List UInt8) then 9 else if c = true then (if textB m = true then (if longB m = true then 5 else (if shortB m = true then 2 else 0)) else 7) else 1
theorem lk_Right2 (m : MsgT) (hp : m.2.2.2.2.2.2.2.2.2.1.length < 8796093022208) (hq : m.2.2.2.2.2.2.2.2.2.2.length < 4398046511104) (c : Bool) (hc : Ev (fun k => msg_Same.f k m.1 m.2.1 m.2.2.1 m.2.2.2.1 m.2.2.2.2.1 m.2.2.2.2.2.1 m.2.2.2.2.2.2.1 m.2.2.2.2.2.2.2.1 m.2.2.2.2.2.2.2.2.1 m.2.2.2.2.2.2.2.2.2.1 m.2.2.2.2.2.2.2.2.2.2 (bareOf m).1 (bareOf m).2.1 (bareOf m).2.2.1 (bareOf m).2.2.2.1 (bareOf m).2.2.2.2.1 (bareOf m).2.2.2.2.2.1 (bareOf m).2.2.2.2.2.2.1 (bareOf m).2.2.2.2.2.2.2.1 (bareOf m).2.2.2.2.2.2.2.2.1 (bareOf m).2.2.2.2.2.2.2.2.2.1 (bareOf m).2.2.2.2.2.2.2.2.2.2) c) : Ev (fun k => msg_Right.f k m.1 m.2.1 m.2.2.1 m.2.2.2.1 m.2.2.2.2.1 m.2.2.2.2.2.1 m.2.2.2.2.2.2.1 m.2.2.2.2.2.2.2.1 m.2.2.2.2.2.2.2.2.1 m.2.2.2.2.2.2.2.2.2.1 m.2.2.2.2.2.2.2.2.2.2) (rightI m c) := by
  unfold msg_Right.f rightI
  rw [lk_msg_fields, lk_msg_Name]
  simp only [Option.bind_some, lk_text m, lk_long m, lk_short m]
  by_cases hn : (kA m.1).f0.toList = ([63] : List UInt8)
  · simp only [if_pos hn]; exact ev_some _
  simp only [if_neg hn]
  refine ev_bind (lk_Bare m hp hq) (ev_bind hc ?_)
  cases c <;> cases textB m <;> cases longB m <;> cases shortB m <;> exact ev_some _

theorem lk_ref08_Right_l0 (m : MsgT) (hq : m.2.2.2.2.2.2.2.2.2.2.length < 4398046511104) (d : Nat) : ∀ (i : Nat) (b : Bool), i + d = m.2.2.2.2.2.2.2.2.2.2.length →
    Ev (fun k => annuletref08_Right.l0 k b (i : Int) m.1 m.2.1 m.2.2.1 m.2.2.2.1 m.2.2.2.2.1 m.2.2.2.2.2.1 m.2.2.2.2.2.2.1 m.2.2.2.2.2.2.2.1 m.2.2.2.2.2.2.2.2.1 m.2.2.2.2.2.2.2.2.2.1 m.2.2.2.2.2.2.2.2.2.2) (if badK (m.2.2.2.2.2.2.2.2.2.2.drop i) = true then 7 else if (b || longV (m.2.2.2.2.2.2.2.2.2.2.drop i)) = true then 5 else if shortB m = true then 2 else 0) := by
  induction d with
  | zero =>
    intro i b hi
    rw [List.drop_eq_nil_of_le (by omega)]
    refine ev_const fun k => ?_
    rw [annuletref08_Right.l0, if_neg (by omega)]
    simp only [badK_nil, longV_nil, Bool.or_false, Bool.false_eq_true, if_false]
    unfold shortB
    cases b with
    | true => simp
    | false =>
      simp only [Bool.false_eq_true, if_false]
      by_cases h2 : m.1 = 2
      · simp only [if_pos h2, if_neg (show ¬ m.1 = 10 by omega), if_neg (show ¬ m.1 = 12 by omega)]
        by_cases h : (m.2.2.2.2.2.2.2.2.2.1.length : Int) = 0
        · simp only [if_pos h]
          have : (m.2.2.2.2.2.2.2.2.2.1.length == 0) = true := beq_iff_eq.2 (by omega)
          rw [this]; rfl
        · simp only [if_neg h]
          have : (m.2.2.2.2.2.2.2.2.2.1.length == 0) = false := beq_eq_false_iff_ne.2 (by omega)
          rw [this]; rfl
      · by_cases h10 : m.1 = 10
        · simp only [if_neg h2, if_pos h10, if_neg (show ¬ m.1 = 12 by omega)]
          by_cases h : (m.2.2.2.2.2.2.2.2.2.2.length : Int) = 0
          · simp only [if_pos h]
            have : (m.2.2.2.2.2.2.2.2.2.2.length == 0) = true := beq_iff_eq.2 (by omega)
            rw [this]; rfl
          · simp only [if_neg h]
            have : (m.2.2.2.2.2.2.2.2.2.2.length == 0) = false := beq_eq_false_iff_ne.2 (by omega)
            rw [this]; rfl
        · by_cases h12 : m.1 = 12
          · simp only [if_neg h2, if_neg h10, if_pos h12]
            by_cases h : m.2.2.1 = 0
            · simp only [if_pos h]
              have : (m.2.2.1 == 0) = true := by simp [h]
              rw [this]; rfl
            · simp only [if_neg h]
              have : (m.2.2.1 == 0) = false := by simp [h]
              rw [this]; rfl
          · simp only [if_neg h2, if_neg h10, if_neg h12]; rfl
  | succ d ih =>
    intro i b hi
    have hd : m.2.2.2.2.2.2.2.2.2.2.drop i = rd_T45 m.2.2.2.2.2.2.2.2.2.2 (i : Int) :: m.2.2.2.2.2.2.2.2.2.2.drop (i + 1) := by
      rw [List.drop_eq_getElem_cons (by omega)]
      unfold rd_T45
      simp [List.getD, show i < m.2.2.2.2.2.2.2.2.2.2.length by omega]
    refine ev_succ ?_
    simp only [annuletref08_Right.l0, if_pos (show (i : Int) < (m.2.2.2.2.2.2.2.2.2.2.length : Int) by omega), if_pos (show (0 : Int) ≤ (i : Int) by omega)]
    refine ev_bind (lk_keyS (rd_T45 m.2.2.2.2.2.2.2.2.2.2 (i : Int)).f0).2 ?_
    rw [hd]
    simp only [badK_cons, longV_cons]
    rw [w64 (by omega) (by omega)]
    by_cases hk : keyS (rd_T45 m.2.2.2.2.2.2.2.2.2.2 (i : Int)).f0 = true
    case neg =>
      have hk' : keyS (rd_T45 m.2.2.2.2.2.2.2.2.2.2 (i : Int)).f0 = false := by simpa using hk
      simp only [hk', Bool.false_eq_true, if_false, Bool.not_false, Bool.true_or, if_true]
      exact ev_some _
    case pos =>
      simp only [hk, if_true, Bool.not_true, Bool.false_or]
      by_cases hv : ((rd_T45 m.2.2.2.2.2.2.2.2.2.2 (i : Int)).f1.size : Int) > 512
      · simp only [if_pos hv, decide_eq_true hv]
        have := ih (i + 1) true (by omega)
        simpa using this
      · simp only [if_neg hv, decide_eq_false hv, Bool.false_or]
        exact ih (i + 1) b (by omega)
theorem lk_ref08_Right (m : MsgT) (hp : m.2.2.2.2.2.2.2.2.2.1.length < 8796093022208) (hq : m.2.2.2.2.2.2.2.2.2.2.length < 4398046511104) (c : Bool) (hc : Ev (fun k => annuletref08_Same.f k m.1 m.2.1 m.2.2.1 m.2.2.2.1 m.2.2.2.2.1 m.2.2.2.2.2.1 m.2.2.2.2.2.2.1 m.2.2.2.2.2.2.2.1 m.2.2.2.2.2.2.2.2.1 m.2.2.2.2.2.2.2.2.2.1 m.2.2.2.2.2.2.2.2.2.2 (bareOf m).1 (bareOf m).2.1 (bareOf m).2.2.1 (bareOf m).2.2.2.1 (bareOf m).2.2.2.2.1 (bareOf m).2.2.2.2.2.1 (bareOf m).2.2.2.2.2.2.1 (bareOf m).2.2.2.2.2.2.2.1 (bareOf m).2.2.2.2.2.2.2.2.1 (bareOf m).2.2.2.2.2.2.2.2.2.1 (bareOf m).2.2.2.2.2.2.2.2.2.2) c) : Ev (fun k => annuletref08_Right.f k m.1 m.2.1 m.2.2.1 m.2.2.2.1 m.2.2.2.2.1 m.2.2.2.2.2.1 m.2.2.2.2.2.2.1 m.2.2.2.2.2.2.2.1 m.2.2.2.2.2.2.2.2.1 m.2.2.2.2.2.2.2.2.2.1 m.2.2.2.2.2.2.2.2.2.2) (rightI m c) := by
  unfold annuletref08_Right.f
  rw [lk_ref08_Name, lk_ref08_Bare m hp hq]
  simp only [Option.bind_some]
  unfold rightI
  by_cases hn : (kA m.1).f0.toList = ([63] : List UInt8)
  · simp only [if_pos hn]; exact ev_some _
  simp only [if_neg hn]
  refine ev_bind hc ?_
  cases c with
  | false => simp only [Bool.false_eq_true, if_false]; exact ev_some _
  | true =>
    simp only [if_true]
    have l0 : ∀ b : Bool, Ev (fun k => annuletref08_Right.l0 k b 0 m.1 m.2.1 m.2.2.1 m.2.2.2.1 m.2.2.2.2.1 m.2.2.2.2.2.1 m.2.2.2.2.2.2.1 m.2.2.2.2.2.2.2.1 m.2.2.2.2.2.2.2.2.1 m.2.2.2.2.2.2.2.2.2.1 m.2.2.2.2.2.2.2.2.2.2) (if badK m.2.2.2.2.2.2.2.2.2.2 = true then 7 else if (b || longV m.2.2.2.2.2.2.2.2.2.2) = true then 5 else if shortB m = true then 2 else 0) := fun b => lk_ref08_Right_l0 m hq _ 0 b (Nat.zero_add _)
    have j1 : ∀ b : Bool, Ev (fun k => annuletref08_Right.j1 k b m.1 m.2.1 m.2.2.1 m.2.2.2.1 m.2.2.2.2.1 m.2.2.2.2.2.1 m.2.2.2.2.2.2.1 m.2.2.2.2.2.2.2.1 m.2.2.2.2.2.2.2.2.1 m.2.2.2.2.2.2.2.2.2.1 m.2.2.2.2.2.2.2.2.2.2) (if badK m.2.2.2.2.2.2.2.2.2.2 = true then 7 else if (b || longV m.2.2.2.2.2.2.2.2.2.2) = true then 5 else if shortB m = true then 2 else 0) := fun b => ev_succ (by simp only [annuletref08_Right.j1]; exact l0 b)
    have j0f : Ev (fun k => annuletref08_Right.j0 k false m.1 m.2.1 m.2.2.1 m.2.2.2.1 m.2.2.2.2.1 m.2.2.2.2.2.1 m.2.2.2.2.2.2.1 m.2.2.2.2.2.2.2.1 m.2.2.2.2.2.2.2.2.1 m.2.2.2.2.2.2.2.2.2.1 m.2.2.2.2.2.2.2.2.2.2) (if badK m.2.2.2.2.2.2.2.2.2.2 = true then 7 else if longB m = true then 5 else if shortB m = true then 2 else 0) := by
      refine ev_succ ?_
      simp only [annuletref08_Right.j0, Bool.false_eq_true, if_false]
      unfold longB
      by_cases c1 : (m.2.2.2.2.2.2.1.size : Int) > 512
      · simp only [if_pos c1, decide_eq_true c1]; exact j1 true
      · simp only [if_neg c1, decide_eq_false c1, Bool.false_or]
        by_cases c2 : (m.2.2.2.2.2.2.2.2.2.1.length : Int) > 16
        · simp only [if_pos c2, decide_eq_true c2]; exact j1 true
        · simp only [if_neg c2, decide_eq_false c2, Bool.false_or]
          exact j1 _
    have j0t : Ev (fun k => annuletref08_Right.j0 k true m.1 m.2.1 m.2.2.1 m.2.2.2.1 m.2.2.2.2.1 m.2.2.2.2.2.1 m.2.2.2.2.2.2.1 m.2.2.2.2.2.2.2.1 m.2.2.2.2.2.2.2.2.1 m.2.2.2.2.2.2.2.2.2.1 m.2.2.2.2.2.2.2.2.2.2) 7 := ev_const fun k => by rw [annuletref08_Right.j0, if_pos rfl]
    have key : ∀ b : Bool, b = keyS m.2.2.2.2.2.1 → (m.1 = 7 ∨ m.1 = 8) → Ev (fun k => annuletref08_Right.j0 k (!b) m.1 m.2.1 m.2.2.1 m.2.2.2.1 m.2.2.2.2.1 m.2.2.2.2.2.1 m.2.2.2.2.2.2.1 m.2.2.2.2.2.2.2.1 m.2.2.2.2.2.2.2.2.1 m.2.2.2.2.2.2.2.2.2.1 m.2.2.2.2.2.2.2.2.2.2) (if textB m = true then (if longB m = true then 5 else (if shortB m = true then 2 else 0)) else 7) := by
      intro b hb h78
      unfold textB
      rw [if_pos h78, ← hb]
      cases b with
      | false => simp only [Bool.not_false, Bool.false_and, Bool.false_eq_true, if_false]; exact j0t
      | true =>
        simp only [Bool.not_true, Bool.true_and]
        refine ev_eq j0f ?_
        cases badK m.2.2.2.2.2.2.2.2.2.2 <;> rfl
    by_cases h7 : m.1 = 7
    · simp only [if_pos h7]
      exact ev_bind (lk_keyS m.2.2.2.2.2.1).2 (key _ rfl (Or.inl h7))
    · simp only [if_neg h7]
      by_cases h8 : m.1 = 8
      · simp only [if_pos h8]
        exact ev_bind (lk_keyS m.2.2.2.2.2.1).2 (key _ rfl (Or.inr h8))
      · simp only [if_neg h8]
        refine ev_eq j0f ?_
        unfold textB
        rw [if_neg (show ¬ (m.1 = 7 ∨ m.1 = 8) by omega), Bool.true_and]
        cases badK m.2.2.2.2.2.2.2.2.2.2 <;> rfl
theorem lk_awake08 : Ev (fun k => annuletlaw08_awake.f k) true := Ev.of annuletlaw08_awake.mono (k := 60) (by decide +kernel)
theorem MsgRight_law : annuletlaw08_MsgRight.Pure := by
  intro a0 a1 a2 a3 a4 a5 a6 a7 a8 l9 l10 s w0 w1 w2 w4 w5 w6 w7 w8 w9 w10 w11
  refine Ev.rounds (g := fun k => annuletlaw08_MsgRight.f k a0 a1 a2 a3 a4 a5 a6 a7 a8 l9 l10 s) ?_
  unfold annuletlaw08_MsgRight.f
  obtain ⟨b, hb, hl⟩ := lk_Large a0 a1 a2 a3 a4 a5 a6 a7 a8 l9 l10
  have jt : Ev (fun k => annuletlaw08_MsgRight.j0 k s true a0 a1 a2 a3 a4 a5 a6 a7 a8 l9 l10) true := ev_succ (by simp only [annuletlaw08_MsgRight.j0, if_true]; exact ev_bind lk_awake08 (ev_some _))
  refine ev_bind hb ?_
  cases b with
  | true => simp only [if_true]; exact jt
  | false =>
    simp only [Bool.false_eq_true, if_false]
    by_cases hs : (s.size : Int) > 300
    · simp only [decide_eq_true hs]; exact jt
    simp only [decide_eq_false hs]
    have hl := hl rfl
    obtain ⟨m, hm⟩ : ∃ m : MsgT, m = (a0, a1, a2, a3, a4, a5, a6, a7, a8, l9, l10) := ⟨_, rfl⟩
    have hp : m.2.2.2.2.2.2.2.2.2.1.length ≤ 40 := by rw [hm]; exact hl.1
    have hq : m.2.2.2.2.2.2.2.2.2.2.length ≤ 20 := by rw [hm]; exact hl.2
    obtain ⟨c, hc1, hc2⟩ := lk_Same2 m (bareOf m) (by omega) (by omega)
    have hR := lk_Right2 m (by omega) (by omega) c hc1
    have hR2 := lk_ref08_Right m (by omega) (by omega) c hc2
    rw [hm] at hR hR2
    refine ev_succ ?_
    simp only [annuletlaw08_MsgRight.j0, Bool.false_eq_true, if_false]
    refine ev_bind hR (ev_bind hR2 ?_)
    have hK := lk_keyS s
    rw [hK.1]
    simp only [if_true, Option.bind_some]
    refine ev_bind hK.2 ?_
    cases keyS s with
    | true => simp only [if_true]; exact ev_bind lk_awake08 (ev_some _)
    | false => simp only [Bool.false_eq_true, if_false]; exact ev_bind lk_awake08 (ev_some _)
end Go.Proofs.YtddnfbcfogpkgaaDoor.PMsgRight
namespace Go.Proofs.YtddnfbcfogpkgaaDoor.Pure
open Go.Proofs.YtddnfbcfogpkgaaDoor.PMsgRight
theorem MsgRight : annuletlaw08_MsgRight.Pure := MsgRight_law
end Go.Proofs.YtddnfbcfogpkgaaDoor.Pure
