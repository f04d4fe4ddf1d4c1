/- UtfQuotes: any text as a word, and the text that any word is, or that it is none, are the document's. No condition. -/
import Derived.Test.YtffhcongfbnbiaaDoorPUtfQuotesx5
import Derived.Test.YtffhcongfbnbiaaDoorMath
set_option linter.unusedVariables false
set_option linter.unusedSimpArgs false
namespace Go.Proofs.YtffhcongfbnbiaaDoor.PUtfQuotes
open Go.RowKit Go.Proofs.YtffhcongfbnbiaaDoorW.PrintWords Go.Proofs.YtffhcongfbnbiaaDoorW.PrintLast Go.Proofs.YtffhcongfbnbiaaDoorW.PrintMore Annulet
theorem lk_utf_Valid {l : List Int} (hb : Bytes l) (hl : l.length ≤ 140737488355328) : utf_Valid.f (strOfNums l) = some ((partsL l).all fun p => decide (wd p ≠ 0)) := by
  unfold utf_Valid.f
  rw [strOfNums_size, if_pos hl, valid_str hb _ 0 (by omega), List.drop_zero]
theorem lk_utf_Count {l : List Int} (hb : Bytes l) (hl : l.length ≤ 140737488355328) : utf_Count.f (strOfNums l) = some ((partsL l).length : Int) := by
  unfold utf_Count.f
  rw [strOfNums_size, if_pos hl, count_str hb _ 0 (by omega), List.drop_zero]
theorem lk_utf_Clip {l : List Int} (hb : Bytes l) (hl : l.length ≤ 140737488355328) (n : Int) (h0 : -9223372036854775808 ≤ n) (h1 : n ≤ 9223372036854775807) : utf_Clip.f (strOfNums l) n = some (strOfNums (clipL l n.toNat)) := by
  unfold utf_Clip.f
  rw [strOfNums_size, if_pos hl, if_pos h0, if_pos h1, clip_str hb _ 0 n (by omega) (by omega), List.drop_zero, List.take_zero, List.nil_append]
theorem lk_utf_Quote {l : List Int} (hb : Bytes l) (hl : l.length ≤ 35184372088832) : utf_Quote.f (strOfNums l) = some (strOfNums (quoteF l)) := by
  unfold utf_Quote.f
  rw [strOfNums_size]
  by_cases h : l = []
  · subst h; rfl
  · have := len_pos h
    rw [if_neg (by omega), if_pos hl, quote_str hb _ 0 (by omega), List.drop_zero]
    unfold quoteF strOfNums
    rw [if_neg h]
theorem utf_index : ∀ c : Fin 256, Lib.indexByte (⟨#[48, 49, 50, 51, 52, 53, 54, 55, 56, 57, 97, 98, 99, 100, 101, 102]⟩ : ByteArray).data.toList ((c.val : Nat) : Int).toNat.toUInt8 = if hx4 (c.val : Int) < 16 then hx4 (c.val : Int) else -1 := by decide +kernel
theorem lk_digits_index {c : Int} (h : Byte c) : strings_IndexByte.f (⟨#[48, 49, 50, 51, 52, 53, 54, 55, 56, 57, 97, 98, 99, 100, 101, 102]⟩ : ByteArray) c = some (if hx4 c < 16 then hx4 c else -1) := by
  unfold Byte at h
  have := utf_index ⟨c.toNat, by omega⟩
  rw [show ((⟨c.toNat, by omega⟩ : Fin 256).val : Int) = c by simp; omega] at this
  unfold strings_IndexByte.f
  rw [this]
theorem lk_digits_short {m : List Int} (h : m.length < 2) : utf_digits.f (strOfNums m) = some (0, false) := by
  unfold utf_digits.f
  rw [strOfNums_size, if_pos (by omega)]
theorem lk_digits {a b : Int} {t : List Int} (hb : Bytes (a :: b :: t)) : ∃ v, utf_digits.f (strOfNums (a :: b :: t)) = some (v, decide (hx4 a < 16 ∧ hx4 b < 16)) ∧ (hx4 a < 16 → hx4 b < 16 → v = 16 * hx4 a + hx4 b) := by
  have ha := hb a (by simp)
  have hbb := hb b (by simp)
  have r1 := hx4_range a
  have r2 := hx4_range b
  unfold utf_digits.f
  rw [strOfNums_size, bt_str hb, bt_str hb]
  have e0 : rd (a :: b :: t) 0 = a := rfl
  have e1 : rd (a :: b :: t) 1 = b := rfl
  rw [e0, e1, lk_digits_index ha, lk_digits_index hbb]
  simp only [List.length_cons, Option.bind_some]
  rw [if_neg (by omega), if_pos (by omega), if_pos (by omega)]
  by_cases p : hx4 a < 16
  · rw [if_pos p]
    by_cases q : hx4 b < 16
    · rw [if_pos q, if_pos (by omega), decide_eq_true (by omega : hx4 b ≥ 0), decide_eq_true ⟨p, q⟩]
      refine ⟨_, rfl, fun _ _ => ?_⟩
      rw [w64 (by omega) (by omega)]
      have hj := bits_join .i64 63 (by decide) (fun n h0 h1 => by unfold IntKind.wrap IntKind.bits IntKind.signed; simp; omega) 4 (hx4 a * 16) (hx4 b) (by omega) (by omega) (by omega) (by omega) (by omega) (by omega)
      rw [hj]
      omega
    · rw [if_neg q, if_pos (by omega), decide_eq_false (show ¬ (-1 : Int) ≥ 0 by omega), decide_eq_false (fun h : hx4 a < 16 ∧ hx4 b < 16 => q h.2)]
      exact ⟨_, rfl, fun _ h => absurd h q⟩
  · rw [if_neg p, if_neg (by omega), decide_eq_false (fun h => p h.1)]
    exact ⟨_, rfl, fun h => absurd h p⟩
def unqFin (w x : List Int) : Option (List Int) → ByteArray × Int
  | none => (⟨#[]⟩, 3)
  | some s => if x ++ s = [] then (⟨#[]⟩, 3) else if quoteF (x ++ s) = w then (strOfNums (x ++ s), 0) else (⟨#[]⟩, 3)
theorem unqFin_cons (w x : List Int) (c : Int) (o : Option (List Int)) : unqFin w x (o.map (c :: ·)) = unqFin w (x ++ [c]) o := by
  cases o <;> simp [unqFin]
theorem lk_Unquote_l0 {w : List Int} (hb : Bytes w) (hl : w.length ≤ 1000000000) (d : Nat) : ∀ (i : Nat) (x : List Int), i ≤ w.length → w.length - i ≤ d → Bytes x → x.length ≤ i →
    Ev (fun k => utf_Unquote.l0 k (strOfNums w) x (i : Int)) (unqFin w x (unqL (w.drop i))) := by
  induction d with
  | zero =>
    intro i x hi hd hx hxl
    obtain rfl : i = w.length := by omega
    rw [List.drop_eq_nil_of_le (Nat.le_refl _)]
    refine ev_succ ?_
    simp only [utf_Unquote.l0, strOfNums_size]
    simp only [if_neg (show ¬ (w.length : Int) < (w.length : Int) by omega), str_nil]
    simp only [unqL, unqFin, List.append_nil]
    by_cases e : x = []
    · simp only [if_pos e]; exact ev_some _
    · simp only [if_neg e]
      simp only [lk_utf_Quote hx (by omega), Option.bind_some, str_eq (quoteF_isBytes hx) hb]
      by_cases q : quoteF x = w
      · simp only [if_pos q]; exact ev_some _
      · simp only [if_neg q]; exact ev_some _
  | succ d ih =>
    intro i x hi hd hx hxl
    by_cases hlt : i < w.length
    · refine ev_succ ?_
      simp only [utf_Unquote.l0, strOfNums_size, bt_str hb]
      simp only [if_pos (show (i : Int) < (w.length : Int) by omega), if_pos (show (0 : Int) ≤ (i : Int) by omega)]
      rw [w64 (n := (i : Int) + 1) (by omega) (by omega), w64 (n := (i : Int) + 2) (by omega) (by omega), w64 (n := (i : Int) + 2 + 1) (by omega) (by omega)]
      rw [drop_rd w i hlt]
      have hbyte := rd_byte hb (i : Int)
      by_cases hc : rd w (i : Int) = 37
      · simp only [if_pos hc, if_pos (show (0 : Int) ≤ (i : Int) + 1 by omega), if_pos (show (i : Int) + 1 ≤ (w.length : Int) by omega)]
        rw [show ((i : Int) + 1).toNat = i + 1 by omega, str_extract, List.take_of_length_le (Nat.le_refl _), hc]
        rcases hm : w.drop (i + 1) with _ | ⟨a, _ | ⟨b, t⟩⟩
        · rw [lk_digits_short (by simp)]
          simp only [Option.bind_some, Bool.false_eq_true, if_false, unqL, if_true, unqFin]
          exact ev_some _
        · rw [lk_digits_short (by simp)]
          simp only [Option.bind_some, Bool.false_eq_true, if_false, unqL, if_true, unqFin]
          exact ev_some _
        · have hbm : Bytes (a :: b :: t) := by rw [← hm]; exact bytes_drop hb _
          have hlen : i + 3 ≤ w.length := by have := congrArg List.length hm; rw [List.length_drop] at this; simp at this; omega
          obtain ⟨v, hv, hv2⟩ := lk_digits hbm
          rw [hv]
          simp only [Option.bind_some]
          by_cases ok : hx4 a < 16 ∧ hx4 b < 16
          · rw [decide_eq_true ok, unqL_esc ok.1 ok.2, hv2 ok.1 ok.2, unqFin_cons]
            simp only [if_true, if_pos (show x.length < 140737488355328 by omega)]
            have r1 := hx4_range a
            have r2 := hx4_range b
            have := ih (i + 3) (x ++ [16 * hx4 a + hx4 b]) (by omega) (by omega) (bytes_append hx (fun y hy => by rw [List.mem_singleton.1 hy]; unfold Byte; omega)) (by simp; omega)
            have hd3 : w.drop (i + 3) = t := by
              have h2 := congrArg (List.drop 2) hm
              rw [List.drop_drop] at h2
              simpa using h2
            rw [hd3, show ((i + 3 : Nat) : Int) = (i : Int) + 2 + 1 by omega] at this
            exact this
          · rw [decide_eq_false ok]
            simp only [Bool.false_eq_true, if_false, unqL, if_true, if_neg ok, unqFin]
            exact ev_some _
      · simp only [if_neg hc, if_pos (show x.length < 140737488355328 by omega)]
        rw [unqL_bare hc, unqFin_cons]
        exact ih (i + 1) (x ++ [rd w (i : Int)]) (by omega) (by omega) (bytes_append hx (fun y hy => by rw [List.mem_singleton.1 hy]; exact hbyte)) (by simp; omega)
    · obtain rfl : i = w.length := by omega
      exact ih w.length x (by omega) (by omega) hx hxl
def txtR (p : List Int × Int) : ByteArray × Int := (strOfNums p.1, p.2)
theorem lk_utf_Unquote {w : List Int} (hb : Bytes w) (hl : w.length ≤ 1000000000) : Ev (fun k => utf_Unquote.f k (strOfNums w)) (txtR (unqR w)) := by
  unfold utf_Unquote.f unqR
  have e37 : ((strOfNums w).toList = ([37] : List UInt8)) = (w = [37]) := by
    have := str_eq hb (b := [37]) (fun x hx => by rw [List.mem_singleton.1 hx]; unfold Byte; omega)
    rw [← this, show (strOfNums [37]).toList = ([37] : List UInt8) by rw [str_toList]; rfl]
  by_cases h : w = [37]
  · simp only [e37, if_pos h]; exact ev_some _
  · simp only [e37, if_neg h]
    have := lk_Unquote_l0 hb hl w.length 0 [] (by omega) (by omega) bytes_nil (by simp)
    rw [List.drop_zero] at this
    refine ev_eq this ?_
    cases unqL w with
    | none => rfl
    | some s =>
      unfold unqFin txtR
      simp only [List.nil_append]
      by_cases e1 : s = []
      · rw [if_pos e1]
        simp only [e1, ne_eq, not_true_eq_false, false_and, if_false]
        rfl
      · rw [if_neg e1]
        by_cases e2 : quoteF s = w
        · rw [if_pos e2]; simp only [ne_eq, e1, not_false_eq_true, e2, and_self, if_true]
        · rw [if_neg e2]; simp only [ne_eq, e1, not_false_eq_true, e2, and_false, if_false]; rfl
theorem lk_tail (c : Int) : annuletref04_tail.f c = some (decide (TL c)) := by
  unfold annuletref04_tail.f
  by_cases h : c ≥ 128
  · rw [if_pos h]
    by_cases h2 : c ≤ 191
    · rw [decide_eq_true h2, decide_eq_true (show TL c from ⟨h, h2⟩)]
    · rw [decide_eq_false h2, decide_eq_false (show ¬ TL c from fun t => h2 t.2)]
  · rw [if_neg h, decide_eq_false (show ¬ TL c from fun t => h t.1)]
theorem lk_Width_j2 {l : List Int} (hb : Bytes l) (hl : l.length ≤ 1000000000000) (p : Nat) (c : Int) (x : Bool) (hx : x = true → p + 1 < l.length) :
    Ev (fun k => annuletref04_Width.j2 k (strOfNums l) (p : Int) c x) (if x = true then (if (c = 240 ∧ rd l ((p + 1 : Nat) : Int) < 144) ∨ (c = 244 ∧ 143 < rd l ((p + 1 : Nat) : Int)) then 0 else 4) else 0) := by
  refine ev_succ ?_
  simp only [annuletref04_Width.j2, strOfNums_size]
  by_cases h : x = true
  · have hp := hx h
    rw [w64 (n := (p : Int) + 1) (by omega) (by omega), bt_str hb, show (p : Int) + 1 = ((p + 1 : Nat) : Int) by omega]
    generalize rd l ((p + 1 : Nat) : Int) = b
    simp only [if_pos h, if_pos (show (0 : Int) ≤ ((p + 1 : Nat) : Int) by omega), if_pos (show ((p + 1 : Nat) : Int) < (l.length : Int) by omega)]
    by_cases c1 : c = 240
    · simp only [if_pos c1]
      by_cases c2 : b < 144
      · simp only [if_pos c2, if_pos (show (c = 240 ∧ b < 144) ∨ (c = 244 ∧ 143 < b) by omega)]; exact ev_some _
      · simp only [if_neg c2, if_neg (show ¬ c = 244 by omega), if_neg (show ¬ ((c = 240 ∧ b < 144) ∨ (c = 244 ∧ 143 < b)) by omega)]; exact ev_some _
    · simp only [if_neg c1]
      by_cases c3 : c = 244
      · simp only [if_pos c3]
        by_cases c4 : b > 143
        · simp only [if_pos c4, if_pos (show (c = 240 ∧ b < 144) ∨ (c = 244 ∧ 143 < b) by omega)]; exact ev_some _
        · simp only [if_neg c4, if_neg (show ¬ ((c = 240 ∧ b < 144) ∨ (c = 244 ∧ 143 < b)) by omega)]; exact ev_some _
      · simp only [if_neg c3, if_neg (show ¬ ((c = 240 ∧ b < 144) ∨ (c = 244 ∧ 143 < b)) by omega)]; exact ev_some _
  · simp only [if_neg h]; exact ev_some _
theorem lk_Width_j1 {l : List Int} (hb : Bytes l) (hl : l.length ≤ 1000000000000) (p : Nat) (hp : p < l.length) (c : Int) (x : Bool) (hx : x = true → p + 1 < l.length) :
    Ev (fun k => annuletref04_Width.j1 k (strOfNums l) (p : Int) c ((l.length : Int) - (p : Int)) x) (if x = true then (if (c = 224 ∧ rd l ((p + 1 : Nat) : Int) < 160) ∨ (c = 237 ∧ 159 < rd l ((p + 1 : Nat) : Int)) then 0 else 3) else (if 240 ≤ c ∧ c ≤ 244 ∧ (3 : Int) < (l.length : Int) - (p : Int) ∧ TL (rd l ((p + 1 : Nat) : Int)) ∧ TL (rd l ((p + 2 : Nat) : Int)) ∧ TL (rd l ((p + 3 : Nat) : Int)) then (if (c = 240 ∧ rd l ((p + 1 : Nat) : Int) < 144) ∨ (c = 244 ∧ 143 < rd l ((p + 1 : Nat) : Int)) then 0 else 4) else 0)) := by
  refine ev_succ ?_
  simp only [annuletref04_Width.j1, strOfNums_size]
  rw [w64 (n := (p : Int) + 1) (by omega) (by omega), w64 (n := (p : Int) + 2) (by omega) (by omega), w64 (n := (p : Int) + 3) (by omega) (by omega)]
  simp only [bt_str hb]
  rw [show (p : Int) + 1 = ((p + 1 : Nat) : Int) by omega, show (p : Int) + 2 = ((p + 2 : Nat) : Int) by omega, show (p : Int) + 3 = ((p + 3 : Nat) : Int) by omega]
  have j2 := fun x hx => lk_Width_j2 hb hl p c x hx
  generalize rd l ((p + 1 : Nat) : Int) = b1 at *
  generalize rd l ((p + 2 : Nat) : Int) = b2 at *
  generalize rd l ((p + 3 : Nat) : Int) = b3 at *
  by_cases h : x = true
  · have hp1 := hx h
    simp only [if_pos h, if_pos (show (0 : Int) ≤ ((p + 1 : Nat) : Int) by omega), if_pos (show ((p + 1 : Nat) : Int) < (l.length : Int) by omega)]
    by_cases c1 : c = 224
    · simp only [if_pos c1]
      by_cases c2 : b1 < 160
      · simp only [if_pos c2, if_pos (show (c = 224 ∧ b1 < 160) ∨ (c = 237 ∧ 159 < b1) by omega)]; exact ev_some _
      · simp only [if_neg c2, if_neg (show ¬ c = 237 by omega), if_neg (show ¬ ((c = 224 ∧ b1 < 160) ∨ (c = 237 ∧ 159 < b1)) by omega)]; exact ev_some _
    · simp only [if_neg c1]
      by_cases c3 : c = 237
      · simp only [if_pos c3]
        by_cases c4 : b1 > 159
        · simp only [if_pos c4, if_pos (show (c = 224 ∧ b1 < 160) ∨ (c = 237 ∧ 159 < b1) by omega)]; exact ev_some _
        · simp only [if_neg c4, if_neg (show ¬ ((c = 224 ∧ b1 < 160) ∨ (c = 237 ∧ 159 < b1)) by omega)]; exact ev_some _
      · simp only [if_neg c3, if_neg (show ¬ ((c = 224 ∧ b1 < 160) ∨ (c = 237 ∧ 159 < b1)) by omega)]; exact ev_some _
  · simp only [if_neg h, lk_tail, Option.bind_some]
    have no : ∀ P : Prop, ¬ P → ∀ [Decidable P], Ev (fun k => annuletref04_Width.j2 k (strOfNums l) (p : Int) c false) (if P then (if (c = 240 ∧ b1 < 144) ∨ (c = 244 ∧ 143 < b1) then (0 : Int) else 4) else 0) := by
      intro P hP _
      have := j2 false (fun h => by cases h)
      simp only [Bool.false_eq_true, if_false] at this
      rw [if_neg hP]
      exact this
    by_cases c1 : c ≥ 240
    · simp only [if_pos c1]
      by_cases c2 : c ≤ 244
      · simp only [if_pos c2]
        by_cases c3 : (l.length : Int) - (p : Int) > 3
        · simp only [if_pos c3, if_pos (show (0 : Int) ≤ ((p + 1 : Nat) : Int) by omega), if_pos (show ((p + 1 : Nat) : Int) < (l.length : Int) by omega), if_pos (show (0 : Int) ≤ ((p + 2 : Nat) : Int) by omega), if_pos (show ((p + 2 : Nat) : Int) < (l.length : Int) by omega), if_pos (show (0 : Int) ≤ ((p + 3 : Nat) : Int) by omega), if_pos (show ((p + 3 : Nat) : Int) < (l.length : Int) by omega)]
          by_cases t1 : TL b1
          · simp only [decide_eq_true t1, if_true]
            by_cases t2 : TL b2
            · simp only [decide_eq_true t2, if_true]
              by_cases t3 : TL b3
              · rw [decide_eq_true t3, if_pos (show 240 ≤ c ∧ c ≤ 244 ∧ (3 : Int) < (l.length : Int) - (p : Int) ∧ TL b1 ∧ TL b2 ∧ TL b3 from ⟨c1, c2, c3, t1, t2, t3⟩)]
                exact j2 true (fun _ => by omega)
              · rw [decide_eq_false t3]; exact no _ (fun h => t3 h.2.2.2.2.2)
            · simp only [decide_eq_false t2, Bool.false_eq_true, if_false]; exact no _ (fun h => t2 h.2.2.2.2.1)
          · simp only [decide_eq_false t1, Bool.false_eq_true, if_false]; exact no _ (fun h => t1 h.2.2.2.1)
        · simp only [if_neg c3]; exact no _ (fun h => c3 h.2.2.1)
      · simp only [if_neg c2]; exact no _ (fun h => c2 h.2.1)
    · simp only [if_neg c1]; exact no _ (fun h => c1 h.1)
theorem lk_Width {l : List Int} (hb : Bytes l) (hl : l.length ≤ 1000000000000) (p : Nat) (hp : p < l.length) : Ev (fun k => annuletref04_Width.f k (strOfNums l) (p : Int)) ((wd (l.drop p) : Nat) : Int) := by
  have hw := wd_int (l.drop p)
  rw [drop_getD0, drop_getD0, drop_getD0, drop_getD0, List.length_drop, Nat.add_zero, show ((l.length - p : Nat) : Int) = (l.length : Int) - (p : Int) by omega, ← rd_nat, ← rd_nat, ← rd_nat, ← rd_nat] at hw
  rw [hw]
  unfold annuletref04_Width.f
  simp only [strOfNums_size]
  rw [w64 (n := (p : Int) + 1) (by omega) (by omega), w64 (n := (l.length : Int) - (p : Int)) (by omega) (by omega)]
  simp only [bt_str hb, lk_tail, Option.bind_some]
  rw [show (p : Int) + 1 = ((p + 1 : Nat) : Int) by omega]
  simp only [if_pos (show (0 : Int) ≤ (p : Int) by omega), if_pos (show (p : Int) < (l.length : Int) by omega)]
  have j1 := fun c x hx => lk_Width_j1 hb hl p hp c x hx
  generalize rd l (p : Int) = c at *
  by_cases c0 : c < 128
  · simp only [if_pos c0]
    refine ev_eq (ev_some _) ?_
    unfold wid
    rw [if_pos c0]
  · simp only [if_neg c0]
    -- the second test failed: on to three bytes
    have j0f : ¬ (194 ≤ c ∧ c ≤ 223 ∧ (1 : Int) < (l.length : Int) - (p : Int) ∧ TL (rd l ((p + 1 : Nat) : Int))) → Ev (fun k => annuletref04_Width.j0 k (strOfNums l) (p : Int) c ((l.length : Int) - (p : Int)) false) (wid ((l.length : Int) - (p : Int)) c (rd l ((p + 1 : Nat) : Int)) (rd l ((p + 2 : Nat) : Int)) (rd l ((p + 3 : Nat) : Int))) := by
      intro hno
      refine ev_succ ?_
      simp only [annuletref04_Width.j0, strOfNums_size, Bool.false_eq_true, if_false]
      rw [w64 (n := (p : Int) + 1) (by omega) (by omega), w64 (n := (p : Int) + 2) (by omega) (by omega)]
      simp only [bt_str hb, lk_tail, Option.bind_some]
      rw [show (p : Int) + 1 = ((p + 1 : Nat) : Int) by omega, show (p : Int) + 2 = ((p + 2 : Nat) : Int) by omega]
      have jf := j1 c false (fun h => by cases h)
      have jt := j1 c true
      simp only [if_true, Bool.false_eq_true, if_false] at jf jt
      unfold wid
      rw [if_neg c0, if_neg hno]
      generalize rd l ((p + 1 : Nat) : Int) = b1 at *
      generalize rd l ((p + 2 : Nat) : Int) = b2 at *
      generalize rd l ((p + 3 : Nat) : Int) = b3 at *
      by_cases c1 : c ≥ 224
      · simp only [if_pos c1]
        by_cases c2 : c ≤ 239
        · simp only [if_pos c2]
          by_cases c3 : (l.length : Int) - (p : Int) > 2
          · simp only [if_pos c3, if_pos (show (0 : Int) ≤ ((p + 1 : Nat) : Int) by omega), if_pos (show ((p + 1 : Nat) : Int) < (l.length : Int) by omega), if_pos (show (0 : Int) ≤ ((p + 2 : Nat) : Int) by omega), if_pos (show ((p + 2 : Nat) : Int) < (l.length : Int) by omega)]
            by_cases t1 : TL b1
            · simp only [decide_eq_true t1, if_true]
              by_cases t2 : TL b2
              · rw [decide_eq_true t2, if_pos (show 224 ≤ c ∧ c ≤ 239 ∧ (2 : Int) < (l.length : Int) - (p : Int) ∧ TL b1 ∧ TL b2 from ⟨c1, c2, c3, t1, t2⟩)]
                exact jt (fun _ => by omega)
              · rw [decide_eq_false t2, if_neg (fun h => t2 h.2.2.2.2)]; exact jf
            · simp only [decide_eq_false t1, Bool.false_eq_true, if_false]; rw [if_neg (fun h => t1 h.2.2.2.1)]; exact jf
          · simp only [if_neg c3]; rw [if_neg (fun h => c3 h.2.2.1)]; exact jf
        · simp only [if_neg c2]; rw [if_neg (fun h => c2 h.2.1)]; exact jf
      · simp only [if_neg c1]; rw [if_neg (fun h => c1 h.1)]; exact jf
    by_cases c1 : c ≥ 194
    · simp only [if_pos c1]
      by_cases c2 : c ≤ 223
      · simp only [if_pos c2]
        by_cases c3 : (l.length : Int) - (p : Int) > 1
        · simp only [if_pos c3, if_pos (show (0 : Int) ≤ ((p + 1 : Nat) : Int) by omega), if_pos (show ((p + 1 : Nat) : Int) < (l.length : Int) by omega)]
          by_cases t1 : TL (rd l ((p + 1 : Nat) : Int))
          · rw [decide_eq_true t1]
            refine ev_succ ?_
            simp only [annuletref04_Width.j0, if_true]
            refine ev_eq (ev_some _) ?_
            unfold wid
            rw [if_neg c0, if_pos ⟨c1, c2, c3, t1⟩]
          · rw [decide_eq_false t1]; exact j0f (fun h => t1 h.2.2.2)
        · simp only [if_neg c3]; exact j0f (fun h => c3 h.2.2.1)
      · simp only [if_neg c2]; exact j0f (fun h => c2 h.2.1)
    · simp only [if_neg c1]; exact j0f (fun h => c1 h.1)
theorem parts_len (m : List Int) : (partsL m).length ≤ m.length := by
  refine parts_ind (P := fun m => (partsL m).length ≤ m.length) (by rw [partsL_nil]; simp) (fun m h ih => ?_) m
  rw [partsL_cons h, List.length_cons]
  have := stp_pos m
  have := len_pos h
  rw [List.length_drop] at ih
  omega
theorem lk_Parts_l0 {l : List Int} (hb : Bytes l) (hl : l.length ≤ 1000000000000) (d : Nat) : ∀ (p : Nat) (x : List ByteArray), p ≤ l.length → l.length - p ≤ d → x.length ≤ p →
    Ev (fun k => annuletref04_Parts.l0 k (strOfNums l) x (p : Int)) (x ++ (partsL (l.drop p)).map strOfNums) := by
  induction d with
  | zero =>
    intro p x hp hd hx
    obtain rfl : p = l.length := by omega
    refine ev_succ ?_
    simp only [annuletref04_Parts.l0, strOfNums_size]
    simp only [if_neg (show ¬ (l.length : Int) < (l.length : Int) by omega)]
    rw [List.drop_eq_nil_of_le (Nat.le_refl _), partsL_nil]
    refine ev_eq (ev_some _) ?_
    simp
  | succ d ih =>
    intro p x hp hd hx
    by_cases hlt : p < l.length
    · refine ev_succ ?_
      simp only [annuletref04_Parts.l0, strOfNums_size]
      simp only [if_pos (show (p : Int) < (l.length : Int) by omega)]
      refine ev_bind (lk_Width hb hl p hlt) ?_
      have hne := drop_ne hlt
      have h4 := wd_le4 (l.drop p)
      have hle := wd_le hne
      rw [List.length_drop] at hle
      have hw1 : wrap64 ((p : Int) + 1) = (p : Int) + 1 := w64 (by omega) (by omega)
      have hw2 : wrap64 ((p : Int) + ((wd (l.drop p) : Nat) : Int)) = (p : Int) + ((wd (l.drop p) : Nat) : Int) := w64 (by omega) (by omega)
      have go : ∀ s : Nat, s = stp (l.drop p) → p + s ≤ l.length → Ev (fun k => annuletref04_Parts.l0 k (strOfNums l) (x ++ [(strOfNums l).extract (p : Int).toNat ((p : Int) + (s : Int)).toNat]) ((p : Int) + (s : Int))) (x ++ (partsL (l.drop p)).map strOfNums) := by
        intro s hs hle2
        have := stp_pos (l.drop p)
        have := ih (p + s) (x ++ [strOfNums ((l.drop p).take s)]) (by omega) (by omega) (by simp; omega)
        rw [partsL_cons hne, List.map_cons, ← hs, List.drop_drop]
        rw [show (p : Int).toNat = p by omega, show ((p : Int) + (s : Int)).toNat = p + s by omega, str_extract, List.drop_take, Nat.add_sub_cancel_left, show (p : Int) + (s : Int) = ((p + s : Nat) : Int) by omega]
        rw [List.append_assoc] at this
        exact this
      by_cases z : wd (l.drop p) = 0
      · simp only [if_pos (show ((wd (l.drop p) : Nat) : Int) = 0 by omega), hw1, if_pos (show (0 : Int) ≤ (p : Int) by omega), if_pos (show (p : Int) ≤ (p : Int) + 1 by omega), if_pos (show (p : Int) + 1 ≤ (l.length : Int) by omega), if_pos (show x.length < 8796093022208 by omega)]
        exact go 1 (by unfold stp; rw [if_pos z]) (by omega)
      · simp only [if_neg (show ¬ ((wd (l.drop p) : Nat) : Int) = 0 by omega), hw2, if_pos (show (0 : Int) ≤ (p : Int) by omega), if_pos (show (p : Int) ≤ (p : Int) + ((wd (l.drop p) : Nat) : Int) by omega), if_pos (show (p : Int) + ((wd (l.drop p) : Nat) : Int) ≤ (l.length : Int) by omega), if_pos (show x.length < 8796093022208 by omega)]
        exact go (wd (l.drop p)) (by unfold stp; rw [if_neg z]) (by omega)
    · obtain rfl : p = l.length := by omega
      exact ih l.length x (by omega) (by omega) hx
theorem lk_Parts {l : List Int} (hb : Bytes l) (hl : l.length ≤ 1000000000000) : Ev (fun k => annuletref04_Parts.f k (strOfNums l)) ((partsL l).map strOfNums) := by
  have := lk_Parts_l0 hb hl l.length 0 [] (by omega) (by omega) (by simp)
  rw [List.drop_zero, List.nil_append] at this
  exact this
theorem rdOf_parts (L : List (List Int)) (i : Nat) (h : i < L.length) : rdOf ByteArray.empty (L.map strOfNums) (i : Int) = strOfNums L[i] := by
  unfold rdOf
  simp [List.getD, h]
theorem hex_cut (d : Int) (h : 0 ≤ d) (h' : d < 16) : (⟨#[48, 49, 50, 51, 52, 53, 54, 55, 56, 57, 97, 98, 99, 100, 101, 102]⟩ : ByteArray).extract d.toNat (d + 1).toNat = strOfNums [place d] := by
  have key : ∀ i : Fin 16, ((⟨#[48, 49, 50, 51, 52, 53, 54, 55, 56, 57, 97, 98, 99, 100, 101, 102]⟩ : ByteArray).extract ((i.val : Nat) : Int).toNat (((i.val : Nat) : Int) + 1).toNat).data = (strOfNums [place ((i.val : Nat) : Int)]).data := by decide +kernel
  have := key ⟨d.toNat, by omega⟩
  rw [show (((⟨d.toNat, by omega⟩ : Fin 16).val : Nat) : Int) = d by simp; omega] at this
  exact ByteArray.ext this
theorem qt_len (p : List Int) : (qt p).length ≤ 4 := by
  unfold qt
  split
  · rw [List.length_take]
    have := wd_le4 p
    have : stp p ≤ 4 := by unfold stp; split <;> omega
    omega
  · simp
theorem lk_Quote_l0 {l : List Int} (hb : Bytes l) (hl : l.length ≤ 1000000000) (d : Nat) : ∀ (i : Nat) (a : List Int), i ≤ (partsL l).length → (partsL l).length - i ≤ d → a.length ≤ 4 * i →
    Ev (fun k => annuletref04_Quote.l0 k (strOfNums a) ((partsL l).map strOfNums) (i : Int)) (strOfNums (a ++ ((partsL l).drop i).flatMap qt)) := by
  have hpl := parts_len l
  induction d with
  | zero =>
    intro i a hi hd ha
    obtain rfl : i = (partsL l).length := by omega
    refine ev_succ ?_
    simp only [annuletref04_Quote.l0, List.length_map]
    simp only [if_neg (show ¬ ((partsL l).length : Int) < ((partsL l).length : Int) by omega)]
    rw [List.drop_eq_nil_of_le (Nat.le_refl _)]
    refine ev_eq (ev_some _) ?_
    simp
  | succ d ih =>
    intro i a hi hd ha
    by_cases hlt : i < (partsL l).length
    · obtain ⟨p1, p2, p3, p4⟩ := parts_mem l _ (List.getElem_mem hlt)
      have hpb := p4 hb
      have hlen := len_pos p1
      refine ev_succ ?_
      simp only [annuletref04_Quote.l0, List.length_map]
      simp only [if_pos (show (i : Int) < ((partsL l).length : Int) by omega), if_pos (show (0 : Int) ≤ (i : Int) by omega), rdOf_parts _ i hlt, strOfNums_size, bt_str hpb, if_pos (show (0 : Int) < ((partsL l)[i].length : Int) by omega)]
      rw [List.drop_eq_getElem_cons hlt, List.flatMap_cons]
      have hw := lk_Width hpb (by omega) 0 (by omega)
      rw [List.drop_zero] at hw
      have hq := qt_len (partsL l)[i]
      have hqt : qt (partsL l)[i] = if wd (partsL l)[i] ≠ 0 ∧ 32 < (partsL l)[i].getD 0 0 ∧ (partsL l)[i].getD 0 0 ≠ 127 ∧ (partsL l)[i].getD 0 0 ≠ 37 then (partsL l)[i] else [37, place ((partsL l)[i].getD 0 0 / 16), place ((partsL l)[i].getD 0 0 % 16)] := by
        show (if _ then (partsL l)[i].take (stp (partsL l)[i]) else _) = _
        rw [p2]
      have next := fun (q : List Int) (hq : q.length ≤ 4) => ih (i + 1) (a ++ q) (by omega) (by omega) (by rw [List.length_append]; omega)
      have hc0 : rd (partsL l)[i] 0 = (partsL l)[i].getD 0 0 := rfl
      have hB := head_byte hpb 0
      unfold Byte at hB
      rw [hc0]
      rw [hqt] at hq ⊢
      generalize (partsL l)[i] = p at *
      generalize hcc : p.getD 0 0 = c at *
      rw [w64 (n := (i : Int) + 1) (by omega) (by omega)]
      rw [Int.tdiv_eq_ediv_of_nonneg hB.1, Int.tmod_eq_emod_of_nonneg hB.1, show c / 16 % 256 = c / 16 by omega, show (c / 16 + 1) % 256 = c / 16 + 1 by omega, show (c % 16 + 1) % 256 = c % 16 + 1 by omega]
      have e37 : (⟨#[37]⟩ : ByteArray) = strOfNums [37] := rfl
      rw [hex_cut (c / 16) (by omega) (by omega), hex_cut (c % 16) (by omega) (by omega), e37]
      simp only [strOfNums_append, strOfNums_size, List.length_append, List.length_cons, List.length_nil]
      have esc : ∀ (G : Prop), ¬ G → ∀ [Decidable G], Ev (fun k => annuletref04_Quote.l0 k (strOfNums (a ++ [37] ++ [place (c / 16)] ++ [place (c % 16)])) ((partsL l).map strOfNums) ((i : Int) + 1)) (strOfNums (a ++ ((if G then p else [37, place (c / 16), place (c % 16)]) ++ ((partsL l).drop (i + 1)).flatMap qt))) := by
        intro G hG _
        rw [if_neg hG]
        have := next [37, place (c / 16), place (c % 16)] (by simp)
        rw [List.append_assoc] at this
        simpa using this
      have bare : ∀ (G : Prop), G → ∀ [Decidable G], Ev (fun k => annuletref04_Quote.l0 k (strOfNums (a ++ p)) ((partsL l).map strOfNums) ((i : Int) + 1)) (strOfNums (a ++ ((if G then p else [37, place (c / 16), place (c % 16)]) ++ ((partsL l).drop (i + 1)).flatMap qt))) := by
        intro G hG _
        rw [if_pos hG]
        have := next p p3
        rw [List.append_assoc] at this
        exact this
      simp only [if_pos (show (0 : Int) ≤ c / 16 by omega), if_pos (show c / 16 ≤ c / 16 + 1 by omega), if_pos (show c / 16 + 1 ≤ 16 by omega), if_pos (show (0 : Int) ≤ c % 16 by omega), if_pos (show c % 16 ≤ c % 16 + 1 by omega), if_pos (show c % 16 + 1 ≤ 16 by omega), if_pos (show a.length + 1 ≤ 9223372036854775807 by omega), if_pos (show a.length + (0 + 1) ≤ 9223372036854775807 by omega), if_pos (show a.length + (0 + 1) + (0 + 1) ≤ 9223372036854775807 by omega), if_pos (show a.length + (0 + 1) + (0 + 1) + (0 + 1) ≤ 9223372036854775807 by omega)]
      by_cases c1 : c > 32
      · simp only [if_pos c1]
        by_cases c2 : c = 127
        · simp only [if_pos c2]; exact esc _ (fun h => h.2.2.1 c2)
        · simp only [if_neg c2]
          by_cases c3 : c = 37
          · simp only [if_pos c3]; exact esc _ (fun h => h.2.2.2 c3)
          · simp only [if_neg c3]
            refine ev_bind hw ?_
            by_cases z : wd p = 0
            · simp only [if_neg (show ¬ ((wd p : Nat) : Int) > 0 by omega)]; exact esc _ (fun h => h.1 z)
            · simp only [if_pos (show ((wd p : Nat) : Int) > 0 by omega), if_pos (show a.length + p.length ≤ 9223372036854775807 by omega)]
              exact bare _ ⟨z, c1, c2, c3⟩
      · simp only [if_neg c1]; exact esc _ (fun h => c1 h.2.1)
    · obtain rfl : i = (partsL l).length := by omega
      exact ih _ a (by omega) (by omega) ha
theorem lk_ref04_Quote {l : List Int} (hb : Bytes l) (hl : l.length ≤ 1000000000) : Ev (fun k => annuletref04_Quote.f k (strOfNums l)) (strOfNums (quoteF l)) := by
  unfold annuletref04_Quote.f quoteF
  simp only [str_nil]
  by_cases h : l = []
  · simp only [if_pos h]; exact ev_some _
  · simp only [if_neg h]
    have := lk_Quote_l0 hb hl _ 0 [] (by omega) (Nat.le_refl _) (by simp)
    rw [List.drop_zero, List.nil_append, strOfNums_nil] at this
    exact ev_bind (lk_Parts hb (by omega)) this
theorem lk_awake04 : Ev (fun k => annuletlaw04_awake.f k) true := Ev.of annuletlaw04_awake.mono (k := 60) (by decide +kernel)
theorem lk_digit4 (c : Int) (hc : Byte c) : Ev (fun k => annuletref04_digit.f k c) (hx4 c) := by
  unfold Byte at hc
  unfold annuletref04_digit.f
  have j : ∀ x : Bool, Ev (fun k => annuletref04_digit.j0 k c x) (if x = true then c - 48 else if 97 ≤ c ∧ c ≤ 102 then c - 87 else 16) := by
    intro x
    refine ev_succ ?_
    simp only [annuletref04_digit.j0]
    rw [w64 (n := c) (by omega) (by omega), w64 (n := c - 48) (by omega) (by omega), w64 (n := c - 87) (by omega) (by omega)]
    by_cases h : x = true
    · simp only [if_pos h]; exact ev_some _
    · simp only [if_neg h]
      by_cases c1 : c ≥ 97
      · simp only [if_pos c1]
        by_cases c2 : c ≤ 102
        · simp only [if_pos c2, if_pos (show 97 ≤ c ∧ c ≤ 102 from ⟨c1, c2⟩)]; exact ev_some _
        · simp only [if_neg c2, if_neg (show ¬ (97 ≤ c ∧ c ≤ 102) from fun h => c2 h.2)]; exact ev_some _
      · simp only [if_neg c1, if_neg (show ¬ (97 ≤ c ∧ c ≤ 102) from fun h => c1 h.1)]; exact ev_some _
  unfold hx4
  by_cases c1 : c ≥ 48
  · simp only [if_pos c1]
    refine ev_eq (j _) ?_
    by_cases c2 : c ≤ 57
    · rw [decide_eq_true c2, if_pos rfl, if_pos ⟨c1, c2⟩]
    · rw [decide_eq_false c2, if_neg (by simp), if_neg (show ¬ (48 ≤ c ∧ c ≤ 57) from fun h => c2 h.2)]
  · simp only [if_neg c1]
    refine ev_eq (j _) ?_
    rw [if_neg (by simp), if_neg (show ¬ (48 ≤ c ∧ c ≤ 57) from fun h => c1 h.1)]
theorem str_one (n : Int) : strOfNums [n] = (strOfNums ([n] : List Int)) := rfl
theorem lk_refU {w : List Int} (hb : Bytes w) (hl : w.length ≤ 1000000) (h37 : w ≠ [37]) (d : Nat) : ∀ (i : Nat) (a : List Int), i ≤ w.length → w.length - i ≤ d → Bytes a → a.length ≤ i →
    Ev (fun k => annuletref04_Unquote.l0 k (strOfNums w) (strOfNums a) (i : Int)) (if quoteF (a ++ refD (w.drop i)) = w then (strOfNums (a ++ refD (w.drop i)), 0) else ((⟨#[]⟩ : ByteArray), 3)) := by
  have e37 : ((strOfNums w).toList = ([37] : List UInt8)) = (w = [37]) := by
    have := str_eq hb (b := [37]) (fun x hx => by rw [List.mem_singleton.1 hx]; unfold Byte; omega)
    rw [← this, show (strOfNums [37]).toList = ([37] : List UInt8) by rw [str_toList]; rfl]
  induction d with
  | zero =>
    intro i a hi hd hab hal
    obtain rfl : i = w.length := by omega
    rw [List.drop_eq_nil_of_le (Nat.le_refl _)]
    refine ev_succ ?_
    simp only [annuletref04_Unquote.l0, strOfNums_size]
    simp only [if_neg (show ¬ (w.length : Int) < (w.length : Int) by omega), refD, List.append_nil]
    refine ev_bind (lk_ref04_Quote hab (by omega)) ?_
    simp only [str_eq (quoteF_isBytes hab) hb]
    by_cases q : quoteF a = w
    · simp only [if_pos q]; exact ev_some _
    · simp only [if_neg q]; exact ev_some _
  | succ d ih =>
    intro i a hi hd hab hal
    by_cases hlt : i < w.length
    · have hbyte := rd_byte hb (i : Int)
      -- the byte stays as it is
      have keep : (¬ (rd w (i : Int) = 37 ∧ i + 2 < w.length ∧ hx4 (rd w ((i + 1 : Nat) : Int)) < 16 ∧ hx4 (rd w ((i + 2 : Nat) : Int)) < 16)) → Ev (fun k => annuletref04_Unquote.j1 k (strOfNums w) (strOfNums a) (i : Int) false) (if quoteF (a ++ refD (w.drop i)) = w then (strOfNums (a ++ refD (w.drop i)), 0) else ((⟨#[]⟩ : ByteArray), 3)) := by
        intro hno
        refine ev_succ ?_
        simp only [annuletref04_Unquote.j1, strOfNums_size, Bool.false_eq_true, if_false]
        rw [w64 (n := (i : Int) + 1) (by omega) (by omega)]
        simp only [e37, if_neg h37, if_pos (show (0 : Int) ≤ (i : Int) by omega), if_pos (show (i : Int) ≤ (i : Int) + 1 by omega), if_pos (show (i : Int) + 1 ≤ (w.length : Int) by omega)]
        have ecut : (strOfNums w).extract (i : Int).toNat ((i : Int) + 1).toNat = strOfNums [rd w (i : Int)] := by
          rw [show (i : Int).toNat = i by omega, show ((i : Int) + 1).toNat = i + 1 by omega, str_extract, List.drop_take, Nat.add_sub_cancel_left, drop_rd w i hlt]
          rfl
        rw [ecut]
        simp only [strOfNums_size, strOfNums_append, List.length_cons, List.length_nil, if_pos (show a.length + (0 + 1) ≤ 9223372036854775807 by omega)]
        have hr : refD (w.drop i) = rd w (i : Int) :: refD (w.drop (i + 1)) := by
          rw [drop_rd w i hlt]
          rcases hm : w.drop (i + 1) with _ | ⟨x, _ | ⟨y, t⟩⟩
          · rfl
          · rfl
          · simp only [refD]
            have l1 : i + 2 < w.length := by have := congrArg List.length hm; rw [List.length_drop] at this; simp at this; omega
            have ex : rd w ((i + 1 : Nat) : Int) = x := by
              have := drop_rd w (i + 1) (by omega)
              rw [hm] at this
              injection this with h1 _
              exact h1.symm
            have ey : rd w ((i + 2 : Nat) : Int) = y := by
              have h2 := drop_rd w (i + 1) (by omega)
              rw [hm, drop_rd w (i + 2) l1] at h2
              injection h2 with _ h3
              injection h3 with h4 _
              exact h4.symm
            rw [if_neg (fun h => hno ⟨h.1, l1, by rw [ex]; exact h.2.1, by rw [ey]; exact h.2.2⟩)]
        rw [hr]
        have := ih (i + 1) (a ++ [rd w (i : Int)]) (by omega) (by omega) (bytes_append hab (fun y hy => by rw [List.mem_singleton.1 hy]; exact hbyte)) (by simp; omega)
        rw [List.append_assoc] at this
        exact this
      refine ev_succ ?_
      simp only [annuletref04_Unquote.l0, strOfNums_size]
      rw [w64 (n := (i : Int) + 1) (by omega) (by omega), w64 (n := (i : Int) + 2) (by omega) (by omega)]
      simp only [bt_str hb, if_pos (show (i : Int) < (w.length : Int) by omega), if_pos (show (0 : Int) ≤ (i : Int) by omega)]
      rw [show (i : Int) + 1 = ((i + 1 : Nat) : Int) by omega, show (i : Int) + 2 = ((i + 2 : Nat) : Int) by omega]
      by_cases c : rd w (i : Int) = 37
      · simp only [if_pos c]
        by_cases l2 : i + 2 < w.length
        · simp only [if_pos (show ((i + 2 : Nat) : Int) < (w.length : Int) by omega), if_pos (show (0 : Int) ≤ ((i + 1 : Nat) : Int) by omega), if_pos (show ((i + 1 : Nat) : Int) < (w.length : Int) by omega)]
          refine ev_bind (lk_digit4 _ (rd_byte hb _)) ?_
          by_cases d1 : hx4 (rd w ((i + 1 : Nat) : Int)) < 16
          · simp only [if_pos d1, if_pos (show (0 : Int) ≤ ((i + 2 : Nat) : Int) by omega)]
            refine ev_bind (lk_digit4 _ (rd_byte hb _)) ?_
            by_cases d2 : hx4 (rd w ((i + 2 : Nat) : Int)) < 16
            · simp only [decide_eq_true d2]
              have r1 := hx4_range (rd w ((i + 1 : Nat) : Int))
              have r2 := hx4_range (rd w ((i + 2 : Nat) : Int))
              refine ev_succ ?_
              simp only [annuletref04_Unquote.j1, strOfNums_size, if_true]
              rw [w64 (n := (i : Int) + 1) (by omega) (by omega), w64 (n := (i : Int) + 2) (by omega) (by omega), w64 (n := (i : Int) + 2 + 1) (by omega) (by omega)]
              simp only [bt_str hb]
              rw [show (i : Int) + 1 = ((i + 1 : Nat) : Int) by omega, show (i : Int) + 2 = ((i + 2 : Nat) : Int) by omega]
              simp only [if_pos (show (0 : Int) ≤ ((i + 1 : Nat) : Int) by omega), if_pos (show ((i + 1 : Nat) : Int) < (w.length : Int) by omega), if_pos (show (0 : Int) ≤ ((i + 2 : Nat) : Int) by omega), if_pos (show ((i + 2 : Nat) : Int) < (w.length : Int) by omega)]
              refine ev_bind (lk_digit4 _ (rd_byte hb _)) ?_
              refine ev_bind (lk_digit4 _ (rd_byte hb _)) ?_
              have hr : refD (w.drop i) = (16 * hx4 (rd w ((i + 1 : Nat) : Int)) + hx4 (rd w ((i + 2 : Nat) : Int))) :: refD (w.drop (i + 3)) := by
                rw [drop_rd w i hlt, drop_rd w (i + 1) (by omega), drop_rd w (i + 2) l2, c]
                simp only [refD]
                rw [if_pos ⟨trivial, d1, d2⟩]
              rw [hr]
              generalize hx4 (rd w ((i + 1 : Nat) : Int)) = p at *
              generalize hx4 (rd w ((i + 2 : Nat) : Int)) = q at *
              rw [w64 (n := 16 * p) (by omega) (by omega), w64 (n := 16 * p + q) (by omega) (by omega), show (16 * p + q) % 256 = 16 * p + q by omega]
              simp only [Option.bind_some, strOfNums_append, strOfNums_size, List.length_cons, List.length_nil, if_pos (show a.length + (0 + 1) ≤ 9223372036854775807 by omega)]
              have := ih (i + 3) (a ++ [16 * p + q]) (by omega) (by omega) (bytes_append hab (fun y hy => by rw [List.mem_singleton.1 hy]; unfold Byte; omega)) (by simp; omega)
              rw [List.append_assoc] at this
              rw [show ((i + 2 : Nat) : Int) + 1 = ((i + 3 : Nat) : Int) by omega]
              exact this
            · simp only [decide_eq_false d2]; exact keep (fun h => d2 h.2.2.2)
          · simp only [if_neg d1]; exact keep (fun h => d1 h.2.2.1)
        · simp only [if_neg (show ¬ ((i + 2 : Nat) : Int) < (w.length : Int) by omega)]; exact keep (fun h => l2 h.2.1)
      · simp only [if_neg c]; exact keep (fun h => c h.1)
    · obtain rfl : i = w.length := by omega
      exact ih _ a (by omega) (by omega) hab hal
theorem lk_ref04_Unquote {w : List Int} (hb : Bytes w) (hl : w.length ≤ 1000000) : Ev (fun k => annuletref04_Unquote.f k (strOfNums w)) (txtR (unqR w)) := by
  by_cases h : w = [37]
  · subst h
    exact Ev.of (annuletref04_Unquote.mono _) (k := 20) (by first | decide +kernel | rfl)
  · unfold annuletref04_Unquote.f
    have := lk_refU hb hl h w.length 0 [] (by omega) (by omega) bytes_nil (by simp)
    rw [List.drop_zero, strOfNums_nil] at this
    refine ev_eq this ?_
    rw [unqR_ref hb h]
    simp only [List.nil_append]
    by_cases q : quoteF (refD w) = w
    · rw [if_pos q, if_pos q]; rfl
    · rw [if_neg q, if_neg q]; rfl
theorem UtfQuotes_law : annuletlaw04_UtfQuotes.Pure := by
  intro a0 a1 h0 h1
  obtain ⟨l, hb, rfl⟩ := str_of a0
  obtain ⟨w, hw, rfl⟩ := str_of a1
  have htrue : Ev (fun k => annuletlaw04_UtfQuotes.j0 k (strOfNums l) (strOfNums w) true) true := by
    refine ev_succ ?_
    simp only [annuletlaw04_UtfQuotes.j0, if_true]
    exact ev_bind lk_awake04 (ev_some _)
  refine Ev.rounds (g := fun k => annuletlaw04_UtfQuotes.f k (strOfNums l) (strOfNums w)) ?_
  unfold annuletlaw04_UtfQuotes.f
  simp only [strOfNums_size]
  by_cases c0 : (l.length : Int) > 300
  · simp only [if_pos c0]; exact htrue
  · simp only [if_neg c0]
    by_cases c1 : (w.length : Int) > 300
    · simp only [decide_eq_true c1]; exact htrue
    · simp only [decide_eq_false c1]
      refine ev_succ ?_
      simp only [annuletlaw04_UtfQuotes.j0, Bool.false_eq_true, if_false]
      refine ev_bind (lk_utf_Unquote hw (by omega)) ?_
      refine ev_bind (lk_ref04_Unquote hw (by omega)) ?_
      simp only [lk_utf_Quote hb (by omega), Option.bind_some]
      refine ev_bind (lk_ref04_Quote hb (by omega)) ?_
      simp only [if_true]
      exact ev_bind lk_awake04 (ev_some _)
end Go.Proofs.YtffhcongfbnbiaaDoor.PUtfQuotes
namespace Go.Proofs.YtffhcongfbnbiaaDoor.Pure
open Go.Proofs.YtffhcongfbnbiaaDoor.PUtfQuotes
theorem UtfQuotes : annuletlaw04_UtfQuotes.Pure := UtfQuotes_law
end Go.Proofs.YtffhcongfbnbiaaDoor.Pure
