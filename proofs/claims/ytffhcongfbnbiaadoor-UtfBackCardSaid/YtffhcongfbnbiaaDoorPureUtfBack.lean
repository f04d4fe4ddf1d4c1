/- UtfBack: a text comes back from its word, which has neither blank nor line feed; what a word is is that word again. No condition. -/
import Derived.Test.YtffhcongfbnbiaaDoorPUtfBackx2
import Derived.Test.YtffhcongfbnbiaaDoorMath
set_option linter.unusedVariables false
set_option linter.unusedSimpArgs false
namespace Go.Proofs.YtffhcongfbnbiaaDoor.PUtfBack
open Go.RowKit Go.Proofs.YtffhcongfbnbiaaDoorW.PrintWords Go.Proofs.YtffhcongfbnbiaaDoorW.PrintLast Go.Proofs.YtffhcongfbnbiaaDoorW.PrintMore Annulet
theorem lk_utf_Valid {l : List Int} (hb : Bytes l) (hl : l.length ≤ 140737488355328) : utf_Valid.f (strOfNums l) = some ((partsL l).all fun p => decide (wd p ≠ 0)) := by
  unfold utf_Valid.f
  rw [strOfNums_size, if_pos hl, valid_str hb _ 0 (by omega), List.drop_zero]
theorem lk_utf_Count {l : List Int} (hb : Bytes l) (hl : l.length ≤ 140737488355328) : utf_Count.f (strOfNums l) = some ((partsL l).length : Int) := by
  unfold utf_Count.f
  rw [strOfNums_size, if_pos hl, count_str hb _ 0 (by omega), List.drop_zero]
theorem lk_utf_Clip {l : List Int} (hb : Bytes l) (hl : l.length ≤ 140737488355328) (n : Int) (h0 : -9223372036854775808 ≤ n) (h1 : n ≤ 9223372036854775807) : utf_Clip.f (strOfNums l) n = some (strOfNums (clipL l n.toNat)) := by
  unfold utf_Clip.f
  rw [strOfNums_size, if_pos hl, if_pos h0, if_pos h1, clip_str hb _ 0 n (by omega) (by omega), List.drop_zero, List.take_zero, List.nil_append]
theorem lk_utf_Quote {l : List Int} (hb : Bytes l) (hl : l.length ≤ 35184372088832) : utf_Quote.f (strOfNums l) = some (strOfNums (quoteF l)) := by
  unfold utf_Quote.f
  rw [strOfNums_size]
  by_cases h : l = []
  · subst h; rfl
  · have := len_pos h
    rw [if_neg (by omega), if_pos hl, quote_str hb _ 0 (by omega), List.drop_zero]
    unfold quoteF strOfNums
    rw [if_neg h]
theorem utf_index : ∀ c : Fin 256, Lib.indexByte (⟨#[48, 49, 50, 51, 52, 53, 54, 55, 56, 57, 97, 98, 99, 100, 101, 102]⟩ : ByteArray).data.toList ((c.val : Nat) : Int).toNat.toUInt8 = if hx4 (c.val : Int) < 16 then hx4 (c.val : Int) else -1 := by decide +kernel
theorem lk_digits_index {c : Int} (h : Byte c) : strings_IndexByte.f (⟨#[48, 49, 50, 51, 52, 53, 54, 55, 56, 57, 97, 98, 99, 100, 101, 102]⟩ : ByteArray) c = some (if hx4 c < 16 then hx4 c else -1) := by
  unfold Byte at h
  have := utf_index ⟨c.toNat, by omega⟩
  rw [show ((⟨c.toNat, by omega⟩ : Fin 256).val : Int) = c by simp; omega] at this
  unfold strings_IndexByte.f
  rw [this]
theorem lk_digits_short {m : List Int} (h : m.length < 2) : utf_digits.f (strOfNums m) = some (0, false) := by
  unfold utf_digits.f
  rw [strOfNums_size, if_pos (by omega)]
theorem lk_digits {a b : Int} {t : List Int} (hb : Bytes (a :: b :: t)) : ∃ v, utf_digits.f (strOfNums (a :: b :: t)) = some (v, decide (hx4 a < 16 ∧ hx4 b < 16)) ∧ (hx4 a < 16 → hx4 b < 16 → v = 16 * hx4 a + hx4 b) := by
  have ha := hb a (by simp)
  have hbb := hb b (by simp)
  have r1 := hx4_range a
  have r2 := hx4_range b
  unfold utf_digits.f
  rw [strOfNums_size, bt_str hb, bt_str hb]
  have e0 : rd (a :: b :: t) 0 = a := rfl
  have e1 : rd (a :: b :: t) 1 = b := rfl
  rw [e0, e1, lk_digits_index ha, lk_digits_index hbb]
  simp only [List.length_cons, Option.bind_some]
  rw [if_neg (by omega), if_pos (by omega), if_pos (by omega)]
  by_cases p : hx4 a < 16
  · rw [if_pos p]
    by_cases q : hx4 b < 16
    · rw [if_pos q, if_pos (by omega), decide_eq_true (by omega : hx4 b ≥ 0), decide_eq_true ⟨p, q⟩]
      refine ⟨_, rfl, fun _ _ => ?_⟩
      rw [w64 (by omega) (by omega)]
      have hj := bits_join .i64 63 (by decide) (fun n h0 h1 => by unfold IntKind.wrap IntKind.bits IntKind.signed; simp; omega) 4 (hx4 a * 16) (hx4 b) (by omega) (by omega) (by omega) (by omega) (by omega) (by omega)
      rw [hj]
      omega
    · rw [if_neg q, if_pos (by omega), decide_eq_false (show ¬ (-1 : Int) ≥ 0 by omega), decide_eq_false (fun h : hx4 a < 16 ∧ hx4 b < 16 => q h.2)]
      exact ⟨_, rfl, fun _ h => absurd h q⟩
  · rw [if_neg p, if_neg (by omega), decide_eq_false (fun h => p h.1)]
    exact ⟨_, rfl, fun h => absurd h p⟩
def unqFin (w x : List Int) : Option (List Int) → ByteArray × Int
  | none => (⟨#[]⟩, 3)
  | some s => if x ++ s = [] then (⟨#[]⟩, 3) else if quoteF (x ++ s) = w then (strOfNums (x ++ s), 0) else (⟨#[]⟩, 3)
theorem unqFin_cons (w x : List Int) (c : Int) (o : Option (List Int)) : unqFin w x (o.map (c :: ·)) = unqFin w (x ++ [c]) o := by
  cases o <;> simp [unqFin]
theorem lk_Unquote_l0 {w : List Int} (hb : Bytes w) (hl : w.length ≤ 1000000000) (d : Nat) : ∀ (i : Nat) (x : List Int), i ≤ w.length → w.length - i ≤ d → Bytes x → x.length ≤ i →
    Ev (fun k => utf_Unquote.l0 k (strOfNums w) x (i : Int)) (unqFin w x (unqL (w.drop i))) := by
  induction d with
  | zero =>
    intro i x hi hd hx hxl
    obtain rfl : i = w.length := by omega
    rw [List.drop_eq_nil_of_le (Nat.le_refl _)]
    refine ev_succ ?_
    simp only [utf_Unquote.l0, strOfNums_size]
    simp only [if_neg (show ¬ (w.length : Int) < (w.length : Int) by omega), str_nil]
    simp only [unqL, unqFin, List.append_nil]
    by_cases e : x = []
    · simp only [if_pos e]; exact ev_some _
    · simp only [if_neg e]
      simp only [lk_utf_Quote hx (by omega), Option.bind_some, str_eq (quoteF_isBytes hx) hb]
      by_cases q : quoteF x = w
      · simp only [if_pos q]; exact ev_some _
      · simp only [if_neg q]; exact ev_some _
  | succ d ih =>
    intro i x hi hd hx hxl
    by_cases hlt : i < w.length
    · refine ev_succ ?_
      simp only [utf_Unquote.l0, strOfNums_size, bt_str hb]
      simp only [if_pos (show (i : Int) < (w.length : Int) by omega), if_pos (show (0 : Int) ≤ (i : Int) by omega)]
      rw [w64 (n := (i : Int) + 1) (by omega) (by omega), w64 (n := (i : Int) + 2) (by omega) (by omega), w64 (n := (i : Int) + 2 + 1) (by omega) (by omega)]
      rw [drop_rd w i hlt]
      have hbyte := rd_byte hb (i : Int)
      by_cases hc : rd w (i : Int) = 37
      · simp only [if_pos hc, if_pos (show (0 : Int) ≤ (i : Int) + 1 by omega), if_pos (show (i : Int) + 1 ≤ (w.length : Int) by omega)]
        rw [show ((i : Int) + 1).toNat = i + 1 by omega, str_extract, List.take_of_length_le (Nat.le_refl _), hc]
        rcases hm : w.drop (i + 1) with _ | ⟨a, _ | ⟨b, t⟩⟩
        · rw [lk_digits_short (by simp)]
          simp only [Option.bind_some, Bool.false_eq_true, if_false, unqL, if_true, unqFin]
          exact ev_some _
        · rw [lk_digits_short (by simp)]
          simp only [Option.bind_some, Bool.false_eq_true, if_false, unqL, if_true, unqFin]
          exact ev_some _
        · have hbm : Bytes (a :: b :: t) := by rw [← hm]; exact bytes_drop hb _
          have hlen : i + 3 ≤ w.length := by have := congrArg List.length hm; rw [List.length_drop] at this; simp at this; omega
          obtain ⟨v, hv, hv2⟩ := lk_digits hbm
          rw [hv]
          simp only [Option.bind_some]
          by_cases ok : hx4 a < 16 ∧ hx4 b < 16
          · rw [decide_eq_true ok, unqL_esc ok.1 ok.2, hv2 ok.1 ok.2, unqFin_cons]
            simp only [if_true, if_pos (show x.length < 140737488355328 by omega)]
            have r1 := hx4_range a
            have r2 := hx4_range b
            have := ih (i + 3) (x ++ [16 * hx4 a + hx4 b]) (by omega) (by omega) (bytes_append hx (fun y hy => by rw [List.mem_singleton.1 hy]; unfold Byte; omega)) (by simp; omega)
            have hd3 : w.drop (i + 3) = t := by
              have h2 := congrArg (List.drop 2) hm
              rw [List.drop_drop] at h2
              simpa using h2
            rw [hd3, show ((i + 3 : Nat) : Int) = (i : Int) + 2 + 1 by omega] at this
            exact this
          · rw [decide_eq_false ok]
            simp only [Bool.false_eq_true, if_false, unqL, if_true, if_neg ok, unqFin]
            exact ev_some _
      · simp only [if_neg hc, if_pos (show x.length < 140737488355328 by omega)]
        rw [unqL_bare hc, unqFin_cons]
        exact ih (i + 1) (x ++ [rd w (i : Int)]) (by omega) (by omega) (bytes_append hx (fun y hy => by rw [List.mem_singleton.1 hy]; exact hbyte)) (by simp; omega)
    · obtain rfl : i = w.length := by omega
      exact ih w.length x (by omega) (by omega) hx hxl
def txtR (p : List Int × Int) : ByteArray × Int := (strOfNums p.1, p.2)
theorem lk_utf_Unquote {w : List Int} (hb : Bytes w) (hl : w.length ≤ 1000000000) : Ev (fun k => utf_Unquote.f k (strOfNums w)) (txtR (unqR w)) := by
  unfold utf_Unquote.f unqR
  have e37 : ((strOfNums w).toList = ([37] : List UInt8)) = (w = [37]) := by
    have := str_eq hb (b := [37]) (fun x hx => by rw [List.mem_singleton.1 hx]; unfold Byte; omega)
    rw [← this, show (strOfNums [37]).toList = ([37] : List UInt8) by rw [str_toList]; rfl]
  by_cases h : w = [37]
  · simp only [e37, if_pos h]; exact ev_some _
  · simp only [e37, if_neg h]
    have := lk_Unquote_l0 hb hl w.length 0 [] (by omega) (by omega) bytes_nil (by simp)
    rw [List.drop_zero] at this
    refine ev_eq this ?_
    cases unqL w with
    | none => rfl
    | some s =>
      unfold unqFin txtR
      simp only [List.nil_append]
      by_cases e1 : s = []
      · rw [if_pos e1]
        simp only [e1, ne_eq, not_true_eq_false, false_and, if_false]
        rfl
      · rw [if_neg e1]
        by_cases e2 : quoteF s = w
        · rw [if_pos e2]; simp only [ne_eq, e1, not_false_eq_true, e2, and_self, if_true]
        · rw [if_neg e2]; simp only [ne_eq, e1, not_false_eq_true, e2, and_false, if_false]; rfl
theorem lk_awake04 : Ev (fun k => annuletlaw04_awake.f k) true := Ev.of annuletlaw04_awake.mono (k := 60) (by decide +kernel)
theorem UtfBack_l0 (l w : List Int) (hb : Bytes l) (hw : Bytes w) (hl : l.length ≤ 300) (hwl : w.length ≤ 300) (d : Nat) : ∀ i : Nat, i ≤ (quoteF l).length → (quoteF l).length - i ≤ d →
    Ev (fun k => annuletlaw04_UtfBack.l0 k (strOfNums l) (strOfNums w) (strOfNums (quoteF l)) (i : Int)) true := by
  have hqb := quoteF_isBytes hb
  have hql : (quoteF l).length ≤ 1201 := by
    unfold quoteF
    split
    · simp
    · have := quoteL_len l; omega
  have hgood : ∀ i : Nat, i < (quoteF l).length → 32 < rd (quoteF l) (i : Int) ∧ rd (quoteF l) (i : Int) ≠ 127 := by
    intro i hi
    have hm : rd (quoteF l) (i : Int) ∈ quoteF l := by
      rw [rd_nat]
      simp only [List.getD, List.getElem?_eq_getElem hi, Option.getD_some]
      exact List.getElem_mem hi
    generalize rd (quoteF l) (i : Int) = c at *
    unfold quoteF at hm
    split at hm
    · rw [List.mem_singleton.1 hm]; omega
    · have := quote_bytes l hb c hm; omega
  have hend : Ev (fun k => annuletlaw04_UtfBack.l0 k (strOfNums l) (strOfNums w) (strOfNums (quoteF l)) ((quoteF l).length : Int)) true := by
    refine ev_succ ?_
    simp only [annuletlaw04_UtfBack.l0, strOfNums_size]
    simp only [if_neg (show ¬ ((quoteF l).length : Int) < ((quoteF l).length : Int) by omega)]
    have hcl := clipL_pre 3 l
    obtain ⟨kk, hkk, hkl⟩ := hcl
    have hcb : Bytes (clipL l 3) := by rw [hkl]; exact bytes_take hb _
    have hcl3 : (clipL l 3).length ≤ 300 := by rw [hkl, List.length_take]; omega
    have c1 := lk_utf_Clip hb (by omega) 3 (by omega) (by omega)
    rw [show (3 : Int).toNat = 3 from rfl] at c1
    have c2 := lk_utf_Count hcb (by omega)
    have c3 := lk_utf_Count hb (by omega)
    rw [parts_clip, List.length_take] at c2
    have hmin : (((min 3 (partsL l).length : Nat)) : Int) = mn ((partsL l).length : Int) 3 := by unfold mn; split <;> omega
    refine ev_bind (lk_utf_Unquote hw (by omega)) ?_
    by_cases e : (unqR w).2 = 0
    · have hub := unqR_isBytes hw
      have hulen : (unqR w).1.length ≤ 300 := by
        unfold unqR at e ⊢
        split
        · simp
        · rename_i h37
          rw [if_neg h37] at e
          split
          · simp
          · rename_i s hs
            rw [hs] at e
            dsimp only at e ⊢
            split
            · have := refD_len w
              rw [refD_of w s hs] at this
              show s.length ≤ 300
              omega
            · simp
      simp only [txtR, if_pos e, lk_utf_Quote hub (by omega), Option.bind_some, str_eq (quoteF_isBytes hub) hw, if_pos (unqR_back e), c1, c2, c3, if_pos hmin]
      exact ev_bind lk_awake04 (ev_some _)
    · simp only [txtR, if_neg e, Option.bind_some, c1, c2, c3, if_pos hmin]
      exact ev_bind lk_awake04 (ev_some _)
  induction d with
  | zero =>
    intro i hi hd
    obtain rfl : i = (quoteF l).length := by omega
    exact hend
  | succ d ih =>
    intro i hi hd
    by_cases hlt : i < (quoteF l).length
    · obtain ⟨g1, g2⟩ := hgood i hlt
      refine ev_succ ?_
      simp only [annuletlaw04_UtfBack.l0, strOfNums_size, bt_str hqb]
      simp only [if_pos (show (i : Int) < ((quoteF l).length : Int) by omega), if_pos (show (0 : Int) ≤ (i : Int) by omega), if_neg (show ¬ rd (quoteF l) (i : Int) ≤ 32 by omega), if_neg g2]
      rw [w64 (by omega) (by omega)]
      exact ih (i + 1) (by omega) (by omega)
    · obtain rfl : i = (quoteF l).length := by omega
      exact hend
theorem UtfBack_law : annuletlaw04_UtfBack.Pure := by
  intro a0 a1 h0 h1
  obtain ⟨l, hb, rfl⟩ := str_of a0
  obtain ⟨w, hw, rfl⟩ := str_of a1
  have htrue : Ev (fun k => annuletlaw04_UtfBack.j0 k (strOfNums l) (strOfNums w) true) true := by
    refine ev_succ ?_
    simp only [annuletlaw04_UtfBack.j0, if_true]
    exact ev_bind lk_awake04 (ev_some _)
  refine Ev.rounds (g := fun k => annuletlaw04_UtfBack.f k (strOfNums l) (strOfNums w)) ?_
  unfold annuletlaw04_UtfBack.f
  simp only [strOfNums_size]
  by_cases c0 : (l.length : Int) > 300
  · simp only [if_pos c0]; exact htrue
  · simp only [if_neg c0]
    by_cases c1 : (w.length : Int) > 300
    · simp only [decide_eq_true c1]; exact htrue
    · simp only [decide_eq_false c1]
      have hqb := quoteF_isBytes hb
      have hql : (quoteF l).length ≤ 1201 := by
        unfold quoteF
        split
        · simp
        · have := quoteL_len l; omega
      have hu := lk_utf_Unquote hqb (by omega)
      rw [unqR_quote hb] at hu
      refine ev_succ ?_
      simp only [annuletlaw04_UtfBack.j0, Bool.false_eq_true, if_false, lk_utf_Quote hb (by omega), Option.bind_some]
      refine ev_bind hu ?_
      have hne : ((strOfNums (quoteF l)).toList == ([] : List UInt8)) = false := by
        rw [beq_eq_false_iff_ne]
        intro e
        rw [str_nil] at e
        have := unqR_quote hb
        rw [e] at this
        have h2 := congrArg Prod.snd this
        simp [unqR, unqL] at h2
      simp only [txtR, if_true, hne]
      refine ev_succ ?_
      simp only [annuletlaw04_UtfBack.j1, Bool.false_eq_true, if_false]
      exact UtfBack_l0 l w hb hw (by omega) (by omega) _ 0 (by omega) (Nat.le_refl _)
end Go.Proofs.YtffhcongfbnbiaaDoor.PUtfBack
namespace Go.Proofs.YtffhcongfbnbiaaDoor.Pure
open Go.Proofs.YtffhcongfbnbiaaDoor.PUtfBack
theorem UtfBack : annuletlaw04_UtfBack.Pure := UtfBack_law
end Go.Proofs.YtffhcongfbnbiaaDoor.Pure
