/- Written by a program of this session (a turned copy of the kit's print): functions of the program, each with the Lean function that it comes to, and the row of one law. No condition. -/
import Derived.Test.YtekcnfngcgchcaaPBenParsesx0
import Derived.Test.YtekcnfngcgchcaaPBenParsesx5
import Derived.Test.YtekcnfngcgchcaaPBenParsesx6
import Derived.Test.YtekcnfngcgchcaaPBenParsesx7
namespace Go.Proofs.Ytekcnfngcgchcaa.PBenParses
open Go.RowKit Go.Proofs.YtekcnfngcgchcaaW.PrintWords Go.Proofs.YtekcnfngcgchcaaW.PrintLast Go.Proofs.YtekcnfngcgchcaaW.PrintMore
attribute [local go_sem] max2_int min2_int max_two min_two max_three min_three max_four min_four   -- for this text's walks alone
set_option linter.unusedVariables false
set_option linter.unusedSimpArgs false


/-! ### annuletref12_Parse: function 12 -/
/-! ### the document's parser -/
mutual
def rv.f : Nat → ByteArray → Int → Int → Option (S25 × Int × Int)
  | 0, _, _, _ => none
  | k + 1, s, at_, ahead => if at_ ≥ (s.size : Int) then some (z25, 0, 2) else if 0 ≤ at_ then
      (annuletref12_digit.f (bt s at_)).bind fun dg =>
      if dg = false ∧ bt s at_ ≠ 105 ∧ bt s at_ ≠ 108 ∧ bt s at_ ≠ 100 then some (z25, 0, 3)
      else if ahead > 7 then some (z25, 0, 6)
      else if dg = true then (annuletref12_word.f k s at_).bind fun r => if r.2.2 = 0 then some (⟨2, 0, r.1, [], []⟩, r.2.1, 0) else some (z25, 0, r.2.2)
      else if bt s at_ = 105 then (annuletref12_number.f k s (wrap64 (at_ + 1)) 101).bind fun r => if r.2.2 = 0 then some (⟨1, r.1, ⟨#[]⟩, [], []⟩, r.2.1, 0) else some (z25, 0, r.2.2)
      else rl.f k s (wrap64 (at_ + 1)) ahead (bt s at_ == 100) ⟨if (bt s at_ == 100) = true then 4 else 3, 0, ⟨#[]⟩, [], []⟩
    else none
def rl.f : Nat → ByteArray → Int → Int → Bool → S25 → Option (S25 × Int × Int)
  | 0, _, _, _, _, _ => none
  | k + 1, s, at_, ahead, dict, T =>
    if at_ < (s.size : Int) ∧ 0 ≤ at_ ∧ bt s at_ = 101 then some (T, wrap64 (at_ + 1), 0)
    else if 0 ≤ at_ ∧ T.f3.length < 1099511627776 ∧ T.f4.length < 1099511627776 then
      (((if dict = true then (if at_ ≥ (s.size : Int) then some (T.f3, 0, 2) else (annuletref12_digit.f (bt s at_)).bind fun dg => if dg = true then (annuletref12_word.f k s at_).bind fun r => if r.2.2 = 0 then
          (match T.f3.getLast? with | none => some (T.f3 ++ [r.1], r.2.1, 0) | some y => (annuletref11_Less.f k y r.1).bind fun lt => if lt = true then some (T.f3 ++ [r.1], r.2.1, 0) else some (T.f3, 0, 3))
          else some (T.f3, 0, r.2.2) else some (T.f3, 0, 3)) else some (T.f3, at_, 0)) : Option (List ByteArray × Int × Int)).bind fun q =>
        if q.2.2 = 0 then (rv.f k s q.2.1 (wrap64 (ahead + 1))).bind fun r => if r.2.2 = 0 then rl.f k s r.2.1 ahead dict ⟨T.f0, T.f1, T.f2, q.1, T.f4 ++ [r.1]⟩ else some (z25, 0, r.2.2)
        else some (z25, 0, q.2.2))
    else none
end
def RvC (k : Nat) : Prop := ∀ (s : ByteArray) (at_ ahead : Int) (T : S25) (k1 e0 : Int) (w : World), rv.f k s at_ ahead = some (T, k1, e0) → Calls Try.prog 20 #[.string s, .int .i64 at_, .int .i64 ahead] w fun e w2 => ∃ v3 v4 : Value, e = .returned (.tuple #[.agg #[.int .i64 T.f0, .int .i64 T.f1, .string T.f2, v3, v4], .int .i64 k1, .int .i64 e0]) ∧ Kd.string.R 9 w2 w.heap.size (fun _ => True) v3 T.f3 ∧ k25.R 25 w2 w.heap.size (fun k => some k ≠ v3.ownBlock) v4 T.f4 ∧ Below w.heap.size w w2
def RlC (k : Nat) : Prop := ∀ (s : ByteArray) (at_ ahead : Int) (dict : Bool) (T : S25) (k1 e0 : Int) (w : World), rl.f k s at_ ahead dict ⟨if dict = true then 4 else 3, 0, ⟨#[]⟩, [], []⟩ = some (T, k1, e0) → Calls Try.prog 35 #[.string s, .int .i64 at_, .int .i64 ahead, .bool dict] w fun e w2 => ∃ v3 v4 : Value, e = .returned (.tuple #[.agg #[.int .i64 T.f0, .int .i64 T.f1, .string T.f2, v3, v4], .int .i64 k1, .int .i64 e0]) ∧ Kd.string.R 9 w2 w.heap.size (fun _ => True) v3 T.f3 ∧ k25.R 25 w2 w.heap.size (fun k => some k ≠ v3.ownBlock) v4 T.f4 ∧ Below w.heap.size w w2
set_option maxHeartbeats 4000000 in
set_option maxRecDepth 100000 in
theorem rv_of (k : Nat) (hL : RlC k) : RvC (k + 1) := by
  intro s at_ ahead T k1 e0 w h
  unfold RlC at hL
  have HLC := Aside0.mk hL
  have hu25 := Try.underlying25
  clear hL
  have HB0 := Aside0.mk (show Below w.heap.size w ((w.alloc (.cells #[.int .i64 0, .int .i64 0, .string ⟨#[]⟩, .slice none 0 0, .slice none 0 0] 25)).alloc (.cells #[.int .i64 0, .int .i64 0, .string ⟨#[]⟩, .slice none 0 0, .slice none 0 0] 25)) from below_alloc (below_alloc (Below.refl _ _) _) _)
  have hn := blk_new (w.alloc (.cells #[.int .i64 0, .int .i64 0, .string ⟨#[]⟩, .slice none 0 0, .slice none 0 0] 25)) (.cells #[.int .i64 0, .int .i64 0, .string ⟨#[]⟩, .slice none 0 0, .slice none 0 0] 25)
  have hs : (w.alloc (.cells #[.int .i64 0, .int .i64 0, .string ⟨#[]⟩, .slice none 0 0, .slice none 0 0] 25)).heap.size = w.heap.size + 1 := by simp
  rw [hs] at hn
  have HZ6 := Aside0.mk (show ((w.alloc (.cells #[.int .i64 0, .int .i64 0, .string ⟨#[]⟩, .slice none 0 0, .slice none 0 0] 25)).alloc (.cells #[.int .i64 0, .int .i64 0, .string ⟨#[]⟩, .slice none 0 0, .slice none 0 0] 25)).heap[w.heap.size]? = some (.cells #[.int .i64 0, .int .i64 0, .string ⟨#[]⟩, .slice none 0 0, .slice none 0 0] 25 (0, 0)) from blk_alloc (blk_new w _) _)
  have HZ9 := Aside0.mk hn
  clear hn hs
  rw [rv.f] at h
  by_cases c1 : at_ ≥ (s.size : Int)
  · rw [if_pos c1] at h
    cases h
    have d1 : decide ((s.size : Int) ≤ at_) = true := decide_eq_true c1
    clear c1
    go_enter Try.func20, Try.ntmps20
    go_upto_region 2 with (fail)
    generalize (w.alloc (.cells #[.int .i64 0, .int .i64 0, .string ⟨#[]⟩, .slice none 0 0, .slice none 0 0] 25)).alloc (.cells #[.int .i64 0, .int .i64 0, .string ⟨#[]⟩, .slice none 0 0, .slice none 0 0] 25) = wA at HB0 HZ6 HZ9 ⊢
    have ha0 : wA.cell? ⟨w.heap.size, 0, none⟩ = some _ := (blk_cell HZ6.out 0).trans rfl
    have ha1 : wA.cell? ⟨w.heap.size, 1, none⟩ = some _ := (blk_cell HZ6.out 1).trans rfl
    have ha2 : wA.cell? ⟨w.heap.size, 2, none⟩ = some _ := (blk_cell HZ6.out 2).trans rfl
    have ha3 : wA.cell? ⟨w.heap.size, 3, none⟩ = some _ := (blk_cell HZ6.out 3).trans rfl
    have ha4 : wA.cell? ⟨w.heap.size, 4, none⟩ = some _ := (blk_cell HZ6.out 4).trans rfl
    have fa0 := blk_frozen HZ6.out 0
    have fa1 := blk_frozen HZ6.out 1
    have fa2 := blk_frozen HZ6.out 2
    have fa3 := blk_frozen HZ6.out 3
    have fa4 := blk_frozen HZ6.out 4
    have hb0 : wA.cell? ⟨w.heap.size + 1, 0, none⟩ = some _ := (blk_cell HZ9.out 0).trans rfl
    have hb1 : wA.cell? ⟨w.heap.size + 1, 1, none⟩ = some _ := (blk_cell HZ9.out 1).trans rfl
    have hb2 : wA.cell? ⟨w.heap.size + 1, 2, none⟩ = some _ := (blk_cell HZ9.out 2).trans rfl
    have hb3 : wA.cell? ⟨w.heap.size + 1, 3, none⟩ = some _ := (blk_cell HZ9.out 3).trans rfl
    have hb4 : wA.cell? ⟨w.heap.size + 1, 4, none⟩ = some _ := (blk_cell HZ9.out 4).trans rfl
    have fb0 := blk_frozen HZ9.out 0
    have fb1 := blk_frozen HZ9.out 1
    have fb2 := blk_frozen HZ9.out 2
    have fb3 := blk_frozen HZ9.out 3
    have fb4 := blk_frozen HZ9.out 4
    go_wp2
    refine bodyPost_ret (results_ctt rfl _ _ w.heap.size 25 #[.int .i64 0, .int .i64 0, .string ⟨#[]⟩, .slice none 0 0, .slice none 0 0] (0, 0) _ rfl (put5 HZ6.out _ _ _ _ _) Try.underlying25 rfl (by kernel_rfl)) rfl ?_
    exact ⟨_, _, rfl, Kd.R_nil _ _ _ _ _, Kd.R_nil _ _ _ _ _, (((((HB0.out.setCell (Nat.le_refl _) _).setCell (Nat.le_refl _) _).setCell (Nat.le_refl _) _).setCell (Nat.le_refl _) _).setCell (Nat.le_refl _) _)⟩
  rw [if_neg c1] at h
  have d1 : decide ((s.size : Int) ≤ at_) = false := decide_eq_false c1
  by_cases c2 : 0 ≤ at_
  case neg => rw [if_neg c2] at h; cases h
  rw [if_pos c2] at h
  have p6 := eq_true c2
  have q6 := eq_true (show at_ < (s.size : Int) by omega)
  have hx := bt_at s at_
  have hw1 : wrap64 (at_ + 1) = wrap64 (at_ + 1) := rfl
  obtain ⟨c, hc⟩ : ∃ c, bt s at_ = c := ⟨_, rfl⟩
  rw [hc] at hx h
  obtain ⟨dg, hdg, h⟩ := Option.bind_eq_some_iff.mp h
  have HDG := Aside0.mk hdg
  clear c1 c2 hc hdg hw1
  cases dg with
  | true =>
    rw [if_neg (fun hh => by cases hh.1)] at h
    by_cases ca : ahead > 7
    · rw [if_pos ca] at h
      cases h
      have d7 : decide (7 < ahead) = true := decide_eq_true ca
      clear ca
      go_enter Try.func20, Try.ntmps20
      go_upto_region 2 with (fail)
      generalize (w.alloc (.cells #[.int .i64 0, .int .i64 0, .string ⟨#[]⟩, .slice none 0 0, .slice none 0 0] 25)).alloc (.cells #[.int .i64 0, .int .i64 0, .string ⟨#[]⟩, .slice none 0 0, .slice none 0 0] 25) = wA at HB0 HZ6 HZ9 ⊢
      have ha0 : wA.cell? ⟨w.heap.size, 0, none⟩ = some _ := (blk_cell HZ6.out 0).trans rfl
      have ha1 : wA.cell? ⟨w.heap.size, 1, none⟩ = some _ := (blk_cell HZ6.out 1).trans rfl
      have ha2 : wA.cell? ⟨w.heap.size, 2, none⟩ = some _ := (blk_cell HZ6.out 2).trans rfl
      have ha3 : wA.cell? ⟨w.heap.size, 3, none⟩ = some _ := (blk_cell HZ6.out 3).trans rfl
      have ha4 : wA.cell? ⟨w.heap.size, 4, none⟩ = some _ := (blk_cell HZ6.out 4).trans rfl
      have fa0 := blk_frozen HZ6.out 0
      have fa1 := blk_frozen HZ6.out 1
      have fa2 := blk_frozen HZ6.out 2
      have fa3 := blk_frozen HZ6.out 3
      have fa4 := blk_frozen HZ6.out 4
      have hb0 : wA.cell? ⟨w.heap.size + 1, 0, none⟩ = some _ := (blk_cell HZ9.out 0).trans rfl
      have hb1 : wA.cell? ⟨w.heap.size + 1, 1, none⟩ = some _ := (blk_cell HZ9.out 1).trans rfl
      have hb2 : wA.cell? ⟨w.heap.size + 1, 2, none⟩ = some _ := (blk_cell HZ9.out 2).trans rfl
      have hb3 : wA.cell? ⟨w.heap.size + 1, 3, none⟩ = some _ := (blk_cell HZ9.out 3).trans rfl
      have hb4 : wA.cell? ⟨w.heap.size + 1, 4, none⟩ = some _ := (blk_cell HZ9.out 4).trans rfl
      have fb0 := blk_frozen HZ9.out 0
      have fb1 := blk_frozen HZ9.out 1
      have fb2 := blk_frozen HZ9.out 2
      have fb3 := blk_frozen HZ9.out 3
      have fb4 := blk_frozen HZ9.out 4
      go_wp2_with ((go_at_call 32; (with_reducible refine (annuletref12_digit.calls c true _ HDG.out).mono ?_); rintro e w1 ⟨rfl, ⟨nd, rfl⟩⟩))
      refine bodyPost_ret (results_ctt rfl _ _ w.heap.size 25 #[.int .i64 0, .int .i64 0, .string ⟨#[]⟩, .slice none 0 0, .slice none 0 0] (0, 0) _ rfl (put5 (blk_drewN HZ6.out _) _ _ _ _ _) Try.underlying25 rfl (by kernel_rfl)) rfl ?_
      exact ⟨_, _, rfl, Kd.R_nil _ _ _ _ _, Kd.R_nil _ _ _ _ _, ((((((pw_below_drewN HB0.out _).setCell (Nat.le_refl _) _).setCell (Nat.le_refl _) _).setCell (Nat.le_refl _) _).setCell (Nat.le_refl _) _).setCell (Nat.le_refl _) _)⟩
    rw [if_neg ca] at h
    have d7 : decide (7 < ahead) = false := decide_eq_false ca
    clear ca
    rw [if_pos rfl] at h
    obtain ⟨⟨x, k2, e2⟩, hC, h⟩ := Option.bind_eq_some_iff.mp h
    have HC := Aside0.mk hC
    clear hC
    by_cases ce : e2 = 0
    · rw [if_pos ce] at h
      cases h
      have de : (e2 != 0) = false := bne_eq_false_iff_eq.mpr ce
      clear ce
      go_enter Try.func20, Try.ntmps20
      go_upto_region 2 with (fail)
      generalize (w.alloc (.cells #[.int .i64 0, .int .i64 0, .string ⟨#[]⟩, .slice none 0 0, .slice none 0 0] 25)).alloc (.cells #[.int .i64 0, .int .i64 0, .string ⟨#[]⟩, .slice none 0 0, .slice none 0 0] 25) = wA at HB0 HZ6 HZ9 ⊢
      have ha0 : wA.cell? ⟨w.heap.size, 0, none⟩ = some _ := (blk_cell HZ6.out 0).trans rfl
      have ha1 : wA.cell? ⟨w.heap.size, 1, none⟩ = some _ := (blk_cell HZ6.out 1).trans rfl
      have ha2 : wA.cell? ⟨w.heap.size, 2, none⟩ = some _ := (blk_cell HZ6.out 2).trans rfl
      have ha3 : wA.cell? ⟨w.heap.size, 3, none⟩ = some _ := (blk_cell HZ6.out 3).trans rfl
      have ha4 : wA.cell? ⟨w.heap.size, 4, none⟩ = some _ := (blk_cell HZ6.out 4).trans rfl
      have fa0 := blk_frozen HZ6.out 0
      have fa1 := blk_frozen HZ6.out 1
      have fa2 := blk_frozen HZ6.out 2
      have fa3 := blk_frozen HZ6.out 3
      have fa4 := blk_frozen HZ6.out 4
      have hb0 : wA.cell? ⟨w.heap.size + 1, 0, none⟩ = some _ := (blk_cell HZ9.out 0).trans rfl
      have hb1 : wA.cell? ⟨w.heap.size + 1, 1, none⟩ = some _ := (blk_cell HZ9.out 1).trans rfl
      have hb2 : wA.cell? ⟨w.heap.size + 1, 2, none⟩ = some _ := (blk_cell HZ9.out 2).trans rfl
      have hb3 : wA.cell? ⟨w.heap.size + 1, 3, none⟩ = some _ := (blk_cell HZ9.out 3).trans rfl
      have hb4 : wA.cell? ⟨w.heap.size + 1, 4, none⟩ = some _ := (blk_cell HZ9.out 4).trans rfl
      have fb0 := blk_frozen HZ9.out 0
      have fb1 := blk_frozen HZ9.out 1
      have fb2 := blk_frozen HZ9.out 2
      have fb3 := blk_frozen HZ9.out 3
      have fb4 := blk_frozen HZ9.out 4
      go_wp2_with (first | (go_at_call 32; (with_reducible refine (annuletref12_digit.calls c true _ HDG.out).mono ?_); rintro e w1 ⟨rfl, ⟨nd, rfl⟩⟩) | (go_at_call 33; (with_reducible refine (annuletref12_word.calls k s at_ x _ e2 _ HC.out).mono ?_); rintro e w3 ⟨rfl, hb⟩; have HB3 := Aside0.mk (below_step (pw_below_drewN HB0.out _) hb); have HZ3 := Aside0.mk (blk_below (blk_drewN HZ6.out _) hb); have HY3 := Aside0.mk (blk_below (blk_drewN HZ9.out _) hb); have hc0 : w3.cell? ⟨w.heap.size, 0, none⟩ = some _ := (blk_cell HZ3.out 0).trans rfl; have hc1 : w3.cell? ⟨w.heap.size, 1, none⟩ = some _ := (blk_cell HZ3.out 1).trans rfl; have hc2 : w3.cell? ⟨w.heap.size, 2, none⟩ = some _ := (blk_cell HZ3.out 2).trans rfl; have hc3 : w3.cell? ⟨w.heap.size, 3, none⟩ = some _ := (blk_cell HZ3.out 3).trans rfl; have hc4 : w3.cell? ⟨w.heap.size, 4, none⟩ = some _ := (blk_cell HZ3.out 4).trans rfl; have fc0 := blk_frozen HZ3.out 0; have fc1 := blk_frozen HZ3.out 1; have fc2 := blk_frozen HZ3.out 2; have fc3 := blk_frozen HZ3.out 3; have fc4 := blk_frozen HZ3.out 4; have he0 : w3.cell? ⟨w.heap.size + 1, 0, none⟩ = some _ := (blk_cell HY3.out 0).trans rfl; have he1 : w3.cell? ⟨w.heap.size + 1, 1, none⟩ = some _ := (blk_cell HY3.out 1).trans rfl; have he2 : w3.cell? ⟨w.heap.size + 1, 2, none⟩ = some _ := (blk_cell HY3.out 2).trans rfl; have he3 : w3.cell? ⟨w.heap.size + 1, 3, none⟩ = some _ := (blk_cell HY3.out 3).trans rfl; have he4 : w3.cell? ⟨w.heap.size + 1, 4, none⟩ = some _ := (blk_cell HY3.out 4).trans rfl; have fe0 := blk_frozen HY3.out 0; have fe1 := blk_frozen HY3.out 1; have fe2 := blk_frozen HY3.out 2; have fe3 := blk_frozen HY3.out 3; have fe4 := blk_frozen HY3.out 4; clear hb))
      refine bodyPost_ret (results_ctt rfl _ _ w.heap.size 25 #[.int .i64 2, .int .i64 0, .string x, .slice none 0 0, .slice none 0 0] (0, 0) _ rfl (put5 HZ3.out _ _ _ _ _) Try.underlying25 rfl (by kernel_rfl)) rfl ?_
      exact ⟨_, _, rfl, Kd.R_nil _ _ _ _ _, Kd.R_nil _ _ _ _ _, (((((HB3.out.setCell (Nat.le_refl _) _).setCell (Nat.le_refl _) _).setCell (Nat.le_refl _) _).setCell (Nat.le_refl _) _).setCell (Nat.le_refl _) _)⟩
    · rw [if_neg ce] at h
      cases h
      have de : (e2 != 0) = true := bne_iff_ne.mpr ce
      clear ce
      go_enter Try.func20, Try.ntmps20
      go_upto_region 2 with (fail)
      generalize (w.alloc (.cells #[.int .i64 0, .int .i64 0, .string ⟨#[]⟩, .slice none 0 0, .slice none 0 0] 25)).alloc (.cells #[.int .i64 0, .int .i64 0, .string ⟨#[]⟩, .slice none 0 0, .slice none 0 0] 25) = wA at HB0 HZ6 HZ9 ⊢
      have ha0 : wA.cell? ⟨w.heap.size, 0, none⟩ = some _ := (blk_cell HZ6.out 0).trans rfl
      have ha1 : wA.cell? ⟨w.heap.size, 1, none⟩ = some _ := (blk_cell HZ6.out 1).trans rfl
      have ha2 : wA.cell? ⟨w.heap.size, 2, none⟩ = some _ := (blk_cell HZ6.out 2).trans rfl
      have ha3 : wA.cell? ⟨w.heap.size, 3, none⟩ = some _ := (blk_cell HZ6.out 3).trans rfl
      have ha4 : wA.cell? ⟨w.heap.size, 4, none⟩ = some _ := (blk_cell HZ6.out 4).trans rfl
      have fa0 := blk_frozen HZ6.out 0
      have fa1 := blk_frozen HZ6.out 1
      have fa2 := blk_frozen HZ6.out 2
      have fa3 := blk_frozen HZ6.out 3
      have fa4 := blk_frozen HZ6.out 4
      have hb0 : wA.cell? ⟨w.heap.size + 1, 0, none⟩ = some _ := (blk_cell HZ9.out 0).trans rfl
      have hb1 : wA.cell? ⟨w.heap.size + 1, 1, none⟩ = some _ := (blk_cell HZ9.out 1).trans rfl
      have hb2 : wA.cell? ⟨w.heap.size + 1, 2, none⟩ = some _ := (blk_cell HZ9.out 2).trans rfl
      have hb3 : wA.cell? ⟨w.heap.size + 1, 3, none⟩ = some _ := (blk_cell HZ9.out 3).trans rfl
      have hb4 : wA.cell? ⟨w.heap.size + 1, 4, none⟩ = some _ := (blk_cell HZ9.out 4).trans rfl
      have fb0 := blk_frozen HZ9.out 0
      have fb1 := blk_frozen HZ9.out 1
      have fb2 := blk_frozen HZ9.out 2
      have fb3 := blk_frozen HZ9.out 3
      have fb4 := blk_frozen HZ9.out 4
      go_wp2_with (first | (go_at_call 32; (with_reducible refine (annuletref12_digit.calls c true _ HDG.out).mono ?_); rintro e w1 ⟨rfl, ⟨nd, rfl⟩⟩) | (go_at_call 33; (with_reducible refine (annuletref12_word.calls k s at_ x _ e2 _ HC.out).mono ?_); rintro e w3 ⟨rfl, hb⟩; have HB3 := Aside0.mk (below_step (pw_below_drewN HB0.out _) hb); have HZ3 := Aside0.mk (blk_below (blk_drewN HZ6.out _) hb); have HY3 := Aside0.mk (blk_below (blk_drewN HZ9.out _) hb); have hc0 : w3.cell? ⟨w.heap.size, 0, none⟩ = some _ := (blk_cell HZ3.out 0).trans rfl; have hc1 : w3.cell? ⟨w.heap.size, 1, none⟩ = some _ := (blk_cell HZ3.out 1).trans rfl; have hc2 : w3.cell? ⟨w.heap.size, 2, none⟩ = some _ := (blk_cell HZ3.out 2).trans rfl; have hc3 : w3.cell? ⟨w.heap.size, 3, none⟩ = some _ := (blk_cell HZ3.out 3).trans rfl; have hc4 : w3.cell? ⟨w.heap.size, 4, none⟩ = some _ := (blk_cell HZ3.out 4).trans rfl; have fc0 := blk_frozen HZ3.out 0; have fc1 := blk_frozen HZ3.out 1; have fc2 := blk_frozen HZ3.out 2; have fc3 := blk_frozen HZ3.out 3; have fc4 := blk_frozen HZ3.out 4; have he0 : w3.cell? ⟨w.heap.size + 1, 0, none⟩ = some _ := (blk_cell HY3.out 0).trans rfl; have he1 : w3.cell? ⟨w.heap.size + 1, 1, none⟩ = some _ := (blk_cell HY3.out 1).trans rfl; have he2 : w3.cell? ⟨w.heap.size + 1, 2, none⟩ = some _ := (blk_cell HY3.out 2).trans rfl; have he3 : w3.cell? ⟨w.heap.size + 1, 3, none⟩ = some _ := (blk_cell HY3.out 3).trans rfl; have he4 : w3.cell? ⟨w.heap.size + 1, 4, none⟩ = some _ := (blk_cell HY3.out 4).trans rfl; have fe0 := blk_frozen HY3.out 0; have fe1 := blk_frozen HY3.out 1; have fe2 := blk_frozen HY3.out 2; have fe3 := blk_frozen HY3.out 3; have fe4 := blk_frozen HY3.out 4; clear hb))
      refine bodyPost_ret (results_ctt rfl _ _ w.heap.size 25 #[.int .i64 0, .int .i64 0, .string ⟨#[]⟩, .slice none 0 0, .slice none 0 0] (0, 0) _ rfl (put5 HZ3.out _ _ _ _ _) Try.underlying25 rfl (by kernel_rfl)) rfl ?_
      exact ⟨_, _, rfl, Kd.R_nil _ _ _ _ _, Kd.R_nil _ _ _ _ _, (((((HB3.out.setCell (Nat.le_refl _) _).setCell (Nat.le_refl _) _).setCell (Nat.le_refl _) _).setCell (Nat.le_refl _) _).setCell (Nat.le_refl _) _)⟩
  | false =>
    by_cases a1 : c = 105
    · subst a1
      rw [if_neg (fun hh => hh.2.1 rfl)] at h
      by_cases ca : ahead > 7
      · rw [if_pos ca] at h
        cases h
        have d7 : decide (7 < ahead) = true := decide_eq_true ca
        clear ca
        go_enter Try.func20, Try.ntmps20
        go_upto_region 2 with (fail)
        generalize (w.alloc (.cells #[.int .i64 0, .int .i64 0, .string ⟨#[]⟩, .slice none 0 0, .slice none 0 0] 25)).alloc (.cells #[.int .i64 0, .int .i64 0, .string ⟨#[]⟩, .slice none 0 0, .slice none 0 0] 25) = wA at HB0 HZ6 HZ9 ⊢
        have ha0 : wA.cell? ⟨w.heap.size, 0, none⟩ = some _ := (blk_cell HZ6.out 0).trans rfl
        have ha1 : wA.cell? ⟨w.heap.size, 1, none⟩ = some _ := (blk_cell HZ6.out 1).trans rfl
        have ha2 : wA.cell? ⟨w.heap.size, 2, none⟩ = some _ := (blk_cell HZ6.out 2).trans rfl
        have ha3 : wA.cell? ⟨w.heap.size, 3, none⟩ = some _ := (blk_cell HZ6.out 3).trans rfl
        have ha4 : wA.cell? ⟨w.heap.size, 4, none⟩ = some _ := (blk_cell HZ6.out 4).trans rfl
        have fa0 := blk_frozen HZ6.out 0
        have fa1 := blk_frozen HZ6.out 1
        have fa2 := blk_frozen HZ6.out 2
        have fa3 := blk_frozen HZ6.out 3
        have fa4 := blk_frozen HZ6.out 4
        have hb0 : wA.cell? ⟨w.heap.size + 1, 0, none⟩ = some _ := (blk_cell HZ9.out 0).trans rfl
        have hb1 : wA.cell? ⟨w.heap.size + 1, 1, none⟩ = some _ := (blk_cell HZ9.out 1).trans rfl
        have hb2 : wA.cell? ⟨w.heap.size + 1, 2, none⟩ = some _ := (blk_cell HZ9.out 2).trans rfl
        have hb3 : wA.cell? ⟨w.heap.size + 1, 3, none⟩ = some _ := (blk_cell HZ9.out 3).trans rfl
        have hb4 : wA.cell? ⟨w.heap.size + 1, 4, none⟩ = some _ := (blk_cell HZ9.out 4).trans rfl
        have fb0 := blk_frozen HZ9.out 0
        have fb1 := blk_frozen HZ9.out 1
        have fb2 := blk_frozen HZ9.out 2
        have fb3 := blk_frozen HZ9.out 3
        have fb4 := blk_frozen HZ9.out 4
        go_wp2_with ((go_at_call 32; (with_reducible refine (annuletref12_digit.calls 105 false _ HDG.out).mono ?_); rintro e w1 ⟨rfl, ⟨nd, rfl⟩⟩))
        refine bodyPost_ret (results_ctt rfl _ _ w.heap.size 25 #[.int .i64 0, .int .i64 0, .string ⟨#[]⟩, .slice none 0 0, .slice none 0 0] (0, 0) _ rfl (put5 (blk_drewN HZ6.out _) _ _ _ _ _) Try.underlying25 rfl (by kernel_rfl)) rfl ?_
        exact ⟨_, _, rfl, Kd.R_nil _ _ _ _ _, Kd.R_nil _ _ _ _ _, ((((((pw_below_drewN HB0.out _).setCell (Nat.le_refl _) _).setCell (Nat.le_refl _) _).setCell (Nat.le_refl _) _).setCell (Nat.le_refl _) _).setCell (Nat.le_refl _) _)⟩
      rw [if_neg ca] at h
      have d7 : decide (7 < ahead) = false := decide_eq_false ca
      clear ca
      rw [if_neg (by simp), if_pos rfl] at h
      obtain ⟨⟨n, k2, e2⟩, hC, h⟩ := Option.bind_eq_some_iff.mp h
      have HC := Aside0.mk hC
      clear hC
      by_cases ce : e2 = 0
      · rw [if_pos ce] at h
        cases h
        have de : (e2 != 0) = false := bne_eq_false_iff_eq.mpr ce
        clear ce
        go_enter Try.func20, Try.ntmps20
        go_upto_region 2 with (fail)
        generalize (w.alloc (.cells #[.int .i64 0, .int .i64 0, .string ⟨#[]⟩, .slice none 0 0, .slice none 0 0] 25)).alloc (.cells #[.int .i64 0, .int .i64 0, .string ⟨#[]⟩, .slice none 0 0, .slice none 0 0] 25) = wA at HB0 HZ6 HZ9 ⊢
        have ha0 : wA.cell? ⟨w.heap.size, 0, none⟩ = some _ := (blk_cell HZ6.out 0).trans rfl
        have ha1 : wA.cell? ⟨w.heap.size, 1, none⟩ = some _ := (blk_cell HZ6.out 1).trans rfl
        have ha2 : wA.cell? ⟨w.heap.size, 2, none⟩ = some _ := (blk_cell HZ6.out 2).trans rfl
        have ha3 : wA.cell? ⟨w.heap.size, 3, none⟩ = some _ := (blk_cell HZ6.out 3).trans rfl
        have ha4 : wA.cell? ⟨w.heap.size, 4, none⟩ = some _ := (blk_cell HZ6.out 4).trans rfl
        have fa0 := blk_frozen HZ6.out 0
        have fa1 := blk_frozen HZ6.out 1
        have fa2 := blk_frozen HZ6.out 2
        have fa3 := blk_frozen HZ6.out 3
        have fa4 := blk_frozen HZ6.out 4
        have hb0 : wA.cell? ⟨w.heap.size + 1, 0, none⟩ = some _ := (blk_cell HZ9.out 0).trans rfl
        have hb1 : wA.cell? ⟨w.heap.size + 1, 1, none⟩ = some _ := (blk_cell HZ9.out 1).trans rfl
        have hb2 : wA.cell? ⟨w.heap.size + 1, 2, none⟩ = some _ := (blk_cell HZ9.out 2).trans rfl
        have hb3 : wA.cell? ⟨w.heap.size + 1, 3, none⟩ = some _ := (blk_cell HZ9.out 3).trans rfl
        have hb4 : wA.cell? ⟨w.heap.size + 1, 4, none⟩ = some _ := (blk_cell HZ9.out 4).trans rfl
        have fb0 := blk_frozen HZ9.out 0
        have fb1 := blk_frozen HZ9.out 1
        have fb2 := blk_frozen HZ9.out 2
        have fb3 := blk_frozen HZ9.out 3
        have fb4 := blk_frozen HZ9.out 4
        go_wp2_with (first | (go_at_call 32; (with_reducible refine (annuletref12_digit.calls 105 false _ HDG.out).mono ?_); rintro e w1 ⟨rfl, ⟨nd, rfl⟩⟩) | (go_at_call 34; (with_reducible refine (annuletref12_number.calls k s (wrap64 (at_ + 1)) 101 n _ e2 _ HC.out).mono ?_); rintro e w3 ⟨rfl, hb⟩; have HB3 := Aside0.mk (below_step (pw_below_drewN HB0.out _) hb); have HZ3 := Aside0.mk (blk_below (blk_drewN HZ6.out _) hb); have HY3 := Aside0.mk (blk_below (blk_drewN HZ9.out _) hb); have hc0 : w3.cell? ⟨w.heap.size, 0, none⟩ = some _ := (blk_cell HZ3.out 0).trans rfl; have hc1 : w3.cell? ⟨w.heap.size, 1, none⟩ = some _ := (blk_cell HZ3.out 1).trans rfl; have hc2 : w3.cell? ⟨w.heap.size, 2, none⟩ = some _ := (blk_cell HZ3.out 2).trans rfl; have hc3 : w3.cell? ⟨w.heap.size, 3, none⟩ = some _ := (blk_cell HZ3.out 3).trans rfl; have hc4 : w3.cell? ⟨w.heap.size, 4, none⟩ = some _ := (blk_cell HZ3.out 4).trans rfl; have fc0 := blk_frozen HZ3.out 0; have fc1 := blk_frozen HZ3.out 1; have fc2 := blk_frozen HZ3.out 2; have fc3 := blk_frozen HZ3.out 3; have fc4 := blk_frozen HZ3.out 4; have he0 : w3.cell? ⟨w.heap.size + 1, 0, none⟩ = some _ := (blk_cell HY3.out 0).trans rfl; have he1 : w3.cell? ⟨w.heap.size + 1, 1, none⟩ = some _ := (blk_cell HY3.out 1).trans rfl; have he2 : w3.cell? ⟨w.heap.size + 1, 2, none⟩ = some _ := (blk_cell HY3.out 2).trans rfl; have he3 : w3.cell? ⟨w.heap.size + 1, 3, none⟩ = some _ := (blk_cell HY3.out 3).trans rfl; have he4 : w3.cell? ⟨w.heap.size + 1, 4, none⟩ = some _ := (blk_cell HY3.out 4).trans rfl; have fe0 := blk_frozen HY3.out 0; have fe1 := blk_frozen HY3.out 1; have fe2 := blk_frozen HY3.out 2; have fe3 := blk_frozen HY3.out 3; have fe4 := blk_frozen HY3.out 4; clear hb))
        refine bodyPost_ret (results_ctt rfl _ _ w.heap.size 25 #[.int .i64 1, .int .i64 n, .string ⟨#[]⟩, .slice none 0 0, .slice none 0 0] (0, 0) _ rfl (put5 HZ3.out _ _ _ _ _) Try.underlying25 rfl (by kernel_rfl)) rfl ?_
        exact ⟨_, _, rfl, Kd.R_nil _ _ _ _ _, Kd.R_nil _ _ _ _ _, (((((HB3.out.setCell (Nat.le_refl _) _).setCell (Nat.le_refl _) _).setCell (Nat.le_refl _) _).setCell (Nat.le_refl _) _).setCell (Nat.le_refl _) _)⟩
      · rw [if_neg ce] at h
        cases h
        have de : (e2 != 0) = true := bne_iff_ne.mpr ce
        clear ce
        go_enter Try.func20, Try.ntmps20
        go_upto_region 2 with (fail)
        generalize (w.alloc (.cells #[.int .i64 0, .int .i64 0, .string ⟨#[]⟩, .slice none 0 0, .slice none 0 0] 25)).alloc (.cells #[.int .i64 0, .int .i64 0, .string ⟨#[]⟩, .slice none 0 0, .slice none 0 0] 25) = wA at HB0 HZ6 HZ9 ⊢
        have ha0 : wA.cell? ⟨w.heap.size, 0, none⟩ = some _ := (blk_cell HZ6.out 0).trans rfl
        have ha1 : wA.cell? ⟨w.heap.size, 1, none⟩ = some _ := (blk_cell HZ6.out 1).trans rfl
        have ha2 : wA.cell? ⟨w.heap.size, 2, none⟩ = some _ := (blk_cell HZ6.out 2).trans rfl
        have ha3 : wA.cell? ⟨w.heap.size, 3, none⟩ = some _ := (blk_cell HZ6.out 3).trans rfl
        have ha4 : wA.cell? ⟨w.heap.size, 4, none⟩ = some _ := (blk_cell HZ6.out 4).trans rfl
        have fa0 := blk_frozen HZ6.out 0
        have fa1 := blk_frozen HZ6.out 1
        have fa2 := blk_frozen HZ6.out 2
        have fa3 := blk_frozen HZ6.out 3
        have fa4 := blk_frozen HZ6.out 4
        have hb0 : wA.cell? ⟨w.heap.size + 1, 0, none⟩ = some _ := (blk_cell HZ9.out 0).trans rfl
        have hb1 : wA.cell? ⟨w.heap.size + 1, 1, none⟩ = some _ := (blk_cell HZ9.out 1).trans rfl
        have hb2 : wA.cell? ⟨w.heap.size + 1, 2, none⟩ = some _ := (blk_cell HZ9.out 2).trans rfl
        have hb3 : wA.cell? ⟨w.heap.size + 1, 3, none⟩ = some _ := (blk_cell HZ9.out 3).trans rfl
        have hb4 : wA.cell? ⟨w.heap.size + 1, 4, none⟩ = some _ := (blk_cell HZ9.out 4).trans rfl
        have fb0 := blk_frozen HZ9.out 0
        have fb1 := blk_frozen HZ9.out 1
        have fb2 := blk_frozen HZ9.out 2
        have fb3 := blk_frozen HZ9.out 3
        have fb4 := blk_frozen HZ9.out 4
        go_wp2_with (first | (go_at_call 32; (with_reducible refine (annuletref12_digit.calls 105 false _ HDG.out).mono ?_); rintro e w1 ⟨rfl, ⟨nd, rfl⟩⟩) | (go_at_call 34; (with_reducible refine (annuletref12_number.calls k s (wrap64 (at_ + 1)) 101 n _ e2 _ HC.out).mono ?_); rintro e w3 ⟨rfl, hb⟩; have HB3 := Aside0.mk (below_step (pw_below_drewN HB0.out _) hb); have HZ3 := Aside0.mk (blk_below (blk_drewN HZ6.out _) hb); have HY3 := Aside0.mk (blk_below (blk_drewN HZ9.out _) hb); have hc0 : w3.cell? ⟨w.heap.size, 0, none⟩ = some _ := (blk_cell HZ3.out 0).trans rfl; have hc1 : w3.cell? ⟨w.heap.size, 1, none⟩ = some _ := (blk_cell HZ3.out 1).trans rfl; have hc2 : w3.cell? ⟨w.heap.size, 2, none⟩ = some _ := (blk_cell HZ3.out 2).trans rfl; have hc3 : w3.cell? ⟨w.heap.size, 3, none⟩ = some _ := (blk_cell HZ3.out 3).trans rfl; have hc4 : w3.cell? ⟨w.heap.size, 4, none⟩ = some _ := (blk_cell HZ3.out 4).trans rfl; have fc0 := blk_frozen HZ3.out 0; have fc1 := blk_frozen HZ3.out 1; have fc2 := blk_frozen HZ3.out 2; have fc3 := blk_frozen HZ3.out 3; have fc4 := blk_frozen HZ3.out 4; have he0 : w3.cell? ⟨w.heap.size + 1, 0, none⟩ = some _ := (blk_cell HY3.out 0).trans rfl; have he1 : w3.cell? ⟨w.heap.size + 1, 1, none⟩ = some _ := (blk_cell HY3.out 1).trans rfl; have he2 : w3.cell? ⟨w.heap.size + 1, 2, none⟩ = some _ := (blk_cell HY3.out 2).trans rfl; have he3 : w3.cell? ⟨w.heap.size + 1, 3, none⟩ = some _ := (blk_cell HY3.out 3).trans rfl; have he4 : w3.cell? ⟨w.heap.size + 1, 4, none⟩ = some _ := (blk_cell HY3.out 4).trans rfl; have fe0 := blk_frozen HY3.out 0; have fe1 := blk_frozen HY3.out 1; have fe2 := blk_frozen HY3.out 2; have fe3 := blk_frozen HY3.out 3; have fe4 := blk_frozen HY3.out 4; clear hb))
        refine bodyPost_ret (results_ctt rfl _ _ w.heap.size 25 #[.int .i64 0, .int .i64 0, .string ⟨#[]⟩, .slice none 0 0, .slice none 0 0] (0, 0) _ rfl (put5 HZ3.out _ _ _ _ _) Try.underlying25 rfl (by kernel_rfl)) rfl ?_
        exact ⟨_, _, rfl, Kd.R_nil _ _ _ _ _, Kd.R_nil _ _ _ _ _, (((((HB3.out.setCell (Nat.le_refl _) _).setCell (Nat.le_refl _) _).setCell (Nat.le_refl _) _).setCell (Nat.le_refl _) _).setCell (Nat.le_refl _) _)⟩
    by_cases a108 : c = 108
    · subst a108
      rw [if_neg (fun hh => hh.2.2.1 rfl)] at h
      by_cases ca : ahead > 7
      · rw [if_pos ca] at h
        cases h
        have d7 : decide (7 < ahead) = true := decide_eq_true ca
        clear ca
        go_enter Try.func20, Try.ntmps20
        go_upto_region 2 with (fail)
        generalize (w.alloc (.cells #[.int .i64 0, .int .i64 0, .string ⟨#[]⟩, .slice none 0 0, .slice none 0 0] 25)).alloc (.cells #[.int .i64 0, .int .i64 0, .string ⟨#[]⟩, .slice none 0 0, .slice none 0 0] 25) = wA at HB0 HZ6 HZ9 ⊢
        have ha0 : wA.cell? ⟨w.heap.size, 0, none⟩ = some _ := (blk_cell HZ6.out 0).trans rfl
        have ha1 : wA.cell? ⟨w.heap.size, 1, none⟩ = some _ := (blk_cell HZ6.out 1).trans rfl
        have ha2 : wA.cell? ⟨w.heap.size, 2, none⟩ = some _ := (blk_cell HZ6.out 2).trans rfl
        have ha3 : wA.cell? ⟨w.heap.size, 3, none⟩ = some _ := (blk_cell HZ6.out 3).trans rfl
        have ha4 : wA.cell? ⟨w.heap.size, 4, none⟩ = some _ := (blk_cell HZ6.out 4).trans rfl
        have fa0 := blk_frozen HZ6.out 0
        have fa1 := blk_frozen HZ6.out 1
        have fa2 := blk_frozen HZ6.out 2
        have fa3 := blk_frozen HZ6.out 3
        have fa4 := blk_frozen HZ6.out 4
        have hb0 : wA.cell? ⟨w.heap.size + 1, 0, none⟩ = some _ := (blk_cell HZ9.out 0).trans rfl
        have hb1 : wA.cell? ⟨w.heap.size + 1, 1, none⟩ = some _ := (blk_cell HZ9.out 1).trans rfl
        have hb2 : wA.cell? ⟨w.heap.size + 1, 2, none⟩ = some _ := (blk_cell HZ9.out 2).trans rfl
        have hb3 : wA.cell? ⟨w.heap.size + 1, 3, none⟩ = some _ := (blk_cell HZ9.out 3).trans rfl
        have hb4 : wA.cell? ⟨w.heap.size + 1, 4, none⟩ = some _ := (blk_cell HZ9.out 4).trans rfl
        have fb0 := blk_frozen HZ9.out 0
        have fb1 := blk_frozen HZ9.out 1
        have fb2 := blk_frozen HZ9.out 2
        have fb3 := blk_frozen HZ9.out 3
        have fb4 := blk_frozen HZ9.out 4
        go_wp2_with ((go_at_call 32; (with_reducible refine (annuletref12_digit.calls 108 false _ HDG.out).mono ?_); rintro e w1 ⟨rfl, ⟨nd, rfl⟩⟩))
        refine bodyPost_ret (results_ctt rfl _ _ w.heap.size 25 #[.int .i64 0, .int .i64 0, .string ⟨#[]⟩, .slice none 0 0, .slice none 0 0] (0, 0) _ rfl (put5 (blk_drewN HZ6.out _) _ _ _ _ _) Try.underlying25 rfl (by kernel_rfl)) rfl ?_
        exact ⟨_, _, rfl, Kd.R_nil _ _ _ _ _, Kd.R_nil _ _ _ _ _, ((((((pw_below_drewN HB0.out _).setCell (Nat.le_refl _) _).setCell (Nat.le_refl _) _).setCell (Nat.le_refl _) _).setCell (Nat.le_refl _) _).setCell (Nat.le_refl _) _)⟩
      rw [if_neg ca] at h
      have d7 : decide (7 < ahead) = false := decide_eq_false ca
      clear ca
      rw [if_neg (by simp), if_neg (by decide)] at h
      have HC := Aside0.mk (show rl.f k s (wrap64 (at_ + 1)) ahead false ⟨if false = true then 4 else 3, 0, ⟨#[]⟩, [], []⟩ = some (T, k1, e0) from h)
      clear h
      go_enter Try.func20, Try.ntmps20
      go_upto_region 2 with (fail)
      generalize (w.alloc (.cells #[.int .i64 0, .int .i64 0, .string ⟨#[]⟩, .slice none 0 0, .slice none 0 0] 25)).alloc (.cells #[.int .i64 0, .int .i64 0, .string ⟨#[]⟩, .slice none 0 0, .slice none 0 0] 25) = wA at HB0 HZ6 HZ9 ⊢
      have ha0 : wA.cell? ⟨w.heap.size, 0, none⟩ = some _ := (blk_cell HZ6.out 0).trans rfl
      have ha1 : wA.cell? ⟨w.heap.size, 1, none⟩ = some _ := (blk_cell HZ6.out 1).trans rfl
      have ha2 : wA.cell? ⟨w.heap.size, 2, none⟩ = some _ := (blk_cell HZ6.out 2).trans rfl
      have ha3 : wA.cell? ⟨w.heap.size, 3, none⟩ = some _ := (blk_cell HZ6.out 3).trans rfl
      have ha4 : wA.cell? ⟨w.heap.size, 4, none⟩ = some _ := (blk_cell HZ6.out 4).trans rfl
      have fa0 := blk_frozen HZ6.out 0
      have fa1 := blk_frozen HZ6.out 1
      have fa2 := blk_frozen HZ6.out 2
      have fa3 := blk_frozen HZ6.out 3
      have fa4 := blk_frozen HZ6.out 4
      have hb0 : wA.cell? ⟨w.heap.size + 1, 0, none⟩ = some _ := (blk_cell HZ9.out 0).trans rfl
      have hb1 : wA.cell? ⟨w.heap.size + 1, 1, none⟩ = some _ := (blk_cell HZ9.out 1).trans rfl
      have hb2 : wA.cell? ⟨w.heap.size + 1, 2, none⟩ = some _ := (blk_cell HZ9.out 2).trans rfl
      have hb3 : wA.cell? ⟨w.heap.size + 1, 3, none⟩ = some _ := (blk_cell HZ9.out 3).trans rfl
      have hb4 : wA.cell? ⟨w.heap.size + 1, 4, none⟩ = some _ := (blk_cell HZ9.out 4).trans rfl
      have fb0 := blk_frozen HZ9.out 0
      have fb1 := blk_frozen HZ9.out 1
      have fb2 := blk_frozen HZ9.out 2
      have fb3 := blk_frozen HZ9.out 3
      have fb4 := blk_frozen HZ9.out 4
      go_wp2_with (first | (go_at_call 32; (with_reducible refine (annuletref12_digit.calls 108 false _ HDG.out).mono ?_); rintro e w1 ⟨rfl, ⟨nd, rfl⟩⟩) | (go_at_call 35; (with_reducible refine (HLC.out s _ ahead false T k1 e0 _ HC.out).mono ?_); rintro e w3 ⟨v3, v4, rfl, h3, h4, hb⟩; obtain ⟨A3, c3, rfl⟩ := Kd.R_slice h3; obtain ⟨A4, c4, rfl⟩ := Kd.R_slice h4; have RX3 := Aside0.mk h3; have RX4 := Aside0.mk h4; have HB3 := Aside0.mk (below_step (pw_below_drewN HB0.out _) hb); have HZ3 := Aside0.mk (blk_below (blk_drewN HZ6.out _) hb); have hc0 : w3.cell? ⟨w.heap.size, 0, none⟩ = some _ := (blk_cell HZ3.out 0).trans rfl; have hc1 : w3.cell? ⟨w.heap.size, 1, none⟩ = some _ := (blk_cell HZ3.out 1).trans rfl; have hc2 : w3.cell? ⟨w.heap.size, 2, none⟩ = some _ := (blk_cell HZ3.out 2).trans rfl; have hc3 : w3.cell? ⟨w.heap.size, 3, none⟩ = some _ := (blk_cell HZ3.out 3).trans rfl; have hc4 : w3.cell? ⟨w.heap.size, 4, none⟩ = some _ := (blk_cell HZ3.out 4).trans rfl; have fc0 := blk_frozen HZ3.out 0; have fc1 := blk_frozen HZ3.out 1; have fc2 := blk_frozen HZ3.out 2; have fc3 := blk_frozen HZ3.out 3; have fc4 := blk_frozen HZ3.out 4; clear hb h3 h4))
      have hlt : w.heap.size < wA.heap.size := blk_lt HZ6.out
      refine bodyPost_ret (results_ctt rfl _ _ w.heap.size 25 #[.int .i64 T.f0, .int .i64 T.f1, .string T.f2, .slice A3 T.f3.length c3, .slice A4 T.f4.length c4] (0, 0) _ rfl (put5 HZ3.out _ _ _ _ _) Try.underlying25 rfl (by kernel_rfl)) rfl ?_
      exact ⟨_, _, rfl, Kd.R_lower (R_keepB RX3.out (keep5 (KeepBut.refl _ _ _) _ _ _ _ _) hlt) (Nat.le_of_lt hlt), Kd.R_lower (R_keepB RX4.out (keep5 (KeepBut.refl _ _ _) _ _ _ _ _) hlt) (Nat.le_of_lt hlt), (((((HB3.out.setCell (Nat.le_refl _) _).setCell (Nat.le_refl _) _).setCell (Nat.le_refl _) _).setCell (Nat.le_refl _) _).setCell (Nat.le_refl _) _)⟩
    by_cases a100 : c = 100
    · subst a100
      rw [if_neg (fun hh => hh.2.2.2 rfl)] at h
      by_cases ca : ahead > 7
      · rw [if_pos ca] at h
        cases h
        have d7 : decide (7 < ahead) = true := decide_eq_true ca
        clear ca
        go_enter Try.func20, Try.ntmps20
        go_upto_region 2 with (fail)
        generalize (w.alloc (.cells #[.int .i64 0, .int .i64 0, .string ⟨#[]⟩, .slice none 0 0, .slice none 0 0] 25)).alloc (.cells #[.int .i64 0, .int .i64 0, .string ⟨#[]⟩, .slice none 0 0, .slice none 0 0] 25) = wA at HB0 HZ6 HZ9 ⊢
        have ha0 : wA.cell? ⟨w.heap.size, 0, none⟩ = some _ := (blk_cell HZ6.out 0).trans rfl
        have ha1 : wA.cell? ⟨w.heap.size, 1, none⟩ = some _ := (blk_cell HZ6.out 1).trans rfl
        have ha2 : wA.cell? ⟨w.heap.size, 2, none⟩ = some _ := (blk_cell HZ6.out 2).trans rfl
        have ha3 : wA.cell? ⟨w.heap.size, 3, none⟩ = some _ := (blk_cell HZ6.out 3).trans rfl
        have ha4 : wA.cell? ⟨w.heap.size, 4, none⟩ = some _ := (blk_cell HZ6.out 4).trans rfl
        have fa0 := blk_frozen HZ6.out 0
        have fa1 := blk_frozen HZ6.out 1
        have fa2 := blk_frozen HZ6.out 2
        have fa3 := blk_frozen HZ6.out 3
        have fa4 := blk_frozen HZ6.out 4
        have hb0 : wA.cell? ⟨w.heap.size + 1, 0, none⟩ = some _ := (blk_cell HZ9.out 0).trans rfl
        have hb1 : wA.cell? ⟨w.heap.size + 1, 1, none⟩ = some _ := (blk_cell HZ9.out 1).trans rfl
        have hb2 : wA.cell? ⟨w.heap.size + 1, 2, none⟩ = some _ := (blk_cell HZ9.out 2).trans rfl
        have hb3 : wA.cell? ⟨w.heap.size + 1, 3, none⟩ = some _ := (blk_cell HZ9.out 3).trans rfl
        have hb4 : wA.cell? ⟨w.heap.size + 1, 4, none⟩ = some _ := (blk_cell HZ9.out 4).trans rfl
        have fb0 := blk_frozen HZ9.out 0
        have fb1 := blk_frozen HZ9.out 1
        have fb2 := blk_frozen HZ9.out 2
        have fb3 := blk_frozen HZ9.out 3
        have fb4 := blk_frozen HZ9.out 4
        go_wp2_with ((go_at_call 32; (with_reducible refine (annuletref12_digit.calls 100 false _ HDG.out).mono ?_); rintro e w1 ⟨rfl, ⟨nd, rfl⟩⟩))
        refine bodyPost_ret (results_ctt rfl _ _ w.heap.size 25 #[.int .i64 0, .int .i64 0, .string ⟨#[]⟩, .slice none 0 0, .slice none 0 0] (0, 0) _ rfl (put5 (blk_drewN HZ6.out _) _ _ _ _ _) Try.underlying25 rfl (by kernel_rfl)) rfl ?_
        exact ⟨_, _, rfl, Kd.R_nil _ _ _ _ _, Kd.R_nil _ _ _ _ _, ((((((pw_below_drewN HB0.out _).setCell (Nat.le_refl _) _).setCell (Nat.le_refl _) _).setCell (Nat.le_refl _) _).setCell (Nat.le_refl _) _).setCell (Nat.le_refl _) _)⟩
      rw [if_neg ca] at h
      have d7 : decide (7 < ahead) = false := decide_eq_false ca
      clear ca
      rw [if_neg (by simp), if_neg (by decide)] at h
      have HC := Aside0.mk (show rl.f k s (wrap64 (at_ + 1)) ahead true ⟨if true = true then 4 else 3, 0, ⟨#[]⟩, [], []⟩ = some (T, k1, e0) from h)
      clear h
      go_enter Try.func20, Try.ntmps20
      go_upto_region 2 with (fail)
      generalize (w.alloc (.cells #[.int .i64 0, .int .i64 0, .string ⟨#[]⟩, .slice none 0 0, .slice none 0 0] 25)).alloc (.cells #[.int .i64 0, .int .i64 0, .string ⟨#[]⟩, .slice none 0 0, .slice none 0 0] 25) = wA at HB0 HZ6 HZ9 ⊢
      have ha0 : wA.cell? ⟨w.heap.size, 0, none⟩ = some _ := (blk_cell HZ6.out 0).trans rfl
      have ha1 : wA.cell? ⟨w.heap.size, 1, none⟩ = some _ := (blk_cell HZ6.out 1).trans rfl
      have ha2 : wA.cell? ⟨w.heap.size, 2, none⟩ = some _ := (blk_cell HZ6.out 2).trans rfl
      have ha3 : wA.cell? ⟨w.heap.size, 3, none⟩ = some _ := (blk_cell HZ6.out 3).trans rfl
      have ha4 : wA.cell? ⟨w.heap.size, 4, none⟩ = some _ := (blk_cell HZ6.out 4).trans rfl
      have fa0 := blk_frozen HZ6.out 0
      have fa1 := blk_frozen HZ6.out 1
      have fa2 := blk_frozen HZ6.out 2
      have fa3 := blk_frozen HZ6.out 3
      have fa4 := blk_frozen HZ6.out 4
      have hb0 : wA.cell? ⟨w.heap.size + 1, 0, none⟩ = some _ := (blk_cell HZ9.out 0).trans rfl
      have hb1 : wA.cell? ⟨w.heap.size + 1, 1, none⟩ = some _ := (blk_cell HZ9.out 1).trans rfl
      have hb2 : wA.cell? ⟨w.heap.size + 1, 2, none⟩ = some _ := (blk_cell HZ9.out 2).trans rfl
      have hb3 : wA.cell? ⟨w.heap.size + 1, 3, none⟩ = some _ := (blk_cell HZ9.out 3).trans rfl
      have hb4 : wA.cell? ⟨w.heap.size + 1, 4, none⟩ = some _ := (blk_cell HZ9.out 4).trans rfl
      have fb0 := blk_frozen HZ9.out 0
      have fb1 := blk_frozen HZ9.out 1
      have fb2 := blk_frozen HZ9.out 2
      have fb3 := blk_frozen HZ9.out 3
      have fb4 := blk_frozen HZ9.out 4
      go_wp2_with (first | (go_at_call 32; (with_reducible refine (annuletref12_digit.calls 100 false _ HDG.out).mono ?_); rintro e w1 ⟨rfl, ⟨nd, rfl⟩⟩) | (go_at_call 35; (with_reducible refine (HLC.out s _ ahead true T k1 e0 _ HC.out).mono ?_); rintro e w3 ⟨v3, v4, rfl, h3, h4, hb⟩; obtain ⟨A3, c3, rfl⟩ := Kd.R_slice h3; obtain ⟨A4, c4, rfl⟩ := Kd.R_slice h4; have RX3 := Aside0.mk h3; have RX4 := Aside0.mk h4; have HB3 := Aside0.mk (below_step (pw_below_drewN HB0.out _) hb); have HZ3 := Aside0.mk (blk_below (blk_drewN HZ6.out _) hb); have hc0 : w3.cell? ⟨w.heap.size, 0, none⟩ = some _ := (blk_cell HZ3.out 0).trans rfl; have hc1 : w3.cell? ⟨w.heap.size, 1, none⟩ = some _ := (blk_cell HZ3.out 1).trans rfl; have hc2 : w3.cell? ⟨w.heap.size, 2, none⟩ = some _ := (blk_cell HZ3.out 2).trans rfl; have hc3 : w3.cell? ⟨w.heap.size, 3, none⟩ = some _ := (blk_cell HZ3.out 3).trans rfl; have hc4 : w3.cell? ⟨w.heap.size, 4, none⟩ = some _ := (blk_cell HZ3.out 4).trans rfl; have fc0 := blk_frozen HZ3.out 0; have fc1 := blk_frozen HZ3.out 1; have fc2 := blk_frozen HZ3.out 2; have fc3 := blk_frozen HZ3.out 3; have fc4 := blk_frozen HZ3.out 4; clear hb h3 h4))
      have hlt : w.heap.size < wA.heap.size := blk_lt HZ6.out
      refine bodyPost_ret (results_ctt rfl _ _ w.heap.size 25 #[.int .i64 T.f0, .int .i64 T.f1, .string T.f2, .slice A3 T.f3.length c3, .slice A4 T.f4.length c4] (0, 0) _ rfl (put5 HZ3.out _ _ _ _ _) Try.underlying25 rfl (by kernel_rfl)) rfl ?_
      exact ⟨_, _, rfl, Kd.R_lower (R_keepB RX3.out (keep5 (KeepBut.refl _ _ _) _ _ _ _ _) hlt) (Nat.le_of_lt hlt), Kd.R_lower (R_keepB RX4.out (keep5 (KeepBut.refl _ _ _) _ _ _ _ _) hlt) (Nat.le_of_lt hlt), (((((HB3.out.setCell (Nat.le_refl _) _).setCell (Nat.le_refl _) _).setCell (Nat.le_refl _) _).setCell (Nat.le_refl _) _).setCell (Nat.le_refl _) _)⟩
    rw [if_pos ⟨rfl, a1, a108, a100⟩] at h
    cases h
    have n1 : (c != 105) = true := bne_iff_ne.mpr a1
    have n2 : (c != 108) = true := bne_iff_ne.mpr a108
    have n3 : (c != 100) = true := bne_iff_ne.mpr a100
    clear a1 a108 a100
    go_enter Try.func20, Try.ntmps20
    go_upto_region 2 with (fail)
    generalize (w.alloc (.cells #[.int .i64 0, .int .i64 0, .string ⟨#[]⟩, .slice none 0 0, .slice none 0 0] 25)).alloc (.cells #[.int .i64 0, .int .i64 0, .string ⟨#[]⟩, .slice none 0 0, .slice none 0 0] 25) = wA at HB0 HZ6 HZ9 ⊢
    have ha0 : wA.cell? ⟨w.heap.size, 0, none⟩ = some _ := (blk_cell HZ6.out 0).trans rfl
    have ha1 : wA.cell? ⟨w.heap.size, 1, none⟩ = some _ := (blk_cell HZ6.out 1).trans rfl
    have ha2 : wA.cell? ⟨w.heap.size, 2, none⟩ = some _ := (blk_cell HZ6.out 2).trans rfl
    have ha3 : wA.cell? ⟨w.heap.size, 3, none⟩ = some _ := (blk_cell HZ6.out 3).trans rfl
    have ha4 : wA.cell? ⟨w.heap.size, 4, none⟩ = some _ := (blk_cell HZ6.out 4).trans rfl
    have fa0 := blk_frozen HZ6.out 0
    have fa1 := blk_frozen HZ6.out 1
    have fa2 := blk_frozen HZ6.out 2
    have fa3 := blk_frozen HZ6.out 3
    have fa4 := blk_frozen HZ6.out 4
    have hb0 : wA.cell? ⟨w.heap.size + 1, 0, none⟩ = some _ := (blk_cell HZ9.out 0).trans rfl
    have hb1 : wA.cell? ⟨w.heap.size + 1, 1, none⟩ = some _ := (blk_cell HZ9.out 1).trans rfl
    have hb2 : wA.cell? ⟨w.heap.size + 1, 2, none⟩ = some _ := (blk_cell HZ9.out 2).trans rfl
    have hb3 : wA.cell? ⟨w.heap.size + 1, 3, none⟩ = some _ := (blk_cell HZ9.out 3).trans rfl
    have hb4 : wA.cell? ⟨w.heap.size + 1, 4, none⟩ = some _ := (blk_cell HZ9.out 4).trans rfl
    have fb0 := blk_frozen HZ9.out 0
    have fb1 := blk_frozen HZ9.out 1
    have fb2 := blk_frozen HZ9.out 2
    have fb3 := blk_frozen HZ9.out 3
    have fb4 := blk_frozen HZ9.out 4
    go_wp2_with ((go_at_call 32; (with_reducible refine (annuletref12_digit.calls c false _ HDG.out).mono ?_); rintro e w1 ⟨rfl, ⟨nd, rfl⟩⟩))
    refine bodyPost_ret (results_ctt rfl _ _ w.heap.size 25 #[.int .i64 0, .int .i64 0, .string ⟨#[]⟩, .slice none 0 0, .slice none 0 0] (0, 0) _ rfl (put5 (blk_drewN HZ6.out _) _ _ _ _ _) Try.underlying25 rfl (by kernel_rfl)) rfl ?_
    exact ⟨_, _, rfl, Kd.R_nil _ _ _ _ _, Kd.R_nil _ _ _ _ _, ((((((pw_below_drewN HB0.out _).setCell (Nat.le_refl _) _).setCell (Nat.le_refl _) _).setCell (Nat.le_refl _) _).setCell (Nat.le_refl _) _).setCell (Nat.le_refl _) _)⟩
/-! ### the document's list -/
structure LSx (w W : World) (T : S25) (A3 : Option Addr) (c3 : Nat) (A4 : Option Addr) (c4 : Nat) : Prop where
  bel : Below w.heap.size w W
  lo : w.heap.size + 2 ≤ W.heap.size
  res : W.heap[w.heap.size]? = some (.cells #[.int .i64 0, .int .i64 0, .string ⟨#[]⟩, .slice none 0 0, .slice none 0 0] 25 (0, 0))
  tb : W.heap[w.heap.size + 1]? = some (.cells #[.int .i64 T.f0, .int .i64 T.f1, .string T.f2, .slice A3 T.f3.length c3, .slice A4 T.f4.length c4] 25 (0, 0))
  keys : Kd.string.R 9 W (w.heap.size + 2) (fun _ => True) (.slice A3 T.f3.length c3) T.f3
  kids : k25.R 25 W (w.heap.size + 2) (fun k => some k ≠ (Value.slice A3 T.f3.length c3).ownBlock) (.slice A4 T.f4.length c4) T.f4
theorem LSx.below {w W W1 : World} {T : S25} {A3 A4 : Option Addr} {c3 c4 : Nat} (M : LSx w W T A3 c3 A4 c4) (hb : Below W.heap.size W W1) : LSx w W1 T A3 c3 A4 c4 :=
  ⟨below_step M.bel hb, Nat.le_trans M.lo hb.size, blk_below M.res hb, blk_below M.tb hb, Kd.R_below M.keys hb, Kd.R_below M.kids hb⟩
theorem LSx.keysPut {w W W1 : World} {T : S25} {A3 A4 A : Option Addr} {c3 c4 c : Nat} {x : ByteArray} (M : LSx w W T A3 c3 A4 c4) (ho : Kd.string.R 9 W1 (w.heap.size + 2) (fun _ => True) (.slice A (T.f3 ++ [x]).length c) (T.f3 ++ [x])) (hb : Below (w.heap.size + 2) W W1) (hg : W.grownBy W1 (Value.slice A3 T.f3.length c3).ownBlock)
    (hat : (Value.slice A (T.f3 ++ [x]).length c).ownBlock = (Value.slice A3 T.f3.length c3).ownBlock ∨ ∃ b, (Value.slice A (T.f3 ++ [x]).length c).ownBlock = some b ∧ W.heap.size ≤ b) :
    LSx w (W1.setCell ⟨w.heap.size + 1, 3, none⟩ (.slice A (T.f3 ++ [x]).length c)) ⟨T.f0, T.f1, T.f2, T.f3 ++ [x], T.f4⟩ A c A4 c4 := by
  have n0 : some w.heap.size ≠ (Value.slice A3 T.f3.length c3).ownBlock := own_ge M.keys (by omega)
  have n1 : some (w.heap.size + 1) ≠ (Value.slice A3 T.f3.length c3).ownBlock := own_ge M.keys (by omega)
  have hK : KeepBut W1 (W1.setCell ⟨w.heap.size + 1, 3, none⟩ (.slice A (T.f3 ++ [x]).length c)) (w.heap.size + 1) none := KeepBut.set_ (KeepBut.refl _ _ _) _ _
  have k4 := Kd.R_after (v1 := Value.slice A (T.f3 ++ [x]).length c) (Kd.R_mono (ok' := fun k => True ∧ some k ≠ (Value.slice A3 T.f3.length c3).ownBlock) M.kids (fun k hk => ⟨trivial, hk⟩)) hg hat
  refine ⟨(M.bel.trans (hb.mono (by omega))).setCell (Nat.le_add_right _ _) _, Nat.le_trans (Nat.le_trans M.lo hg.size) hK.1, blk_far (blk_grown M.res hg n0) (by simp) _, ?_, R_keepB ho hK (by omega), R_keepB (Kd.R_mono k4 (fun k hk => hk.2)) hK (by omega)⟩
  have := blk_set (blk_grown M.tb hg n1) 3 (.slice A (T.f3 ++ [x]).length c)
  simpa using this
theorem LSx.kidsPut {w W W1 : World} {T : S25} {A3 A4 A : Option Addr} {c3 c4 c : Nat} {x : S25} (M : LSx w W T A3 c3 A4 c4) (ho : k25.R 25 W1 (w.heap.size + 2) (fun k => some k ≠ (Value.slice A3 T.f3.length c3).ownBlock) (.slice A (T.f4 ++ [x]).length c) (T.f4 ++ [x])) (hb : Below (w.heap.size + 2) W W1) (hg : W.grownBy W1 (Value.slice A4 T.f4.length c4).ownBlock) :
    LSx w (W1.setCell ⟨w.heap.size + 1, 4, none⟩ (.slice A (T.f4 ++ [x]).length c)) ⟨T.f0, T.f1, T.f2, T.f3, T.f4 ++ [x]⟩ A3 c3 A c := by
  have n0 : some w.heap.size ≠ (Value.slice A4 T.f4.length c4).ownBlock := own_ge M.kids (by omega)
  have n1 : some (w.heap.size + 1) ≠ (Value.slice A4 T.f4.length c4).ownBlock := own_ge M.kids (by omega)
  have hK : KeepBut W1 (W1.setCell ⟨w.heap.size + 1, 4, none⟩ (.slice A (T.f4 ++ [x]).length c)) (w.heap.size + 1) none := KeepBut.set_ (KeepBut.refl _ _ _) _ _
  have k3 : Kd.string.R 9 W1 (w.heap.size + 2) (fun _ => True) (.slice A3 T.f3.length c3) T.f3 := Kd.R_over M.keys M.kids (by decide) hg
  refine ⟨(M.bel.trans (hb.mono (by omega))).setCell (Nat.le_add_right _ _) _, Nat.le_trans (Nat.le_trans M.lo hg.size) hK.1, blk_far (blk_grown M.res hg n0) (by simp) _, ?_, R_keepB k3 hK (by omega), R_keepB ho hK (by omega)⟩
  have := blk_set (blk_grown M.tb hg n1) 4 (.slice A (T.f4 ++ [x]).length c)
  simpa using this
set_option maxHeartbeats 4000000 in
set_option maxRecDepth 100000 in
theorem rl_list (k : Nat) (hV : ∀ j, j < k → RvC j) (s : ByteArray) (at0 ahead : Int) (T : S25) (k1 e0 : Int) (w : World) (h : rl.f k s at0 ahead false ⟨3, 0, ⟨#[]⟩, [], []⟩ = some (T, k1, e0)) :
    Calls Try.prog 35 #[.string s, .int .i64 at0, .int .i64 ahead, .bool false] w fun e w2 => ∃ v3 v4 : Value, e = .returned (.tuple #[.agg #[.int .i64 T.f0, .int .i64 T.f1, .string T.f2, v3, v4], .int .i64 k1, .int .i64 e0]) ∧ Kd.string.R 9 w2 w.heap.size (fun _ => True) v3 T.f3 ∧ k25.R 25 w2 w.heap.size (fun k => some k ≠ v3.ownBlock) v4 T.f4 ∧ Below w.heap.size w w2 := by
  have hu25 := Try.underlying25
  have HV0 := Aside0.mk hV
  have S0 : Aside0 (LSx w ((w.alloc (.cells #[.int .i64 0, .int .i64 0, .string ⟨#[]⟩, .slice none 0 0, .slice none 0 0] 25)).alloc (.cells #[.int .i64 3, .int .i64 0, .string ⟨#[]⟩, .slice none 0 0, .slice none 0 0] 25)) ⟨3, 0, ⟨#[]⟩, [], []⟩ none 0 none 0) := by
    have hn := blk_new (w.alloc (.cells #[.int .i64 0, .int .i64 0, .string ⟨#[]⟩, .slice none 0 0, .slice none 0 0] 25)) (.cells #[.int .i64 3, .int .i64 0, .string ⟨#[]⟩, .slice none 0 0, .slice none 0 0] 25)
    have hs : (w.alloc (.cells #[.int .i64 0, .int .i64 0, .string ⟨#[]⟩, .slice none 0 0, .slice none 0 0] 25)).heap.size = w.heap.size + 1 := by simp
    rw [hs] at hn
    have hn2 := blk_lt hn
    exact ⟨⟨below_alloc (below_alloc (Below.refl _ _) _) _, hn2, blk_alloc (blk_new w _) _, hn, Kd.R_nil _ _ _ _ _, Kd.R_nil _ _ _ _ _⟩⟩
  have HH := Aside0.mk h
  clear hV h
  go_enter Try.func35, Try.ntmps35
  go_wp2
  go_loopg [1, 9, 10] k (fun gg v1 v9 v10 wr => v9 = .int .i64 0 ∧ v10 = .int .i64 0 ∧ ∃ (at_ : Int) (Ti : S25) (A3 : Option Addr) (c3 : Nat) (A4 : Option Addr) (c4 : Nat) (kk : Nat), v1 = .int .i64 at_ ∧ kk ≤ gg ∧ kk ≤ k ∧ Aside0 (rl.f kk s at_ ahead false Ti = some (T, k1, e0)) ∧ Aside0 (LSx w wr Ti A3 c3 A4 c4))
  case atStart => exact ⟨rfl, rfl, at0, _, none, 0, none, 0, k, rfl, Nat.le_refl _, Nat.le_refl _, HH, S0⟩
  case round =>
    obtain ⟨rfl, rfl, at_, Ti, A3, c3, A4, c4, kk, rfl, hkg, hkk, HB, M0⟩ := hrel
    cases kk with
    | zero => exact absurd HB.out (by simp [rl.f])
    | succ m =>
      have hB := HB.out
      have HKK := Aside0.mk hkk
      have HKG := Aside0.mk hkg
      clear HB hkk hkg
      rw [rl.f] at hB
      have hx := bt_at s at_
      have hy0 : wr.cell? ⟨w.heap.size + 1, 0, none⟩ = some _ := (blk_cell M0.out.tb 0).trans rfl
      have hy1 : wr.cell? ⟨w.heap.size + 1, 1, none⟩ = some _ := (blk_cell M0.out.tb 1).trans rfl
      have hy2 : wr.cell? ⟨w.heap.size + 1, 2, none⟩ = some _ := (blk_cell M0.out.tb 2).trans rfl
      have hy3 : wr.cell? ⟨w.heap.size + 1, 3, none⟩ = some _ := (blk_cell M0.out.tb 3).trans rfl
      have hy4 : wr.cell? ⟨w.heap.size + 1, 4, none⟩ = some _ := (blk_cell M0.out.tb 4).trans rfl
      have fy0 := blk_frozen M0.out.tb 0
      have fy1 := blk_frozen M0.out.tb 1
      have fy2 := blk_frozen M0.out.tb 2
      have fy3 := blk_frozen M0.out.tb 3
      have fy4 := blk_frozen M0.out.tb 4
      have hq0 : wr.cell? ⟨w.heap.size, 0, none⟩ = some _ := (blk_cell M0.out.res 0).trans rfl
      have hq1 : wr.cell? ⟨w.heap.size, 1, none⟩ = some _ := (blk_cell M0.out.res 1).trans rfl
      have hq2 : wr.cell? ⟨w.heap.size, 2, none⟩ = some _ := (blk_cell M0.out.res 2).trans rfl
      have hq3 : wr.cell? ⟨w.heap.size, 3, none⟩ = some _ := (blk_cell M0.out.res 3).trans rfl
      have hq4 : wr.cell? ⟨w.heap.size, 4, none⟩ = some _ := (blk_cell M0.out.res 4).trans rfl
      have fq0 := blk_frozen M0.out.res 0
      have fq1 := blk_frozen M0.out.res 1
      have fq2 := blk_frozen M0.out.res 2
      have fq3 := blk_frozen M0.out.res 3
      have fq4 := blk_frozen M0.out.res 4
      by_cases ce : at_ < (s.size : Int) ∧ 0 ≤ at_ ∧ bt s at_ = 101
      · rw [if_pos ce] at hB
        cases hB
        have d1 : decide ((s.size : Int) ≤ at_) = false := decide_eq_false (by omega)
        have p6 := eq_true ce.2.1
        have q6 := eq_true ce.1
        rw [ce.2.2] at hx
        clear ce
        go_wp2
        refine bodyPost_ret (results_ctt rfl _ _ w.heap.size 25 #[.int .i64 T.f0, .int .i64 T.f1, .string T.f2, .slice A3 T.f3.length c3, .slice A4 T.f4.length c4] (0, 0) _ rfl (put5 M0.out.res _ _ _ _ _) Try.underlying25 rfl (by kernel_rfl)) rfl ?_
        exact ⟨_, _, rfl, Kd.R_lower (R_keepB M0.out.keys (keep5 (KeepBut.refl _ _ _) _ _ _ _ _) (by omega)) (by omega), Kd.R_lower (R_keepB M0.out.kids (keep5 (KeepBut.refl _ _ _) _ _ _ _ _) (by omega)) (by omega), (((((M0.out.bel.setCell (Nat.le_refl _) _).setCell (Nat.le_refl _) _).setCell (Nat.le_refl _) _).setCell (Nat.le_refl _) _).setCell (Nat.le_refl _) _)⟩
      · rw [if_neg ce] at hB
        by_cases hL : 0 ≤ at_ ∧ Ti.f3.length < 1099511627776 ∧ Ti.f4.length < 1099511627776
        case neg => rw [if_neg hL] at hB; cases hB
        rw [if_pos hL] at hB
        have LM := Aside0.mk hL
        rw [if_neg (by simp)] at hB
        simp only [Option.bind_some] at hB
        rw [if_pos trivial] at hB
        obtain ⟨⟨X, r2, e2⟩, hX, hB⟩ := Option.bind_eq_some_iff.mp hB
        have hVm := HV0.out m (by have := HKK.out; omega)
        unfold RvC at hVm
        have HV := Aside0.mk hVm
        have HVV := Aside0.mk hX
        clear hX hVm
        by_cases c1 : at_ ≥ (s.size : Int)
        · have d1 : decide ((s.size : Int) ≤ at_) = true := decide_eq_true c1
          clear c1
          by_cases h2 : e2 = 0
          · rw [if_pos h2] at hB
            have d2 : (e2 != 0) = false := bne_eq_false_iff_eq.mpr h2
            have HB2 := Aside0.mk hB
            clear hB h2 ce hL
            go_upto_region 20 with ((go_at_call 20; (with_reducible refine (HV.out s _ (wrap64 (ahead + 1)) X r2 e2 _ HVV.out).mono ?_); rintro e w4 ⟨v3, v4, rfl, hR3, hR4, hb⟩; obtain ⟨X3, d3, rfl⟩ := Kd.R_slice hR3; obtain ⟨X4, d4, rfl⟩ := Kd.R_slice hR4; have M4 := Aside0.mk (M0.out.below hb); have M5 := Aside0.mk (M4.out.below (below_alloc (Below.refl _ _) (.cells #[.int .i64 X.f0, .int .i64 X.f1, .string X.f2, .slice X3 X.f3.length d3, .slice X4 X.f4.length d4] 25))); have HP := Aside0.mk M0.out; obtain ⟨sz, hsz⟩ : ∃ n, wr.heap.size = n := ⟨_, rfl⟩; rw [hsz] at hR3 hR4; have HSZ := Aside0.mk hsz; have RX3 := Aside0.mk (Kd.R_alloc hR3 (.cells #[.int .i64 X.f0, .int .i64 X.f1, .string X.f2, .slice X3 X.f3.length d3, .slice X4 X.f4.length d4] 25)); have RX4 := Aside0.mk (Kd.R_alloc hR4 (.cells #[.int .i64 X.f0, .int .i64 X.f1, .string X.f2, .slice X3 X.f3.length d3, .slice X4 X.f4.length d4] 25)); have HNB := Aside0.mk (blk_new w4 (.cells #[.int .i64 X.f0, .int .i64 X.f1, .string X.f2, .slice X3 X.f3.length d3, .slice X4 X.f4.length d4] 25)); clear hb hR3 hR4 hsz))
            generalize (w4.alloc (.cells #[.int .i64 X.f0, .int .i64 X.f1, .string X.f2, .slice X3 X.f3.length d3, .slice X4 X.f4.length d4] 25)) = w5 at M5 RX3 RX4 HNB ⊢
            have ht0 : w5.cell? ⟨w.heap.size + 1, 0, none⟩ = some _ := (blk_cell M5.out.tb 0).trans rfl
            have ht1 : w5.cell? ⟨w.heap.size + 1, 1, none⟩ = some _ := (blk_cell M5.out.tb 1).trans rfl
            have ht2 : w5.cell? ⟨w.heap.size + 1, 2, none⟩ = some _ := (blk_cell M5.out.tb 2).trans rfl
            have ht3 : w5.cell? ⟨w.heap.size + 1, 3, none⟩ = some _ := (blk_cell M5.out.tb 3).trans rfl
            have ht4 : w5.cell? ⟨w.heap.size + 1, 4, none⟩ = some _ := (blk_cell M5.out.tb 4).trans rfl
            have ft0 := blk_frozen M5.out.tb 0
            have ft1 := blk_frozen M5.out.tb 1
            have ft2 := blk_frozen M5.out.tb 2
            have ft3 := blk_frozen M5.out.tb 3
            have ft4 := blk_frozen M5.out.tb 4
            have hx0 : w5.cell? ⟨w4.heap.size, 0, none⟩ = some _ := (blk_cell HNB.out 0).trans rfl
            have hx1 : w5.cell? ⟨w4.heap.size, 1, none⟩ = some _ := (blk_cell HNB.out 1).trans rfl
            have hx2 : w5.cell? ⟨w4.heap.size, 2, none⟩ = some _ := (blk_cell HNB.out 2).trans rfl
            have hx3 : w5.cell? ⟨w4.heap.size, 3, none⟩ = some _ := (blk_cell HNB.out 3).trans rfl
            have hx4 : w5.cell? ⟨w4.heap.size, 4, none⟩ = some _ := (blk_cell HNB.out 4).trans rfl
            have fx0 := blk_frozen HNB.out 0
            have fx1 := blk_frozen HNB.out 1
            have fx2 := blk_frozen HNB.out 2
            have fx3 := blk_frozen HNB.out 3
            have fx4 := blk_frozen HNB.out 4
            go_wp2_with (((with_reducible refine gate_builtin (b := .append) (xs := #[.tmp 93, .tmp 95]) rfl ?_); at_builtin; refine Kd.R_append k25 (w0 := w5) (w.heap.size + 2) rfl (.tmp 93) (.tmp 95) 23 25 (.agg #[.int .i64 0, .int .i64 0, .string ⟨#[]⟩, .slice none 0 0, .slice none 0 0]) 80 rfl Try.underlying23 infoB25 rfl (by decide) (by omega) (.slice A4 Ti.f4.length c4) Ti.f4 X [.int .i64 X.f0, .int .i64 X.f1, .string X.f2, .slice X3 X.f3.length d3, .slice X4 X.f4.length d4] (fun k => some k ≠ (Value.slice A3 (Ti.f3).length c3).ownBlock) (fun k => sz ≤ k) rfl rfl ?aP ?aK ?aF ?aO ?aB ?aS ?aL ?_; (case aP => exact kid_M RX3.out RX4.out (by have := HP.out.lo; have := HSZ.out; omega)); (case aK => exact fun j hj => ⟨own_lt HP.out.keys (by have := HSZ.out; omega), own_lt HP.out.kids (by have := HSZ.out; omega)⟩); (case aB => exact Below.refl _ _); (case aF => exact fun j hj => own_lt M5.out.keys hj); (case aO => exact M5.out.kids); (case aS => exact M5.out.lo); (case aL => have := LM.out; omega); intro v1 w9 ho hb hg hat; obtain ⟨B, d, rfl⟩ := Kd.R_slice ho; have MN0 := LSx.kidsPut M5.out ho hb hg; rw [show (Ti.f4 ++ [X]).length = Ti.f4.length + 1 by simp] at MN0; have MN := Aside0.mk MN0; clear MN0; have HT9 := Aside0.mk (blk_grown M5.out.tb hg (own_ge M5.out.kids (by omega))); have ht0 : w9.cell? ⟨w.heap.size + 1, 0, none⟩ = some _ := (blk_cell HT9.out 0).trans rfl; have ht1 : w9.cell? ⟨w.heap.size + 1, 1, none⟩ = some _ := (blk_cell HT9.out 1).trans rfl; have ht2 : w9.cell? ⟨w.heap.size + 1, 2, none⟩ = some _ := (blk_cell HT9.out 2).trans rfl; have ht3 : w9.cell? ⟨w.heap.size + 1, 3, none⟩ = some _ := (blk_cell HT9.out 3).trans rfl; have ht4 : w9.cell? ⟨w.heap.size + 1, 4, none⟩ = some _ := (blk_cell HT9.out 4).trans rfl; have ft0 := blk_frozen HT9.out 0; have ft1 := blk_frozen HT9.out 1; have ft2 := blk_frozen HT9.out 2; have ft3 := blk_frozen HT9.out 3; have ft4 := blk_frozen HT9.out 4; clear ho hb hg hat))
            go_roundg m
            case measure => have := HKG.out; omega
            case rel => exact ⟨rfl, rfl, r2, _, A3, c3, B, d, m, rfl, Nat.le_refl _, by have := HKK.out; omega, HB2, MN⟩
          · rw [if_neg h2] at hB
            have d2 : (e2 != 0) = true := bne_iff_ne.mpr h2
            cases hB
            clear ce hL
            go_wp2_with ((go_at_call 20; (with_reducible refine (HV.out s _ (wrap64 (ahead + 1)) X _ _ _ HVV.out).mono ?_); rintro e w4 ⟨v3, v4, rfl, hR3, hR4, hb⟩; obtain ⟨X3, d3, rfl⟩ := Kd.R_slice hR3; obtain ⟨X4, d4, rfl⟩ := Kd.R_slice hR4; have M4 := Aside0.mk (M0.out.below hb); have M5 := Aside0.mk (M4.out.below (below_alloc (Below.refl _ _) (.cells #[.int .i64 X.f0, .int .i64 X.f1, .string X.f2, .slice X3 X.f3.length d3, .slice X4 X.f4.length d4] 25))); have HP := Aside0.mk M0.out; obtain ⟨sz, hsz⟩ : ∃ n, wr.heap.size = n := ⟨_, rfl⟩; rw [hsz] at hR3 hR4; have HSZ := Aside0.mk hsz; have RX3 := Aside0.mk (Kd.R_alloc hR3 (.cells #[.int .i64 X.f0, .int .i64 X.f1, .string X.f2, .slice X3 X.f3.length d3, .slice X4 X.f4.length d4] 25)); have RX4 := Aside0.mk (Kd.R_alloc hR4 (.cells #[.int .i64 X.f0, .int .i64 X.f1, .string X.f2, .slice X3 X.f3.length d3, .slice X4 X.f4.length d4] 25)); have HNB := Aside0.mk (blk_new w4 (.cells #[.int .i64 X.f0, .int .i64 X.f1, .string X.f2, .slice X3 X.f3.length d3, .slice X4 X.f4.length d4] 25)); have ht0 : (w4.alloc (.cells #[.int .i64 X.f0, .int .i64 X.f1, .string X.f2, .slice X3 X.f3.length d3, .slice X4 X.f4.length d4] 25)).cell? ⟨w.heap.size + 1, 0, none⟩ = some _ := (blk_cell M5.out.tb 0).trans rfl; have ht1 : (w4.alloc (.cells #[.int .i64 X.f0, .int .i64 X.f1, .string X.f2, .slice X3 X.f3.length d3, .slice X4 X.f4.length d4] 25)).cell? ⟨w.heap.size + 1, 1, none⟩ = some _ := (blk_cell M5.out.tb 1).trans rfl; have ht2 : (w4.alloc (.cells #[.int .i64 X.f0, .int .i64 X.f1, .string X.f2, .slice X3 X.f3.length d3, .slice X4 X.f4.length d4] 25)).cell? ⟨w.heap.size + 1, 2, none⟩ = some _ := (blk_cell M5.out.tb 2).trans rfl; have ht3 : (w4.alloc (.cells #[.int .i64 X.f0, .int .i64 X.f1, .string X.f2, .slice X3 X.f3.length d3, .slice X4 X.f4.length d4] 25)).cell? ⟨w.heap.size + 1, 3, none⟩ = some _ := (blk_cell M5.out.tb 3).trans rfl; have ht4 : (w4.alloc (.cells #[.int .i64 X.f0, .int .i64 X.f1, .string X.f2, .slice X3 X.f3.length d3, .slice X4 X.f4.length d4] 25)).cell? ⟨w.heap.size + 1, 4, none⟩ = some _ := (blk_cell M5.out.tb 4).trans rfl; have ft0 := blk_frozen M5.out.tb 0; have ft1 := blk_frozen M5.out.tb 1; have ft2 := blk_frozen M5.out.tb 2; have ft3 := blk_frozen M5.out.tb 3; have ft4 := blk_frozen M5.out.tb 4; have hz0 : (w4.alloc (.cells #[.int .i64 X.f0, .int .i64 X.f1, .string X.f2, .slice X3 X.f3.length d3, .slice X4 X.f4.length d4] 25)).cell? ⟨w.heap.size, 0, none⟩ = some _ := (blk_cell M5.out.res 0).trans rfl; have hz1 : (w4.alloc (.cells #[.int .i64 X.f0, .int .i64 X.f1, .string X.f2, .slice X3 X.f3.length d3, .slice X4 X.f4.length d4] 25)).cell? ⟨w.heap.size, 1, none⟩ = some _ := (blk_cell M5.out.res 1).trans rfl; have hz2 : (w4.alloc (.cells #[.int .i64 X.f0, .int .i64 X.f1, .string X.f2, .slice X3 X.f3.length d3, .slice X4 X.f4.length d4] 25)).cell? ⟨w.heap.size, 2, none⟩ = some _ := (blk_cell M5.out.res 2).trans rfl; have hz3 : (w4.alloc (.cells #[.int .i64 X.f0, .int .i64 X.f1, .string X.f2, .slice X3 X.f3.length d3, .slice X4 X.f4.length d4] 25)).cell? ⟨w.heap.size, 3, none⟩ = some _ := (blk_cell M5.out.res 3).trans rfl; have hz4 : (w4.alloc (.cells #[.int .i64 X.f0, .int .i64 X.f1, .string X.f2, .slice X3 X.f3.length d3, .slice X4 X.f4.length d4] 25)).cell? ⟨w.heap.size, 4, none⟩ = some _ := (blk_cell M5.out.res 4).trans rfl; have fz0 := blk_frozen M5.out.res 0; have fz1 := blk_frozen M5.out.res 1; have fz2 := blk_frozen M5.out.res 2; have fz3 := blk_frozen M5.out.res 3; have fz4 := blk_frozen M5.out.res 4; clear hb hR3 hR4 hsz))
            refine bodyPost_ret (results_ctt rfl _ _ w.heap.size 25 #[.int .i64 0, .int .i64 0, .string ⟨#[]⟩, .slice none 0 0, .slice none 0 0] (0, 0) _ rfl (put5 M5.out.res _ _ _ _ _) Try.underlying25 rfl (by kernel_rfl)) rfl ?_
            exact ⟨_, _, rfl, Kd.R_nil _ _ _ _ _, Kd.R_nil _ _ _ _ _, (((((M5.out.bel.setCell (Nat.le_refl _) _).setCell (Nat.le_refl _) _).setCell (Nat.le_refl _) _).setCell (Nat.le_refl _) _).setCell (Nat.le_refl _) _)⟩
        · have d1 : decide ((s.size : Int) ≤ at_) = false := decide_eq_false c1
          have p6 := eq_true hL.1
          have q6 := eq_true (show at_ < (s.size : Int) by omega)
          have n1 : (bt s at_ != 101) = true := bne_iff_ne.mpr (fun hh => ce ⟨by omega, hL.1, hh⟩)
          clear c1
          by_cases h2 : e2 = 0
          · rw [if_pos h2] at hB
            have d2 : (e2 != 0) = false := bne_eq_false_iff_eq.mpr h2
            have HB2 := Aside0.mk hB
            clear hB h2 ce hL
            go_upto_region 20 with ((go_at_call 20; (with_reducible refine (HV.out s _ (wrap64 (ahead + 1)) X r2 e2 _ HVV.out).mono ?_); rintro e w4 ⟨v3, v4, rfl, hR3, hR4, hb⟩; obtain ⟨X3, d3, rfl⟩ := Kd.R_slice hR3; obtain ⟨X4, d4, rfl⟩ := Kd.R_slice hR4; have M4 := Aside0.mk (M0.out.below hb); have M5 := Aside0.mk (M4.out.below (below_alloc (Below.refl _ _) (.cells #[.int .i64 X.f0, .int .i64 X.f1, .string X.f2, .slice X3 X.f3.length d3, .slice X4 X.f4.length d4] 25))); have HP := Aside0.mk M0.out; obtain ⟨sz, hsz⟩ : ∃ n, wr.heap.size = n := ⟨_, rfl⟩; rw [hsz] at hR3 hR4; have HSZ := Aside0.mk hsz; have RX3 := Aside0.mk (Kd.R_alloc hR3 (.cells #[.int .i64 X.f0, .int .i64 X.f1, .string X.f2, .slice X3 X.f3.length d3, .slice X4 X.f4.length d4] 25)); have RX4 := Aside0.mk (Kd.R_alloc hR4 (.cells #[.int .i64 X.f0, .int .i64 X.f1, .string X.f2, .slice X3 X.f3.length d3, .slice X4 X.f4.length d4] 25)); have HNB := Aside0.mk (blk_new w4 (.cells #[.int .i64 X.f0, .int .i64 X.f1, .string X.f2, .slice X3 X.f3.length d3, .slice X4 X.f4.length d4] 25)); clear hb hR3 hR4 hsz))
            generalize (w4.alloc (.cells #[.int .i64 X.f0, .int .i64 X.f1, .string X.f2, .slice X3 X.f3.length d3, .slice X4 X.f4.length d4] 25)) = w5 at M5 RX3 RX4 HNB ⊢
            have ht0 : w5.cell? ⟨w.heap.size + 1, 0, none⟩ = some _ := (blk_cell M5.out.tb 0).trans rfl
            have ht1 : w5.cell? ⟨w.heap.size + 1, 1, none⟩ = some _ := (blk_cell M5.out.tb 1).trans rfl
            have ht2 : w5.cell? ⟨w.heap.size + 1, 2, none⟩ = some _ := (blk_cell M5.out.tb 2).trans rfl
            have ht3 : w5.cell? ⟨w.heap.size + 1, 3, none⟩ = some _ := (blk_cell M5.out.tb 3).trans rfl
            have ht4 : w5.cell? ⟨w.heap.size + 1, 4, none⟩ = some _ := (blk_cell M5.out.tb 4).trans rfl
            have ft0 := blk_frozen M5.out.tb 0
            have ft1 := blk_frozen M5.out.tb 1
            have ft2 := blk_frozen M5.out.tb 2
            have ft3 := blk_frozen M5.out.tb 3
            have ft4 := blk_frozen M5.out.tb 4
            have hx0 : w5.cell? ⟨w4.heap.size, 0, none⟩ = some _ := (blk_cell HNB.out 0).trans rfl
            have hx1 : w5.cell? ⟨w4.heap.size, 1, none⟩ = some _ := (blk_cell HNB.out 1).trans rfl
            have hx2 : w5.cell? ⟨w4.heap.size, 2, none⟩ = some _ := (blk_cell HNB.out 2).trans rfl
            have hx3 : w5.cell? ⟨w4.heap.size, 3, none⟩ = some _ := (blk_cell HNB.out 3).trans rfl
            have hx4 : w5.cell? ⟨w4.heap.size, 4, none⟩ = some _ := (blk_cell HNB.out 4).trans rfl
            have fx0 := blk_frozen HNB.out 0
            have fx1 := blk_frozen HNB.out 1
            have fx2 := blk_frozen HNB.out 2
            have fx3 := blk_frozen HNB.out 3
            have fx4 := blk_frozen HNB.out 4
            go_wp2_with (((with_reducible refine gate_builtin (b := .append) (xs := #[.tmp 93, .tmp 95]) rfl ?_); at_builtin; refine Kd.R_append k25 (w0 := w5) (w.heap.size + 2) rfl (.tmp 93) (.tmp 95) 23 25 (.agg #[.int .i64 0, .int .i64 0, .string ⟨#[]⟩, .slice none 0 0, .slice none 0 0]) 80 rfl Try.underlying23 infoB25 rfl (by decide) (by omega) (.slice A4 Ti.f4.length c4) Ti.f4 X [.int .i64 X.f0, .int .i64 X.f1, .string X.f2, .slice X3 X.f3.length d3, .slice X4 X.f4.length d4] (fun k => some k ≠ (Value.slice A3 (Ti.f3).length c3).ownBlock) (fun k => sz ≤ k) rfl rfl ?aP ?aK ?aF ?aO ?aB ?aS ?aL ?_; (case aP => exact kid_M RX3.out RX4.out (by have := HP.out.lo; have := HSZ.out; omega)); (case aK => exact fun j hj => ⟨own_lt HP.out.keys (by have := HSZ.out; omega), own_lt HP.out.kids (by have := HSZ.out; omega)⟩); (case aB => exact Below.refl _ _); (case aF => exact fun j hj => own_lt M5.out.keys hj); (case aO => exact M5.out.kids); (case aS => exact M5.out.lo); (case aL => have := LM.out; omega); intro v1 w9 ho hb hg hat; obtain ⟨B, d, rfl⟩ := Kd.R_slice ho; have MN0 := LSx.kidsPut M5.out ho hb hg; rw [show (Ti.f4 ++ [X]).length = Ti.f4.length + 1 by simp] at MN0; have MN := Aside0.mk MN0; clear MN0; have HT9 := Aside0.mk (blk_grown M5.out.tb hg (own_ge M5.out.kids (by omega))); have ht0 : w9.cell? ⟨w.heap.size + 1, 0, none⟩ = some _ := (blk_cell HT9.out 0).trans rfl; have ht1 : w9.cell? ⟨w.heap.size + 1, 1, none⟩ = some _ := (blk_cell HT9.out 1).trans rfl; have ht2 : w9.cell? ⟨w.heap.size + 1, 2, none⟩ = some _ := (blk_cell HT9.out 2).trans rfl; have ht3 : w9.cell? ⟨w.heap.size + 1, 3, none⟩ = some _ := (blk_cell HT9.out 3).trans rfl; have ht4 : w9.cell? ⟨w.heap.size + 1, 4, none⟩ = some _ := (blk_cell HT9.out 4).trans rfl; have ft0 := blk_frozen HT9.out 0; have ft1 := blk_frozen HT9.out 1; have ft2 := blk_frozen HT9.out 2; have ft3 := blk_frozen HT9.out 3; have ft4 := blk_frozen HT9.out 4; clear ho hb hg hat))
            go_roundg m
            case measure => have := HKG.out; omega
            case rel => exact ⟨rfl, rfl, r2, _, A3, c3, B, d, m, rfl, Nat.le_refl _, by have := HKK.out; omega, HB2, MN⟩
          · rw [if_neg h2] at hB
            have d2 : (e2 != 0) = true := bne_iff_ne.mpr h2
            cases hB
            clear ce hL
            go_wp2_with ((go_at_call 20; (with_reducible refine (HV.out s _ (wrap64 (ahead + 1)) X _ _ _ HVV.out).mono ?_); rintro e w4 ⟨v3, v4, rfl, hR3, hR4, hb⟩; obtain ⟨X3, d3, rfl⟩ := Kd.R_slice hR3; obtain ⟨X4, d4, rfl⟩ := Kd.R_slice hR4; have M4 := Aside0.mk (M0.out.below hb); have M5 := Aside0.mk (M4.out.below (below_alloc (Below.refl _ _) (.cells #[.int .i64 X.f0, .int .i64 X.f1, .string X.f2, .slice X3 X.f3.length d3, .slice X4 X.f4.length d4] 25))); have HP := Aside0.mk M0.out; obtain ⟨sz, hsz⟩ : ∃ n, wr.heap.size = n := ⟨_, rfl⟩; rw [hsz] at hR3 hR4; have HSZ := Aside0.mk hsz; have RX3 := Aside0.mk (Kd.R_alloc hR3 (.cells #[.int .i64 X.f0, .int .i64 X.f1, .string X.f2, .slice X3 X.f3.length d3, .slice X4 X.f4.length d4] 25)); have RX4 := Aside0.mk (Kd.R_alloc hR4 (.cells #[.int .i64 X.f0, .int .i64 X.f1, .string X.f2, .slice X3 X.f3.length d3, .slice X4 X.f4.length d4] 25)); have HNB := Aside0.mk (blk_new w4 (.cells #[.int .i64 X.f0, .int .i64 X.f1, .string X.f2, .slice X3 X.f3.length d3, .slice X4 X.f4.length d4] 25)); have ht0 : (w4.alloc (.cells #[.int .i64 X.f0, .int .i64 X.f1, .string X.f2, .slice X3 X.f3.length d3, .slice X4 X.f4.length d4] 25)).cell? ⟨w.heap.size + 1, 0, none⟩ = some _ := (blk_cell M5.out.tb 0).trans rfl; have ht1 : (w4.alloc (.cells #[.int .i64 X.f0, .int .i64 X.f1, .string X.f2, .slice X3 X.f3.length d3, .slice X4 X.f4.length d4] 25)).cell? ⟨w.heap.size + 1, 1, none⟩ = some _ := (blk_cell M5.out.tb 1).trans rfl; have ht2 : (w4.alloc (.cells #[.int .i64 X.f0, .int .i64 X.f1, .string X.f2, .slice X3 X.f3.length d3, .slice X4 X.f4.length d4] 25)).cell? ⟨w.heap.size + 1, 2, none⟩ = some _ := (blk_cell M5.out.tb 2).trans rfl; have ht3 : (w4.alloc (.cells #[.int .i64 X.f0, .int .i64 X.f1, .string X.f2, .slice X3 X.f3.length d3, .slice X4 X.f4.length d4] 25)).cell? ⟨w.heap.size + 1, 3, none⟩ = some _ := (blk_cell M5.out.tb 3).trans rfl; have ht4 : (w4.alloc (.cells #[.int .i64 X.f0, .int .i64 X.f1, .string X.f2, .slice X3 X.f3.length d3, .slice X4 X.f4.length d4] 25)).cell? ⟨w.heap.size + 1, 4, none⟩ = some _ := (blk_cell M5.out.tb 4).trans rfl; have ft0 := blk_frozen M5.out.tb 0; have ft1 := blk_frozen M5.out.tb 1; have ft2 := blk_frozen M5.out.tb 2; have ft3 := blk_frozen M5.out.tb 3; have ft4 := blk_frozen M5.out.tb 4; have hz0 : (w4.alloc (.cells #[.int .i64 X.f0, .int .i64 X.f1, .string X.f2, .slice X3 X.f3.length d3, .slice X4 X.f4.length d4] 25)).cell? ⟨w.heap.size, 0, none⟩ = some _ := (blk_cell M5.out.res 0).trans rfl; have hz1 : (w4.alloc (.cells #[.int .i64 X.f0, .int .i64 X.f1, .string X.f2, .slice X3 X.f3.length d3, .slice X4 X.f4.length d4] 25)).cell? ⟨w.heap.size, 1, none⟩ = some _ := (blk_cell M5.out.res 1).trans rfl; have hz2 : (w4.alloc (.cells #[.int .i64 X.f0, .int .i64 X.f1, .string X.f2, .slice X3 X.f3.length d3, .slice X4 X.f4.length d4] 25)).cell? ⟨w.heap.size, 2, none⟩ = some _ := (blk_cell M5.out.res 2).trans rfl; have hz3 : (w4.alloc (.cells #[.int .i64 X.f0, .int .i64 X.f1, .string X.f2, .slice X3 X.f3.length d3, .slice X4 X.f4.length d4] 25)).cell? ⟨w.heap.size, 3, none⟩ = some _ := (blk_cell M5.out.res 3).trans rfl; have hz4 : (w4.alloc (.cells #[.int .i64 X.f0, .int .i64 X.f1, .string X.f2, .slice X3 X.f3.length d3, .slice X4 X.f4.length d4] 25)).cell? ⟨w.heap.size, 4, none⟩ = some _ := (blk_cell M5.out.res 4).trans rfl; have fz0 := blk_frozen M5.out.res 0; have fz1 := blk_frozen M5.out.res 1; have fz2 := blk_frozen M5.out.res 2; have fz3 := blk_frozen M5.out.res 3; have fz4 := blk_frozen M5.out.res 4; clear hb hR3 hR4 hsz))
            refine bodyPost_ret (results_ctt rfl _ _ w.heap.size 25 #[.int .i64 0, .int .i64 0, .string ⟨#[]⟩, .slice none 0 0, .slice none 0 0] (0, 0) _ rfl (put5 M5.out.res _ _ _ _ _) Try.underlying25 rfl (by kernel_rfl)) rfl ?_
            exact ⟨_, _, rfl, Kd.R_nil _ _ _ _ _, Kd.R_nil _ _ _ _ _, (((((M5.out.bel.setCell (Nat.le_refl _) _).setCell (Nat.le_refl _) _).setCell (Nat.le_refl _) _).setCell (Nat.le_refl _) _).setCell (Nat.le_refl _) _)⟩
set_option maxHeartbeats 4000000 in
set_option maxRecDepth 100000 in
theorem rl_dict (k : Nat) (hV : ∀ j, j < k → RvC j) (s : ByteArray) (at0 ahead : Int) (T : S25) (k1 e0 : Int) (w : World) (h : rl.f k s at0 ahead true ⟨4, 0, ⟨#[]⟩, [], []⟩ = some (T, k1, e0)) :
    Calls Try.prog 35 #[.string s, .int .i64 at0, .int .i64 ahead, .bool true] w fun e w2 => ∃ v3 v4 : Value, e = .returned (.tuple #[.agg #[.int .i64 T.f0, .int .i64 T.f1, .string T.f2, v3, v4], .int .i64 k1, .int .i64 e0]) ∧ Kd.string.R 9 w2 w.heap.size (fun _ => True) v3 T.f3 ∧ k25.R 25 w2 w.heap.size (fun k => some k ≠ v3.ownBlock) v4 T.f4 ∧ Below w.heap.size w w2 := by
  have hu25 := Try.underlying25
  have HV0 := Aside0.mk hV
  have S0 : Aside0 (LSx w ((w.alloc (.cells #[.int .i64 0, .int .i64 0, .string ⟨#[]⟩, .slice none 0 0, .slice none 0 0] 25)).alloc (.cells #[.int .i64 4, .int .i64 0, .string ⟨#[]⟩, .slice none 0 0, .slice none 0 0] 25)) ⟨4, 0, ⟨#[]⟩, [], []⟩ none 0 none 0) := by
    have hn := blk_new (w.alloc (.cells #[.int .i64 0, .int .i64 0, .string ⟨#[]⟩, .slice none 0 0, .slice none 0 0] 25)) (.cells #[.int .i64 4, .int .i64 0, .string ⟨#[]⟩, .slice none 0 0, .slice none 0 0] 25)
    have hs : (w.alloc (.cells #[.int .i64 0, .int .i64 0, .string ⟨#[]⟩, .slice none 0 0, .slice none 0 0] 25)).heap.size = w.heap.size + 1 := by simp
    rw [hs] at hn
    have hn2 := blk_lt hn
    exact ⟨⟨below_alloc (below_alloc (Below.refl _ _) _) _, hn2, blk_alloc (blk_new w _) _, hn, Kd.R_nil _ _ _ _ _, Kd.R_nil _ _ _ _ _⟩⟩
  have HH := Aside0.mk h
  clear hV h
  go_enter Try.func35, Try.ntmps35
  go_wp2
  go_loopg [1, 9, 10] k (fun gg v1 v9 v10 wr => v9 = .int .i64 0 ∧ v10 = .int .i64 0 ∧ ∃ (at_ : Int) (Ti : S25) (A3 : Option Addr) (c3 : Nat) (A4 : Option Addr) (c4 : Nat) (kk : Nat), v1 = .int .i64 at_ ∧ kk ≤ gg ∧ kk ≤ k ∧ Aside0 (rl.f kk s at_ ahead true Ti = some (T, k1, e0)) ∧ Aside0 (LSx w wr Ti A3 c3 A4 c4))
  case atStart => exact ⟨rfl, rfl, at0, _, none, 0, none, 0, k, rfl, Nat.le_refl _, Nat.le_refl _, HH, S0⟩
  case round =>
    obtain ⟨rfl, rfl, at_, Ti, A3, c3, A4, c4, kk, rfl, hkg, hkk, HB, M0⟩ := hrel
    cases kk with
    | zero => exact absurd HB.out (by simp [rl.f])
    | succ m =>
      have hB := HB.out
      have HKK := Aside0.mk hkk
      have HKG := Aside0.mk hkg
      clear HB hkk hkg
      rw [rl.f] at hB
      have hx := bt_at s at_
      have hy0 : wr.cell? ⟨w.heap.size + 1, 0, none⟩ = some _ := (blk_cell M0.out.tb 0).trans rfl
      have hy1 : wr.cell? ⟨w.heap.size + 1, 1, none⟩ = some _ := (blk_cell M0.out.tb 1).trans rfl
      have hy2 : wr.cell? ⟨w.heap.size + 1, 2, none⟩ = some _ := (blk_cell M0.out.tb 2).trans rfl
      have hy3 : wr.cell? ⟨w.heap.size + 1, 3, none⟩ = some _ := (blk_cell M0.out.tb 3).trans rfl
      have hy4 : wr.cell? ⟨w.heap.size + 1, 4, none⟩ = some _ := (blk_cell M0.out.tb 4).trans rfl
      have fy0 := blk_frozen M0.out.tb 0
      have fy1 := blk_frozen M0.out.tb 1
      have fy2 := blk_frozen M0.out.tb 2
      have fy3 := blk_frozen M0.out.tb 3
      have fy4 := blk_frozen M0.out.tb 4
      have hq0 : wr.cell? ⟨w.heap.size, 0, none⟩ = some _ := (blk_cell M0.out.res 0).trans rfl
      have hq1 : wr.cell? ⟨w.heap.size, 1, none⟩ = some _ := (blk_cell M0.out.res 1).trans rfl
      have hq2 : wr.cell? ⟨w.heap.size, 2, none⟩ = some _ := (blk_cell M0.out.res 2).trans rfl
      have hq3 : wr.cell? ⟨w.heap.size, 3, none⟩ = some _ := (blk_cell M0.out.res 3).trans rfl
      have hq4 : wr.cell? ⟨w.heap.size, 4, none⟩ = some _ := (blk_cell M0.out.res 4).trans rfl
      have fq0 := blk_frozen M0.out.res 0
      have fq1 := blk_frozen M0.out.res 1
      have fq2 := blk_frozen M0.out.res 2
      have fq3 := blk_frozen M0.out.res 3
      have fq4 := blk_frozen M0.out.res 4
      by_cases ce : at_ < (s.size : Int) ∧ 0 ≤ at_ ∧ bt s at_ = 101
      · rw [if_pos ce] at hB
        cases hB
        have d1 : decide ((s.size : Int) ≤ at_) = false := decide_eq_false (by omega)
        have p6 := eq_true ce.2.1
        have q6 := eq_true ce.1
        rw [ce.2.2] at hx
        clear ce
        go_wp2
        refine bodyPost_ret (results_ctt rfl _ _ w.heap.size 25 #[.int .i64 T.f0, .int .i64 T.f1, .string T.f2, .slice A3 T.f3.length c3, .slice A4 T.f4.length c4] (0, 0) _ rfl (put5 M0.out.res _ _ _ _ _) Try.underlying25 rfl (by kernel_rfl)) rfl ?_
        exact ⟨_, _, rfl, Kd.R_lower (R_keepB M0.out.keys (keep5 (KeepBut.refl _ _ _) _ _ _ _ _) (by omega)) (by omega), Kd.R_lower (R_keepB M0.out.kids (keep5 (KeepBut.refl _ _ _) _ _ _ _ _) (by omega)) (by omega), (((((M0.out.bel.setCell (Nat.le_refl _) _).setCell (Nat.le_refl _) _).setCell (Nat.le_refl _) _).setCell (Nat.le_refl _) _).setCell (Nat.le_refl _) _)⟩
      · rw [if_neg ce] at hB
        by_cases hL : 0 ≤ at_ ∧ Ti.f3.length < 1099511627776 ∧ Ti.f4.length < 1099511627776
        case neg => rw [if_neg hL] at hB; cases hB
        rw [if_pos hL] at hB
        have LM := Aside0.mk hL
        rw [if_pos rfl] at hB
        obtain ⟨⟨ks, at1, eq⟩, hq, hB⟩ := Option.bind_eq_some_iff.mp hB
        dsimp only at hB
        by_cases c1 : at_ ≥ (s.size : Int)
        · rw [if_pos c1] at hq
          cases hq
          rw [if_neg (by decide)] at hB
          cases hB
          have d1 : decide ((s.size : Int) ≤ at_) = true := decide_eq_true c1
          clear c1 ce hL
          go_wp2
          refine bodyPost_ret (results_ctt rfl _ _ w.heap.size 25 #[.int .i64 0, .int .i64 0, .string ⟨#[]⟩, .slice none 0 0, .slice none 0 0] (0, 0) _ rfl (put5 (M0.out.res) _ _ _ _ _) Try.underlying25 rfl (by kernel_rfl)) rfl ?_
          exact ⟨_, _, rfl, Kd.R_nil _ _ _ _ _, Kd.R_nil _ _ _ _ _, ((((((M0.out.bel).setCell (Nat.le_refl _) _).setCell (Nat.le_refl _) _).setCell (Nat.le_refl _) _).setCell (Nat.le_refl _) _).setCell (Nat.le_refl _) _)⟩
        rw [if_neg c1] at hq
        have d1 : decide ((s.size : Int) ≤ at_) = false := decide_eq_false c1
        have p6 := eq_true hL.1
        have q6 := eq_true (show at_ < (s.size : Int) by omega)
        have n1 : (bt s at_ != 101) = true := bne_iff_ne.mpr (fun hh => ce ⟨by omega, hL.1, hh⟩)
        obtain ⟨c, hc⟩ : ∃ c, bt s at_ = c := ⟨_, rfl⟩
        rw [hc] at hx hq n1
        obtain ⟨dg, hdg, hq⟩ := Option.bind_eq_some_iff.mp hq
        have HDG := Aside0.mk hdg
        clear c1 ce hL hc hdg
        cases dg with
        | false =>
          rw [if_neg (by simp)] at hq
          cases hq
          rw [if_neg (by decide)] at hB
          cases hB
          go_wp2_with ((go_at_call 32; (with_reducible refine (annuletref12_digit.calls c false _ HDG.out).mono ?_); rintro e w1 ⟨rfl, ⟨nd, rfl⟩⟩))
          refine bodyPost_ret (results_ctt rfl _ _ w.heap.size 25 #[.int .i64 0, .int .i64 0, .string ⟨#[]⟩, .slice none 0 0, .slice none 0 0] (0, 0) _ rfl (put5 (blk_drewN M0.out.res _) _ _ _ _ _) Try.underlying25 rfl (by kernel_rfl)) rfl ?_
          exact ⟨_, _, rfl, Kd.R_nil _ _ _ _ _, Kd.R_nil _ _ _ _ _, ((((((pw_below_drewN M0.out.bel _).setCell (Nat.le_refl _) _).setCell (Nat.le_refl _) _).setCell (Nat.le_refl _) _).setCell (Nat.le_refl _) _).setCell (Nat.le_refl _) _)⟩
        | true =>
          rw [if_pos rfl] at hq
          obtain ⟨⟨x, r1, e1⟩, hC, hq⟩ := Option.bind_eq_some_iff.mp hq
          have HC := Aside0.mk hC
          clear hC
          dsimp only at hq
          by_cases h1 : e1 = 0
          case neg =>
            rw [if_neg h1] at hq
            cases hq
            rw [if_neg h1] at hB
            cases hB
            have de := (bne_iff_ne.mpr h1)
            clear h1
            go_wp2_with (first | (go_at_call 32; (with_reducible refine (annuletref12_digit.calls c true _ HDG.out).mono ?_); rintro e w1 ⟨rfl, ⟨nd, rfl⟩⟩) | (go_at_call 33; (with_reducible refine (annuletref12_word.calls m s at_ x _ _ _ HC.out).mono ?_); rintro e w3 ⟨rfl, hb⟩; have M3 := Aside0.mk ((M0.out.below (pw_below_drewN (Below.refl _ _) _)).below hb); have ht0 : w3.cell? ⟨w.heap.size + 1, 0, none⟩ = some _ := (blk_cell M3.out.tb 0).trans rfl; have ht1 : w3.cell? ⟨w.heap.size + 1, 1, none⟩ = some _ := (blk_cell M3.out.tb 1).trans rfl; have ht2 : w3.cell? ⟨w.heap.size + 1, 2, none⟩ = some _ := (blk_cell M3.out.tb 2).trans rfl; have ht3 : w3.cell? ⟨w.heap.size + 1, 3, none⟩ = some _ := (blk_cell M3.out.tb 3).trans rfl; have ht4 : w3.cell? ⟨w.heap.size + 1, 4, none⟩ = some _ := (blk_cell M3.out.tb 4).trans rfl; have ft0 := blk_frozen M3.out.tb 0; have ft1 := blk_frozen M3.out.tb 1; have ft2 := blk_frozen M3.out.tb 2; have ft3 := blk_frozen M3.out.tb 3; have ft4 := blk_frozen M3.out.tb 4; have hz0 : w3.cell? ⟨w.heap.size, 0, none⟩ = some _ := (blk_cell M3.out.res 0).trans rfl; have hz1 : w3.cell? ⟨w.heap.size, 1, none⟩ = some _ := (blk_cell M3.out.res 1).trans rfl; have hz2 : w3.cell? ⟨w.heap.size, 2, none⟩ = some _ := (blk_cell M3.out.res 2).trans rfl; have hz3 : w3.cell? ⟨w.heap.size, 3, none⟩ = some _ := (blk_cell M3.out.res 3).trans rfl; have hz4 : w3.cell? ⟨w.heap.size, 4, none⟩ = some _ := (blk_cell M3.out.res 4).trans rfl; have fz0 := blk_frozen M3.out.res 0; have fz1 := blk_frozen M3.out.res 1; have fz2 := blk_frozen M3.out.res 2; have fz3 := blk_frozen M3.out.res 3; have fz4 := blk_frozen M3.out.res 4; clear hb))
            refine bodyPost_ret (results_ctt rfl _ _ w.heap.size 25 #[.int .i64 0, .int .i64 0, .string ⟨#[]⟩, .slice none 0 0, .slice none 0 0] (0, 0) _ rfl (put5 (M3.out.res) _ _ _ _ _) Try.underlying25 rfl (by kernel_rfl)) rfl ?_
            exact ⟨_, _, rfl, Kd.R_nil _ _ _ _ _, Kd.R_nil _ _ _ _ _, ((((((M3.out.bel).setCell (Nat.le_refl _) _).setCell (Nat.le_refl _) _).setCell (Nat.le_refl _) _).setCell (Nat.le_refl _) _).setCell (Nat.le_refl _) _)⟩
          rw [if_pos h1] at hq
          have de : (e1 != 0) = false := bne_eq_false_iff_eq.mpr h1
          clear h1
          cases hg0 : Ti.f3.getLast? with
          | none =>
            rw [hg0] at hq
            have hnil : Ti.f3 = [] := List.getLast?_eq_none_iff.1 hg0
            have z1 : decide (0 < (Ti.f3.length : Int)) = false := by rw [hnil]; rfl
            have z2 : decide (0 < Ti.f3.length) = false := by rw [hnil]; rfl
            clear hnil hg0
            cases hq
            rw [if_pos rfl] at hB
            obtain ⟨⟨X, r2, e2⟩, hX, hB⟩ := Option.bind_eq_some_iff.mp hB
            have hVm := HV0.out m (by have := HKK.out; omega)
            unfold RvC at hVm
            have HV := Aside0.mk hVm
            have HVV := Aside0.mk hX
            clear hX hVm
            by_cases h2 : e2 = 0
            · rw [if_pos h2] at hB
              have d2 : (e2 != 0) = false := bne_eq_false_iff_eq.mpr h2
              have HB2 := Aside0.mk hB
              clear hB h2
              go_upto_region 20 with (first | (go_at_call 32; (with_reducible refine (annuletref12_digit.calls c true _ HDG.out).mono ?_); rintro e w1 ⟨rfl, ⟨nd, rfl⟩⟩) | (go_at_call 33; (with_reducible refine (annuletref12_word.calls m s at_ x _ _ _ HC.out).mono ?_); rintro e w3 ⟨rfl, hb⟩; have M3 := Aside0.mk ((M0.out.below (pw_below_drewN (Below.refl _ _) _)).below hb); have ht0 : w3.cell? ⟨w.heap.size + 1, 0, none⟩ = some _ := (blk_cell M3.out.tb 0).trans rfl; have ht1 : w3.cell? ⟨w.heap.size + 1, 1, none⟩ = some _ := (blk_cell M3.out.tb 1).trans rfl; have ht2 : w3.cell? ⟨w.heap.size + 1, 2, none⟩ = some _ := (blk_cell M3.out.tb 2).trans rfl; have ht3 : w3.cell? ⟨w.heap.size + 1, 3, none⟩ = some _ := (blk_cell M3.out.tb 3).trans rfl; have ht4 : w3.cell? ⟨w.heap.size + 1, 4, none⟩ = some _ := (blk_cell M3.out.tb 4).trans rfl; have ft0 := blk_frozen M3.out.tb 0; have ft1 := blk_frozen M3.out.tb 1; have ft2 := blk_frozen M3.out.tb 2; have ft3 := blk_frozen M3.out.tb 3; have ft4 := blk_frozen M3.out.tb 4; have hz0 : w3.cell? ⟨w.heap.size, 0, none⟩ = some _ := (blk_cell M3.out.res 0).trans rfl; have hz1 : w3.cell? ⟨w.heap.size, 1, none⟩ = some _ := (blk_cell M3.out.res 1).trans rfl; have hz2 : w3.cell? ⟨w.heap.size, 2, none⟩ = some _ := (blk_cell M3.out.res 2).trans rfl; have hz3 : w3.cell? ⟨w.heap.size, 3, none⟩ = some _ := (blk_cell M3.out.res 3).trans rfl; have hz4 : w3.cell? ⟨w.heap.size, 4, none⟩ = some _ := (blk_cell M3.out.res 4).trans rfl; have fz0 := blk_frozen M3.out.res 0; have fz1 := blk_frozen M3.out.res 1; have fz2 := blk_frozen M3.out.res 2; have fz3 := blk_frozen M3.out.res 3; have fz4 := blk_frozen M3.out.res 4; clear hb) | ((with_reducible refine gate_builtin (b := .append) (xs := #[.tmp 73, .tmp 75]) rfl ?_); at_builtin; refine Kd.R_append Kd.string (w0 := w3) (w.heap.size + 2) rfl (.tmp 73) (.tmp 75) 22 9 (.string ⟨#[]⟩) 16 rfl Try.underlying22 infoB9 rfl (by decide) (by omega) (.slice A3 Ti.f3.length c3) Ti.f3 x [.string x] (fun _ => True) (fun _ => False) rfl rfl ?aP (fun _ hk => hk.elim) ?aF ?aO ?aB ?aS ?aL ?_; (case aP => exact rfl); (case aB => exact Below.refl _ _); (case aF => exact (fun _ _ => trivial)); (case aO => exact (M3.out).keys); (case aS => exact (M3.out).lo); (case aL => have := LM.out; omega); intro v1 w8 ho hb hg hat; obtain ⟨A, c8, rfl⟩ := Kd.R_slice ho; have MK0 := LSx.keysPut (M3.out) ho hb hg hat; rw [show (Ti.f3 ++ [x]).length = Ti.f3.length + 1 by simp] at MK0; have MK := Aside0.mk MK0; clear MK0; have HT8 := Aside0.mk (blk_grown (M3.out).tb hg (own_ge (M3.out).keys (by omega))); have ht0 : w8.cell? ⟨w.heap.size + 1, 0, none⟩ = some _ := (blk_cell HT8.out 0).trans rfl; have ht1 : w8.cell? ⟨w.heap.size + 1, 1, none⟩ = some _ := (blk_cell HT8.out 1).trans rfl; have ht2 : w8.cell? ⟨w.heap.size + 1, 2, none⟩ = some _ := (blk_cell HT8.out 2).trans rfl; have ht3 : w8.cell? ⟨w.heap.size + 1, 3, none⟩ = some _ := (blk_cell HT8.out 3).trans rfl; have ht4 : w8.cell? ⟨w.heap.size + 1, 4, none⟩ = some _ := (blk_cell HT8.out 4).trans rfl; have ft0 := blk_frozen HT8.out 0; have ft1 := blk_frozen HT8.out 1; have ft2 := blk_frozen HT8.out 2; have ft3 := blk_frozen HT8.out 3; have ft4 := blk_frozen HT8.out 4; clear ho hb hg hat) | (go_at_call 20; (with_reducible refine (HV.out s _ (wrap64 (ahead + 1)) X r2 e2 _ HVV.out).mono ?_); rintro e w4 ⟨v3, v4, rfl, hR3, hR4, hb⟩; obtain ⟨X3, d3, rfl⟩ := Kd.R_slice hR3; obtain ⟨X4, d4, rfl⟩ := Kd.R_slice hR4; have M4 := Aside0.mk (MK.out.below hb); have M5 := Aside0.mk (M4.out.below (below_alloc (Below.refl _ _) (.cells #[.int .i64 X.f0, .int .i64 X.f1, .string X.f2, .slice X3 X.f3.length d3, .slice X4 X.f4.length d4] 25))); have HP := Aside0.mk MK.out; obtain ⟨sz, hsz⟩ : ∃ n, (w8.setCell ⟨w.heap.size + 1, 3, none⟩ (.slice A (Ti.f3.length + 1) c8)).heap.size = n := ⟨_, rfl⟩; rw [hsz] at hR3 hR4; have HSZ := Aside0.mk hsz; have RX3 := Aside0.mk (Kd.R_alloc hR3 (.cells #[.int .i64 X.f0, .int .i64 X.f1, .string X.f2, .slice X3 X.f3.length d3, .slice X4 X.f4.length d4] 25)); have RX4 := Aside0.mk (Kd.R_alloc hR4 (.cells #[.int .i64 X.f0, .int .i64 X.f1, .string X.f2, .slice X3 X.f3.length d3, .slice X4 X.f4.length d4] 25)); have HNB := Aside0.mk (blk_new w4 (.cells #[.int .i64 X.f0, .int .i64 X.f1, .string X.f2, .slice X3 X.f3.length d3, .slice X4 X.f4.length d4] 25)); clear hb hR3 hR4 hsz))
              generalize (w4.alloc (.cells #[.int .i64 X.f0, .int .i64 X.f1, .string X.f2, .slice X3 X.f3.length d3, .slice X4 X.f4.length d4] 25)) = w5 at M5 RX3 RX4 HNB ⊢
              have ht0 : w5.cell? ⟨w.heap.size + 1, 0, none⟩ = some _ := (blk_cell M5.out.tb 0).trans rfl
              have ht1 : w5.cell? ⟨w.heap.size + 1, 1, none⟩ = some _ := (blk_cell M5.out.tb 1).trans rfl
              have ht2 : w5.cell? ⟨w.heap.size + 1, 2, none⟩ = some _ := (blk_cell M5.out.tb 2).trans rfl
              have ht3 : w5.cell? ⟨w.heap.size + 1, 3, none⟩ = some _ := (blk_cell M5.out.tb 3).trans rfl
              have ht4 : w5.cell? ⟨w.heap.size + 1, 4, none⟩ = some _ := (blk_cell M5.out.tb 4).trans rfl
              have ft0 := blk_frozen M5.out.tb 0
              have ft1 := blk_frozen M5.out.tb 1
              have ft2 := blk_frozen M5.out.tb 2
              have ft3 := blk_frozen M5.out.tb 3
              have ft4 := blk_frozen M5.out.tb 4
              have hx0 : w5.cell? ⟨w4.heap.size, 0, none⟩ = some _ := (blk_cell HNB.out 0).trans rfl
              have hx1 : w5.cell? ⟨w4.heap.size, 1, none⟩ = some _ := (blk_cell HNB.out 1).trans rfl
              have hx2 : w5.cell? ⟨w4.heap.size, 2, none⟩ = some _ := (blk_cell HNB.out 2).trans rfl
              have hx3 : w5.cell? ⟨w4.heap.size, 3, none⟩ = some _ := (blk_cell HNB.out 3).trans rfl
              have hx4 : w5.cell? ⟨w4.heap.size, 4, none⟩ = some _ := (blk_cell HNB.out 4).trans rfl
              have fx0 := blk_frozen HNB.out 0
              have fx1 := blk_frozen HNB.out 1
              have fx2 := blk_frozen HNB.out 2
              have fx3 := blk_frozen HNB.out 3
              have fx4 := blk_frozen HNB.out 4
              go_wp2_with (((with_reducible refine gate_builtin (b := .append) (xs := #[.tmp 93, .tmp 95]) rfl ?_); at_builtin; refine Kd.R_append k25 (w0 := w5) (w.heap.size + 2) rfl (.tmp 93) (.tmp 95) 23 25 (.agg #[.int .i64 0, .int .i64 0, .string ⟨#[]⟩, .slice none 0 0, .slice none 0 0]) 80 rfl Try.underlying23 infoB25 rfl (by decide) (by omega) (.slice A4 Ti.f4.length c4) Ti.f4 X [.int .i64 X.f0, .int .i64 X.f1, .string X.f2, .slice X3 X.f3.length d3, .slice X4 X.f4.length d4] (fun k => some k ≠ (Value.slice A (Ti.f3 ++ [x]).length c8).ownBlock) (fun k => sz ≤ k) rfl rfl ?aP ?aK ?aF ?aO ?aB ?aS ?aL ?_; (case aP => exact kid_M RX3.out RX4.out (by have := HP.out.lo; have := HSZ.out; omega)); (case aK => exact fun j hj => ⟨own_lt HP.out.keys (by have := HSZ.out; omega), own_lt HP.out.kids (by have := HSZ.out; omega)⟩); (case aB => exact Below.refl _ _); (case aF => exact fun j hj => own_lt M5.out.keys hj); (case aO => exact M5.out.kids); (case aS => exact M5.out.lo); (case aL => have := LM.out; omega); intro v1 w9 ho hb hg hat; obtain ⟨B, d, rfl⟩ := Kd.R_slice ho; have MN0 := LSx.kidsPut M5.out ho hb hg; rw [show (Ti.f4 ++ [X]).length = Ti.f4.length + 1 by simp] at MN0; have MN := Aside0.mk MN0; clear MN0; have HT9 := Aside0.mk (blk_grown M5.out.tb hg (own_ge M5.out.kids (by omega))); have ht0 : w9.cell? ⟨w.heap.size + 1, 0, none⟩ = some _ := (blk_cell HT9.out 0).trans rfl; have ht1 : w9.cell? ⟨w.heap.size + 1, 1, none⟩ = some _ := (blk_cell HT9.out 1).trans rfl; have ht2 : w9.cell? ⟨w.heap.size + 1, 2, none⟩ = some _ := (blk_cell HT9.out 2).trans rfl; have ht3 : w9.cell? ⟨w.heap.size + 1, 3, none⟩ = some _ := (blk_cell HT9.out 3).trans rfl; have ht4 : w9.cell? ⟨w.heap.size + 1, 4, none⟩ = some _ := (blk_cell HT9.out 4).trans rfl; have ft0 := blk_frozen HT9.out 0; have ft1 := blk_frozen HT9.out 1; have ft2 := blk_frozen HT9.out 2; have ft3 := blk_frozen HT9.out 3; have ft4 := blk_frozen HT9.out 4; clear ho hb hg hat))
              go_roundg m
              case measure => have := HKG.out; omega
              case rel => exact ⟨rfl, rfl, r2, _, A, c8, B, d, m, rfl, Nat.le_refl _, by have := HKK.out; omega, HB2, MN⟩
            · rw [if_neg h2] at hB
              have d2 : (e2 != 0) = true := bne_iff_ne.mpr h2
              cases hB
              go_wp2_with (first | (go_at_call 32; (with_reducible refine (annuletref12_digit.calls c true _ HDG.out).mono ?_); rintro e w1 ⟨rfl, ⟨nd, rfl⟩⟩) | (go_at_call 33; (with_reducible refine (annuletref12_word.calls m s at_ x _ _ _ HC.out).mono ?_); rintro e w3 ⟨rfl, hb⟩; have M3 := Aside0.mk ((M0.out.below (pw_below_drewN (Below.refl _ _) _)).below hb); have ht0 : w3.cell? ⟨w.heap.size + 1, 0, none⟩ = some _ := (blk_cell M3.out.tb 0).trans rfl; have ht1 : w3.cell? ⟨w.heap.size + 1, 1, none⟩ = some _ := (blk_cell M3.out.tb 1).trans rfl; have ht2 : w3.cell? ⟨w.heap.size + 1, 2, none⟩ = some _ := (blk_cell M3.out.tb 2).trans rfl; have ht3 : w3.cell? ⟨w.heap.size + 1, 3, none⟩ = some _ := (blk_cell M3.out.tb 3).trans rfl; have ht4 : w3.cell? ⟨w.heap.size + 1, 4, none⟩ = some _ := (blk_cell M3.out.tb 4).trans rfl; have ft0 := blk_frozen M3.out.tb 0; have ft1 := blk_frozen M3.out.tb 1; have ft2 := blk_frozen M3.out.tb 2; have ft3 := blk_frozen M3.out.tb 3; have ft4 := blk_frozen M3.out.tb 4; have hz0 : w3.cell? ⟨w.heap.size, 0, none⟩ = some _ := (blk_cell M3.out.res 0).trans rfl; have hz1 : w3.cell? ⟨w.heap.size, 1, none⟩ = some _ := (blk_cell M3.out.res 1).trans rfl; have hz2 : w3.cell? ⟨w.heap.size, 2, none⟩ = some _ := (blk_cell M3.out.res 2).trans rfl; have hz3 : w3.cell? ⟨w.heap.size, 3, none⟩ = some _ := (blk_cell M3.out.res 3).trans rfl; have hz4 : w3.cell? ⟨w.heap.size, 4, none⟩ = some _ := (blk_cell M3.out.res 4).trans rfl; have fz0 := blk_frozen M3.out.res 0; have fz1 := blk_frozen M3.out.res 1; have fz2 := blk_frozen M3.out.res 2; have fz3 := blk_frozen M3.out.res 3; have fz4 := blk_frozen M3.out.res 4; clear hb) | ((with_reducible refine gate_builtin (b := .append) (xs := #[.tmp 73, .tmp 75]) rfl ?_); at_builtin; refine Kd.R_append Kd.string (w0 := w3) (w.heap.size + 2) rfl (.tmp 73) (.tmp 75) 22 9 (.string ⟨#[]⟩) 16 rfl Try.underlying22 infoB9 rfl (by decide) (by omega) (.slice A3 Ti.f3.length c3) Ti.f3 x [.string x] (fun _ => True) (fun _ => False) rfl rfl ?aP (fun _ hk => hk.elim) ?aF ?aO ?aB ?aS ?aL ?_; (case aP => exact rfl); (case aB => exact Below.refl _ _); (case aF => exact (fun _ _ => trivial)); (case aO => exact (M3.out).keys); (case aS => exact (M3.out).lo); (case aL => have := LM.out; omega); intro v1 w8 ho hb hg hat; obtain ⟨A, c8, rfl⟩ := Kd.R_slice ho; have MK0 := LSx.keysPut (M3.out) ho hb hg hat; rw [show (Ti.f3 ++ [x]).length = Ti.f3.length + 1 by simp] at MK0; have MK := Aside0.mk MK0; clear MK0; have HT8 := Aside0.mk (blk_grown (M3.out).tb hg (own_ge (M3.out).keys (by omega))); have ht0 : w8.cell? ⟨w.heap.size + 1, 0, none⟩ = some _ := (blk_cell HT8.out 0).trans rfl; have ht1 : w8.cell? ⟨w.heap.size + 1, 1, none⟩ = some _ := (blk_cell HT8.out 1).trans rfl; have ht2 : w8.cell? ⟨w.heap.size + 1, 2, none⟩ = some _ := (blk_cell HT8.out 2).trans rfl; have ht3 : w8.cell? ⟨w.heap.size + 1, 3, none⟩ = some _ := (blk_cell HT8.out 3).trans rfl; have ht4 : w8.cell? ⟨w.heap.size + 1, 4, none⟩ = some _ := (blk_cell HT8.out 4).trans rfl; have ft0 := blk_frozen HT8.out 0; have ft1 := blk_frozen HT8.out 1; have ft2 := blk_frozen HT8.out 2; have ft3 := blk_frozen HT8.out 3; have ft4 := blk_frozen HT8.out 4; clear ho hb hg hat) | (go_at_call 20; (with_reducible refine (HV.out s _ (wrap64 (ahead + 1)) X _ _ _ HVV.out).mono ?_); rintro e w4 ⟨v3, v4, rfl, hR3, hR4, hb⟩; obtain ⟨X3, d3, rfl⟩ := Kd.R_slice hR3; obtain ⟨X4, d4, rfl⟩ := Kd.R_slice hR4; have M4 := Aside0.mk (MK.out.below hb); have M5 := Aside0.mk (M4.out.below (below_alloc (Below.refl _ _) (.cells #[.int .i64 X.f0, .int .i64 X.f1, .string X.f2, .slice X3 X.f3.length d3, .slice X4 X.f4.length d4] 25))); have HP := Aside0.mk MK.out; obtain ⟨sz, hsz⟩ : ∃ n, (w8.setCell ⟨w.heap.size + 1, 3, none⟩ (.slice A (Ti.f3.length + 1) c8)).heap.size = n := ⟨_, rfl⟩; rw [hsz] at hR3 hR4; have HSZ := Aside0.mk hsz; have RX3 := Aside0.mk (Kd.R_alloc hR3 (.cells #[.int .i64 X.f0, .int .i64 X.f1, .string X.f2, .slice X3 X.f3.length d3, .slice X4 X.f4.length d4] 25)); have RX4 := Aside0.mk (Kd.R_alloc hR4 (.cells #[.int .i64 X.f0, .int .i64 X.f1, .string X.f2, .slice X3 X.f3.length d3, .slice X4 X.f4.length d4] 25)); have HNB := Aside0.mk (blk_new w4 (.cells #[.int .i64 X.f0, .int .i64 X.f1, .string X.f2, .slice X3 X.f3.length d3, .slice X4 X.f4.length d4] 25)); have ht0 : (w4.alloc (.cells #[.int .i64 X.f0, .int .i64 X.f1, .string X.f2, .slice X3 X.f3.length d3, .slice X4 X.f4.length d4] 25)).cell? ⟨w.heap.size + 1, 0, none⟩ = some _ := (blk_cell M5.out.tb 0).trans rfl; have ht1 : (w4.alloc (.cells #[.int .i64 X.f0, .int .i64 X.f1, .string X.f2, .slice X3 X.f3.length d3, .slice X4 X.f4.length d4] 25)).cell? ⟨w.heap.size + 1, 1, none⟩ = some _ := (blk_cell M5.out.tb 1).trans rfl; have ht2 : (w4.alloc (.cells #[.int .i64 X.f0, .int .i64 X.f1, .string X.f2, .slice X3 X.f3.length d3, .slice X4 X.f4.length d4] 25)).cell? ⟨w.heap.size + 1, 2, none⟩ = some _ := (blk_cell M5.out.tb 2).trans rfl; have ht3 : (w4.alloc (.cells #[.int .i64 X.f0, .int .i64 X.f1, .string X.f2, .slice X3 X.f3.length d3, .slice X4 X.f4.length d4] 25)).cell? ⟨w.heap.size + 1, 3, none⟩ = some _ := (blk_cell M5.out.tb 3).trans rfl; have ht4 : (w4.alloc (.cells #[.int .i64 X.f0, .int .i64 X.f1, .string X.f2, .slice X3 X.f3.length d3, .slice X4 X.f4.length d4] 25)).cell? ⟨w.heap.size + 1, 4, none⟩ = some _ := (blk_cell M5.out.tb 4).trans rfl; have ft0 := blk_frozen M5.out.tb 0; have ft1 := blk_frozen M5.out.tb 1; have ft2 := blk_frozen M5.out.tb 2; have ft3 := blk_frozen M5.out.tb 3; have ft4 := blk_frozen M5.out.tb 4; have hz0 : (w4.alloc (.cells #[.int .i64 X.f0, .int .i64 X.f1, .string X.f2, .slice X3 X.f3.length d3, .slice X4 X.f4.length d4] 25)).cell? ⟨w.heap.size, 0, none⟩ = some _ := (blk_cell M5.out.res 0).trans rfl; have hz1 : (w4.alloc (.cells #[.int .i64 X.f0, .int .i64 X.f1, .string X.f2, .slice X3 X.f3.length d3, .slice X4 X.f4.length d4] 25)).cell? ⟨w.heap.size, 1, none⟩ = some _ := (blk_cell M5.out.res 1).trans rfl; have hz2 : (w4.alloc (.cells #[.int .i64 X.f0, .int .i64 X.f1, .string X.f2, .slice X3 X.f3.length d3, .slice X4 X.f4.length d4] 25)).cell? ⟨w.heap.size, 2, none⟩ = some _ := (blk_cell M5.out.res 2).trans rfl; have hz3 : (w4.alloc (.cells #[.int .i64 X.f0, .int .i64 X.f1, .string X.f2, .slice X3 X.f3.length d3, .slice X4 X.f4.length d4] 25)).cell? ⟨w.heap.size, 3, none⟩ = some _ := (blk_cell M5.out.res 3).trans rfl; have hz4 : (w4.alloc (.cells #[.int .i64 X.f0, .int .i64 X.f1, .string X.f2, .slice X3 X.f3.length d3, .slice X4 X.f4.length d4] 25)).cell? ⟨w.heap.size, 4, none⟩ = some _ := (blk_cell M5.out.res 4).trans rfl; have fz0 := blk_frozen M5.out.res 0; have fz1 := blk_frozen M5.out.res 1; have fz2 := blk_frozen M5.out.res 2; have fz3 := blk_frozen M5.out.res 3; have fz4 := blk_frozen M5.out.res 4; clear hb hR3 hR4 hsz))
              refine bodyPost_ret (results_ctt rfl _ _ w.heap.size 25 #[.int .i64 0, .int .i64 0, .string ⟨#[]⟩, .slice none 0 0, .slice none 0 0] (0, 0) _ rfl (put5 (M5.out.res) _ _ _ _ _) Try.underlying25 rfl (by kernel_rfl)) rfl ?_
              exact ⟨_, _, rfl, Kd.R_nil _ _ _ _ _, Kd.R_nil _ _ _ _ _, ((((((M5.out.bel).setCell (Nat.le_refl _) _).setCell (Nat.le_refl _) _).setCell (Nat.le_refl _) _).setCell (Nat.le_refl _) _).setCell (Nat.le_refl _) _)⟩
          | some y =>
            rw [hg0] at hq
            obtain ⟨lt, hlt, hq⟩ := Option.bind_eq_some_iff.mp hq
            have HLS := Aside0.mk hlt
            have kp : 0 < Ti.f3.length := by cases hk : Ti.f3 with | nil => rw [hk] at hg0; cases hg0 | cons _ _ => simp
            obtain ⟨adk, y1, e3, hy1, _⟩ := C_last (Kd.R_reads' M0.out.keys).2.2 kp
            cases e3
            obtain ⟨mm, hmm⟩ : ∃ mm, Ti.f3.length = mm + 1 := ⟨Ti.f3.length - 1, by omega⟩
            have kmax : Ti.f3.length ≤ 9223372036854775807 := Kd.C_max (Kd.R_reads' M0.out.keys).2.2
            have z1 : decide (0 < (Ti.f3.length : Int)) = true := decide_eq_true (by omega)
            have z2 : decide (0 < Ti.f3.length) = true := decide_eq_true kp
            have kw : wrap64 ((Ti.f3.length : Int) - 1) = (mm : Int) := by unfold wrap64; omega
            have kl0 : (0 : Int) ≤ (mm : Int) := by omega
            have kl1 : (mm : Int) < (Ti.f3.length : Int) := by omega
            have HG0 := Aside0.mk hg0
            have HMM := Aside0.mk hmm
            have KP := Aside0.mk kp
            clear hlt hg0 hmm kp hy1 kmax
            cases lt with
            | false =>
              rw [if_neg (by simp)] at hq
              cases hq
              rw [if_neg (by decide)] at hB
              cases hB
              go_wp2_with (first | (go_at_call 32; (with_reducible refine (annuletref12_digit.calls c true _ HDG.out).mono ?_); rintro e w1 ⟨rfl, ⟨nd, rfl⟩⟩) | (go_at_call 33; (with_reducible refine (annuletref12_word.calls m s at_ x _ _ _ HC.out).mono ?_); rintro e w3 ⟨rfl, hb⟩; have M3 := Aside0.mk ((M0.out.below (pw_below_drewN (Below.refl _ _) _)).below hb); have ht0 : w3.cell? ⟨w.heap.size + 1, 0, none⟩ = some _ := (blk_cell M3.out.tb 0).trans rfl; have ht1 : w3.cell? ⟨w.heap.size + 1, 1, none⟩ = some _ := (blk_cell M3.out.tb 1).trans rfl; have ht2 : w3.cell? ⟨w.heap.size + 1, 2, none⟩ = some _ := (blk_cell M3.out.tb 2).trans rfl; have ht3 : w3.cell? ⟨w.heap.size + 1, 3, none⟩ = some _ := (blk_cell M3.out.tb 3).trans rfl; have ht4 : w3.cell? ⟨w.heap.size + 1, 4, none⟩ = some _ := (blk_cell M3.out.tb 4).trans rfl; have ft0 := blk_frozen M3.out.tb 0; have ft1 := blk_frozen M3.out.tb 1; have ft2 := blk_frozen M3.out.tb 2; have ft3 := blk_frozen M3.out.tb 3; have ft4 := blk_frozen M3.out.tb 4; have hz0 : w3.cell? ⟨w.heap.size, 0, none⟩ = some _ := (blk_cell M3.out.res 0).trans rfl; have hz1 : w3.cell? ⟨w.heap.size, 1, none⟩ = some _ := (blk_cell M3.out.res 1).trans rfl; have hz2 : w3.cell? ⟨w.heap.size, 2, none⟩ = some _ := (blk_cell M3.out.res 2).trans rfl; have hz3 : w3.cell? ⟨w.heap.size, 3, none⟩ = some _ := (blk_cell M3.out.res 3).trans rfl; have hz4 : w3.cell? ⟨w.heap.size, 4, none⟩ = some _ := (blk_cell M3.out.res 4).trans rfl; have fz0 := blk_frozen M3.out.res 0; have fz1 := blk_frozen M3.out.res 1; have fz2 := blk_frozen M3.out.res 2; have fz3 := blk_frozen M3.out.res 3; have fz4 := blk_frozen M3.out.res 4; have hyc : w3.cell? (adk.add mm) = some (.string y) := (by { obtain ⟨ad2, y2, e2, hy2, hc2⟩ := C_last (Kd.R_reads' M3.out.keys).2.2 KP.out; cases e2; rw [HG0.out] at hy2; cases hy2; rw [HMM.out] at hc2; exact hc2 }); clear hb) | (go_at_call 39; (with_reducible refine (annuletref11_Less.calls m y x false _ HLS.out).mono ?_); rintro e w6 ⟨rfl, ⟨nd2, rfl⟩⟩))
              refine bodyPost_ret (results_ctt rfl _ _ w.heap.size 25 #[.int .i64 0, .int .i64 0, .string ⟨#[]⟩, .slice none 0 0, .slice none 0 0] (0, 0) _ rfl (put5 (blk_drewN M3.out.res _) _ _ _ _ _) Try.underlying25 rfl (by kernel_rfl)) rfl ?_
              exact ⟨_, _, rfl, Kd.R_nil _ _ _ _ _, Kd.R_nil _ _ _ _ _, ((((((pw_below_drewN M3.out.bel _).setCell (Nat.le_refl _) _).setCell (Nat.le_refl _) _).setCell (Nat.le_refl _) _).setCell (Nat.le_refl _) _).setCell (Nat.le_refl _) _)⟩
            | true =>
              rw [if_pos rfl] at hq
              cases hq
              rw [if_pos rfl] at hB
              obtain ⟨⟨X, r2, e2⟩, hX, hB⟩ := Option.bind_eq_some_iff.mp hB
              have hVm := HV0.out m (by have := HKK.out; omega)
              unfold RvC at hVm
              have HV := Aside0.mk hVm
              have HVV := Aside0.mk hX
              clear hX hVm
              by_cases h2 : e2 = 0
              · rw [if_pos h2] at hB
                have d2 : (e2 != 0) = false := bne_eq_false_iff_eq.mpr h2
                have HB2 := Aside0.mk hB
                clear hB h2
                go_upto_region 20 with (first | (go_at_call 32; (with_reducible refine (annuletref12_digit.calls c true _ HDG.out).mono ?_); rintro e w1 ⟨rfl, ⟨nd, rfl⟩⟩) | (go_at_call 33; (with_reducible refine (annuletref12_word.calls m s at_ x _ _ _ HC.out).mono ?_); rintro e w3 ⟨rfl, hb⟩; have M3 := Aside0.mk ((M0.out.below (pw_below_drewN (Below.refl _ _) _)).below hb); have ht0 : w3.cell? ⟨w.heap.size + 1, 0, none⟩ = some _ := (blk_cell M3.out.tb 0).trans rfl; have ht1 : w3.cell? ⟨w.heap.size + 1, 1, none⟩ = some _ := (blk_cell M3.out.tb 1).trans rfl; have ht2 : w3.cell? ⟨w.heap.size + 1, 2, none⟩ = some _ := (blk_cell M3.out.tb 2).trans rfl; have ht3 : w3.cell? ⟨w.heap.size + 1, 3, none⟩ = some _ := (blk_cell M3.out.tb 3).trans rfl; have ht4 : w3.cell? ⟨w.heap.size + 1, 4, none⟩ = some _ := (blk_cell M3.out.tb 4).trans rfl; have ft0 := blk_frozen M3.out.tb 0; have ft1 := blk_frozen M3.out.tb 1; have ft2 := blk_frozen M3.out.tb 2; have ft3 := blk_frozen M3.out.tb 3; have ft4 := blk_frozen M3.out.tb 4; have hz0 : w3.cell? ⟨w.heap.size, 0, none⟩ = some _ := (blk_cell M3.out.res 0).trans rfl; have hz1 : w3.cell? ⟨w.heap.size, 1, none⟩ = some _ := (blk_cell M3.out.res 1).trans rfl; have hz2 : w3.cell? ⟨w.heap.size, 2, none⟩ = some _ := (blk_cell M3.out.res 2).trans rfl; have hz3 : w3.cell? ⟨w.heap.size, 3, none⟩ = some _ := (blk_cell M3.out.res 3).trans rfl; have hz4 : w3.cell? ⟨w.heap.size, 4, none⟩ = some _ := (blk_cell M3.out.res 4).trans rfl; have fz0 := blk_frozen M3.out.res 0; have fz1 := blk_frozen M3.out.res 1; have fz2 := blk_frozen M3.out.res 2; have fz3 := blk_frozen M3.out.res 3; have fz4 := blk_frozen M3.out.res 4; have hyc : w3.cell? (adk.add mm) = some (.string y) := (by { obtain ⟨ad2, y2, e2, hy2, hc2⟩ := C_last (Kd.R_reads' M3.out.keys).2.2 KP.out; cases e2; rw [HG0.out] at hy2; cases hy2; rw [HMM.out] at hc2; exact hc2 }); clear hb) | (go_at_call 39; (with_reducible refine (annuletref11_Less.calls m y x true _ HLS.out).mono ?_); rintro e w6 ⟨rfl, ⟨nd2, rfl⟩⟩; have M7 := Aside0.mk (M3.out.below (pw_below_drewN (Below.refl _ _) nd2)); generalize w3.drewN nd2 = w7 at M7 ⊢; have ht0 : w7.cell? ⟨w.heap.size + 1, 0, none⟩ = some _ := (blk_cell M7.out.tb 0).trans rfl; have ht1 : w7.cell? ⟨w.heap.size + 1, 1, none⟩ = some _ := (blk_cell M7.out.tb 1).trans rfl; have ht2 : w7.cell? ⟨w.heap.size + 1, 2, none⟩ = some _ := (blk_cell M7.out.tb 2).trans rfl; have ht3 : w7.cell? ⟨w.heap.size + 1, 3, none⟩ = some _ := (blk_cell M7.out.tb 3).trans rfl; have ht4 : w7.cell? ⟨w.heap.size + 1, 4, none⟩ = some _ := (blk_cell M7.out.tb 4).trans rfl; have ft0 := blk_frozen M7.out.tb 0; have ft1 := blk_frozen M7.out.tb 1; have ft2 := blk_frozen M7.out.tb 2; have ft3 := blk_frozen M7.out.tb 3; have ft4 := blk_frozen M7.out.tb 4) | ((with_reducible refine gate_builtin (b := .append) (xs := #[.tmp 73, .tmp 75]) rfl ?_); at_builtin; refine Kd.R_append Kd.string (w0 := w7) (w.heap.size + 2) rfl (.tmp 73) (.tmp 75) 22 9 (.string ⟨#[]⟩) 16 rfl Try.underlying22 infoB9 rfl (by decide) (by omega) (.slice (some adk) Ti.f3.length c3) Ti.f3 x [.string x] (fun _ => True) (fun _ => False) rfl rfl ?aP (fun _ hk => hk.elim) ?aF ?aO ?aB ?aS ?aL ?_; (case aP => exact rfl); (case aB => exact Below.refl _ _); (case aF => exact (fun _ _ => trivial)); (case aO => exact (M7.out).keys); (case aS => exact (M7.out).lo); (case aL => have := LM.out; omega); intro v1 w8 ho hb hg hat; obtain ⟨A, c8, rfl⟩ := Kd.R_slice ho; have MK0 := LSx.keysPut (M7.out) ho hb hg hat; rw [show (Ti.f3 ++ [x]).length = Ti.f3.length + 1 by simp] at MK0; have MK := Aside0.mk MK0; clear MK0; have HT8 := Aside0.mk (blk_grown (M7.out).tb hg (own_ge (M7.out).keys (by omega))); have ht0 : w8.cell? ⟨w.heap.size + 1, 0, none⟩ = some _ := (blk_cell HT8.out 0).trans rfl; have ht1 : w8.cell? ⟨w.heap.size + 1, 1, none⟩ = some _ := (blk_cell HT8.out 1).trans rfl; have ht2 : w8.cell? ⟨w.heap.size + 1, 2, none⟩ = some _ := (blk_cell HT8.out 2).trans rfl; have ht3 : w8.cell? ⟨w.heap.size + 1, 3, none⟩ = some _ := (blk_cell HT8.out 3).trans rfl; have ht4 : w8.cell? ⟨w.heap.size + 1, 4, none⟩ = some _ := (blk_cell HT8.out 4).trans rfl; have ft0 := blk_frozen HT8.out 0; have ft1 := blk_frozen HT8.out 1; have ft2 := blk_frozen HT8.out 2; have ft3 := blk_frozen HT8.out 3; have ft4 := blk_frozen HT8.out 4; clear ho hb hg hat) | (go_at_call 20; (with_reducible refine (HV.out s _ (wrap64 (ahead + 1)) X r2 e2 _ HVV.out).mono ?_); rintro e w4 ⟨v3, v4, rfl, hR3, hR4, hb⟩; obtain ⟨X3, d3, rfl⟩ := Kd.R_slice hR3; obtain ⟨X4, d4, rfl⟩ := Kd.R_slice hR4; have M4 := Aside0.mk (MK.out.below hb); have M5 := Aside0.mk (M4.out.below (below_alloc (Below.refl _ _) (.cells #[.int .i64 X.f0, .int .i64 X.f1, .string X.f2, .slice X3 X.f3.length d3, .slice X4 X.f4.length d4] 25))); have HP := Aside0.mk MK.out; obtain ⟨sz, hsz⟩ : ∃ n, (w8.setCell ⟨w.heap.size + 1, 3, none⟩ (.slice A (Ti.f3.length + 1) c8)).heap.size = n := ⟨_, rfl⟩; rw [hsz] at hR3 hR4; have HSZ := Aside0.mk hsz; have RX3 := Aside0.mk (Kd.R_alloc hR3 (.cells #[.int .i64 X.f0, .int .i64 X.f1, .string X.f2, .slice X3 X.f3.length d3, .slice X4 X.f4.length d4] 25)); have RX4 := Aside0.mk (Kd.R_alloc hR4 (.cells #[.int .i64 X.f0, .int .i64 X.f1, .string X.f2, .slice X3 X.f3.length d3, .slice X4 X.f4.length d4] 25)); have HNB := Aside0.mk (blk_new w4 (.cells #[.int .i64 X.f0, .int .i64 X.f1, .string X.f2, .slice X3 X.f3.length d3, .slice X4 X.f4.length d4] 25)); clear hb hR3 hR4 hsz))
                generalize (w4.alloc (.cells #[.int .i64 X.f0, .int .i64 X.f1, .string X.f2, .slice X3 X.f3.length d3, .slice X4 X.f4.length d4] 25)) = w5 at M5 RX3 RX4 HNB ⊢
                have ht0 : w5.cell? ⟨w.heap.size + 1, 0, none⟩ = some _ := (blk_cell M5.out.tb 0).trans rfl
                have ht1 : w5.cell? ⟨w.heap.size + 1, 1, none⟩ = some _ := (blk_cell M5.out.tb 1).trans rfl
                have ht2 : w5.cell? ⟨w.heap.size + 1, 2, none⟩ = some _ := (blk_cell M5.out.tb 2).trans rfl
                have ht3 : w5.cell? ⟨w.heap.size + 1, 3, none⟩ = some _ := (blk_cell M5.out.tb 3).trans rfl
                have ht4 : w5.cell? ⟨w.heap.size + 1, 4, none⟩ = some _ := (blk_cell M5.out.tb 4).trans rfl
                have ft0 := blk_frozen M5.out.tb 0
                have ft1 := blk_frozen M5.out.tb 1
                have ft2 := blk_frozen M5.out.tb 2
                have ft3 := blk_frozen M5.out.tb 3
                have ft4 := blk_frozen M5.out.tb 4
                have hx0 : w5.cell? ⟨w4.heap.size, 0, none⟩ = some _ := (blk_cell HNB.out 0).trans rfl
                have hx1 : w5.cell? ⟨w4.heap.size, 1, none⟩ = some _ := (blk_cell HNB.out 1).trans rfl
                have hx2 : w5.cell? ⟨w4.heap.size, 2, none⟩ = some _ := (blk_cell HNB.out 2).trans rfl
                have hx3 : w5.cell? ⟨w4.heap.size, 3, none⟩ = some _ := (blk_cell HNB.out 3).trans rfl
                have hx4 : w5.cell? ⟨w4.heap.size, 4, none⟩ = some _ := (blk_cell HNB.out 4).trans rfl
                have fx0 := blk_frozen HNB.out 0
                have fx1 := blk_frozen HNB.out 1
                have fx2 := blk_frozen HNB.out 2
                have fx3 := blk_frozen HNB.out 3
                have fx4 := blk_frozen HNB.out 4
                go_wp2_with (((with_reducible refine gate_builtin (b := .append) (xs := #[.tmp 93, .tmp 95]) rfl ?_); at_builtin; refine Kd.R_append k25 (w0 := w5) (w.heap.size + 2) rfl (.tmp 93) (.tmp 95) 23 25 (.agg #[.int .i64 0, .int .i64 0, .string ⟨#[]⟩, .slice none 0 0, .slice none 0 0]) 80 rfl Try.underlying23 infoB25 rfl (by decide) (by omega) (.slice A4 Ti.f4.length c4) Ti.f4 X [.int .i64 X.f0, .int .i64 X.f1, .string X.f2, .slice X3 X.f3.length d3, .slice X4 X.f4.length d4] (fun k => some k ≠ (Value.slice A (Ti.f3 ++ [x]).length c8).ownBlock) (fun k => sz ≤ k) rfl rfl ?aP ?aK ?aF ?aO ?aB ?aS ?aL ?_; (case aP => exact kid_M RX3.out RX4.out (by have := HP.out.lo; have := HSZ.out; omega)); (case aK => exact fun j hj => ⟨own_lt HP.out.keys (by have := HSZ.out; omega), own_lt HP.out.kids (by have := HSZ.out; omega)⟩); (case aB => exact Below.refl _ _); (case aF => exact fun j hj => own_lt M5.out.keys hj); (case aO => exact M5.out.kids); (case aS => exact M5.out.lo); (case aL => have := LM.out; omega); intro v1 w9 ho hb hg hat; obtain ⟨B, d, rfl⟩ := Kd.R_slice ho; have MN0 := LSx.kidsPut M5.out ho hb hg; rw [show (Ti.f4 ++ [X]).length = Ti.f4.length + 1 by simp] at MN0; have MN := Aside0.mk MN0; clear MN0; have HT9 := Aside0.mk (blk_grown M5.out.tb hg (own_ge M5.out.kids (by omega))); have ht0 : w9.cell? ⟨w.heap.size + 1, 0, none⟩ = some _ := (blk_cell HT9.out 0).trans rfl; have ht1 : w9.cell? ⟨w.heap.size + 1, 1, none⟩ = some _ := (blk_cell HT9.out 1).trans rfl; have ht2 : w9.cell? ⟨w.heap.size + 1, 2, none⟩ = some _ := (blk_cell HT9.out 2).trans rfl; have ht3 : w9.cell? ⟨w.heap.size + 1, 3, none⟩ = some _ := (blk_cell HT9.out 3).trans rfl; have ht4 : w9.cell? ⟨w.heap.size + 1, 4, none⟩ = some _ := (blk_cell HT9.out 4).trans rfl; have ft0 := blk_frozen HT9.out 0; have ft1 := blk_frozen HT9.out 1; have ft2 := blk_frozen HT9.out 2; have ft3 := blk_frozen HT9.out 3; have ft4 := blk_frozen HT9.out 4; clear ho hb hg hat))
                go_roundg m
                case measure => have := HKG.out; omega
                case rel => exact ⟨rfl, rfl, r2, _, A, c8, B, d, m, rfl, Nat.le_refl _, by have := HKK.out; omega, HB2, MN⟩
              · rw [if_neg h2] at hB
                have d2 : (e2 != 0) = true := bne_iff_ne.mpr h2
                cases hB
                go_wp2_with (first | (go_at_call 32; (with_reducible refine (annuletref12_digit.calls c true _ HDG.out).mono ?_); rintro e w1 ⟨rfl, ⟨nd, rfl⟩⟩) | (go_at_call 33; (with_reducible refine (annuletref12_word.calls m s at_ x _ _ _ HC.out).mono ?_); rintro e w3 ⟨rfl, hb⟩; have M3 := Aside0.mk ((M0.out.below (pw_below_drewN (Below.refl _ _) _)).below hb); have ht0 : w3.cell? ⟨w.heap.size + 1, 0, none⟩ = some _ := (blk_cell M3.out.tb 0).trans rfl; have ht1 : w3.cell? ⟨w.heap.size + 1, 1, none⟩ = some _ := (blk_cell M3.out.tb 1).trans rfl; have ht2 : w3.cell? ⟨w.heap.size + 1, 2, none⟩ = some _ := (blk_cell M3.out.tb 2).trans rfl; have ht3 : w3.cell? ⟨w.heap.size + 1, 3, none⟩ = some _ := (blk_cell M3.out.tb 3).trans rfl; have ht4 : w3.cell? ⟨w.heap.size + 1, 4, none⟩ = some _ := (blk_cell M3.out.tb 4).trans rfl; have ft0 := blk_frozen M3.out.tb 0; have ft1 := blk_frozen M3.out.tb 1; have ft2 := blk_frozen M3.out.tb 2; have ft3 := blk_frozen M3.out.tb 3; have ft4 := blk_frozen M3.out.tb 4; have hz0 : w3.cell? ⟨w.heap.size, 0, none⟩ = some _ := (blk_cell M3.out.res 0).trans rfl; have hz1 : w3.cell? ⟨w.heap.size, 1, none⟩ = some _ := (blk_cell M3.out.res 1).trans rfl; have hz2 : w3.cell? ⟨w.heap.size, 2, none⟩ = some _ := (blk_cell M3.out.res 2).trans rfl; have hz3 : w3.cell? ⟨w.heap.size, 3, none⟩ = some _ := (blk_cell M3.out.res 3).trans rfl; have hz4 : w3.cell? ⟨w.heap.size, 4, none⟩ = some _ := (blk_cell M3.out.res 4).trans rfl; have fz0 := blk_frozen M3.out.res 0; have fz1 := blk_frozen M3.out.res 1; have fz2 := blk_frozen M3.out.res 2; have fz3 := blk_frozen M3.out.res 3; have fz4 := blk_frozen M3.out.res 4; have hyc : w3.cell? (adk.add mm) = some (.string y) := (by { obtain ⟨ad2, y2, e2, hy2, hc2⟩ := C_last (Kd.R_reads' M3.out.keys).2.2 KP.out; cases e2; rw [HG0.out] at hy2; cases hy2; rw [HMM.out] at hc2; exact hc2 }); clear hb) | (go_at_call 39; (with_reducible refine (annuletref11_Less.calls m y x true _ HLS.out).mono ?_); rintro e w6 ⟨rfl, ⟨nd2, rfl⟩⟩; have M7 := Aside0.mk (M3.out.below (pw_below_drewN (Below.refl _ _) nd2)); generalize w3.drewN nd2 = w7 at M7 ⊢; have ht0 : w7.cell? ⟨w.heap.size + 1, 0, none⟩ = some _ := (blk_cell M7.out.tb 0).trans rfl; have ht1 : w7.cell? ⟨w.heap.size + 1, 1, none⟩ = some _ := (blk_cell M7.out.tb 1).trans rfl; have ht2 : w7.cell? ⟨w.heap.size + 1, 2, none⟩ = some _ := (blk_cell M7.out.tb 2).trans rfl; have ht3 : w7.cell? ⟨w.heap.size + 1, 3, none⟩ = some _ := (blk_cell M7.out.tb 3).trans rfl; have ht4 : w7.cell? ⟨w.heap.size + 1, 4, none⟩ = some _ := (blk_cell M7.out.tb 4).trans rfl; have ft0 := blk_frozen M7.out.tb 0; have ft1 := blk_frozen M7.out.tb 1; have ft2 := blk_frozen M7.out.tb 2; have ft3 := blk_frozen M7.out.tb 3; have ft4 := blk_frozen M7.out.tb 4) | ((with_reducible refine gate_builtin (b := .append) (xs := #[.tmp 73, .tmp 75]) rfl ?_); at_builtin; refine Kd.R_append Kd.string (w0 := w7) (w.heap.size + 2) rfl (.tmp 73) (.tmp 75) 22 9 (.string ⟨#[]⟩) 16 rfl Try.underlying22 infoB9 rfl (by decide) (by omega) (.slice (some adk) Ti.f3.length c3) Ti.f3 x [.string x] (fun _ => True) (fun _ => False) rfl rfl ?aP (fun _ hk => hk.elim) ?aF ?aO ?aB ?aS ?aL ?_; (case aP => exact rfl); (case aB => exact Below.refl _ _); (case aF => exact (fun _ _ => trivial)); (case aO => exact (M7.out).keys); (case aS => exact (M7.out).lo); (case aL => have := LM.out; omega); intro v1 w8 ho hb hg hat; obtain ⟨A, c8, rfl⟩ := Kd.R_slice ho; have MK0 := LSx.keysPut (M7.out) ho hb hg hat; rw [show (Ti.f3 ++ [x]).length = Ti.f3.length + 1 by simp] at MK0; have MK := Aside0.mk MK0; clear MK0; have HT8 := Aside0.mk (blk_grown (M7.out).tb hg (own_ge (M7.out).keys (by omega))); have ht0 : w8.cell? ⟨w.heap.size + 1, 0, none⟩ = some _ := (blk_cell HT8.out 0).trans rfl; have ht1 : w8.cell? ⟨w.heap.size + 1, 1, none⟩ = some _ := (blk_cell HT8.out 1).trans rfl; have ht2 : w8.cell? ⟨w.heap.size + 1, 2, none⟩ = some _ := (blk_cell HT8.out 2).trans rfl; have ht3 : w8.cell? ⟨w.heap.size + 1, 3, none⟩ = some _ := (blk_cell HT8.out 3).trans rfl; have ht4 : w8.cell? ⟨w.heap.size + 1, 4, none⟩ = some _ := (blk_cell HT8.out 4).trans rfl; have ft0 := blk_frozen HT8.out 0; have ft1 := blk_frozen HT8.out 1; have ft2 := blk_frozen HT8.out 2; have ft3 := blk_frozen HT8.out 3; have ft4 := blk_frozen HT8.out 4; clear ho hb hg hat) | (go_at_call 20; (with_reducible refine (HV.out s _ (wrap64 (ahead + 1)) X _ _ _ HVV.out).mono ?_); rintro e w4 ⟨v3, v4, rfl, hR3, hR4, hb⟩; obtain ⟨X3, d3, rfl⟩ := Kd.R_slice hR3; obtain ⟨X4, d4, rfl⟩ := Kd.R_slice hR4; have M4 := Aside0.mk (MK.out.below hb); have M5 := Aside0.mk (M4.out.below (below_alloc (Below.refl _ _) (.cells #[.int .i64 X.f0, .int .i64 X.f1, .string X.f2, .slice X3 X.f3.length d3, .slice X4 X.f4.length d4] 25))); have HP := Aside0.mk MK.out; obtain ⟨sz, hsz⟩ : ∃ n, (w8.setCell ⟨w.heap.size + 1, 3, none⟩ (.slice A (Ti.f3.length + 1) c8)).heap.size = n := ⟨_, rfl⟩; rw [hsz] at hR3 hR4; have HSZ := Aside0.mk hsz; have RX3 := Aside0.mk (Kd.R_alloc hR3 (.cells #[.int .i64 X.f0, .int .i64 X.f1, .string X.f2, .slice X3 X.f3.length d3, .slice X4 X.f4.length d4] 25)); have RX4 := Aside0.mk (Kd.R_alloc hR4 (.cells #[.int .i64 X.f0, .int .i64 X.f1, .string X.f2, .slice X3 X.f3.length d3, .slice X4 X.f4.length d4] 25)); have HNB := Aside0.mk (blk_new w4 (.cells #[.int .i64 X.f0, .int .i64 X.f1, .string X.f2, .slice X3 X.f3.length d3, .slice X4 X.f4.length d4] 25)); have ht0 : (w4.alloc (.cells #[.int .i64 X.f0, .int .i64 X.f1, .string X.f2, .slice X3 X.f3.length d3, .slice X4 X.f4.length d4] 25)).cell? ⟨w.heap.size + 1, 0, none⟩ = some _ := (blk_cell M5.out.tb 0).trans rfl; have ht1 : (w4.alloc (.cells #[.int .i64 X.f0, .int .i64 X.f1, .string X.f2, .slice X3 X.f3.length d3, .slice X4 X.f4.length d4] 25)).cell? ⟨w.heap.size + 1, 1, none⟩ = some _ := (blk_cell M5.out.tb 1).trans rfl; have ht2 : (w4.alloc (.cells #[.int .i64 X.f0, .int .i64 X.f1, .string X.f2, .slice X3 X.f3.length d3, .slice X4 X.f4.length d4] 25)).cell? ⟨w.heap.size + 1, 2, none⟩ = some _ := (blk_cell M5.out.tb 2).trans rfl; have ht3 : (w4.alloc (.cells #[.int .i64 X.f0, .int .i64 X.f1, .string X.f2, .slice X3 X.f3.length d3, .slice X4 X.f4.length d4] 25)).cell? ⟨w.heap.size + 1, 3, none⟩ = some _ := (blk_cell M5.out.tb 3).trans rfl; have ht4 : (w4.alloc (.cells #[.int .i64 X.f0, .int .i64 X.f1, .string X.f2, .slice X3 X.f3.length d3, .slice X4 X.f4.length d4] 25)).cell? ⟨w.heap.size + 1, 4, none⟩ = some _ := (blk_cell M5.out.tb 4).trans rfl; have ft0 := blk_frozen M5.out.tb 0; have ft1 := blk_frozen M5.out.tb 1; have ft2 := blk_frozen M5.out.tb 2; have ft3 := blk_frozen M5.out.tb 3; have ft4 := blk_frozen M5.out.tb 4; have hz0 : (w4.alloc (.cells #[.int .i64 X.f0, .int .i64 X.f1, .string X.f2, .slice X3 X.f3.length d3, .slice X4 X.f4.length d4] 25)).cell? ⟨w.heap.size, 0, none⟩ = some _ := (blk_cell M5.out.res 0).trans rfl; have hz1 : (w4.alloc (.cells #[.int .i64 X.f0, .int .i64 X.f1, .string X.f2, .slice X3 X.f3.length d3, .slice X4 X.f4.length d4] 25)).cell? ⟨w.heap.size, 1, none⟩ = some _ := (blk_cell M5.out.res 1).trans rfl; have hz2 : (w4.alloc (.cells #[.int .i64 X.f0, .int .i64 X.f1, .string X.f2, .slice X3 X.f3.length d3, .slice X4 X.f4.length d4] 25)).cell? ⟨w.heap.size, 2, none⟩ = some _ := (blk_cell M5.out.res 2).trans rfl; have hz3 : (w4.alloc (.cells #[.int .i64 X.f0, .int .i64 X.f1, .string X.f2, .slice X3 X.f3.length d3, .slice X4 X.f4.length d4] 25)).cell? ⟨w.heap.size, 3, none⟩ = some _ := (blk_cell M5.out.res 3).trans rfl; have hz4 : (w4.alloc (.cells #[.int .i64 X.f0, .int .i64 X.f1, .string X.f2, .slice X3 X.f3.length d3, .slice X4 X.f4.length d4] 25)).cell? ⟨w.heap.size, 4, none⟩ = some _ := (blk_cell M5.out.res 4).trans rfl; have fz0 := blk_frozen M5.out.res 0; have fz1 := blk_frozen M5.out.res 1; have fz2 := blk_frozen M5.out.res 2; have fz3 := blk_frozen M5.out.res 3; have fz4 := blk_frozen M5.out.res 4; clear hb hR3 hR4 hsz))
                refine bodyPost_ret (results_ctt rfl _ _ w.heap.size 25 #[.int .i64 0, .int .i64 0, .string ⟨#[]⟩, .slice none 0 0, .slice none 0 0] (0, 0) _ rfl (put5 (M5.out.res) _ _ _ _ _) Try.underlying25 rfl (by kernel_rfl)) rfl ?_
                exact ⟨_, _, rfl, Kd.R_nil _ _ _ _ _, Kd.R_nil _ _ _ _ _, ((((((M5.out.bel).setCell (Nat.le_refl _) _).setCell (Nat.le_refl _) _).setCell (Nat.le_refl _) _).setCell (Nat.le_refl _) _).setCell (Nat.le_refl _) _)⟩
theorem rl_of (k : Nat) (hV : ∀ j, j < k → RvC j) : RlC k := by
  intro s at_ ahead dict T k1 e0 w h
  cases dict with
  | false => exact rl_list k hV s at_ ahead T k1 e0 w (by simpa using h)
  | true => exact rl_dict k hV s at_ ahead T k1 e0 w (by simpa using h)
theorem rvC_all (k : Nat) : RvC k := by
  have key : ∀ n j, j < n → RvC j := by
    intro n
    induction n with
    | zero => intro j hj; omega
    | succ n ih =>
      intro j hj
      cases j with
      | zero => intro s at_ ahead T k1 e0 w h; exact absurd h (by simp [rv.f])
      | succ m => exact rv_of m (rl_of m (fun i hi => ih i (by omega)))
  exact key (k + 1) k (by omega)
/-! ### the document's Parse -/
def ref12_Parse.f (k : Nat) (b : List Int) : Option (S25 × Int) := (rv.f k (strOfNums b) 0 0).bind fun r => if r.2.2 = 0 then (if r.2.1 < (b.length : Int) then some (z25, 4) else some (r.1, 0)) else some (z25, r.2.2)
set_option maxHeartbeats 4000000 in
set_option maxRecDepth 100000 in
theorem ref12_Parse.calls (k : Nat) (A : Option Addr) (c : Nat) (b : List Int) (T : S25) (e0 : Int) (w : World) (hr : (Kd.int .u8).C w A b.length b) (h : ref12_Parse.f k b = some (T, e0)) :
    Calls Try.prog 12 #[.slice A b.length c] w fun e w2 => ∃ v3 v4 : Value, e = .returned (.tuple #[.agg #[.int .i64 T.f0, .int .i64 T.f1, .string T.f2, v3, v4], .int .i64 e0]) ∧ Kd.string.R 9 w2 w.heap.size (fun _ => True) v3 T.f3 ∧ k25.R 25 w2 w.heap.size (fun k => some k ≠ v3.ownBlock) v4 T.f4 ∧ Below w.heap.size w w2 := by
  have hu25 := Try.underlying25
  have HB0 := Aside0.mk (below_alloc (Below.refl w.heap.size w) (.cells #[.int .i64 0, .int .i64 0, .string ⟨#[]⟩, .slice none 0 0, .slice none 0 0] 25))
  have HZ0 := Aside0.mk (blk_new w (.cells #[.int .i64 0, .int .i64 0, .string ⟨#[]⟩, .slice none 0 0, .slice none 0 0] 25))
  have HLT := Aside0.mk (blk_lt HZ0.out)
  have hcv := Kd.C_string (P := Try.prog) (c := c) Try.underlying28 Try.underlying5 Try.underlying9 (Kd.C_alloc hr (.cells #[.int .i64 0, .int .i64 0, .string ⟨#[]⟩, .slice none 0 0, .slice none 0 0] 25))
  unfold ref12_Parse.f at h
  obtain ⟨⟨X, k1, e2⟩, hX, h⟩ := Option.bind_eq_some_iff.mp h
  have HV := Aside0.mk (show _ from rvC_all k _ _ _ X k1 e2 (w.alloc (.cells #[.int .i64 0, .int .i64 0, .string ⟨#[]⟩, .slice none 0 0, .slice none 0 0] 25)) hX)
  obtain ⟨N, hN⟩ : ∃ N : Nat, N = b.length := ⟨_, rfl⟩
  rw [← hN] at h hcv ⊢
  clear hr hX hN
  dsimp only at h
  by_cases h2 : e2 = 0
  · rw [if_pos h2] at h
    have d2 : (e2 == 0) = true := beq_iff_eq.mpr h2
    subst h2
    by_cases h3 : k1 < (N : Int)
    · rw [if_pos h3] at h
      cases h
      have d3 : decide (k1 < (N : Int)) = true := decide_eq_true h3
      clear h3
      go_enter Try.func12, Try.ntmps12
      go_upto_region 2 with ((go_at_call 20; (with_reducible refine HV.out.mono ?_); rintro e w4 ⟨v3, v4, rfl, hR3, hR4, hb⟩; obtain ⟨X3, d3, rfl⟩ := Kd.R_slice hR3; obtain ⟨X4, d4, rfl⟩ := Kd.R_slice hR4; have HZ4 := blk_below HZ0.out hb; have HZ5 := Aside0.mk (blk_alloc HZ4 (.cells #[.int .i64 X.f0, .int .i64 X.f1, .string X.f2, .slice X3 X.f3.length d3, .slice X4 X.f4.length d4] 25)); have HNB := Aside0.mk (blk_new w4 (.cells #[.int .i64 X.f0, .int .i64 X.f1, .string X.f2, .slice X3 X.f3.length d3, .slice X4 X.f4.length d4] 25)); have RX3 := Aside0.mk (Kd.R_alloc hR3 (.cells #[.int .i64 X.f0, .int .i64 X.f1, .string X.f2, .slice X3 X.f3.length d3, .slice X4 X.f4.length d4] 25)); have RX4 := Aside0.mk (Kd.R_alloc hR4 (.cells #[.int .i64 X.f0, .int .i64 X.f1, .string X.f2, .slice X3 X.f3.length d3, .slice X4 X.f4.length d4] 25)); have HL4 := Aside0.mk (Nat.lt_of_lt_of_le HLT.out hb.size); have HB5 := Aside0.mk (below_alloc (below_step HB0.out hb) (.cells #[.int .i64 X.f0, .int .i64 X.f1, .string X.f2, .slice X3 X.f3.length d3, .slice X4 X.f4.length d4] 25)); clear hb hR3 hR4 HZ4))
      generalize (w4.alloc (.cells #[.int .i64 X.f0, .int .i64 X.f1, .string X.f2, .slice X3 X.f3.length d3, .slice X4 X.f4.length d4] 25)) = w5 at HZ5 HNB RX3 RX4 HB5 ⊢
      have hz0 : w5.cell? ⟨w.heap.size, 0, none⟩ = some _ := (blk_cell HZ5.out 0).trans rfl
      have hz1 : w5.cell? ⟨w.heap.size, 1, none⟩ = some _ := (blk_cell HZ5.out 1).trans rfl
      have hz2 : w5.cell? ⟨w.heap.size, 2, none⟩ = some _ := (blk_cell HZ5.out 2).trans rfl
      have hz3 : w5.cell? ⟨w.heap.size, 3, none⟩ = some _ := (blk_cell HZ5.out 3).trans rfl
      have hz4 : w5.cell? ⟨w.heap.size, 4, none⟩ = some _ := (blk_cell HZ5.out 4).trans rfl
      have fz0 := blk_frozen HZ5.out 0
      have fz1 := blk_frozen HZ5.out 1
      have fz2 := blk_frozen HZ5.out 2
      have fz3 := blk_frozen HZ5.out 3
      have fz4 := blk_frozen HZ5.out 4
      have hx0 : w5.cell? ⟨w4.heap.size, 0, none⟩ = some _ := (blk_cell HNB.out 0).trans rfl
      have hx1 : w5.cell? ⟨w4.heap.size, 1, none⟩ = some _ := (blk_cell HNB.out 1).trans rfl
      have hx2 : w5.cell? ⟨w4.heap.size, 2, none⟩ = some _ := (blk_cell HNB.out 2).trans rfl
      have hx3 : w5.cell? ⟨w4.heap.size, 3, none⟩ = some _ := (blk_cell HNB.out 3).trans rfl
      have hx4 : w5.cell? ⟨w4.heap.size, 4, none⟩ = some _ := (blk_cell HNB.out 4).trans rfl
      have fx0 := blk_frozen HNB.out 0
      have fx1 := blk_frozen HNB.out 1
      have fx2 := blk_frozen HNB.out 2
      have fx3 := blk_frozen HNB.out 3
      have fx4 := blk_frozen HNB.out 4
      have hne : ¬ w.heap.size = w4.heap.size := by have := HL4.out; omega
      have hne2 : ¬ w4.heap.size = w.heap.size := by have := HL4.out; omega
      go_wp2
      refine bodyPost_ret (results_ct rfl _ _ w.heap.size 25 #[.int .i64 0, .int .i64 0, .string ⟨#[]⟩, .slice none 0 0, .slice none 0 0] (0, 0) _ rfl (put5 HZ5.out _ _ _ _ _) Try.underlying25 rfl (by kernel_rfl)) rfl ?_
      exact ⟨_, _, rfl, Kd.R_nil _ _ _ _ _, Kd.R_nil _ _ _ _ _, (((((HB5.out.setCell (Nat.le_refl _) _).setCell (Nat.le_refl _) _).setCell (Nat.le_refl _) _).setCell (Nat.le_refl _) _).setCell (Nat.le_refl _) _)⟩
    · rw [if_neg h3] at h
      obtain ⟨h7, h8⟩ : X = T ∧ (0 : Int) = e0 := by simpa using h
      subst h7 h8
      clear h
      have d3 : decide (k1 < (N : Int)) = false := decide_eq_false h3
      clear h3
      go_enter Try.func12, Try.ntmps12
      go_upto_region 2 with ((go_at_call 20; (with_reducible refine HV.out.mono ?_); rintro e w4 ⟨v3, v4, rfl, hR3, hR4, hb⟩; obtain ⟨X3, d3, rfl⟩ := Kd.R_slice hR3; obtain ⟨X4, d4, rfl⟩ := Kd.R_slice hR4; have HZ4 := blk_below HZ0.out hb; have HZ5 := Aside0.mk (blk_alloc HZ4 (.cells #[.int .i64 X.f0, .int .i64 X.f1, .string X.f2, .slice X3 X.f3.length d3, .slice X4 X.f4.length d4] 25)); have HNB := Aside0.mk (blk_new w4 (.cells #[.int .i64 X.f0, .int .i64 X.f1, .string X.f2, .slice X3 X.f3.length d3, .slice X4 X.f4.length d4] 25)); have RX3 := Aside0.mk (Kd.R_alloc hR3 (.cells #[.int .i64 X.f0, .int .i64 X.f1, .string X.f2, .slice X3 X.f3.length d3, .slice X4 X.f4.length d4] 25)); have RX4 := Aside0.mk (Kd.R_alloc hR4 (.cells #[.int .i64 X.f0, .int .i64 X.f1, .string X.f2, .slice X3 X.f3.length d3, .slice X4 X.f4.length d4] 25)); have HL4 := Aside0.mk (Nat.lt_of_lt_of_le HLT.out hb.size); have HB5 := Aside0.mk (below_alloc (below_step HB0.out hb) (.cells #[.int .i64 X.f0, .int .i64 X.f1, .string X.f2, .slice X3 X.f3.length d3, .slice X4 X.f4.length d4] 25)); clear hb hR3 hR4 HZ4))
      generalize (w4.alloc (.cells #[.int .i64 X.f0, .int .i64 X.f1, .string X.f2, .slice X3 X.f3.length d3, .slice X4 X.f4.length d4] 25)) = w5 at HZ5 HNB RX3 RX4 HB5 ⊢
      have hz0 : w5.cell? ⟨w.heap.size, 0, none⟩ = some _ := (blk_cell HZ5.out 0).trans rfl
      have hz1 : w5.cell? ⟨w.heap.size, 1, none⟩ = some _ := (blk_cell HZ5.out 1).trans rfl
      have hz2 : w5.cell? ⟨w.heap.size, 2, none⟩ = some _ := (blk_cell HZ5.out 2).trans rfl
      have hz3 : w5.cell? ⟨w.heap.size, 3, none⟩ = some _ := (blk_cell HZ5.out 3).trans rfl
      have hz4 : w5.cell? ⟨w.heap.size, 4, none⟩ = some _ := (blk_cell HZ5.out 4).trans rfl
      have fz0 := blk_frozen HZ5.out 0
      have fz1 := blk_frozen HZ5.out 1
      have fz2 := blk_frozen HZ5.out 2
      have fz3 := blk_frozen HZ5.out 3
      have fz4 := blk_frozen HZ5.out 4
      have hx0 : w5.cell? ⟨w4.heap.size, 0, none⟩ = some _ := (blk_cell HNB.out 0).trans rfl
      have hx1 : w5.cell? ⟨w4.heap.size, 1, none⟩ = some _ := (blk_cell HNB.out 1).trans rfl
      have hx2 : w5.cell? ⟨w4.heap.size, 2, none⟩ = some _ := (blk_cell HNB.out 2).trans rfl
      have hx3 : w5.cell? ⟨w4.heap.size, 3, none⟩ = some _ := (blk_cell HNB.out 3).trans rfl
      have hx4 : w5.cell? ⟨w4.heap.size, 4, none⟩ = some _ := (blk_cell HNB.out 4).trans rfl
      have fx0 := blk_frozen HNB.out 0
      have fx1 := blk_frozen HNB.out 1
      have fx2 := blk_frozen HNB.out 2
      have fx3 := blk_frozen HNB.out 3
      have fx4 := blk_frozen HNB.out 4
      have hne : ¬ w.heap.size = w4.heap.size := by have := HL4.out; omega
      have hne2 : ¬ w4.heap.size = w.heap.size := by have := HL4.out; omega
      go_wp2
      refine bodyPost_ret (results_ct rfl _ _ w.heap.size 25 #[.int .i64 X.f0, .int .i64 X.f1, .string X.f2, .slice X3 X.f3.length d3, .slice X4 X.f4.length d4] (0, 0) _ rfl (put5 HZ5.out _ _ _ _ _) Try.underlying25 rfl (by kernel_rfl)) rfl ?_
      have hlt : w.heap.size < w.heap.size + 1 := by omega
      exact ⟨_, _, rfl, Kd.R_lower (R_keepB RX3.out (keep5 (KeepBut.refl _ _ _) _ _ _ _ _) (by have := HLT.out; omega)) (by have := HLT.out; omega), Kd.R_lower (R_keepB RX4.out (keep5 (KeepBut.refl _ _ _) _ _ _ _ _) (by have := HLT.out; omega)) (by have := HLT.out; omega), (((((HB5.out.setCell (Nat.le_refl _) _).setCell (Nat.le_refl _) _).setCell (Nat.le_refl _) _).setCell (Nat.le_refl _) _).setCell (Nat.le_refl _) _)⟩
  · rw [if_neg h2] at h
    cases h
    have d2 : (e0 == 0) = false := beq_eq_false_iff_ne.mpr h2
    have d3 : (e0 != 0) = true := bne_iff_ne.mpr h2
    clear h2
    go_enter Try.func12, Try.ntmps12
    go_upto_region 2 with ((go_at_call 20; (with_reducible refine HV.out.mono ?_); rintro e w4 ⟨v3, v4, rfl, hR3, hR4, hb⟩; obtain ⟨X3, d3, rfl⟩ := Kd.R_slice hR3; obtain ⟨X4, d4, rfl⟩ := Kd.R_slice hR4; have HZ4 := blk_below HZ0.out hb; have HZ5 := Aside0.mk (blk_alloc HZ4 (.cells #[.int .i64 X.f0, .int .i64 X.f1, .string X.f2, .slice X3 X.f3.length d3, .slice X4 X.f4.length d4] 25)); have HNB := Aside0.mk (blk_new w4 (.cells #[.int .i64 X.f0, .int .i64 X.f1, .string X.f2, .slice X3 X.f3.length d3, .slice X4 X.f4.length d4] 25)); have RX3 := Aside0.mk (Kd.R_alloc hR3 (.cells #[.int .i64 X.f0, .int .i64 X.f1, .string X.f2, .slice X3 X.f3.length d3, .slice X4 X.f4.length d4] 25)); have RX4 := Aside0.mk (Kd.R_alloc hR4 (.cells #[.int .i64 X.f0, .int .i64 X.f1, .string X.f2, .slice X3 X.f3.length d3, .slice X4 X.f4.length d4] 25)); have HL4 := Aside0.mk (Nat.lt_of_lt_of_le HLT.out hb.size); have HB5 := Aside0.mk (below_alloc (below_step HB0.out hb) (.cells #[.int .i64 X.f0, .int .i64 X.f1, .string X.f2, .slice X3 X.f3.length d3, .slice X4 X.f4.length d4] 25)); clear hb hR3 hR4 HZ4))
    generalize (w4.alloc (.cells #[.int .i64 X.f0, .int .i64 X.f1, .string X.f2, .slice X3 X.f3.length d3, .slice X4 X.f4.length d4] 25)) = w5 at HZ5 HNB RX3 RX4 HB5 ⊢
    have hz0 : w5.cell? ⟨w.heap.size, 0, none⟩ = some _ := (blk_cell HZ5.out 0).trans rfl
    have hz1 : w5.cell? ⟨w.heap.size, 1, none⟩ = some _ := (blk_cell HZ5.out 1).trans rfl
    have hz2 : w5.cell? ⟨w.heap.size, 2, none⟩ = some _ := (blk_cell HZ5.out 2).trans rfl
    have hz3 : w5.cell? ⟨w.heap.size, 3, none⟩ = some _ := (blk_cell HZ5.out 3).trans rfl
    have hz4 : w5.cell? ⟨w.heap.size, 4, none⟩ = some _ := (blk_cell HZ5.out 4).trans rfl
    have fz0 := blk_frozen HZ5.out 0
    have fz1 := blk_frozen HZ5.out 1
    have fz2 := blk_frozen HZ5.out 2
    have fz3 := blk_frozen HZ5.out 3
    have fz4 := blk_frozen HZ5.out 4
    have hx0 : w5.cell? ⟨w4.heap.size, 0, none⟩ = some _ := (blk_cell HNB.out 0).trans rfl
    have hx1 : w5.cell? ⟨w4.heap.size, 1, none⟩ = some _ := (blk_cell HNB.out 1).trans rfl
    have hx2 : w5.cell? ⟨w4.heap.size, 2, none⟩ = some _ := (blk_cell HNB.out 2).trans rfl
    have hx3 : w5.cell? ⟨w4.heap.size, 3, none⟩ = some _ := (blk_cell HNB.out 3).trans rfl
    have hx4 : w5.cell? ⟨w4.heap.size, 4, none⟩ = some _ := (blk_cell HNB.out 4).trans rfl
    have fx0 := blk_frozen HNB.out 0
    have fx1 := blk_frozen HNB.out 1
    have fx2 := blk_frozen HNB.out 2
    have fx3 := blk_frozen HNB.out 3
    have fx4 := blk_frozen HNB.out 4
    have hne : ¬ w.heap.size = w4.heap.size := by have := HL4.out; omega
    have hne2 : ¬ w4.heap.size = w.heap.size := by have := HL4.out; omega
    go_wp2
    refine bodyPost_ret (results_ct rfl _ _ w.heap.size 25 #[.int .i64 0, .int .i64 0, .string ⟨#[]⟩, .slice none 0 0, .slice none 0 0] (0, 0) _ rfl (put5 HZ5.out _ _ _ _ _) Try.underlying25 rfl (by kernel_rfl)) rfl ?_
    exact ⟨_, _, rfl, Kd.R_nil _ _ _ _ _, Kd.R_nil _ _ _ _ _, (((((HB5.out.setCell (Nat.le_refl _) _).setCell (Nat.le_refl _) _).setCell (Nat.le_refl _) _).setCell (Nat.le_refl _) _).setCell (Nat.le_refl _) _)⟩

end Go.Proofs.Ytekcnfngcgchcaa.PBenParses
