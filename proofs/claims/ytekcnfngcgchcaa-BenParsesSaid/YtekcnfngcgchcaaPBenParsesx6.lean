/- Written by a program of this session (a turned copy of the kit's print): functions of the program, each with the Lean function that it comes to, and the row of one law. No condition. -/
import Derived.Test.YtekcnfngcgchcaaPBenParsesx0
import Derived.Test.YtekcnfngcgchcaaPBenParsesx3
import Derived.Test.YtekcnfngcgchcaaPBenParsesx5
namespace Go.Proofs.Ytekcnfngcgchcaa.PBenParses
open Go.RowKit Go.Proofs.YtekcnfngcgchcaaW.PrintWords Go.Proofs.YtekcnfngcgchcaaW.PrintLast Go.Proofs.YtekcnfngcgchcaaW.PrintMore
attribute [local go_sem] max2_int min2_int max_two min_two max_three min_three max_four min_four   -- for this text's walks alone
set_option linter.unusedVariables false
set_option linter.unusedSimpArgs false


/-! ### annuletlaw12_awake: function 8 -/
/-! ### the example -/
def awKids : List S25 := [⟨1, 5, ⟨#[]⟩, [], []⟩, ⟨2, 0, ⟨#[97, 98]⟩, [], []⟩]
def awTree : S25 := ⟨3, 0, ⟨#[]⟩, [], awKids⟩
theorem kids_aw (w : World) : k25.C (w.alloc (.cells #[.int .i64 1, .int .i64 5, .string ⟨#[]⟩, .slice none 0 0, .slice none 0 0, .int .i64 2, .int .i64 0, .string ⟨#[97, 98]⟩, .slice none 0 0, .slice none 0 0] 25)) (some ⟨w.heap.size, 0, none⟩) 2 awKids := by
  have hR : k25.R 25 (w.alloc (.cells #[.int .i64 1, .int .i64 5, .string ⟨#[]⟩, .slice none 0 0, .slice none 0 0, .int .i64 2, .int .i64 0, .string ⟨#[97, 98]⟩, .slice none 0 0, .slice none 0 0] 25)) w.heap.size (fun _ => True) (.slice (some ⟨w.heap.size, 0, none⟩) 2 2) awKids := by
    refine ⟨fun _ _ => trivial, _, World.ownsRow_lit w #[.int .i64 1, .int .i64 5, .string ⟨#[]⟩, .slice none 0 0, .slice none 0 0, .int .i64 2, .int .i64 0, .string ⟨#[97, 98]⟩, .slice none 0 0, .slice none 0 0] 2 (Nat.le_refl _) (by decide) rfl, ?_⟩
    exact ((Reps.none _ _).snoc (k25_mkM _ _ _ ⟨1, 5, ⟨#[]⟩, [], []⟩ (Kd.R_nil _ _ _ _ _) (Kd.R_nil _ _ _ _ _)) rfl).snoc (k25_mkM _ _ _ ⟨2, 0, ⟨#[97, 98]⟩, [], []⟩ (Kd.R_nil _ _ _ _ _) (Kd.R_nil _ _ _ _ _)) rfl
  obtain ⟨A, c, he, _, hC⟩ := Kd.R_reads hR
  cases he
  exact hC
def awPart (k : Nat) (l : List Int) (e : Int) : Prop := ∃ T, ben_Parse.f k l = some (T, e)
def law12_awake.ok (k : Nat) : Prop := ben_Print.f k awTree = some ([108, 105, 53, 101, 50, 58, 97, 98, 101], 0) ∧ awPart k [105, 45, 48, 101] 3 ∧ awPart k [50, 58, 97] 2 ∧ awPart k [108, 101, 53] 4 ∧ awPart k [100, 49, 58, 98, 105, 49, 101, 49, 58, 97, 105, 49, 101, 101] 3 ∧ (∃ T, ben_Parse.f k [100, 49, 58, 97, 105, 49, 101, 49, 58, 98, 105, 50, 101, 101] = some (T, 0) ∧ T.f3.length = 2)
theorem parse_lit (k : Nat) (A : Option Addr) (l : List Int) (T : S25) (e0 : Int) (w : World) (hr : (Kd.int .u8).C w A l.length l) (hs : l.length < 100) (h : ben_Parse.f k l = some (T, e0)) :
    Calls Try.prog 11 #[.slice A l.length l.length] w fun e w2 => ∃ (A3 : Option Addr) (c3 : Nat) (A4 : Option Addr) (c4 : Nat), e = .returned (.tuple #[.agg #[.int .i64 T.f0, .int .i64 T.f1, .string T.f2, .slice A3 T.f3.length c3, .slice A4 T.f4.length c4], .int .i64 e0]) ∧ Below w.heap.size w w2 :=
  (ben_Parse.calls k A l.length l T e0 w hr (Nat.le_refl _) (by omega) h).mono (fun e w2 ⟨v3, v4, he, h3, h4, hb⟩ => by
    obtain ⟨A3, c3, rfl⟩ := Kd.R_slice h3
    obtain ⟨A4, c4, rfl⟩ := Kd.R_slice h4
    exact ⟨A3, c3, A4, c4, he, hb⟩)
theorem aw_bytes : (strOfNums [108, 105, 53, 101, 50, 58, 97, 98, 101]).toList = [108, 105, 53, 101, 50, 58, 97, 98, 101] := by
  rw [show strOfNums [108, 105, 53, 101, 50, 58, 97, 98, 101] = (⟨#[108, 105, 53, 101, 50, 58, 97, 98, 101]⟩ : ByteArray) from rfl]
  simp
set_option maxHeartbeats 4000000 in
set_option maxRecDepth 100000 in
theorem law12_awake.calls (k : Nat) (w : World) (h : law12_awake.ok k) : Calls Try.prog 8 #[] w fun e w2 => e = .returned (.bool true) ∧ Below w.heap.size w w2 := by
  have hu25 := Try.underlying25
  obtain ⟨h1, ⟨T2, h2⟩, ⟨T3, h3⟩, ⟨T4, h4⟩, ⟨T5, h5⟩, ⟨T6, h6, h6n⟩⟩ := h
  obtain ⟨l2, q2⟩ : ∃ l : List Int, l = [105, 45, 48, 101] := ⟨_, rfl⟩
  rw [← q2] at h2
  have H2 := Aside0.mk h2
  have N2 := Aside0.mk (show l2.length < 100 by rw [q2]; decide)
  have Q2 := Aside0.mk q2
  obtain ⟨l3, q3⟩ : ∃ l : List Int, l = [50, 58, 97] := ⟨_, rfl⟩
  rw [← q3] at h3
  have H3 := Aside0.mk h3
  have N3 := Aside0.mk (show l3.length < 100 by rw [q3]; decide)
  have Q3 := Aside0.mk q3
  obtain ⟨l4, q4⟩ : ∃ l : List Int, l = [108, 101, 53] := ⟨_, rfl⟩
  rw [← q4] at h4
  have H4 := Aside0.mk h4
  have N4 := Aside0.mk (show l4.length < 100 by rw [q4]; decide)
  have Q4 := Aside0.mk q4
  obtain ⟨l5, q5⟩ : ∃ l : List Int, l = [100, 49, 58, 98, 105, 49, 101, 49, 58, 97, 105, 49, 101, 101] := ⟨_, rfl⟩
  rw [← q5] at h5
  have H5 := Aside0.mk h5
  have N5 := Aside0.mk (show l5.length < 100 by rw [q5]; decide)
  have Q5 := Aside0.mk q5
  obtain ⟨l6, q6⟩ : ∃ l : List Int, l = [100, 49, 58, 97, 105, 49, 101, 49, 58, 98, 105, 50, 101, 101] := ⟨_, rfl⟩
  rw [← q6] at h6
  have H6 := Aside0.mk h6
  have N6 := Aside0.mk (show l6.length < 100 by rw [q6]; decide)
  have Q6 := Aside0.mk q6
  obtain ⟨rr, qr⟩ : ∃ l : List Int, l = [108, 105, 53, 101, 50, 58, 97, 98, 101] := ⟨_, rfl⟩
  rw [← qr] at h1
  have QR := Aside0.mk qr
  have hst : (strOfNums rr).toList = [108, 105, 53, 101, 50, 58, 97, 98, 101] := by rw [qr]; exact aw_bytes
  have HPr := Aside0.mk (show ∀ W : World, k25.C W (some ⟨w.heap.size, 0, none⟩) 2 awKids → Calls Try.prog 9 #[.agg #[.int .i64 3, .int .i64 0, .string ⟨#[]⟩, .slice none 0 0, .slice (some ⟨w.heap.size, 0, none⟩) 2 2]] W fun e w2 => ∃ v, e = .returned (.tuple #[v, .int .i64 0]) ∧ PutS W w2 v rr from fun W hC => ben_Print.calls k awTree none (some ⟨w.heap.size, 0, none⟩) 0 2 rr 0 W (Kd.C_nil _ _) (Nat.le_refl _) hC (Nat.le_refl _) h1)
  have HK := Aside0.mk (kids_aw w)
  have HB0 := Aside0.mk (below_alloc (Below.refl w.heap.size w) (.cells #[.int .i64 1, .int .i64 5, .string ⟨#[]⟩, .slice none 0 0, .slice none 0 0, .int .i64 2, .int .i64 0, .string ⟨#[97, 98]⟩, .slice none 0 0, .slice none 0 0] 25))
  have H6N := Aside0.mk h6n
  clear h1 h2 h3 h4 h5 h6 q2 q3 q4 q5 q6 qr h6n
  go_enter Try.func8, Try.ntmps8
  go_upto_region 2 with (go_at_call 9; (with_reducible refine (HPr.out _ HK.out).mono ?_); rintro e w1 ⟨v, rfl, hp⟩; have HB1 := Aside0.mk (below_step HB0.out (Below.mono hp.bel (Nat.le_refl _))); have HP1 := Aside0.mk hp; clear hp)
  go_upto_region 3 with (first | ((with_reducible refine gate_dst (N := 22) rfl ?_); refine bconst_event rfl rfl (N1 := 22) (N2 := 23) rfl rfl (l := l2) (t := 28) (e := 5) Try.underlying28 Try.underlying5 rfl (by simp) (by have := N2.out; omega) ?hr ?_; (case hr => (rw [Q2.out]; first | (go_simp; done) | (go_simp; rfl))); intro B2 wb hC hb; have HC2 := Aside0.mk hC; have HBb := Aside0.mk (below_step HB1.out hb); have HPb := Aside0.mk (HP1.out.later hb); clear hC hb) | (go_at_call 11; (with_reducible refine (parse_lit k B2 l2 T2 3 _ HC2.out N2.out H2.out).mono ?_); rintro e wc ⟨A3, c3, A4, c4, rfl, hb⟩; have HBc := Aside0.mk (below_step HBb.out hb); have HPc := Aside0.mk (HPb.out.later hb); clear hb))
  have HB2 := Aside0.mk (below_step HBc.out (below_alloc (Below.refl _ _) (.cells #[.int .i64 T2.f0, .int .i64 T2.f1, .string T2.f2, .slice A3 T2.f3.length c3, .slice A4 T2.f4.length c4] 25)))
  have HP2 := Aside0.mk (HPc.out.later (below_alloc (Below.refl _ _) (.cells #[.int .i64 T2.f0, .int .i64 T2.f1, .string T2.f2, .slice A3 T2.f3.length c3, .slice A4 T2.f4.length c4] 25)))
  generalize wc.alloc (.cells #[.int .i64 T2.f0, .int .i64 T2.f1, .string T2.f2, .slice A3 T2.f3.length c3, .slice A4 T2.f4.length c4] 25) = w2 at HB2 HP2 ⊢
  clear HBb HBc HPb HPc
  go_upto_region 4 with (first | ((with_reducible refine gate_dst (N := 28) rfl ?_); refine bconst_event rfl rfl (N1 := 28) (N2 := 29) rfl rfl (l := l3) (t := 28) (e := 5) Try.underlying28 Try.underlying5 rfl (by simp) (by have := N3.out; omega) ?hr ?_; (case hr => (rw [Q3.out]; first | (go_simp; done) | (go_simp; rfl))); intro B3 wb hC hb; have HC3 := Aside0.mk hC; have HBb := Aside0.mk (below_step HB2.out hb); have HPb := Aside0.mk (HP2.out.later hb); clear hC hb) | (go_at_call 11; (with_reducible refine (parse_lit k B3 l3 T3 2 _ HC3.out N3.out H3.out).mono ?_); rintro e wc ⟨A3, c3, A4, c4, rfl, hb⟩; have HBc := Aside0.mk (below_step HBb.out hb); have HPc := Aside0.mk (HPb.out.later hb); clear hb))
  have HB3 := Aside0.mk (below_step HBc.out (below_alloc (Below.refl _ _) (.cells #[.int .i64 T3.f0, .int .i64 T3.f1, .string T3.f2, .slice A3 T3.f3.length c3, .slice A4 T3.f4.length c4] 25)))
  have HP3 := Aside0.mk (HPc.out.later (below_alloc (Below.refl _ _) (.cells #[.int .i64 T3.f0, .int .i64 T3.f1, .string T3.f2, .slice A3 T3.f3.length c3, .slice A4 T3.f4.length c4] 25)))
  generalize wc.alloc (.cells #[.int .i64 T3.f0, .int .i64 T3.f1, .string T3.f2, .slice A3 T3.f3.length c3, .slice A4 T3.f4.length c4] 25) = w3 at HB3 HP3 ⊢
  clear HBb HBc HPb HPc
  go_upto_region 5 with (first | ((with_reducible refine gate_dst (N := 34) rfl ?_); refine bconst_event rfl rfl (N1 := 34) (N2 := 35) rfl rfl (l := l4) (t := 28) (e := 5) Try.underlying28 Try.underlying5 rfl (by simp) (by have := N4.out; omega) ?hr ?_; (case hr => (rw [Q4.out]; first | (go_simp; done) | (go_simp; rfl))); intro B4 wb hC hb; have HC4 := Aside0.mk hC; have HBb := Aside0.mk (below_step HB3.out hb); have HPb := Aside0.mk (HP3.out.later hb); clear hC hb) | (go_at_call 11; (with_reducible refine (parse_lit k B4 l4 T4 4 _ HC4.out N4.out H4.out).mono ?_); rintro e wc ⟨A3, c3, A4, c4, rfl, hb⟩; have HBc := Aside0.mk (below_step HBb.out hb); have HPc := Aside0.mk (HPb.out.later hb); clear hb))
  have HB4 := Aside0.mk (below_step HBc.out (below_alloc (Below.refl _ _) (.cells #[.int .i64 T4.f0, .int .i64 T4.f1, .string T4.f2, .slice A3 T4.f3.length c3, .slice A4 T4.f4.length c4] 25)))
  have HP4 := Aside0.mk (HPc.out.later (below_alloc (Below.refl _ _) (.cells #[.int .i64 T4.f0, .int .i64 T4.f1, .string T4.f2, .slice A3 T4.f3.length c3, .slice A4 T4.f4.length c4] 25)))
  generalize wc.alloc (.cells #[.int .i64 T4.f0, .int .i64 T4.f1, .string T4.f2, .slice A3 T4.f3.length c3, .slice A4 T4.f4.length c4] 25) = w4 at HB4 HP4 ⊢
  clear HBb HBc HPb HPc
  go_upto_region 6 with (first | ((with_reducible refine gate_dst (N := 40) rfl ?_); refine bconst_event rfl rfl (N1 := 40) (N2 := 41) rfl rfl (l := l5) (t := 28) (e := 5) Try.underlying28 Try.underlying5 rfl (by simp) (by have := N5.out; omega) ?hr ?_; (case hr => (rw [Q5.out]; first | (go_simp; done) | (go_simp; rfl))); intro B5 wb hC hb; have HC5 := Aside0.mk hC; have HBb := Aside0.mk (below_step HB4.out hb); have HPb := Aside0.mk (HP4.out.later hb); clear hC hb) | (go_at_call 11; (with_reducible refine (parse_lit k B5 l5 T5 3 _ HC5.out N5.out H5.out).mono ?_); rintro e wc ⟨A3, c3, A4, c4, rfl, hb⟩; have HBc := Aside0.mk (below_step HBb.out hb); have HPc := Aside0.mk (HPb.out.later hb); clear hb))
  have HB5 := Aside0.mk (below_step HBc.out (below_alloc (Below.refl _ _) (.cells #[.int .i64 T5.f0, .int .i64 T5.f1, .string T5.f2, .slice A3 T5.f3.length c3, .slice A4 T5.f4.length c4] 25)))
  have HP5 := Aside0.mk (HPc.out.later (below_alloc (Below.refl _ _) (.cells #[.int .i64 T5.f0, .int .i64 T5.f1, .string T5.f2, .slice A3 T5.f3.length c3, .slice A4 T5.f4.length c4] 25)))
  generalize wc.alloc (.cells #[.int .i64 T5.f0, .int .i64 T5.f1, .string T5.f2, .slice A3 T5.f3.length c3, .slice A4 T5.f4.length c4] 25) = w5 at HB5 HP5 ⊢
  clear HBb HBc HPb HPc
  go_upto_region 7 with (first | ((with_reducible refine gate_dst (N := 46) rfl ?_); refine bconst_event rfl rfl (N1 := 46) (N2 := 47) rfl rfl (l := l6) (t := 28) (e := 5) Try.underlying28 Try.underlying5 rfl (by simp) (by have := N6.out; omega) ?hr ?_; (case hr => (rw [Q6.out]; first | (go_simp; done) | (go_simp; rfl))); intro B6 wb hC hb; have HC6 := Aside0.mk hC; have HBb := Aside0.mk (below_step HB5.out hb); have HPb := Aside0.mk (HP5.out.later hb); clear hC hb) | (go_at_call 11; (with_reducible refine (parse_lit k B6 l6 T6 0 _ HC6.out N6.out H6.out).mono ?_); rintro e wc ⟨A3, c3, A4, c4, rfl, hb⟩; have HBc := Aside0.mk (below_step HBb.out hb); have HPc := Aside0.mk (HPb.out.later hb); clear hb))
  have HB6 := Aside0.mk (below_step HBc.out (below_alloc (Below.refl _ _) (.cells #[.int .i64 T6.f0, .int .i64 T6.f1, .string T6.f2, .slice A3 T6.f3.length c3, .slice A4 T6.f4.length c4] 25)))
  have HP6 := Aside0.mk (HPc.out.later (below_alloc (Below.refl _ _) (.cells #[.int .i64 T6.f0, .int .i64 T6.f1, .string T6.f2, .slice A3 T6.f3.length c3, .slice A4 T6.f4.length c4] 25)))
  have HN := Aside0.mk (blk_new wc (.cells #[.int .i64 T6.f0, .int .i64 T6.f1, .string T6.f2, .slice A3 T6.f3.length c3, .slice A4 T6.f4.length c4] 25))
  generalize wc.alloc (.cells #[.int .i64 T6.f0, .int .i64 T6.f1, .string T6.f2, .slice A3 T6.f3.length c3, .slice A4 T6.f4.length c4] 25) = w6 at HB6 HP6 HN ⊢
  clear HBb HBc HPb HPc
  have hx3 : w6.cell? ⟨wc.heap.size, 3, none⟩ = some _ := (blk_cell HN.out 3).trans rfl
  have hcv := own_string (P := Try.prog) Try.underlying28 Try.underlying5 Try.underlying9 HP6.out.own
  have hn2 : ((T6.f3.length : Int) == 2) = true := by rw [H6N.out]; rfl
  go_wp2
  go_ret
  exact ⟨rfl, HB6.out⟩

/-! ### annuletref12_digit: function 32 -/
def annuletref12_digit.f (a0 : Int) : Option (Bool) := if a0 > 47 then (some (decide (a0 < 58))) else (some false)
set_option maxHeartbeats 3000000 in
set_option maxRecDepth 100000 in
theorem annuletref12_digit.calls (a0 : Int) (r : Bool) (w : World) (h : annuletref12_digit.f a0 = some r) :
    Calls Try.prog 32 #[.int .u8 a0] w fun e w' => e = .returned (.bool r) ∧ Drawn0 w w' := by
  have H : (if a0 > 47 then (some (decide (a0 < 58))) else (some false)) = some r := h
  clear h
  by_cases c2 : a0 > 47
  · rw [if_pos c2] at H
    have c2b0 : decide (47 < a0) = true := decide_eq_true c2
    clear c2
    obtain rfl := Option.some.inj H
    go_enter Try.func32, Try.ntmps32
    go_wp2
    all_goals go_ret
    all_goals first | (exact ⟨by first | rfl | (simp; done) | (simp [*]; done) | (refine congrArg Ending.returned ?_; show Value.string _ = Value.string _; (first | (congr 2 <;> omega) | (congr 3 <;> omega) | (congr 4 <;> omega))), by repeat (first | exact Drawn0.refl _ | apply Drawn0.step)⟩) | (exfalso; simp_all; done)
  · rw [if_neg c2] at H
    have c2b0 : decide (47 < a0) = false := decide_eq_false c2
    clear c2
    obtain rfl := Option.some.inj H
    go_enter Try.func32, Try.ntmps32
    go_wp2
    all_goals go_ret
    all_goals first | (exact ⟨by first | rfl | (simp; done) | (simp [*]; done) | (refine congrArg Ending.returned ?_; show Value.string _ = Value.string _; (first | (congr 2 <;> omega) | (congr 3 <;> omega) | (congr 4 <;> omega))), by repeat (first | exact Drawn0.refl _ | apply Drawn0.step)⟩) | (exfalso; simp_all; done)

/-! ### annuletref12_find: function 45 -/
def annuletref12_find.l0 : Nat → ByteArray → Int → Int → Option (Int)
  | 0, _, _, _ => none
  | k + 1, x0, x2, x7 => if x7 < (x0.size : Int) then (if 0 ≤ x7 then (if (bt x0 x7) = x2 then (some x7) else (annuletref12_find.l0 k x0 x2 (wrap64 (x7 + 1)))) else (none)) else (some (-1))
def annuletref12_find.f (k : Nat) (a0 : ByteArray) (a1 : Int) (a2 : Int) : Option (Int) := annuletref12_find.l0 k a0 a2 a1
theorem annuletref12_find.mono_l : ∀ k, (∀ y0 y1 y2, LeO (annuletref12_find.l0 k y0 y1 y2) (annuletref12_find.l0 (k + 1) y0 y1 y2))
  | 0 => fun _ _ _ r h => by simp [annuletref12_find.l0] at h
  | k + 1 => by
    have ih0 := annuletref12_find.mono_l k
    · intro y0 y1 y2
      unfold annuletref12_find.l0
      repeat' first
      | (with_reducible exact ih0 _ _ _)
      | (with_reducible exact LeO.refl _)
      | (with_reducible exact LeO.none _)
      | (with_reducible refine LeO.ite ?_ ?_)
      | (with_reducible refine LeO.bind ?_ (fun _ => ?_))
      | exact ih0 _ _ _
      | exact LeO.none _
      | refine LeO.ite ?_ ?_
      | refine LeO.bind ?_ (fun _ => ?_)
theorem annuletref12_find.mono : ∀ a0 a1 a2 k, LeO (annuletref12_find.f k a0 a1 a2) (annuletref12_find.f (k + 1) a0 a1 a2) := by
  intro a0 a1 a2 k
  have ih0 := annuletref12_find.mono_l k
  unfold annuletref12_find.f
  repeat' first
      | (with_reducible exact ih0 _ _ _)
      | (with_reducible exact LeO.refl _)
      | (with_reducible exact LeO.none _)
      | (with_reducible refine LeO.ite ?_ ?_)
      | (with_reducible refine LeO.bind ?_ (fun _ => ?_))
      | exact ih0 _ _ _
      | exact LeO.none _
      | refine LeO.ite ?_ ?_
      | refine LeO.bind ?_ (fun _ => ?_)
set_option maxHeartbeats 3000000 in
set_option maxRecDepth 100000 in
theorem annuletref12_find.calls (k : Nat) (a0 : ByteArray) (a1 : Int) (a2 : Int) (r : Int) (w : World) (h : annuletref12_find.f k a0 a1 a2 = some r) :
    Calls Try.prog 45 #[.string a0, .int .i64 a1, .int .u8 a2] w fun e w' => e = .returned (.int .i64 r) ∧ Drawn0 w w' := by
  have H : (annuletref12_find.l0 k a0 a2 a1) = some r := h
  clear h
  have H' := Aside0.mk H
  clear H
  go_enter Try.func45, Try.ntmps45
  go_wp2
  go_loopg [7] k (fun kq v7 w' => ∃ (x7_1 : Int), v7 = .int .i64 x7_1 ∧ Aside0 (annuletref12_find.l0 kq a0 a2 x7_1 = some r) ∧ Aside0 (kq ≤ k) ∧ Drawn0 w w')
  case atStart => exact ⟨(a1), (by first | rfl | (simp; done) | (simp [*]; done)), H', ⟨Nat.le_refl _⟩, by repeat (first | exact Drawn0.refl _ | apply Drawn0.step)⟩
  case round =>
    clear H'
    try clear p2
    obtain ⟨x7_1, rfl, HA, HK1, ⟨m1, rfl⟩⟩ := hrel
    cases gk with
    | zero => exact absurd HA.out (by simp [annuletref12_find.l0])
    | succ k1 =>
      have H := HA.out
      clear HA
      simp only [annuletref12_find.l0] at H
      by_cases c4 : x7_1 < (a0.size : Int)
      · rw [if_pos c4] at H
        have c4b0 : decide (x7_1 < (a0.size : Int)) = true := decide_eq_true c4
        clear c4
        by_cases c5 : 0 ≤ x7_1
        · rw [if_pos c5] at H
          have c5b0 : decide (0 ≤ x7_1) = true := decide_eq_true c5
          clear c5
          by_cases c7 : (bt a0 x7_1) = a2
          · rw [if_pos c7] at H
            have c7b0 : ((bt a0 x7_1) == a2) = true := beq_iff_eq.mpr c7
            have c7b1 : ((bt a0 x7_1) != a2) = false := bne_eq_false_iff_eq.mpr c7
            clear c7
            obtain rfl := Option.some.inj H
            have p6 : 0 ≤ (x7_1 : Int) := of_decide_eq_true (by first | (with_reducible assumption) | assumption)
            have q6 : x7_1 < (a0.size : Int) := of_decide_eq_true (by first | (with_reducible assumption) | assumption)
            have hx6 := bt_at a0 x7_1
            replace p6 := eq_true p6
            replace q6 := eq_true q6
            go_wp2
            all_goals go_ret
            all_goals first | (exact ⟨by first | rfl | (simp; done) | (simp [*]; done) | (refine congrArg Ending.returned ?_; show Value.string _ = Value.string _; (first | (congr 2 <;> omega) | (congr 3 <;> omega) | (congr 4 <;> omega))), by repeat (first | exact Drawn0.refl _ | apply Drawn0.step)⟩) | (exfalso; simp_all; done)
          · rw [if_neg c7] at H
            have c7b0 : ((bt a0 x7_1) == a2) = false := beq_eq_false_iff_ne.mpr c7
            have c7b1 : ((bt a0 x7_1) != a2) = true := bne_iff_ne.mpr c7
            have H' := Aside0.mk H
            clear H
            have p6 : 0 ≤ (x7_1 : Int) := of_decide_eq_true (by first | (with_reducible assumption) | assumption)
            have q6 : x7_1 < (a0.size : Int) := of_decide_eq_true (by first | (with_reducible assumption) | assumption)
            have hx6 := bt_at a0 x7_1
            replace p6 := eq_true p6
            replace q6 := eq_true q6
            go_wp2
            go_roundg k1
            case measure => have := HK1.out; omega
            case rel => exact ⟨(wrap64 (x7_1 + 1)), (by first | rfl | (simp; done) | (simp [*]; done)), H', ⟨by have := HK1.out; omega⟩, by repeat (first | exact Drawn0.refl _ | apply Drawn0.step)⟩
        · rw [if_neg c5] at H
          exact absurd H (by simp)
      · rw [if_neg c4] at H
        have c4b0 : decide (x7_1 < (a0.size : Int)) = false := decide_eq_false c4
        clear c4
        obtain rfl := Option.some.inj H
        go_wp2
        all_goals go_ret
        all_goals first | (exact ⟨by first | rfl | (simp; done) | (simp [*]; done) | (refine congrArg Ending.returned ?_; show Value.string _ = Value.string _; (first | (congr 2 <;> omega) | (congr 3 <;> omega) | (congr 4 <;> omega))), by repeat (first | exact Drawn0.refl _ | apply Drawn0.step)⟩) | (exfalso; simp_all; done)

/-! ### annuletref07_Put: function 26 -/
def annuletref07_Put.f : Nat → Int → Option (ByteArray)
  | 0, _ => none
  | k + 1, a0 => if a0 < (-9) then ((annuletref07_Put.f k (wrap64 (Int.tdiv a0 10))).bind fun t126 => ((annuletref07_Put.f k (wrap64 (-(Int.tmod a0 10)))).bind fun t127 => (if t126.size + t127.size ≤ 9223372036854775807 then (some (t126 ++ t127)) else (none)))) else (if a0 < 0 then ((annuletref07_Put.f k (wrap64 (-a0))).bind fun t128 => (if 1 + t128.size ≤ 9223372036854775807 then (some ((⟨#[45]⟩ : ByteArray) ++ t128)) else (none))) else (if a0 > 9 then ((annuletref07_Put.f k (wrap64 (Int.tdiv a0 10))).bind fun t129 => ((annuletref07_Put.f k (Int.tmod a0 10)).bind fun t130 => (if t129.size + t130.size ≤ 9223372036854775807 then (some (t129 ++ t130)) else (none)))) else (some (strOfNums (([(wrap64 (48 + a0)) % 256] : List Int))))))
theorem annuletref07_Put.mono_l : ∀ k, (∀ y0, LeO (annuletref07_Put.f k y0) (annuletref07_Put.f (k + 1) y0))
  | 0 => fun _ r h => by simp [annuletref07_Put.f] at h
  | k + 1 => by
    have ih0 := annuletref07_Put.mono_l k
    · intro y0
      unfold annuletref07_Put.f
      repeat' first
      | (with_reducible exact ih0 _)
      | (with_reducible exact LeO.refl _)
      | (with_reducible exact LeO.none _)
      | (with_reducible refine LeO.ite ?_ ?_)
      | (with_reducible refine LeO.bind ?_ (fun _ => ?_))
      | exact ih0 _
      | exact LeO.none _
      | refine LeO.ite ?_ ?_
      | refine LeO.bind ?_ (fun _ => ?_)
theorem annuletref07_Put.mono : ∀ a0 k, LeO (annuletref07_Put.f k a0) (annuletref07_Put.f (k + 1) a0) := by
  intro a0 k
  have ih0 := annuletref07_Put.mono_l k
  exact ih0 a0
set_option maxHeartbeats 3000000 in
set_option maxRecDepth 100000 in
theorem annuletref07_Put.calls (k : Nat) : ∀ (a0 : Int) (r : ByteArray) (w : World) (h : annuletref07_Put.f k a0 = some r),
    Calls Try.prog 26 #[.int .i64 a0] w fun e w' => e = .returned (.string r) ∧ Below w.heap.size w w' := by
  induction k using Nat.strongRecOn with
  | _ k ih =>
  intro a0 r w h
  cases k with
  | zero => exact absurd h (by simp [annuletref07_Put.f])
  | succ k =>
  simp only [annuletref07_Put.f] at h
  have HB := Aside0.mk (Below.refl w.heap.size w)
  have H : (if a0 < (-9) then ((annuletref07_Put.f k (wrap64 (Int.tdiv a0 10))).bind fun t126 => ((annuletref07_Put.f k (wrap64 (-(Int.tmod a0 10)))).bind fun t127 => (if t126.size + t127.size ≤ 9223372036854775807 then (some (t126 ++ t127)) else (none)))) else (if a0 < 0 then ((annuletref07_Put.f k (wrap64 (-a0))).bind fun t128 => (if 1 + t128.size ≤ 9223372036854775807 then (some ((⟨#[45]⟩ : ByteArray) ++ t128)) else (none))) else (if a0 > 9 then ((annuletref07_Put.f k (wrap64 (Int.tdiv a0 10))).bind fun t129 => ((annuletref07_Put.f k (Int.tmod a0 10)).bind fun t130 => (if t129.size + t130.size ≤ 9223372036854775807 then (some (t129 ++ t130)) else (none)))) else (some (strOfNums (([(wrap64 (48 + a0)) % 256] : List Int))))))) = some r := h
  clear h
  by_cases c2 : a0 < (-9)
  · rw [if_pos c2] at H
    have c2b0 : decide (a0 < (-9)) = true := decide_eq_true c2
    clear c2
    replace H := Option.bind_eq_some_iff.mp H
    obtain ⟨t126, A30, H⟩ := H
    replace H : ((annuletref07_Put.f k (wrap64 (-(Int.tmod a0 10)))).bind fun t127 => (if t126.size + t127.size ≤ 9223372036854775807 then (some (t126 ++ t127)) else (none))) = some r := H
    have A3 := Aside0.mk A30
    clear A30
    replace H := Option.bind_eq_some_iff.mp H
    obtain ⟨t127, A40, H⟩ := H
    replace H : (if t126.size + t127.size ≤ 9223372036854775807 then (some (t126 ++ t127)) else (none)) = some r := H
    have A4 := Aside0.mk A40
    clear A40
    by_cases c5 : t126.size + t127.size ≤ 9223372036854775807
    · rw [if_pos c5] at H
      have c5b0 := eq_true c5
      have c5b1 : decide (t126.size + t127.size ≤ 9223372036854775807) = true := decide_eq_true c5
      try have c5b2 : (9223372036854775807 < t126.size + t127.size) = False := eq_false (Nat.not_lt.2 c5)
      obtain rfl := Option.some.inj H
      go_enter Try.func26, Try.ntmps26
      go_wp2_with (first | ((with_reducible refine gate_callee (f := 26) rfl ?_); refine goesL_ (some 7) rfl rfl Try.func26 (by kernel_rfl) rfl #[.int .i64 (wrap64 (Int.tdiv a0 10))] rfl (by (try simp only [List.map_toArray, List.map_cons, List.map_nil]); first | done | rfl | (simp only [List.length_drop, List.length_take]; rfl)) ?_; (with_reducible refine (ih k (by omega) (wrap64 (Int.tdiv a0 10)) t126 _ A3.out).mono ?_); rintro e w6 ⟨rfl, hb⟩; refine ⟨_, rfl, ?_⟩; have n0_ := Aside0.mk (below_step (by repeat (first | (with_reducible first | exact HB.out | apply below_alloc | apply pw_below_drewN | apply below_drew1) | exact HB.out)) hb); clear HB; have HB := n0_; clear n0_; (try clear hb); (try clear hb2); (try clear hk); (try clear hi)) | ((with_reducible refine gate_callee (f := 26) rfl ?_); refine goesL_ (some 11) rfl rfl Try.func26 (by kernel_rfl) rfl #[.int .i64 (wrap64 (-(Int.tmod a0 10)))] rfl (by (try simp only [List.map_toArray, List.map_cons, List.map_nil]); first | done | rfl | (simp only [List.length_drop, List.length_take]; rfl)) ?_; (with_reducible refine (ih k (by omega) (wrap64 (-(Int.tmod a0 10))) t127 _ A4.out).mono ?_); rintro e w7 ⟨rfl, hb⟩; refine ⟨_, rfl, ?_⟩; have n0_ := Aside0.mk (below_step (by repeat (first | (with_reducible first | exact HB.out | apply below_alloc | apply pw_below_drewN | apply below_drew1) | exact HB.out)) hb); clear HB; have HB := n0_; clear n0_; (try clear hb); (try clear hb2); (try clear hk); (try clear hi)))
      all_goals go_ret
      all_goals first | (exact ⟨by first | rfl | (simp [errW_none, errW_some] <;> rfl) | (simp [*, errW_none, errW_some] <;> rfl), by repeat (first | (with_reducible first | exact HB.out | apply below_alloc | apply pw_below_drewN | apply below_drew1) | exact HB.out)⟩) | (exfalso; simp_all; done)
    · rw [if_neg c5] at H
      exact absurd H (by simp)
  · rw [if_neg c2] at H
    have c2b0 : decide (a0 < (-9)) = false := decide_eq_false c2
    clear c2
    by_cases c8 : a0 < 0
    · rw [if_pos c8] at H
      have c8b0 : decide (a0 < 0) = true := decide_eq_true c8
      clear c8
      replace H := Option.bind_eq_some_iff.mp H
      obtain ⟨t128, A90, H⟩ := H
      replace H : (if 1 + t128.size ≤ 9223372036854775807 then (some ((⟨#[45]⟩ : ByteArray) ++ t128)) else (none)) = some r := H
      have A9 := Aside0.mk A90
      clear A90
      by_cases c10 : 1 + t128.size ≤ 9223372036854775807
      · rw [if_pos c10] at H
        have c10b0 := eq_true c10
        have c10b1 : decide (1 + t128.size ≤ 9223372036854775807) = true := decide_eq_true c10
        try have c10b2 : (9223372036854775807 < 1 + t128.size) = False := eq_false (Nat.not_lt.2 c10)
        obtain rfl := Option.some.inj H
        go_enter Try.func26, Try.ntmps26
        go_wp2_with (first | ((with_reducible refine gate_callee (f := 26) rfl ?_); refine goesL_ (some 17) rfl rfl Try.func26 (by kernel_rfl) rfl #[.int .i64 (wrap64 (-a0))] rfl (by (try simp only [List.map_toArray, List.map_cons, List.map_nil]); first | done | rfl | (simp only [List.length_drop, List.length_take]; rfl)) ?_; (with_reducible refine (ih k (by omega) (wrap64 (-a0)) t128 _ A9.out).mono ?_); rintro e w11 ⟨rfl, hb⟩; refine ⟨_, rfl, ?_⟩; have n0_ := Aside0.mk (below_step (by repeat (first | (with_reducible first | exact HB.out | apply below_alloc | apply pw_below_drewN | apply below_drew1) | exact HB.out)) hb); clear HB; have HB := n0_; clear n0_; (try clear hb); (try clear hb2); (try clear hk); (try clear hi)))
        all_goals go_ret
        all_goals first | (exact ⟨by first | rfl | (simp [errW_none, errW_some] <;> rfl) | (simp [*, errW_none, errW_some] <;> rfl), by repeat (first | (with_reducible first | exact HB.out | apply below_alloc | apply pw_below_drewN | apply below_drew1) | exact HB.out)⟩) | (exfalso; simp_all; done)
      · rw [if_neg c10] at H
        exact absurd H (by simp)
    · rw [if_neg c8] at H
      have c8b0 : decide (a0 < 0) = false := decide_eq_false c8
      clear c8
      by_cases c12 : a0 > 9
      · rw [if_pos c12] at H
        have c12b0 : decide (9 < a0) = true := decide_eq_true c12
        clear c12
        replace H := Option.bind_eq_some_iff.mp H
        obtain ⟨t129, A130, H⟩ := H
        replace H : ((annuletref07_Put.f k (Int.tmod a0 10)).bind fun t130 => (if t129.size + t130.size ≤ 9223372036854775807 then (some (t129 ++ t130)) else (none))) = some r := H
        have A13 := Aside0.mk A130
        clear A130
        replace H := Option.bind_eq_some_iff.mp H
        obtain ⟨t130, A140, H⟩ := H
        replace H : (if t129.size + t130.size ≤ 9223372036854775807 then (some (t129 ++ t130)) else (none)) = some r := H
        have A14 := Aside0.mk A140
        clear A140
        by_cases c15 : t129.size + t130.size ≤ 9223372036854775807
        · rw [if_pos c15] at H
          have c15b0 := eq_true c15
          have c15b1 : decide (t129.size + t130.size ≤ 9223372036854775807) = true := decide_eq_true c15
          try have c15b2 : (9223372036854775807 < t129.size + t130.size) = False := eq_false (Nat.not_lt.2 c15)
          obtain rfl := Option.some.inj H
          go_enter Try.func26, Try.ntmps26
          go_wp2_with (first | ((with_reducible refine gate_callee (f := 26) rfl ?_); refine goesL_ (some 23) rfl rfl Try.func26 (by kernel_rfl) rfl #[.int .i64 (wrap64 (Int.tdiv a0 10))] rfl (by (try simp only [List.map_toArray, List.map_cons, List.map_nil]); first | done | rfl | (simp only [List.length_drop, List.length_take]; rfl)) ?_; (with_reducible refine (ih k (by omega) (wrap64 (Int.tdiv a0 10)) t129 _ A13.out).mono ?_); rintro e w16 ⟨rfl, hb⟩; refine ⟨_, rfl, ?_⟩; have n0_ := Aside0.mk (below_step (by repeat (first | (with_reducible first | exact HB.out | apply below_alloc | apply pw_below_drewN | apply below_drew1) | exact HB.out)) hb); clear HB; have HB := n0_; clear n0_; (try clear hb); (try clear hb2); (try clear hk); (try clear hi)) | ((with_reducible refine gate_callee (f := 26) rfl ?_); refine goesL_ (some 26) rfl rfl Try.func26 (by kernel_rfl) rfl #[.int .i64 (Int.tmod a0 10)] rfl (by (try simp only [List.map_toArray, List.map_cons, List.map_nil]); first | done | rfl | (simp only [List.length_drop, List.length_take]; rfl)) ?_; (with_reducible refine (ih k (by omega) (Int.tmod a0 10) t130 _ A14.out).mono ?_); rintro e w17 ⟨rfl, hb⟩; refine ⟨_, rfl, ?_⟩; have n0_ := Aside0.mk (below_step (by repeat (first | (with_reducible first | exact HB.out | apply below_alloc | apply pw_below_drewN | apply below_drew1) | exact HB.out)) hb); clear HB; have HB := n0_; clear n0_; (try clear hb); (try clear hb2); (try clear hk); (try clear hi)))
          all_goals go_ret
          all_goals first | (exact ⟨by first | rfl | (simp [errW_none, errW_some] <;> rfl) | (simp [*, errW_none, errW_some] <;> rfl), by repeat (first | (with_reducible first | exact HB.out | apply below_alloc | apply pw_below_drewN | apply below_drew1) | exact HB.out)⟩) | (exfalso; simp_all; done)
        · rw [if_neg c15] at H
          exact absurd H (by simp)
      · rw [if_neg c12] at H
        have c12b0 : decide (9 < a0) = false := decide_eq_false c12
        clear c12
        obtain ⟨y131, hy131⟩ : ∃ y_ : List Int, y_ = (([(wrap64 (48 + a0)) % 256] : List Int)) := ⟨_, rfl⟩
        replace H : (some (strOfNums y131)) = some r := by first | (rw [hy131]; with_reducible exact H) | (have H2_ := (Option.bind_some _ _).symm.trans H; rw [hy131]; with_reducible exact H2_) | (have H2_ := (Option.bind_some _ _).symm.trans H; with_reducible exact H2_) | with_reducible exact H | (rw [hy131]; exact H) | exact H
        have Ny131 := Aside0.mk hy131
        clear hy131
        obtain rfl := Option.some.inj H
        go_enter Try.func26, Try.ntmps26
        go_wp2_with (first | ((with_reducible refine gate_dst (N := 31) rfl ?_); refine Kd.R_lit (Kd.int .u8) _ 5 ?hg (N := 31) ?hd (xs := ([(wrap64 (48 + a0)) % 256] : List Int)) (inner := [.int .u8 ((wrap64 (48 + a0)) % 256)]) (ok := fun _ => True) (okp := fun _ => True) ?hr ?hp (fun _ hk => hk) trivial (Below.refl _ _) (Nat.le_refl _) (by simp) ?_; (case hd => rfl); (case hg => rfl); (case hr => first | (go_simp; done) | (go_simp; rfl)); (case hp => exact (Reps.one (show Kd.M (Kd.int .u8) _ _ _ ((wrap64 (48 + a0)) % 256) [.int .u8 ((wrap64 (48 + a0)) % 256)] from rfl) (Reps.none _ _))); intro v132 w18 ho19 hb hg_ hnew_; clear hg_ hnew_; (first | rw [← Ny131.out] at ho19 | (simp only [Int.reduceToNat] at ho19; rw [← Ny131.out] at ho19)); have n0_ := Aside0.mk (Kd.R_lower ho19 (below_size (by repeat (first | (with_reducible first | exact HB.out | apply below_alloc | apply pw_below_drewN | apply below_drew1) | exact HB.out)))); have n1_ := Aside0.mk (below_step (by repeat (first | (with_reducible first | exact HB.out | apply below_alloc | apply pw_below_drewN | apply below_drew1) | exact HB.out)) hb); clear HB; have HO133 := n0_; have HB := n1_; clear n0_ n1_; clear hb ho19; have hcv20 := own_string (P := Try.prog) Try.underlying28 Try.underlying5 Try.underlying9 (Kd.own_of_R HO133.out)))
        all_goals go_ret
        all_goals first | (exact ⟨by first | rfl | (simp [errW_none, errW_some] <;> rfl) | (simp [*, errW_none, errW_some] <;> rfl), by repeat (first | (with_reducible first | exact HB.out | apply below_alloc | apply pw_below_drewN | apply below_drew1) | exact HB.out)⟩) | (exfalso; simp_all; done)

/-! ### annuletref07_Get: function 46 -/
mutual
def annuletref07_Get.l0 : Nat → ByteArray → Int → Int → Option (Int × Int)
  | 0, _, _, _ => none
  | k + 1, x0, x4, x5 => if x5 < (x0.size : Int) then (if 0 ≤ x5 then (if (bt x0 x5) = 45 then (if x5 = 0 then (annuletref07_Get.j1 k x0 x4 x5 (decide ((x0.size : Int) > 1))) else (annuletref07_Get.j1 k x0 x4 x5 false)) else (annuletref07_Get.j1 k x0 x4 x5 false)) else (none)) else (if 0 < (x0.size : Int) then (if (bt x0 0) = 45 then ((annuletref07_Put.f k x4).bind fun t134 => (if t134.toList = x0.toList then (some (x4, 0)) else (some (0, 3)))) else ((annuletref07_Put.f k (wrap64 (-x4))).bind fun t135 => (if t135.toList = x0.toList then (some (wrap64 (-x4), 0)) else (some (0, 3))))) else (none))
def annuletref07_Get.j1 : Nat → ByteArray → Int → Int → Bool → Option (Int × Int)
  | 0, _, _, _, _ => none
  | k + 1, x0, x4, x5, x26 => if x26 = true then (annuletref07_Get.l0 k x0 x4 (wrap64 (x5 + 1))) else (if 0 ≤ x5 then (if x5 < (x0.size : Int) then (if (bt x0 x5) < 48 then (some (0, 3)) else (if (bt x0 x5) > 57 then (some (0, 3)) else (if x5 > 20 then (some (0, 3)) else (annuletref07_Get.l0 k x0 (wrap64 ((wrap64 (x4 * 10)) - (((bt x0 x5) - 48) % 256))) (wrap64 (x5 + 1)))))) else (none)) else (none))
end
def annuletref07_Get.f (k : Nat) (a0 : ByteArray) : Option (Int × Int) := if a0.toList = ([] : List UInt8) then (some (0, 2)) else (annuletref07_Get.l0 k a0 0 0)
theorem annuletref07_Get.mono_l : ∀ k, (∀ y0 y1 y2, LeO (annuletref07_Get.l0 k y0 y1 y2) (annuletref07_Get.l0 (k + 1) y0 y1 y2)) ∧ (∀ y0 y1 y2 y3, LeO (annuletref07_Get.j1 k y0 y1 y2 y3) (annuletref07_Get.j1 (k + 1) y0 y1 y2 y3))
  | 0 => ⟨fun _ _ _ r h => by simp [annuletref07_Get.l0] at h, fun _ _ _ _ r h => by simp [annuletref07_Get.j1] at h⟩
  | k + 1 => by
    obtain ⟨ih0, ih1⟩ := annuletref07_Get.mono_l k
    refine ⟨?_, ?_⟩
    · intro y0 y1 y2
      unfold annuletref07_Get.l0
      repeat' first
      | (with_reducible exact ih0 _ _ _)
      | (with_reducible exact ih1 _ _ _ _)
      | (with_reducible exact annuletref07_Put.mono _ _)
      | (with_reducible exact LeO.refl _)
      | (with_reducible exact LeO.none _)
      | (with_reducible refine LeO.ite ?_ ?_)
      | (with_reducible refine LeO.bind ?_ (fun _ => ?_))
      | exact ih0 _ _ _
      | exact ih1 _ _ _ _
      | exact annuletref07_Put.mono _ _
      | exact LeO.none _
      | refine LeO.ite ?_ ?_
      | refine LeO.bind ?_ (fun _ => ?_)
    · intro y0 y1 y2 y3
      unfold annuletref07_Get.j1
      repeat' first
      | (with_reducible exact ih0 _ _ _)
      | (with_reducible exact ih1 _ _ _ _)
      | (with_reducible exact annuletref07_Put.mono _ _)
      | (with_reducible exact LeO.refl _)
      | (with_reducible exact LeO.none _)
      | (with_reducible refine LeO.ite ?_ ?_)
      | (with_reducible refine LeO.bind ?_ (fun _ => ?_))
      | exact ih0 _ _ _
      | exact ih1 _ _ _ _
      | exact annuletref07_Put.mono _ _
      | exact LeO.none _
      | refine LeO.ite ?_ ?_
      | refine LeO.bind ?_ (fun _ => ?_)
theorem annuletref07_Get.mono : ∀ a0 k, LeO (annuletref07_Get.f k a0) (annuletref07_Get.f (k + 1) a0) := by
  intro a0 k
  obtain ⟨ih0, ih1⟩ := annuletref07_Get.mono_l k
  unfold annuletref07_Get.f
  repeat' first
      | (with_reducible exact ih0 _ _ _)
      | (with_reducible exact ih1 _ _ _ _)
      | (with_reducible exact annuletref07_Put.mono _ _)
      | (with_reducible exact LeO.refl _)
      | (with_reducible exact LeO.none _)
      | (with_reducible refine LeO.ite ?_ ?_)
      | (with_reducible refine LeO.bind ?_ (fun _ => ?_))
      | exact ih0 _ _ _
      | exact ih1 _ _ _ _
      | exact annuletref07_Put.mono _ _
      | exact LeO.none _
      | refine LeO.ite ?_ ?_
      | refine LeO.bind ?_ (fun _ => ?_)
set_option maxHeartbeats 3000000 in
set_option maxRecDepth 100000 in
theorem annuletref07_Get.calls (k : Nat) (a0 : ByteArray) (r1 : Int) (r2 : Int) (w : World) (h : annuletref07_Get.f k a0 = some (r1, r2)) :
    Calls Try.prog 46 #[.string a0] w fun e w' => e = .returned (.tuple #[.int .i64 r1, .int .i64 r2]) ∧ Below w.heap.size w w' := by
  have HB := Aside0.mk (Below.refl w.heap.size w)
  have H : (if a0.toList = ([] : List UInt8) then (some (0, 2)) else (annuletref07_Get.l0 k a0 0 0)) = some (r1, r2) := h
  clear h
  by_cases c2 : a0.toList = ([] : List UInt8)
  · rw [if_pos c2] at H
    have c2b0 : (a0.toList == ([] : List UInt8)) = true := beq_iff_eq.mpr c2
    have c2b1 : (a0.toList != ([] : List UInt8)) = false := bne_eq_false_iff_eq.mpr c2
    clear c2
    simp only [Option.some.injEq, Prod.mk.injEq] at H
    obtain ⟨rfl, rfl⟩ := H
    go_enter Try.func46, Try.ntmps46
    go_wp2
    all_goals go_ret2
    all_goals first | (exact ⟨by first | rfl | (simp [errW_none, errW_some] <;> rfl) | (simp [*, errW_none, errW_some] <;> rfl), by repeat (first | (with_reducible first | exact HB.out | apply below_alloc | apply pw_below_drewN | apply below_drew1) | exact HB.out)⟩) | (exfalso; simp_all; done)
  · rw [if_neg c2] at H
    have c2b0 : (a0.toList == ([] : List UInt8)) = false := beq_eq_false_iff_ne.mpr c2
    have c2b1 : (a0.toList != ([] : List UInt8)) = true := bne_iff_ne.mpr c2
    have H' := Aside0.mk H
    clear H
    go_enter Try.func46, Try.ntmps46
    go_wp2
    go_loopg [4, 5] k (fun kq v4 v5 w' => ∃ (x4_1 : Int) (x5_1 : Int), v4 = .int .i64 x4_1 ∧ v5 = .int .i64 x5_1 ∧ Aside0 (annuletref07_Get.l0 kq a0 x4_1 x5_1 = some (r1, r2)) ∧ Aside0 (kq ≤ k) ∧ Aside0 (Below w.heap.size w w'))
    case atStart => exact ⟨(0), (0), (by first | rfl | (simp; done) | (simp [*]; done)), (by first | rfl | (simp; done) | (simp [*]; done)), H', ⟨Nat.le_refl _⟩, ⟨by repeat (first | (with_reducible first | exact HB.out | apply below_alloc | apply pw_below_drewN | apply below_drew1) | exact HB.out)⟩⟩
    case round =>
      clear H'
      try clear c2
      try clear c2b0
      try clear c2b1
      try clear p2
      obtain ⟨x4_1, x5_1, rfl, rfl, HA, HK1, HB⟩ := hrel
      cases gk with
      | zero => exact absurd HA.out (by simp [annuletref07_Get.l0])
      | succ k1 =>
        have H := HA.out
        clear HA
        simp only [annuletref07_Get.l0] at H
        by_cases c3 : x5_1 < (a0.size : Int)
        · rw [if_pos c3] at H
          have c3b0 : decide (x5_1 < (a0.size : Int)) = true := decide_eq_true c3
          clear c3
          have HC4 := Aside0.mk H
          clear H
          go_upto_region 7 with (fail)
          go_cut [26] (fun v26 wc => ∃ (kq : Nat) (x26_3 : Bool), v26 = .bool x26_3 ∧ Aside0 (annuletref07_Get.j1 kq a0 x4_1 x5_1 x26_3 = some (r1, r2)) ∧ Aside0 (kq ≤ k1) ∧ Aside0 (Below w.heap.size w wc))
          case first =>
            have H := HC4.out
            clear HC4
            by_cases c5 : 0 ≤ x5_1
            · rw [if_pos c5] at H
              have c5b0 : decide (0 ≤ x5_1) = true := decide_eq_true c5
              clear c5
              (first | rw [c5b0] | (simp only [i64_w, i32_w]; rw [c5b0]) | skip)
              by_cases c7 : (bt a0 x5_1) = 45
              · rw [if_pos c7] at H
                have c7b0 : ((bt a0 x5_1) == 45) = true := beq_iff_eq.mpr c7
                have c7b1 : ((bt a0 x5_1) != 45) = false := bne_eq_false_iff_eq.mpr c7
                clear c7
                by_cases c8 : x5_1 = 0
                · rw [if_pos c8] at H
                  have c8b0 : (x5_1 == 0) = true := beq_iff_eq.mpr c8
                  have c8b1 : (x5_1 != 0) = false := bne_eq_false_iff_eq.mpr c8
                  clear c8
                  have H' := Aside0.mk H
                  clear H
                  have p6 : 0 ≤ (x5_1 : Int) := of_decide_eq_true (by first | (with_reducible assumption) | assumption)
                  have q6 : x5_1 < (a0.size : Int) := of_decide_eq_true (by first | (with_reducible assumption) | assumption)
                  have hx6 := bt_at a0 x5_1
                  replace p6 := eq_true p6
                  replace q6 := eq_true q6
                  go_wp2
                  go_meet
                  case rel => exact ⟨_, (decide ((a0.size : Int) > 1)), (by first | rfl | (simp; done) | (simp [*]; done)), H', ⟨by have := HK1.out; first | omega | exact Nat.le_refl _⟩, ⟨by repeat (first | (with_reducible first | exact HB.out | apply below_alloc | apply pw_below_drewN | apply below_drew1) | exact HB.out)⟩⟩
                · rw [if_neg c8] at H
                  have c8b0 : (x5_1 == 0) = false := beq_eq_false_iff_ne.mpr c8
                  have c8b1 : (x5_1 != 0) = true := bne_iff_ne.mpr c8
                  have H' := Aside0.mk H
                  clear H
                  have p6 : 0 ≤ (x5_1 : Int) := of_decide_eq_true (by first | (with_reducible assumption) | assumption)
                  have q6 : x5_1 < (a0.size : Int) := of_decide_eq_true (by first | (with_reducible assumption) | assumption)
                  have hx6 := bt_at a0 x5_1
                  replace p6 := eq_true p6
                  replace q6 := eq_true q6
                  go_wp2
                  go_meet
                  case rel => exact ⟨_, (false), (by first | rfl | (simp; done) | (simp [*]; done)), H', ⟨by have := HK1.out; first | omega | exact Nat.le_refl _⟩, ⟨by repeat (first | (with_reducible first | exact HB.out | apply below_alloc | apply pw_below_drewN | apply below_drew1) | exact HB.out)⟩⟩
              · rw [if_neg c7] at H
                have c7b0 : ((bt a0 x5_1) == 45) = false := beq_eq_false_iff_ne.mpr c7
                have c7b1 : ((bt a0 x5_1) != 45) = true := bne_iff_ne.mpr c7
                have H' := Aside0.mk H
                clear H
                have p6 : 0 ≤ (x5_1 : Int) := of_decide_eq_true (by first | (with_reducible assumption) | assumption)
                have q6 : x5_1 < (a0.size : Int) := of_decide_eq_true (by first | (with_reducible assumption) | assumption)
                have hx6 := bt_at a0 x5_1
                replace p6 := eq_true p6
                replace q6 := eq_true q6
                go_wp2
                go_meet
                case rel => exact ⟨_, (false), (by first | rfl | (simp; done) | (simp [*]; done)), H', ⟨by have := HK1.out; first | omega | exact Nat.le_refl _⟩, ⟨by repeat (first | (with_reducible first | exact HB.out | apply below_alloc | apply pw_below_drewN | apply below_drew1) | exact HB.out)⟩⟩
            · rw [if_neg c5] at H
              exact absurd H (by simp)
          case rest =>
            clear HC4
            try clear c2
            try clear c2b0
            try clear c2b1
            try clear p2
            try clear c3
            try clear c3b0
            try clear c4
            try clear c5
            try clear c5b0
            try clear p6
            try clear q6
            try clear hx6
            try clear c7
            try clear c7b0
            try clear c7b1
            try clear c8
            try clear c8b0
            try clear c8b1
            try clear p2
            try clear p6
            try clear q6
            obtain ⟨kq, x26_3, rfl, HA, HJ3, HB⟩ := hcut
            cases kq with
            | zero => exact absurd HA.out (by simp [annuletref07_Get.j1])
            | succ kj3 =>
              have H := HA.out
              clear HA
              simp only [annuletref07_Get.j1] at H
              by_cases c9 : x26_3 = true
              · subst c9
                have H1 : (annuletref07_Get.l0 kj3 a0 x4_1 (wrap64 (x5_1 + 1))) = some (r1, r2) := by rw [if_pos rfl] at H; exact H
                clear H
                have H := H1
                clear H1
                have H' := Aside0.mk H
                clear H
                go_wp2
                go_roundg kj3
                case measure => have := HK1.out; have := HJ3.out; omega
                case rel => exact ⟨(x4_1), (wrap64 (x5_1 + 1)), (by first | rfl | (simp; done) | (simp [*]; done)), (by first | rfl | (simp; done) | (simp [*]; done)), H', ⟨by have := HK1.out; have := HJ3.out; omega⟩, ⟨by repeat (first | (with_reducible first | exact HB.out | apply below_alloc | apply pw_below_drewN | apply below_drew1) | exact HB.out)⟩⟩
              · replace c9 := Bool.eq_false_iff.mpr c9
                subst c9
                have H1 : (if 0 ≤ x5_1 then (if x5_1 < (a0.size : Int) then (if (bt a0 x5_1) < 48 then (some (0, 3)) else (if (bt a0 x5_1) > 57 then (some (0, 3)) else (if x5_1 > 20 then (some (0, 3)) else (annuletref07_Get.l0 kj3 a0 (wrap64 ((wrap64 (x4_1 * 10)) - (((bt a0 x5_1) - 48) % 256))) (wrap64 (x5_1 + 1)))))) else (none)) else (none)) = some (r1, r2) := by rw [if_neg (show ¬ (false = true) by decide)] at H; exact H
                clear H
                have H := H1
                clear H1
                by_cases c10 : 0 ≤ x5_1
                · rw [if_pos c10] at H
                  have c10b0 : decide (0 ≤ x5_1) = true := decide_eq_true c10
                  clear c10
                  by_cases c11 : x5_1 < (a0.size : Int)
                  · rw [if_pos c11] at H
                    have c11b0 : decide (x5_1 < (a0.size : Int)) = true := decide_eq_true c11
                    clear c11
                    by_cases c13 : (bt a0 x5_1) < 48
                    · rw [if_pos c13] at H
                      have c13b0 : decide ((bt a0 x5_1) < 48) = true := decide_eq_true c13
                      clear c13
                      simp only [Option.some.injEq, Prod.mk.injEq] at H
                      obtain ⟨rfl, rfl⟩ := H
                      have p12 : 0 ≤ (x5_1 : Int) := of_decide_eq_true (by first | (with_reducible assumption) | assumption)
                      have q12 : x5_1 < (a0.size : Int) := of_decide_eq_true (by first | (with_reducible assumption) | assumption)
                      have hx12 := bt_at a0 x5_1
                      replace p12 := eq_true p12
                      replace q12 := eq_true q12
                      go_wp2
                      all_goals go_ret2
                      all_goals first | (exact ⟨by first | rfl | (simp [errW_none, errW_some] <;> rfl) | (simp [*, errW_none, errW_some] <;> rfl), by repeat (first | (with_reducible first | exact HB.out | apply below_alloc | apply pw_below_drewN | apply below_drew1) | exact HB.out)⟩) | (exfalso; simp_all; done)
                    · rw [if_neg c13] at H
                      have c13b0 : decide ((bt a0 x5_1) < 48) = false := decide_eq_false c13
                      clear c13
                      by_cases c15 : (bt a0 x5_1) > 57
                      · rw [if_pos c15] at H
                        have c15b0 : decide (57 < (bt a0 x5_1)) = true := decide_eq_true c15
                        clear c15
                        simp only [Option.some.injEq, Prod.mk.injEq] at H
                        obtain ⟨rfl, rfl⟩ := H
                        have p12 : 0 ≤ (x5_1 : Int) := of_decide_eq_true (by first | (with_reducible assumption) | assumption)
                        have q12 : x5_1 < (a0.size : Int) := of_decide_eq_true (by first | (with_reducible assumption) | assumption)
                        have hx12 := bt_at a0 x5_1
                        replace p12 := eq_true p12
                        replace q12 := eq_true q12
                        have p14 : 0 ≤ (x5_1 : Int) := of_decide_eq_true (by first | (with_reducible assumption) | assumption)
                        have q14 : x5_1 < (a0.size : Int) := of_decide_eq_true (by first | (with_reducible assumption) | assumption)
                        have hx14 := bt_at a0 x5_1
                        replace p14 := eq_true p14
                        replace q14 := eq_true q14
                        go_wp2
                        all_goals go_ret2
                        all_goals first | (exact ⟨by first | rfl | (simp [errW_none, errW_some] <;> rfl) | (simp [*, errW_none, errW_some] <;> rfl), by repeat (first | (with_reducible first | exact HB.out | apply below_alloc | apply pw_below_drewN | apply below_drew1) | exact HB.out)⟩) | (exfalso; simp_all; done)
                      · rw [if_neg c15] at H
                        have c15b0 : decide (57 < (bt a0 x5_1)) = false := decide_eq_false c15
                        clear c15
                        by_cases c16 : x5_1 > 20
                        · rw [if_pos c16] at H
                          have c16b0 : decide (20 < x5_1) = true := decide_eq_true c16
                          clear c16
                          simp only [Option.some.injEq, Prod.mk.injEq] at H
                          obtain ⟨rfl, rfl⟩ := H
                          have p12 : 0 ≤ (x5_1 : Int) := of_decide_eq_true (by first | (with_reducible assumption) | assumption)
                          have q12 : x5_1 < (a0.size : Int) := of_decide_eq_true (by first | (with_reducible assumption) | assumption)
                          have hx12 := bt_at a0 x5_1
                          replace p12 := eq_true p12
                          replace q12 := eq_true q12
                          have p14 : 0 ≤ (x5_1 : Int) := of_decide_eq_true (by first | (with_reducible assumption) | assumption)
                          have q14 : x5_1 < (a0.size : Int) := of_decide_eq_true (by first | (with_reducible assumption) | assumption)
                          have hx14 := bt_at a0 x5_1
                          replace p14 := eq_true p14
                          replace q14 := eq_true q14
                          go_wp2
                          all_goals go_ret2
                          all_goals first | (exact ⟨by first | rfl | (simp [errW_none, errW_some] <;> rfl) | (simp [*, errW_none, errW_some] <;> rfl), by repeat (first | (with_reducible first | exact HB.out | apply below_alloc | apply pw_below_drewN | apply below_drew1) | exact HB.out)⟩) | (exfalso; simp_all; done)
                        · rw [if_neg c16] at H
                          have c16b0 : decide (20 < x5_1) = false := decide_eq_false c16
                          clear c16
                          have H' := Aside0.mk H
                          clear H
                          have p12 : 0 ≤ (x5_1 : Int) := of_decide_eq_true (by first | (with_reducible assumption) | assumption)
                          have q12 : x5_1 < (a0.size : Int) := of_decide_eq_true (by first | (with_reducible assumption) | assumption)
                          have hx12 := bt_at a0 x5_1
                          replace p12 := eq_true p12
                          replace q12 := eq_true q12
                          have p14 : 0 ≤ (x5_1 : Int) := of_decide_eq_true (by first | (with_reducible assumption) | assumption)
                          have q14 : x5_1 < (a0.size : Int) := of_decide_eq_true (by first | (with_reducible assumption) | assumption)
                          have hx14 := bt_at a0 x5_1
                          replace p14 := eq_true p14
                          replace q14 := eq_true q14
                          have p17 : 0 ≤ (x5_1 : Int) := of_decide_eq_true (by first | (with_reducible assumption) | assumption)
                          have q17 : x5_1 < (a0.size : Int) := of_decide_eq_true (by first | (with_reducible assumption) | assumption)
                          have hx17 := bt_at a0 x5_1
                          replace p17 := eq_true p17
                          replace q17 := eq_true q17
                          go_wp2
                          go_roundg kj3
                          case measure => have := HK1.out; have := HJ3.out; omega
                          case rel => exact ⟨(wrap64 ((wrap64 (x4_1 * 10)) - (((bt a0 x5_1) - 48) % 256))), (wrap64 (x5_1 + 1)), (by first | rfl | (simp; done) | (simp [*]; done)), (by first | rfl | (simp; done) | (simp [*]; done)), H', ⟨by have := HK1.out; have := HJ3.out; omega⟩, ⟨by repeat (first | (with_reducible first | exact HB.out | apply below_alloc | apply pw_below_drewN | apply below_drew1) | exact HB.out)⟩⟩
                  · rw [if_neg c11] at H
                    exact absurd H (by simp)
                · rw [if_neg c10] at H
                  exact absurd H (by simp)
        · rw [if_neg c3] at H
          have c3b0 : decide (x5_1 < (a0.size : Int)) = false := decide_eq_false c3
          clear c3
          by_cases c18 : 0 < (a0.size : Int)
          · rw [if_pos c18] at H
            have c18b0 : decide (0 < (a0.size : Int)) = true := decide_eq_true c18
            have c18b1 : decide (0 < a0.size) = true := decide_eq_true (by omega)
            clear c18
            by_cases c20 : (bt a0 0) = 45
            · rw [if_pos c20] at H
              have c20b0 : ((bt a0 0) == 45) = true := beq_iff_eq.mpr c20
              have c20b1 : ((bt a0 0) != 45) = false := bne_eq_false_iff_eq.mpr c20
              clear c20
              replace H := Option.bind_eq_some_iff.mp H
              obtain ⟨t134, A210, H⟩ := H
              replace H : (if t134.toList = a0.toList then (some (x4_1, 0)) else (some (0, 3))) = some (r1, r2) := H
              have A21 := Aside0.mk A210
              clear A210
              by_cases c22 : t134.toList = a0.toList
              · rw [if_pos c22] at H
                have c22b0 : (t134.toList == a0.toList) = true := beq_iff_eq.mpr c22
                have c22b1 : (t134.toList != a0.toList) = false := bne_eq_false_iff_eq.mpr c22
                clear c22
                simp only [Option.some.injEq, Prod.mk.injEq] at H
                obtain ⟨rfl, rfl⟩ := H
                have p19 : 0 ≤ (0 : Int) := (by omega)
                have q19 : 0 < a0.size := (by have : (0 : Int) < (a0.size : Int) := of_decide_eq_true (by first | (with_reducible assumption) | assumption); omega)
                have hx19 : ∀ h : 0 < a0.size, ((a0[0]'h).toNat : Int) = bt a0 0 := bt_at a0 0
                clear p19
                have qi19 : (0 < (a0.size : Int)) = True := eq_true (of_decide_eq_true (by first | (with_reducible assumption) | assumption))
                replace q19 := eq_true q19
                go_wp2_with (first | ((with_reducible refine gate_callee (f := 26) rfl ?_); refine goesL_ (some 55) rfl rfl Try.func26 (by kernel_rfl) rfl #[.int .i64 x4_1] rfl (by (try simp only [List.map_toArray, List.map_cons, List.map_nil]); first | done | rfl | (simp only [List.length_drop, List.length_take]; rfl)) ?_; (with_reducible refine (annuletref07_Put.calls k1 x4_1 t134 _ A21.out).mono ?_); rintro e w23 ⟨rfl, hb⟩; refine ⟨_, rfl, ?_⟩; have n0_ := Aside0.mk (below_step (by repeat (first | (with_reducible first | exact HB.out | apply below_alloc | apply pw_below_drewN | apply below_drew1) | exact HB.out)) hb); clear HB; have HB := n0_; clear n0_; (try clear hb); (try clear hb2); (try clear hk); (try clear hi)))
                all_goals go_ret2
                all_goals first | (exact ⟨by first | rfl | (simp [errW_none, errW_some] <;> rfl) | (simp [*, errW_none, errW_some] <;> rfl), by repeat (first | (with_reducible first | exact HB.out | apply below_alloc | apply pw_below_drewN | apply below_drew1) | exact HB.out)⟩) | (exfalso; simp_all; done)
              · rw [if_neg c22] at H
                have c22b0 : (t134.toList == a0.toList) = false := beq_eq_false_iff_ne.mpr c22
                have c22b1 : (t134.toList != a0.toList) = true := bne_iff_ne.mpr c22
                simp only [Option.some.injEq, Prod.mk.injEq] at H
                obtain ⟨rfl, rfl⟩ := H
                have p19 : 0 ≤ (0 : Int) := (by omega)
                have q19 : 0 < a0.size := (by have : (0 : Int) < (a0.size : Int) := of_decide_eq_true (by first | (with_reducible assumption) | assumption); omega)
                have hx19 : ∀ h : 0 < a0.size, ((a0[0]'h).toNat : Int) = bt a0 0 := bt_at a0 0
                clear p19
                have qi19 : (0 < (a0.size : Int)) = True := eq_true (of_decide_eq_true (by first | (with_reducible assumption) | assumption))
                replace q19 := eq_true q19
                go_wp2_with (first | ((with_reducible refine gate_callee (f := 26) rfl ?_); refine goesL_ (some 55) rfl rfl Try.func26 (by kernel_rfl) rfl #[.int .i64 x4_1] rfl (by (try simp only [List.map_toArray, List.map_cons, List.map_nil]); first | done | rfl | (simp only [List.length_drop, List.length_take]; rfl)) ?_; (with_reducible refine (annuletref07_Put.calls k1 x4_1 t134 _ A21.out).mono ?_); rintro e w24 ⟨rfl, hb⟩; refine ⟨_, rfl, ?_⟩; have n0_ := Aside0.mk (below_step (by repeat (first | (with_reducible first | exact HB.out | apply below_alloc | apply pw_below_drewN | apply below_drew1) | exact HB.out)) hb); clear HB; have HB := n0_; clear n0_; (try clear hb); (try clear hb2); (try clear hk); (try clear hi)))
                all_goals go_ret2
                all_goals first | (exact ⟨by first | rfl | (simp [errW_none, errW_some] <;> rfl) | (simp [*, errW_none, errW_some] <;> rfl), by repeat (first | (with_reducible first | exact HB.out | apply below_alloc | apply pw_below_drewN | apply below_drew1) | exact HB.out)⟩) | (exfalso; simp_all; done)
            · rw [if_neg c20] at H
              have c20b0 : ((bt a0 0) == 45) = false := beq_eq_false_iff_ne.mpr c20
              have c20b1 : ((bt a0 0) != 45) = true := bne_iff_ne.mpr c20
              replace H := Option.bind_eq_some_iff.mp H
              obtain ⟨t135, A250, H⟩ := H
              replace H : (if t135.toList = a0.toList then (some (wrap64 (-x4_1), 0)) else (some (0, 3))) = some (r1, r2) := H
              have A25 := Aside0.mk A250
              clear A250
              by_cases c26 : t135.toList = a0.toList
              · rw [if_pos c26] at H
                have c26b0 : (t135.toList == a0.toList) = true := beq_iff_eq.mpr c26
                have c26b1 : (t135.toList != a0.toList) = false := bne_eq_false_iff_eq.mpr c26
                clear c26
                simp only [Option.some.injEq, Prod.mk.injEq] at H
                obtain ⟨rfl, rfl⟩ := H
                have p19 : 0 ≤ (0 : Int) := (by omega)
                have q19 : 0 < a0.size := (by have : (0 : Int) < (a0.size : Int) := of_decide_eq_true (by first | (with_reducible assumption) | assumption); omega)
                have hx19 : ∀ h : 0 < a0.size, ((a0[0]'h).toNat : Int) = bt a0 0 := bt_at a0 0
                clear p19
                have qi19 : (0 < (a0.size : Int)) = True := eq_true (of_decide_eq_true (by first | (with_reducible assumption) | assumption))
                replace q19 := eq_true q19
                go_wp2_with (first | ((with_reducible refine gate_callee (f := 26) rfl ?_); refine goesL_ (some 55) rfl rfl Try.func26 (by kernel_rfl) rfl #[.int .i64 (wrap64 (-x4_1))] rfl (by (try simp only [List.map_toArray, List.map_cons, List.map_nil]); first | done | rfl | (simp only [List.length_drop, List.length_take]; rfl)) ?_; (with_reducible refine (annuletref07_Put.calls k1 (wrap64 (-x4_1)) t135 _ A25.out).mono ?_); rintro e w27 ⟨rfl, hb⟩; refine ⟨_, rfl, ?_⟩; have n0_ := Aside0.mk (below_step (by repeat (first | (with_reducible first | exact HB.out | apply below_alloc | apply pw_below_drewN | apply below_drew1) | exact HB.out)) hb); clear HB; have HB := n0_; clear n0_; (try clear hb); (try clear hb2); (try clear hk); (try clear hi)))
                all_goals go_ret2
                all_goals first | (exact ⟨by first | rfl | (simp [errW_none, errW_some] <;> rfl) | (simp [*, errW_none, errW_some] <;> rfl), by repeat (first | (with_reducible first | exact HB.out | apply below_alloc | apply pw_below_drewN | apply below_drew1) | exact HB.out)⟩) | (exfalso; simp_all; done)
              · rw [if_neg c26] at H
                have c26b0 : (t135.toList == a0.toList) = false := beq_eq_false_iff_ne.mpr c26
                have c26b1 : (t135.toList != a0.toList) = true := bne_iff_ne.mpr c26
                simp only [Option.some.injEq, Prod.mk.injEq] at H
                obtain ⟨rfl, rfl⟩ := H
                have p19 : 0 ≤ (0 : Int) := (by omega)
                have q19 : 0 < a0.size := (by have : (0 : Int) < (a0.size : Int) := of_decide_eq_true (by first | (with_reducible assumption) | assumption); omega)
                have hx19 : ∀ h : 0 < a0.size, ((a0[0]'h).toNat : Int) = bt a0 0 := bt_at a0 0
                clear p19
                have qi19 : (0 < (a0.size : Int)) = True := eq_true (of_decide_eq_true (by first | (with_reducible assumption) | assumption))
                replace q19 := eq_true q19
                go_wp2_with (first | ((with_reducible refine gate_callee (f := 26) rfl ?_); refine goesL_ (some 55) rfl rfl Try.func26 (by kernel_rfl) rfl #[.int .i64 (wrap64 (-x4_1))] rfl (by (try simp only [List.map_toArray, List.map_cons, List.map_nil]); first | done | rfl | (simp only [List.length_drop, List.length_take]; rfl)) ?_; (with_reducible refine (annuletref07_Put.calls k1 (wrap64 (-x4_1)) t135 _ A25.out).mono ?_); rintro e w28 ⟨rfl, hb⟩; refine ⟨_, rfl, ?_⟩; have n0_ := Aside0.mk (below_step (by repeat (first | (with_reducible first | exact HB.out | apply below_alloc | apply pw_below_drewN | apply below_drew1) | exact HB.out)) hb); clear HB; have HB := n0_; clear n0_; (try clear hb); (try clear hb2); (try clear hk); (try clear hi)))
                all_goals go_ret2
                all_goals first | (exact ⟨by first | rfl | (simp [errW_none, errW_some] <;> rfl) | (simp [*, errW_none, errW_some] <;> rfl), by repeat (first | (with_reducible first | exact HB.out | apply below_alloc | apply pw_below_drewN | apply below_drew1) | exact HB.out)⟩) | (exfalso; simp_all; done)
          · rw [if_neg c18] at H
            exact absurd H (by simp)

/-! ### annuletref12_number: function 34 -/
def annuletref12_number.f (k : Nat) (a0 : ByteArray) (a1 : Int) (a2 : Int) : Option (Int × Int × Int) := (annuletref12_find.f k a0 a1 a2).bind fun t136 => (if t136 < 0 then (some (0, 0, 2)) else (if 0 ≤ a1 then (if a1 ≤ t136 then (if t136 ≤ (a0.size : Int) then ((annuletref07_Get.f k (a0.extract (a1 : Int).toNat (t136 : Int).toNat)).bind fun bt137 => (if bt137.2 = 0 then (some (bt137.1, wrap64 (t136 + 1), 0)) else (some (0, 0, 3)))) else (none)) else (none)) else (none)))
theorem annuletref12_number.mono : ∀ a0 a1 a2 k, LeO (annuletref12_number.f k a0 a1 a2) (annuletref12_number.f (k + 1) a0 a1 a2) := by
  intro a0 a1 a2 k
  unfold annuletref12_number.f
  repeat' first
      | (with_reducible exact annuletref07_Get.mono _ _)
      | (with_reducible exact annuletref12_find.mono _ _ _ _)
      | (with_reducible exact LeO.refl _)
      | (with_reducible exact LeO.none _)
      | (with_reducible refine LeO.ite ?_ ?_)
      | (with_reducible refine LeO.bind ?_ (fun _ => ?_))
      | exact annuletref07_Get.mono _ _
      | exact annuletref12_find.mono _ _ _ _
      | exact LeO.none _
      | refine LeO.ite ?_ ?_
      | refine LeO.bind ?_ (fun _ => ?_)
set_option maxHeartbeats 3000000 in
set_option maxRecDepth 100000 in
theorem annuletref12_number.calls (k : Nat) (a0 : ByteArray) (a1 : Int) (a2 : Int) (r1 : Int) (r2 : Int) (r3 : Int) (w : World) (h : annuletref12_number.f k a0 a1 a2 = some (r1, r2, r3)) :
    Calls Try.prog 34 #[.string a0, .int .i64 a1, .int .u8 a2] w fun e w' => e = .returned (.tuple #[.int .i64 r1, .int .i64 r2, .int .i64 r3]) ∧ Below w.heap.size w w' := by
  have HB := Aside0.mk (Below.refl w.heap.size w)
  have H : ((annuletref12_find.f k a0 a1 a2).bind fun t136 => (if t136 < 0 then (some (0, 0, 2)) else (if 0 ≤ a1 then (if a1 ≤ t136 then (if t136 ≤ (a0.size : Int) then ((annuletref07_Get.f k (a0.extract (a1 : Int).toNat (t136 : Int).toNat)).bind fun bt137 => (if bt137.2 = 0 then (some (bt137.1, wrap64 (t136 + 1), 0)) else (some (0, 0, 3)))) else (none)) else (none)) else (none)))) = some (r1, r2, r3) := h
  clear h
  replace H := Option.bind_eq_some_iff.mp H
  obtain ⟨t136, A40, H⟩ := H
  replace H : (if t136 < 0 then (some (0, 0, 2)) else (if 0 ≤ a1 then (if a1 ≤ t136 then (if t136 ≤ (a0.size : Int) then ((annuletref07_Get.f k (a0.extract (a1 : Int).toNat (t136 : Int).toNat)).bind fun bt137 => (if bt137.2 = 0 then (some (bt137.1, wrap64 (t136 + 1), 0)) else (some (0, 0, 3)))) else (none)) else (none)) else (none))) = some (r1, r2, r3) := H
  have A4 := Aside0.mk A40
  clear A40
  by_cases c5 : t136 < 0
  · rw [if_pos c5] at H
    have c5b0 : decide (t136 < 0) = true := decide_eq_true c5
    clear c5
    simp only [Option.some.injEq, Prod.mk.injEq] at H
    obtain ⟨rfl, rfl, rfl⟩ := H
    go_enter Try.func34, Try.ntmps34
    go_wp2_with (first | ((with_reducible refine gate_callee (f := 45) rfl ?_); refine goesL_ (some 15) rfl rfl Try.func45 (by kernel_rfl) rfl #[.string a0, .int .i64 a1, .int .u8 a2] rfl (by (try simp only [List.map_toArray, List.map_cons, List.map_nil]); first | done | rfl | (simp only [List.length_drop, List.length_take]; rfl)) ?_; (with_reducible refine (annuletref12_find.calls k a0 a1 a2 t136 _ A4.out).mono ?_); rintro e w' ⟨rfl, ⟨nd, rfl⟩⟩; refine ⟨_, rfl, ?_⟩))
    all_goals go_ret3
    all_goals first | (exact ⟨by first | rfl | (simp [errW_none, errW_some] <;> rfl) | (simp [*, errW_none, errW_some] <;> rfl), by repeat (first | (with_reducible first | exact HB.out | apply below_alloc | apply pw_below_drewN | apply below_drew1) | exact HB.out)⟩) | (exfalso; simp_all; done)
  · rw [if_neg c5] at H
    have c5b0 : decide (t136 < 0) = false := decide_eq_false c5
    clear c5
    by_cases c6 : 0 ≤ a1
    · rw [if_pos c6] at H
      have c6b0 := eq_true c6
      have c6b1 : decide (0 ≤ a1) = true := decide_eq_true c6
      clear c6
      by_cases c7 : a1 ≤ t136
      · rw [if_pos c7] at H
        have c7b0 := eq_true c7
        have c7b1 : decide (a1 ≤ t136) = true := decide_eq_true c7
        clear c7
        by_cases c8 : t136 ≤ (a0.size : Int)
        · rw [if_pos c8] at H
          have c8b0 := eq_true c8
          have c8b1 : decide (t136 ≤ (a0.size : Int)) = true := decide_eq_true c8
          clear c8
          replace H := Option.bind_eq_some_iff.mp H
          obtain ⟨⟨t137, t138⟩, A90, H⟩ := H
          replace H : (if t138 = 0 then (some (t137, wrap64 (t136 + 1), 0)) else (some (0, 0, 3))) = some (r1, r2, r3) := H
          have A9 := Aside0.mk A90
          clear A90
          by_cases c10 : t138 = 0
          · rw [if_pos c10] at H
            have c10b0 : (t138 == 0) = true := beq_iff_eq.mpr c10
            have c10b1 : (t138 != 0) = false := bne_eq_false_iff_eq.mpr c10
            clear c10
            simp only [Option.some.injEq, Prod.mk.injEq] at H
            obtain ⟨rfl, rfl, rfl⟩ := H
            go_enter Try.func34, Try.ntmps34
            go_wp2_with (first | ((with_reducible refine gate_callee (f := 45) rfl ?_); refine goesL_ (some 15) rfl rfl Try.func45 (by kernel_rfl) rfl #[.string a0, .int .i64 a1, .int .u8 a2] rfl (by (try simp only [List.map_toArray, List.map_cons, List.map_nil]); first | done | rfl | (simp only [List.length_drop, List.length_take]; rfl)) ?_; (with_reducible refine (annuletref12_find.calls k a0 a1 a2 t136 _ A4.out).mono ?_); rintro e w' ⟨rfl, ⟨nd, rfl⟩⟩; refine ⟨_, rfl, ?_⟩) | ((with_reducible refine gate_callee (f := 46) rfl ?_); refine goesL_ (some 23) rfl rfl Try.func46 (by kernel_rfl) rfl #[.string (a0.extract (a1 : Int).toNat (t136 : Int).toNat)] rfl (by (try simp only [List.map_toArray, List.map_cons, List.map_nil]); first | done | rfl | (simp only [List.length_drop, List.length_take]; rfl)) ?_; (with_reducible refine (annuletref07_Get.calls k (a0.extract (a1 : Int).toNat (t136 : Int).toNat) t137 t138 _ A9.out).mono ?_); rintro e w11 ⟨rfl, hb⟩; refine ⟨_, rfl, ?_⟩; have n0_ := Aside0.mk (below_step (by repeat (first | (with_reducible first | exact HB.out | apply below_alloc | apply pw_below_drewN | apply below_drew1) | exact HB.out)) hb); clear HB; have HB := n0_; clear n0_; (try clear hb); (try clear hb2); (try clear hk); (try clear hi)))
            all_goals go_ret3
            all_goals first | (exact ⟨by first | rfl | (simp [errW_none, errW_some] <;> rfl) | (simp [*, errW_none, errW_some] <;> rfl), by repeat (first | (with_reducible first | exact HB.out | apply below_alloc | apply pw_below_drewN | apply below_drew1) | exact HB.out)⟩) | (exfalso; simp_all; done)
          · rw [if_neg c10] at H
            have c10b0 : (t138 == 0) = false := beq_eq_false_iff_ne.mpr c10
            have c10b1 : (t138 != 0) = true := bne_iff_ne.mpr c10
            simp only [Option.some.injEq, Prod.mk.injEq] at H
            obtain ⟨rfl, rfl, rfl⟩ := H
            go_enter Try.func34, Try.ntmps34
            go_wp2_with (first | ((with_reducible refine gate_callee (f := 45) rfl ?_); refine goesL_ (some 15) rfl rfl Try.func45 (by kernel_rfl) rfl #[.string a0, .int .i64 a1, .int .u8 a2] rfl (by (try simp only [List.map_toArray, List.map_cons, List.map_nil]); first | done | rfl | (simp only [List.length_drop, List.length_take]; rfl)) ?_; (with_reducible refine (annuletref12_find.calls k a0 a1 a2 t136 _ A4.out).mono ?_); rintro e w' ⟨rfl, ⟨nd, rfl⟩⟩; refine ⟨_, rfl, ?_⟩) | ((with_reducible refine gate_callee (f := 46) rfl ?_); refine goesL_ (some 23) rfl rfl Try.func46 (by kernel_rfl) rfl #[.string (a0.extract (a1 : Int).toNat (t136 : Int).toNat)] rfl (by (try simp only [List.map_toArray, List.map_cons, List.map_nil]); first | done | rfl | (simp only [List.length_drop, List.length_take]; rfl)) ?_; (with_reducible refine (annuletref07_Get.calls k (a0.extract (a1 : Int).toNat (t136 : Int).toNat) t137 t138 _ A9.out).mono ?_); rintro e w12 ⟨rfl, hb⟩; refine ⟨_, rfl, ?_⟩; have n0_ := Aside0.mk (below_step (by repeat (first | (with_reducible first | exact HB.out | apply below_alloc | apply pw_below_drewN | apply below_drew1) | exact HB.out)) hb); clear HB; have HB := n0_; clear n0_; (try clear hb); (try clear hb2); (try clear hk); (try clear hi)))
            all_goals go_ret3
            all_goals first | (exact ⟨by first | rfl | (simp [errW_none, errW_some] <;> rfl) | (simp [*, errW_none, errW_some] <;> rfl), by repeat (first | (with_reducible first | exact HB.out | apply below_alloc | apply pw_below_drewN | apply below_drew1) | exact HB.out)⟩) | (exfalso; simp_all; done)
        · rw [if_neg c8] at H
          exact absurd H (by simp)
      · rw [if_neg c7] at H
        exact absurd H (by simp)
    · rw [if_neg c6] at H
      exact absurd H (by simp)

end Go.Proofs.Ytekcnfngcgchcaa.PBenParses
