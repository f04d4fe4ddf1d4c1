/- Written by a program of this session (a turned copy of the kit's print): functions of the program, each with the Lean function that it comes to, and the row of one law. No condition. -/
import Derived.Test.YtekcnfngcgchcaaPBenPrintsx0
import Derived.Test.YtekcnfngcgchcaaPBenPrintsx3
import Derived.Test.YtekcnfngcgchcaaPBenPrintsx5
namespace Go.Proofs.Ytekcnfngcgchcaa.PBenPrints
open Go.RowKit Go.Proofs.YtekcnfngcgchcaaW.PrintWords Go.Proofs.YtekcnfngcgchcaaW.PrintLast Go.Proofs.YtekcnfngcgchcaaW.PrintMore
attribute [local go_sem] max2_int min2_int max_two min_two max_three min_three max_four min_four   -- for this text's walks alone
set_option linter.unusedVariables false
set_option linter.unusedSimpArgs false


/-! ### annuletlaw12_awake: function 8 -/
/-! ### the example -/
def awKids : List S25 := [⟨1, 5, ⟨#[]⟩, [], []⟩, ⟨2, 0, ⟨#[97, 98]⟩, [], []⟩]
def awTree : S25 := ⟨3, 0, ⟨#[]⟩, [], awKids⟩
theorem kids_aw (w : World) : k25.C (w.alloc (.cells #[.int .i64 1, .int .i64 5, .string ⟨#[]⟩, .slice none 0 0, .slice none 0 0, .int .i64 2, .int .i64 0, .string ⟨#[97, 98]⟩, .slice none 0 0, .slice none 0 0] 25)) (some ⟨w.heap.size, 0, none⟩) 2 awKids := by
  have hR : k25.R 25 (w.alloc (.cells #[.int .i64 1, .int .i64 5, .string ⟨#[]⟩, .slice none 0 0, .slice none 0 0, .int .i64 2, .int .i64 0, .string ⟨#[97, 98]⟩, .slice none 0 0, .slice none 0 0] 25)) w.heap.size (fun _ => True) (.slice (some ⟨w.heap.size, 0, none⟩) 2 2) awKids := by
    refine ⟨fun _ _ => trivial, _, World.ownsRow_lit w #[.int .i64 1, .int .i64 5, .string ⟨#[]⟩, .slice none 0 0, .slice none 0 0, .int .i64 2, .int .i64 0, .string ⟨#[97, 98]⟩, .slice none 0 0, .slice none 0 0] 2 (Nat.le_refl _) (by decide) rfl, ?_⟩
    exact ((Reps.none _ _).snoc (k25_mkM _ _ _ ⟨1, 5, ⟨#[]⟩, [], []⟩ (Kd.R_nil _ _ _ _ _) (Kd.R_nil _ _ _ _ _)) rfl).snoc (k25_mkM _ _ _ ⟨2, 0, ⟨#[97, 98]⟩, [], []⟩ (Kd.R_nil _ _ _ _ _) (Kd.R_nil _ _ _ _ _)) rfl
  obtain ⟨A, c, he, _, hC⟩ := Kd.R_reads hR
  cases he
  exact hC
def awPart (k : Nat) (l : List Int) (e : Int) : Prop := ∃ T, ben_Parse.f k l = some (T, e)
def law12_awake.ok (k : Nat) : Prop := ben_Print.f k awTree = some ([108, 105, 53, 101, 50, 58, 97, 98, 101], 0) ∧ awPart k [105, 45, 48, 101] 3 ∧ awPart k [50, 58, 97] 2 ∧ awPart k [108, 101, 53] 4 ∧ awPart k [100, 49, 58, 98, 105, 49, 101, 49, 58, 97, 105, 49, 101, 101] 3 ∧ (∃ T, ben_Parse.f k [100, 49, 58, 97, 105, 49, 101, 49, 58, 98, 105, 50, 101, 101] = some (T, 0) ∧ T.f3.length = 2)
theorem parse_lit (k : Nat) (A : Option Addr) (l : List Int) (T : S25) (e0 : Int) (w : World) (hr : (Kd.int .u8).C w A l.length l) (hs : l.length < 100) (h : ben_Parse.f k l = some (T, e0)) :
    Calls Try.prog 11 #[.slice A l.length l.length] w fun e w2 => ∃ (A3 : Option Addr) (c3 : Nat) (A4 : Option Addr) (c4 : Nat), e = .returned (.tuple #[.agg #[.int .i64 T.f0, .int .i64 T.f1, .string T.f2, .slice A3 T.f3.length c3, .slice A4 T.f4.length c4], .int .i64 e0]) ∧ Below w.heap.size w w2 :=
  (ben_Parse.calls k A l.length l T e0 w hr (Nat.le_refl _) (by omega) h).mono (fun e w2 ⟨v3, v4, he, h3, h4, hb⟩ => by
    obtain ⟨A3, c3, rfl⟩ := Kd.R_slice h3
    obtain ⟨A4, c4, rfl⟩ := Kd.R_slice h4
    exact ⟨A3, c3, A4, c4, he, hb⟩)
theorem aw_bytes : (strOfNums [108, 105, 53, 101, 50, 58, 97, 98, 101]).toList = [108, 105, 53, 101, 50, 58, 97, 98, 101] := by
  rw [show strOfNums [108, 105, 53, 101, 50, 58, 97, 98, 101] = (⟨#[108, 105, 53, 101, 50, 58, 97, 98, 101]⟩ : ByteArray) from rfl]
  simp
set_option maxHeartbeats 4000000 in
set_option maxRecDepth 100000 in
theorem law12_awake.calls (k : Nat) (w : World) (h : law12_awake.ok k) : Calls Try.prog 8 #[] w fun e w2 => e = .returned (.bool true) ∧ Below w.heap.size w w2 := by
  have hu25 := Try.underlying25
  obtain ⟨h1, ⟨T2, h2⟩, ⟨T3, h3⟩, ⟨T4, h4⟩, ⟨T5, h5⟩, ⟨T6, h6, h6n⟩⟩ := h
  obtain ⟨l2, q2⟩ : ∃ l : List Int, l = [105, 45, 48, 101] := ⟨_, rfl⟩
  rw [← q2] at h2
  have H2 := Aside0.mk h2
  have N2 := Aside0.mk (show l2.length < 100 by rw [q2]; decide)
  have Q2 := Aside0.mk q2
  obtain ⟨l3, q3⟩ : ∃ l : List Int, l = [50, 58, 97] := ⟨_, rfl⟩
  rw [← q3] at h3
  have H3 := Aside0.mk h3
  have N3 := Aside0.mk (show l3.length < 100 by rw [q3]; decide)
  have Q3 := Aside0.mk q3
  obtain ⟨l4, q4⟩ : ∃ l : List Int, l = [108, 101, 53] := ⟨_, rfl⟩
  rw [← q4] at h4
  have H4 := Aside0.mk h4
  have N4 := Aside0.mk (show l4.length < 100 by rw [q4]; decide)
  have Q4 := Aside0.mk q4
  obtain ⟨l5, q5⟩ : ∃ l : List Int, l = [100, 49, 58, 98, 105, 49, 101, 49, 58, 97, 105, 49, 101, 101] := ⟨_, rfl⟩
  rw [← q5] at h5
  have H5 := Aside0.mk h5
  have N5 := Aside0.mk (show l5.length < 100 by rw [q5]; decide)
  have Q5 := Aside0.mk q5
  obtain ⟨l6, q6⟩ : ∃ l : List Int, l = [100, 49, 58, 97, 105, 49, 101, 49, 58, 98, 105, 50, 101, 101] := ⟨_, rfl⟩
  rw [← q6] at h6
  have H6 := Aside0.mk h6
  have N6 := Aside0.mk (show l6.length < 100 by rw [q6]; decide)
  have Q6 := Aside0.mk q6
  obtain ⟨rr, qr⟩ : ∃ l : List Int, l = [108, 105, 53, 101, 50, 58, 97, 98, 101] := ⟨_, rfl⟩
  rw [← qr] at h1
  have QR := Aside0.mk qr
  have hst : (strOfNums rr).toList = [108, 105, 53, 101, 50, 58, 97, 98, 101] := by rw [qr]; exact aw_bytes
  have HPr := Aside0.mk (show ∀ W : World, k25.C W (some ⟨w.heap.size, 0, none⟩) 2 awKids → Calls Try.prog 9 #[.agg #[.int .i64 3, .int .i64 0, .string ⟨#[]⟩, .slice none 0 0, .slice (some ⟨w.heap.size, 0, none⟩) 2 2]] W fun e w2 => ∃ v, e = .returned (.tuple #[v, .int .i64 0]) ∧ PutS W w2 v rr from fun W hC => ben_Print.calls k awTree none (some ⟨w.heap.size, 0, none⟩) 0 2 rr 0 W (Kd.C_nil _ _) (Nat.le_refl _) hC (Nat.le_refl _) h1)
  have HK := Aside0.mk (kids_aw w)
  have HB0 := Aside0.mk (below_alloc (Below.refl w.heap.size w) (.cells #[.int .i64 1, .int .i64 5, .string ⟨#[]⟩, .slice none 0 0, .slice none 0 0, .int .i64 2, .int .i64 0, .string ⟨#[97, 98]⟩, .slice none 0 0, .slice none 0 0] 25))
  have H6N := Aside0.mk h6n
  clear h1 h2 h3 h4 h5 h6 q2 q3 q4 q5 q6 qr h6n
  go_enter Try.func8, Try.ntmps8
  go_upto_region 2 with (go_at_call 9; (with_reducible refine (HPr.out _ HK.out).mono ?_); rintro e w1 ⟨v, rfl, hp⟩; have HB1 := Aside0.mk (below_step HB0.out (Below.mono hp.bel (Nat.le_refl _))); have HP1 := Aside0.mk hp; clear hp)
  go_upto_region 3 with (first | ((with_reducible refine gate_dst (N := 22) rfl ?_); refine bconst_event rfl rfl (N1 := 22) (N2 := 23) rfl rfl (l := l2) (t := 28) (e := 5) Try.underlying28 Try.underlying5 rfl (by simp) (by have := N2.out; omega) ?hr ?_; (case hr => (rw [Q2.out]; first | (go_simp; done) | (go_simp; rfl))); intro B2 wb hC hb; have HC2 := Aside0.mk hC; have HBb := Aside0.mk (below_step HB1.out hb); have HPb := Aside0.mk (HP1.out.later hb); clear hC hb) | (go_at_call 11; (with_reducible refine (parse_lit k B2 l2 T2 3 _ HC2.out N2.out H2.out).mono ?_); rintro e wc ⟨A3, c3, A4, c4, rfl, hb⟩; have HBc := Aside0.mk (below_step HBb.out hb); have HPc := Aside0.mk (HPb.out.later hb); clear hb))
  have HB2 := Aside0.mk (below_step HBc.out (below_alloc (Below.refl _ _) (.cells #[.int .i64 T2.f0, .int .i64 T2.f1, .string T2.f2, .slice A3 T2.f3.length c3, .slice A4 T2.f4.length c4] 25)))
  have HP2 := Aside0.mk (HPc.out.later (below_alloc (Below.refl _ _) (.cells #[.int .i64 T2.f0, .int .i64 T2.f1, .string T2.f2, .slice A3 T2.f3.length c3, .slice A4 T2.f4.length c4] 25)))
  generalize wc.alloc (.cells #[.int .i64 T2.f0, .int .i64 T2.f1, .string T2.f2, .slice A3 T2.f3.length c3, .slice A4 T2.f4.length c4] 25) = w2 at HB2 HP2 ⊢
  clear HBb HBc HPb HPc
  go_upto_region 4 with (first | ((with_reducible refine gate_dst (N := 28) rfl ?_); refine bconst_event rfl rfl (N1 := 28) (N2 := 29) rfl rfl (l := l3) (t := 28) (e := 5) Try.underlying28 Try.underlying5 rfl (by simp) (by have := N3.out; omega) ?hr ?_; (case hr => (rw [Q3.out]; first | (go_simp; done) | (go_simp; rfl))); intro B3 wb hC hb; have HC3 := Aside0.mk hC; have HBb := Aside0.mk (below_step HB2.out hb); have HPb := Aside0.mk (HP2.out.later hb); clear hC hb) | (go_at_call 11; (with_reducible refine (parse_lit k B3 l3 T3 2 _ HC3.out N3.out H3.out).mono ?_); rintro e wc ⟨A3, c3, A4, c4, rfl, hb⟩; have HBc := Aside0.mk (below_step HBb.out hb); have HPc := Aside0.mk (HPb.out.later hb); clear hb))
  have HB3 := Aside0.mk (below_step HBc.out (below_alloc (Below.refl _ _) (.cells #[.int .i64 T3.f0, .int .i64 T3.f1, .string T3.f2, .slice A3 T3.f3.length c3, .slice A4 T3.f4.length c4] 25)))
  have HP3 := Aside0.mk (HPc.out.later (below_alloc (Below.refl _ _) (.cells #[.int .i64 T3.f0, .int .i64 T3.f1, .string T3.f2, .slice A3 T3.f3.length c3, .slice A4 T3.f4.length c4] 25)))
  generalize wc.alloc (.cells #[.int .i64 T3.f0, .int .i64 T3.f1, .string T3.f2, .slice A3 T3.f3.length c3, .slice A4 T3.f4.length c4] 25) = w3 at HB3 HP3 ⊢
  clear HBb HBc HPb HPc
  go_upto_region 5 with (first | ((with_reducible refine gate_dst (N := 34) rfl ?_); refine bconst_event rfl rfl (N1 := 34) (N2 := 35) rfl rfl (l := l4) (t := 28) (e := 5) Try.underlying28 Try.underlying5 rfl (by simp) (by have := N4.out; omega) ?hr ?_; (case hr => (rw [Q4.out]; first | (go_simp; done) | (go_simp; rfl))); intro B4 wb hC hb; have HC4 := Aside0.mk hC; have HBb := Aside0.mk (below_step HB3.out hb); have HPb := Aside0.mk (HP3.out.later hb); clear hC hb) | (go_at_call 11; (with_reducible refine (parse_lit k B4 l4 T4 4 _ HC4.out N4.out H4.out).mono ?_); rintro e wc ⟨A3, c3, A4, c4, rfl, hb⟩; have HBc := Aside0.mk (below_step HBb.out hb); have HPc := Aside0.mk (HPb.out.later hb); clear hb))
  have HB4 := Aside0.mk (below_step HBc.out (below_alloc (Below.refl _ _) (.cells #[.int .i64 T4.f0, .int .i64 T4.f1, .string T4.f2, .slice A3 T4.f3.length c3, .slice A4 T4.f4.length c4] 25)))
  have HP4 := Aside0.mk (HPc.out.later (below_alloc (Below.refl _ _) (.cells #[.int .i64 T4.f0, .int .i64 T4.f1, .string T4.f2, .slice A3 T4.f3.length c3, .slice A4 T4.f4.length c4] 25)))
  generalize wc.alloc (.cells #[.int .i64 T4.f0, .int .i64 T4.f1, .string T4.f2, .slice A3 T4.f3.length c3, .slice A4 T4.f4.length c4] 25) = w4 at HB4 HP4 ⊢
  clear HBb HBc HPb HPc
  go_upto_region 6 with (first | ((with_reducible refine gate_dst (N := 40) rfl ?_); refine bconst_event rfl rfl (N1 := 40) (N2 := 41) rfl rfl (l := l5) (t := 28) (e := 5) Try.underlying28 Try.underlying5 rfl (by simp) (by have := N5.out; omega) ?hr ?_; (case hr => (rw [Q5.out]; first | (go_simp; done) | (go_simp; rfl))); intro B5 wb hC hb; have HC5 := Aside0.mk hC; have HBb := Aside0.mk (below_step HB4.out hb); have HPb := Aside0.mk (HP4.out.later hb); clear hC hb) | (go_at_call 11; (with_reducible refine (parse_lit k B5 l5 T5 3 _ HC5.out N5.out H5.out).mono ?_); rintro e wc ⟨A3, c3, A4, c4, rfl, hb⟩; have HBc := Aside0.mk (below_step HBb.out hb); have HPc := Aside0.mk (HPb.out.later hb); clear hb))
  have HB5 := Aside0.mk (below_step HBc.out (below_alloc (Below.refl _ _) (.cells #[.int .i64 T5.f0, .int .i64 T5.f1, .string T5.f2, .slice A3 T5.f3.length c3, .slice A4 T5.f4.length c4] 25)))
  have HP5 := Aside0.mk (HPc.out.later (below_alloc (Below.refl _ _) (.cells #[.int .i64 T5.f0, .int .i64 T5.f1, .string T5.f2, .slice A3 T5.f3.length c3, .slice A4 T5.f4.length c4] 25)))
  generalize wc.alloc (.cells #[.int .i64 T5.f0, .int .i64 T5.f1, .string T5.f2, .slice A3 T5.f3.length c3, .slice A4 T5.f4.length c4] 25) = w5 at HB5 HP5 ⊢
  clear HBb HBc HPb HPc
  go_upto_region 7 with (first | ((with_reducible refine gate_dst (N := 46) rfl ?_); refine bconst_event rfl rfl (N1 := 46) (N2 := 47) rfl rfl (l := l6) (t := 28) (e := 5) Try.underlying28 Try.underlying5 rfl (by simp) (by have := N6.out; omega) ?hr ?_; (case hr => (rw [Q6.out]; first | (go_simp; done) | (go_simp; rfl))); intro B6 wb hC hb; have HC6 := Aside0.mk hC; have HBb := Aside0.mk (below_step HB5.out hb); have HPb := Aside0.mk (HP5.out.later hb); clear hC hb) | (go_at_call 11; (with_reducible refine (parse_lit k B6 l6 T6 0 _ HC6.out N6.out H6.out).mono ?_); rintro e wc ⟨A3, c3, A4, c4, rfl, hb⟩; have HBc := Aside0.mk (below_step HBb.out hb); have HPc := Aside0.mk (HPb.out.later hb); clear hb))
  have HB6 := Aside0.mk (below_step HBc.out (below_alloc (Below.refl _ _) (.cells #[.int .i64 T6.f0, .int .i64 T6.f1, .string T6.f2, .slice A3 T6.f3.length c3, .slice A4 T6.f4.length c4] 25)))
  have HP6 := Aside0.mk (HPc.out.later (below_alloc (Below.refl _ _) (.cells #[.int .i64 T6.f0, .int .i64 T6.f1, .string T6.f2, .slice A3 T6.f3.length c3, .slice A4 T6.f4.length c4] 25)))
  have HN := Aside0.mk (blk_new wc (.cells #[.int .i64 T6.f0, .int .i64 T6.f1, .string T6.f2, .slice A3 T6.f3.length c3, .slice A4 T6.f4.length c4] 25))
  generalize wc.alloc (.cells #[.int .i64 T6.f0, .int .i64 T6.f1, .string T6.f2, .slice A3 T6.f3.length c3, .slice A4 T6.f4.length c4] 25) = w6 at HB6 HP6 HN ⊢
  clear HBb HBc HPb HPc
  have hx3 : w6.cell? ⟨wc.heap.size, 3, none⟩ = some _ := (blk_cell HN.out 3).trans rfl
  have hcv := own_string (P := Try.prog) Try.underlying28 Try.underlying5 Try.underlying9 HP6.out.own
  have hn2 : ((T6.f3.length : Int) == 2) = true := by rw [H6N.out]; rfl
  go_wp2
  go_ret
  exact ⟨rfl, HB6.out⟩

/-! ### annuletref11_fields: function 38 -/
def annuletref11_fields.j0 : Nat → Bool → Int → Int → ByteArray → List ByteArray → List (S25) → Option (Bool)
  | 0, _, _, _, _, _, _ => none
  | k + 1, x31, x133000, x133001, x133002, x133003, x133004 => if x31 = true then (some true) else (if x133000 < 3 then (some (decide ((x133004.length : Int) > 0))) else (if x133000 = 4 then (some ((x133003.length : Int) != (x133004.length : Int))) else (some false)))
def annuletref11_fields.f (k : Nat) (a0_0 : Int) (a0_1 : Int) (a0_2 : ByteArray) (l0_3 : List ByteArray) (l0_4 : List (S25)) : Option (Bool) := if a0_0 = 1 then (if a0_0 = 2 then (if a0_0 = 4 then (annuletref11_fields.j0 k false a0_0 a0_1 a0_2 l0_3 l0_4) else (annuletref11_fields.j0 k (decide ((l0_3.length : Int) > 0)) a0_0 a0_1 a0_2 l0_3 l0_4)) else (if a0_2.toList = ([] : List UInt8) then (if a0_0 = 4 then (annuletref11_fields.j0 k false a0_0 a0_1 a0_2 l0_3 l0_4) else (annuletref11_fields.j0 k (decide ((l0_3.length : Int) > 0)) a0_0 a0_1 a0_2 l0_3 l0_4)) else (annuletref11_fields.j0 k true a0_0 a0_1 a0_2 l0_3 l0_4))) else (if a0_1 = 0 then (if a0_0 = 2 then (if a0_0 = 4 then (annuletref11_fields.j0 k false a0_0 a0_1 a0_2 l0_3 l0_4) else (annuletref11_fields.j0 k (decide ((l0_3.length : Int) > 0)) a0_0 a0_1 a0_2 l0_3 l0_4)) else (if a0_2.toList = ([] : List UInt8) then (if a0_0 = 4 then (annuletref11_fields.j0 k false a0_0 a0_1 a0_2 l0_3 l0_4) else (annuletref11_fields.j0 k (decide ((l0_3.length : Int) > 0)) a0_0 a0_1 a0_2 l0_3 l0_4)) else (annuletref11_fields.j0 k true a0_0 a0_1 a0_2 l0_3 l0_4))) else (annuletref11_fields.j0 k true a0_0 a0_1 a0_2 l0_3 l0_4))
theorem annuletref11_fields.mono_l : ∀ k, (∀ y0 y1 y2 y3 y4 y5, LeO (annuletref11_fields.j0 k y0 y1 y2 y3 y4 y5) (annuletref11_fields.j0 (k + 1) y0 y1 y2 y3 y4 y5))
  | 0 => fun _ _ _ _ _ _ r h => by simp [annuletref11_fields.j0] at h
  | k + 1 => by
    have ih0 := annuletref11_fields.mono_l k
    · intro y0 y1 y2 y3 y4 y5
      unfold annuletref11_fields.j0
      repeat' first
      | (with_reducible exact ih0 _ _ _ _ _ _)
      | (with_reducible exact LeO.refl _)
      | (with_reducible exact LeO.none _)
      | (with_reducible refine LeO.ite ?_ ?_)
      | (with_reducible refine LeO.bind ?_ (fun _ => ?_))
      | exact ih0 _ _ _ _ _ _
      | exact LeO.none _
      | refine LeO.ite ?_ ?_
      | refine LeO.bind ?_ (fun _ => ?_)
theorem annuletref11_fields.mono : ∀ a0 a1 a2 a3 a4 k, LeO (annuletref11_fields.f k a0 a1 a2 a3 a4) (annuletref11_fields.f (k + 1) a0 a1 a2 a3 a4) := by
  intro a0 a1 a2 a3 a4 k
  have ih0 := annuletref11_fields.mono_l k
  unfold annuletref11_fields.f
  repeat' first
      | (with_reducible exact ih0 _ _ _ _ _ _)
      | (with_reducible exact LeO.refl _)
      | (with_reducible exact LeO.none _)
      | (with_reducible refine LeO.ite ?_ ?_)
      | (with_reducible refine LeO.bind ?_ (fun _ => ?_))
      | exact ih0 _ _ _ _ _ _
      | exact LeO.none _
      | refine LeO.ite ?_ ?_
      | refine LeO.bind ?_ (fun _ => ?_)
set_option maxHeartbeats 3000000 in
set_option maxRecDepth 100000 in
theorem annuletref11_fields.calls (k : Nat) (a0_0 : Int) (a0_1 : Int) (a0_2 : ByteArray) (A0_3 : Option Addr) (c0_3 : Nat) (l0_3 : List ByteArray) (A0_4 : Option Addr) (c0_4 : Nat) (l0_4 : List (S25)) (r : Bool) (w : World) (hr0_3 : Kd.C Kd.string w A0_3 l0_3.length l0_3) (hc0_3 : l0_3.length ≤ c0_3) (hr0_4 : Kd.C k25 w A0_4 l0_4.length l0_4) (hc0_4 : l0_4.length ≤ c0_4) (h : annuletref11_fields.f k a0_0 a0_1 a0_2 l0_3 l0_4 = some r) :
    Calls Try.prog 38 #[.agg #[.int .i64 a0_0, .int .i64 a0_1, .string a0_2, .slice A0_3 l0_3.length c0_3, .slice A0_4 l0_4.length c0_4]] w fun e w' => e = .returned (.bool r) ∧ Below w.heap.size w w' := by
  have hu25 := Try.underlying25
  have HR0_3 := Aside0.mk hr0_3
  have HC0_3 := Aside0.mk hc0_3
  clear hr0_3 hc0_3
  have HR0_4 := Aside0.mk hr0_4
  have HC0_4 := Aside0.mk hc0_4
  clear hr0_4 hc0_4
  have HB := Aside0.mk (Below.refl w.heap.size w)
  have H : (if a0_0 = 1 then (if a0_0 = 2 then (if a0_0 = 4 then (annuletref11_fields.j0 k false a0_0 a0_1 a0_2 l0_3 l0_4) else (annuletref11_fields.j0 k (decide ((l0_3.length : Int) > 0)) a0_0 a0_1 a0_2 l0_3 l0_4)) else (if a0_2.toList = ([] : List UInt8) then (if a0_0 = 4 then (annuletref11_fields.j0 k false a0_0 a0_1 a0_2 l0_3 l0_4) else (annuletref11_fields.j0 k (decide ((l0_3.length : Int) > 0)) a0_0 a0_1 a0_2 l0_3 l0_4)) else (annuletref11_fields.j0 k true a0_0 a0_1 a0_2 l0_3 l0_4))) else (if a0_1 = 0 then (if a0_0 = 2 then (if a0_0 = 4 then (annuletref11_fields.j0 k false a0_0 a0_1 a0_2 l0_3 l0_4) else (annuletref11_fields.j0 k (decide ((l0_3.length : Int) > 0)) a0_0 a0_1 a0_2 l0_3 l0_4)) else (if a0_2.toList = ([] : List UInt8) then (if a0_0 = 4 then (annuletref11_fields.j0 k false a0_0 a0_1 a0_2 l0_3 l0_4) else (annuletref11_fields.j0 k (decide ((l0_3.length : Int) > 0)) a0_0 a0_1 a0_2 l0_3 l0_4)) else (annuletref11_fields.j0 k true a0_0 a0_1 a0_2 l0_3 l0_4))) else (annuletref11_fields.j0 k true a0_0 a0_1 a0_2 l0_3 l0_4))) = some r := h
  clear h
  have HC2 := Aside0.mk H
  clear H
  go_enter Try.func38, Try.ntmps38
  go_upto_region 1 with (first | ((with_reducible refine gate_dst (N := 1) rfl ?_); (try (refine gate_guard (by rfl) ?_; dsimp only)); refine box_event ?hg (N := 1) ?hd (cs := #[.int .i64 a0_0, .int .i64 a0_1, .string a0_2, .slice A0_3 l0_3.length c0_3, .slice A0_4 l0_4.length c0_4]) (t := 25) ?hr ?_; (case hd => rfl); (case hg => rfl); (case hr => first | (go_simp; done) | (go_simp; rfl)); intro gb132 hg w3 hbox hb; have n0_ := Aside0.mk (below_step (by repeat (first | (with_reducible first | exact HB.out | apply below_alloc | apply pw_below_drewN | apply below_drew1) | exact HB.out)) hb); have n1_ := Aside0.mk (hbox); have n2_ := Aside0.mk ((by rw [hg]; exact (below_size (by repeat (first | (with_reducible first | exact HB.out | apply below_alloc | apply pw_below_drewN | apply below_drew1) | exact HB.out))) : w.heap.size ≤ gb132)); have n3_ := Aside0.mk ((by rw [hg]; exact (below_size (by repeat (first | (with_reducible first | exact HB.out | apply below_alloc | apply pw_below_drewN | apply below_drew1) | exact HB.out))) : w.heap.size ≤ gb132)); clear HB; have HB := n0_; have BK132 := n1_; have GW132 := n2_; have GE132 := n3_; clear n0_ n1_ n2_ n3_; clear hb hbox hg))
  (try simp only [Act.put, List.setIfInBounds_toArray, List.set_cons_zero, List.set_cons_succ])
  go_cut [31] (fun v31 wc => ∃ (kq : Nat) (x31_1 : Bool), v31 = .bool x31_1 ∧ Aside0 (annuletref11_fields.j0 kq x31_1 a0_0 a0_1 a0_2 l0_3 l0_4 = some r) ∧ Aside0 (kq ≤ k) ∧ Aside0 (wc.heap[gb132]? = some (.cells #[.int .i64 a0_0, .int .i64 a0_1, .string a0_2, (.slice A0_3 l0_3.length c0_3), (.slice A0_4 l0_4.length c0_4)] 25 (0, 0))) ∧ Aside0 (Below w.heap.size w wc))
  case first =>
    have H := HC2.out
    clear HC2
    by_cases c4 : a0_0 = 1
    · rw [if_pos c4] at H
      have c4b0 : (a0_0 == 1) = true := beq_iff_eq.mpr c4
      have c4b1 : (a0_0 != 1) = false := bne_eq_false_iff_eq.mpr c4
      clear c4
      (first | rw [c4b0] | (simp only [i64_w, i32_w]; rw [c4b0]) | skip)
      by_cases c5 : a0_0 = 2
      · rw [if_pos c5] at H
        have c5b0 : (a0_0 == 2) = true := beq_iff_eq.mpr c5
        have c5b1 : (a0_0 != 2) = false := bne_eq_false_iff_eq.mpr c5
        clear c5
        by_cases c6 : a0_0 = 4
        · rw [if_pos c6] at H
          have c6b0 : (a0_0 == 4) = true := beq_iff_eq.mpr c6
          have c6b1 : (a0_0 != 4) = false := bne_eq_false_iff_eq.mpr c6
          clear c6
          have H' := Aside0.mk H
          clear H
          have hcz7_0 : w3.cell? ⟨gb132, 0, none⟩ = some (.int .i64 a0_0) := (blk_cell BK132.out 0).trans rfl
          have hcz7_1 : w3.cell? ⟨gb132, 1, none⟩ = some (.int .i64 a0_1) := (blk_cell BK132.out 1).trans rfl
          have hcz7_2 : w3.cell? ⟨gb132, 2, none⟩ = some (.string a0_2) := (blk_cell BK132.out 2).trans rfl
          have hcz7_3 : w3.cell? ⟨gb132, 3, none⟩ = some (.slice A0_3 l0_3.length c0_3) := (blk_cell BK132.out 3).trans rfl
          have hcz7_4 : w3.cell? ⟨gb132, 4, none⟩ = some (.slice A0_4 l0_4.length c0_4) := (blk_cell BK132.out 4).trans rfl
          have hfz7_0 := blk_frozen BK132.out 0
          have hfz7_1 := blk_frozen BK132.out 1
          have hfz7_2 := blk_frozen BK132.out 2
          have hfz7_3 := blk_frozen BK132.out 3
          have hfz7_4 := blk_frozen BK132.out 4
          go_wp2
          go_meet
          case rel => exact ⟨_, (false), (by first | rfl | (simp; done) | (simp [*]; done)), H', ⟨by first | omega | exact Nat.le_refl _⟩, ⟨by (with_reducible repeat (first | refine blk_drewN ?_ _ | refine blk_drew ?_ | refine blk_alloc ?_ _)); exact BK132.out⟩, ⟨by repeat (first | (with_reducible first | exact HB.out | apply below_alloc | apply pw_below_drewN | apply below_drew1 | refine below_set ?_ GE132.out) | exact HB.out)⟩⟩
        · rw [if_neg c6] at H
          have c6b0 : (a0_0 == 4) = false := beq_eq_false_iff_ne.mpr c6
          have c6b1 : (a0_0 != 4) = true := bne_iff_ne.mpr c6
          have H' := Aside0.mk H
          clear H
          have hcz8_0 : w3.cell? ⟨gb132, 0, none⟩ = some (.int .i64 a0_0) := (blk_cell BK132.out 0).trans rfl
          have hcz8_1 : w3.cell? ⟨gb132, 1, none⟩ = some (.int .i64 a0_1) := (blk_cell BK132.out 1).trans rfl
          have hcz8_2 : w3.cell? ⟨gb132, 2, none⟩ = some (.string a0_2) := (blk_cell BK132.out 2).trans rfl
          have hcz8_3 : w3.cell? ⟨gb132, 3, none⟩ = some (.slice A0_3 l0_3.length c0_3) := (blk_cell BK132.out 3).trans rfl
          have hcz8_4 : w3.cell? ⟨gb132, 4, none⟩ = some (.slice A0_4 l0_4.length c0_4) := (blk_cell BK132.out 4).trans rfl
          have hfz8_0 := blk_frozen BK132.out 0
          have hfz8_1 := blk_frozen BK132.out 1
          have hfz8_2 := blk_frozen BK132.out 2
          have hfz8_3 := blk_frozen BK132.out 3
          have hfz8_4 := blk_frozen BK132.out 4
          go_wp2
          go_meet
          case rel => exact ⟨_, (decide ((l0_3.length : Int) > 0)), (by first | rfl | (simp; done) | (simp [*]; done)), H', ⟨by first | omega | exact Nat.le_refl _⟩, ⟨by (with_reducible repeat (first | refine blk_drewN ?_ _ | refine blk_drew ?_ | refine blk_alloc ?_ _)); exact BK132.out⟩, ⟨by repeat (first | (with_reducible first | exact HB.out | apply below_alloc | apply pw_below_drewN | apply below_drew1 | refine below_set ?_ GE132.out) | exact HB.out)⟩⟩
      · rw [if_neg c5] at H
        have c5b0 : (a0_0 == 2) = false := beq_eq_false_iff_ne.mpr c5
        have c5b1 : (a0_0 != 2) = true := bne_iff_ne.mpr c5
        by_cases c9 : a0_2.toList = ([] : List UInt8)
        · rw [if_pos c9] at H
          have c9b0 : (a0_2.toList == ([] : List UInt8)) = true := beq_iff_eq.mpr c9
          have c9b1 : (a0_2.toList != ([] : List UInt8)) = false := bne_eq_false_iff_eq.mpr c9
          clear c9
          by_cases c10 : a0_0 = 4
          · rw [if_pos c10] at H
            have c10b0 : (a0_0 == 4) = true := beq_iff_eq.mpr c10
            have c10b1 : (a0_0 != 4) = false := bne_eq_false_iff_eq.mpr c10
            clear c10
            have H' := Aside0.mk H
            clear H
            have hcz11_0 : w3.cell? ⟨gb132, 0, none⟩ = some (.int .i64 a0_0) := (blk_cell BK132.out 0).trans rfl
            have hcz11_1 : w3.cell? ⟨gb132, 1, none⟩ = some (.int .i64 a0_1) := (blk_cell BK132.out 1).trans rfl
            have hcz11_2 : w3.cell? ⟨gb132, 2, none⟩ = some (.string a0_2) := (blk_cell BK132.out 2).trans rfl
            have hcz11_3 : w3.cell? ⟨gb132, 3, none⟩ = some (.slice A0_3 l0_3.length c0_3) := (blk_cell BK132.out 3).trans rfl
            have hcz11_4 : w3.cell? ⟨gb132, 4, none⟩ = some (.slice A0_4 l0_4.length c0_4) := (blk_cell BK132.out 4).trans rfl
            have hfz11_0 := blk_frozen BK132.out 0
            have hfz11_1 := blk_frozen BK132.out 1
            have hfz11_2 := blk_frozen BK132.out 2
            have hfz11_3 := blk_frozen BK132.out 3
            have hfz11_4 := blk_frozen BK132.out 4
            go_wp2
            go_meet
            case rel => exact ⟨_, (false), (by first | rfl | (simp; done) | (simp [*]; done)), H', ⟨by first | omega | exact Nat.le_refl _⟩, ⟨by (with_reducible repeat (first | refine blk_drewN ?_ _ | refine blk_drew ?_ | refine blk_alloc ?_ _)); exact BK132.out⟩, ⟨by repeat (first | (with_reducible first | exact HB.out | apply below_alloc | apply pw_below_drewN | apply below_drew1 | refine below_set ?_ GE132.out) | exact HB.out)⟩⟩
          · rw [if_neg c10] at H
            have c10b0 : (a0_0 == 4) = false := beq_eq_false_iff_ne.mpr c10
            have c10b1 : (a0_0 != 4) = true := bne_iff_ne.mpr c10
            have H' := Aside0.mk H
            clear H
            have hcz12_0 : w3.cell? ⟨gb132, 0, none⟩ = some (.int .i64 a0_0) := (blk_cell BK132.out 0).trans rfl
            have hcz12_1 : w3.cell? ⟨gb132, 1, none⟩ = some (.int .i64 a0_1) := (blk_cell BK132.out 1).trans rfl
            have hcz12_2 : w3.cell? ⟨gb132, 2, none⟩ = some (.string a0_2) := (blk_cell BK132.out 2).trans rfl
            have hcz12_3 : w3.cell? ⟨gb132, 3, none⟩ = some (.slice A0_3 l0_3.length c0_3) := (blk_cell BK132.out 3).trans rfl
            have hcz12_4 : w3.cell? ⟨gb132, 4, none⟩ = some (.slice A0_4 l0_4.length c0_4) := (blk_cell BK132.out 4).trans rfl
            have hfz12_0 := blk_frozen BK132.out 0
            have hfz12_1 := blk_frozen BK132.out 1
            have hfz12_2 := blk_frozen BK132.out 2
            have hfz12_3 := blk_frozen BK132.out 3
            have hfz12_4 := blk_frozen BK132.out 4
            go_wp2
            go_meet
            case rel => exact ⟨_, (decide ((l0_3.length : Int) > 0)), (by first | rfl | (simp; done) | (simp [*]; done)), H', ⟨by first | omega | exact Nat.le_refl _⟩, ⟨by (with_reducible repeat (first | refine blk_drewN ?_ _ | refine blk_drew ?_ | refine blk_alloc ?_ _)); exact BK132.out⟩, ⟨by repeat (first | (with_reducible first | exact HB.out | apply below_alloc | apply pw_below_drewN | apply below_drew1 | refine below_set ?_ GE132.out) | exact HB.out)⟩⟩
        · rw [if_neg c9] at H
          have c9b0 : (a0_2.toList == ([] : List UInt8)) = false := beq_eq_false_iff_ne.mpr c9
          have c9b1 : (a0_2.toList != ([] : List UInt8)) = true := bne_iff_ne.mpr c9
          have H' := Aside0.mk H
          clear H
          have hcz13_0 : w3.cell? ⟨gb132, 0, none⟩ = some (.int .i64 a0_0) := (blk_cell BK132.out 0).trans rfl
          have hcz13_1 : w3.cell? ⟨gb132, 1, none⟩ = some (.int .i64 a0_1) := (blk_cell BK132.out 1).trans rfl
          have hcz13_2 : w3.cell? ⟨gb132, 2, none⟩ = some (.string a0_2) := (blk_cell BK132.out 2).trans rfl
          have hcz13_3 : w3.cell? ⟨gb132, 3, none⟩ = some (.slice A0_3 l0_3.length c0_3) := (blk_cell BK132.out 3).trans rfl
          have hcz13_4 : w3.cell? ⟨gb132, 4, none⟩ = some (.slice A0_4 l0_4.length c0_4) := (blk_cell BK132.out 4).trans rfl
          have hfz13_0 := blk_frozen BK132.out 0
          have hfz13_1 := blk_frozen BK132.out 1
          have hfz13_2 := blk_frozen BK132.out 2
          have hfz13_3 := blk_frozen BK132.out 3
          have hfz13_4 := blk_frozen BK132.out 4
          go_wp2
          go_meet
          case rel => exact ⟨_, (true), (by first | rfl | (simp; done) | (simp [*]; done)), H', ⟨by first | omega | exact Nat.le_refl _⟩, ⟨by (with_reducible repeat (first | refine blk_drewN ?_ _ | refine blk_drew ?_ | refine blk_alloc ?_ _)); exact BK132.out⟩, ⟨by repeat (first | (with_reducible first | exact HB.out | apply below_alloc | apply pw_below_drewN | apply below_drew1 | refine below_set ?_ GE132.out) | exact HB.out)⟩⟩
    · rw [if_neg c4] at H
      have c4b0 : (a0_0 == 1) = false := beq_eq_false_iff_ne.mpr c4
      have c4b1 : (a0_0 != 1) = true := bne_iff_ne.mpr c4
      (first | rw [c4b0] | (simp only [i64_w, i32_w]; rw [c4b0]) | skip)
      by_cases c14 : a0_1 = 0
      · rw [if_pos c14] at H
        have c14b0 : (a0_1 == 0) = true := beq_iff_eq.mpr c14
        have c14b1 : (a0_1 != 0) = false := bne_eq_false_iff_eq.mpr c14
        clear c14
        by_cases c15 : a0_0 = 2
        · rw [if_pos c15] at H
          have c15b0 : (a0_0 == 2) = true := beq_iff_eq.mpr c15
          have c15b1 : (a0_0 != 2) = false := bne_eq_false_iff_eq.mpr c15
          clear c15
          by_cases c16 : a0_0 = 4
          · rw [if_pos c16] at H
            have c16b0 : (a0_0 == 4) = true := beq_iff_eq.mpr c16
            have c16b1 : (a0_0 != 4) = false := bne_eq_false_iff_eq.mpr c16
            clear c16
            have H' := Aside0.mk H
            clear H
            have hcz17_0 : w3.cell? ⟨gb132, 0, none⟩ = some (.int .i64 a0_0) := (blk_cell BK132.out 0).trans rfl
            have hcz17_1 : w3.cell? ⟨gb132, 1, none⟩ = some (.int .i64 a0_1) := (blk_cell BK132.out 1).trans rfl
            have hcz17_2 : w3.cell? ⟨gb132, 2, none⟩ = some (.string a0_2) := (blk_cell BK132.out 2).trans rfl
            have hcz17_3 : w3.cell? ⟨gb132, 3, none⟩ = some (.slice A0_3 l0_3.length c0_3) := (blk_cell BK132.out 3).trans rfl
            have hcz17_4 : w3.cell? ⟨gb132, 4, none⟩ = some (.slice A0_4 l0_4.length c0_4) := (blk_cell BK132.out 4).trans rfl
            have hfz17_0 := blk_frozen BK132.out 0
            have hfz17_1 := blk_frozen BK132.out 1
            have hfz17_2 := blk_frozen BK132.out 2
            have hfz17_3 := blk_frozen BK132.out 3
            have hfz17_4 := blk_frozen BK132.out 4
            go_wp2
            go_meet
            case rel => exact ⟨_, (false), (by first | rfl | (simp; done) | (simp [*]; done)), H', ⟨by first | omega | exact Nat.le_refl _⟩, ⟨by (with_reducible repeat (first | refine blk_drewN ?_ _ | refine blk_drew ?_ | refine blk_alloc ?_ _)); exact BK132.out⟩, ⟨by repeat (first | (with_reducible first | exact HB.out | apply below_alloc | apply pw_below_drewN | apply below_drew1 | refine below_set ?_ GE132.out) | exact HB.out)⟩⟩
          · rw [if_neg c16] at H
            have c16b0 : (a0_0 == 4) = false := beq_eq_false_iff_ne.mpr c16
            have c16b1 : (a0_0 != 4) = true := bne_iff_ne.mpr c16
            have H' := Aside0.mk H
            clear H
            have hcz18_0 : w3.cell? ⟨gb132, 0, none⟩ = some (.int .i64 a0_0) := (blk_cell BK132.out 0).trans rfl
            have hcz18_1 : w3.cell? ⟨gb132, 1, none⟩ = some (.int .i64 a0_1) := (blk_cell BK132.out 1).trans rfl
            have hcz18_2 : w3.cell? ⟨gb132, 2, none⟩ = some (.string a0_2) := (blk_cell BK132.out 2).trans rfl
            have hcz18_3 : w3.cell? ⟨gb132, 3, none⟩ = some (.slice A0_3 l0_3.length c0_3) := (blk_cell BK132.out 3).trans rfl
            have hcz18_4 : w3.cell? ⟨gb132, 4, none⟩ = some (.slice A0_4 l0_4.length c0_4) := (blk_cell BK132.out 4).trans rfl
            have hfz18_0 := blk_frozen BK132.out 0
            have hfz18_1 := blk_frozen BK132.out 1
            have hfz18_2 := blk_frozen BK132.out 2
            have hfz18_3 := blk_frozen BK132.out 3
            have hfz18_4 := blk_frozen BK132.out 4
            go_wp2
            go_meet
            case rel => exact ⟨_, (decide ((l0_3.length : Int) > 0)), (by first | rfl | (simp; done) | (simp [*]; done)), H', ⟨by first | omega | exact Nat.le_refl _⟩, ⟨by (with_reducible repeat (first | refine blk_drewN ?_ _ | refine blk_drew ?_ | refine blk_alloc ?_ _)); exact BK132.out⟩, ⟨by repeat (first | (with_reducible first | exact HB.out | apply below_alloc | apply pw_below_drewN | apply below_drew1 | refine below_set ?_ GE132.out) | exact HB.out)⟩⟩
        · rw [if_neg c15] at H
          have c15b0 : (a0_0 == 2) = false := beq_eq_false_iff_ne.mpr c15
          have c15b1 : (a0_0 != 2) = true := bne_iff_ne.mpr c15
          by_cases c19 : a0_2.toList = ([] : List UInt8)
          · rw [if_pos c19] at H
            have c19b0 : (a0_2.toList == ([] : List UInt8)) = true := beq_iff_eq.mpr c19
            have c19b1 : (a0_2.toList != ([] : List UInt8)) = false := bne_eq_false_iff_eq.mpr c19
            clear c19
            by_cases c20 : a0_0 = 4
            · rw [if_pos c20] at H
              have c20b0 : (a0_0 == 4) = true := beq_iff_eq.mpr c20
              have c20b1 : (a0_0 != 4) = false := bne_eq_false_iff_eq.mpr c20
              clear c20
              have H' := Aside0.mk H
              clear H
              have hcz21_0 : w3.cell? ⟨gb132, 0, none⟩ = some (.int .i64 a0_0) := (blk_cell BK132.out 0).trans rfl
              have hcz21_1 : w3.cell? ⟨gb132, 1, none⟩ = some (.int .i64 a0_1) := (blk_cell BK132.out 1).trans rfl
              have hcz21_2 : w3.cell? ⟨gb132, 2, none⟩ = some (.string a0_2) := (blk_cell BK132.out 2).trans rfl
              have hcz21_3 : w3.cell? ⟨gb132, 3, none⟩ = some (.slice A0_3 l0_3.length c0_3) := (blk_cell BK132.out 3).trans rfl
              have hcz21_4 : w3.cell? ⟨gb132, 4, none⟩ = some (.slice A0_4 l0_4.length c0_4) := (blk_cell BK132.out 4).trans rfl
              have hfz21_0 := blk_frozen BK132.out 0
              have hfz21_1 := blk_frozen BK132.out 1
              have hfz21_2 := blk_frozen BK132.out 2
              have hfz21_3 := blk_frozen BK132.out 3
              have hfz21_4 := blk_frozen BK132.out 4
              go_wp2
              go_meet
              case rel => exact ⟨_, (false), (by first | rfl | (simp; done) | (simp [*]; done)), H', ⟨by first | omega | exact Nat.le_refl _⟩, ⟨by (with_reducible repeat (first | refine blk_drewN ?_ _ | refine blk_drew ?_ | refine blk_alloc ?_ _)); exact BK132.out⟩, ⟨by repeat (first | (with_reducible first | exact HB.out | apply below_alloc | apply pw_below_drewN | apply below_drew1 | refine below_set ?_ GE132.out) | exact HB.out)⟩⟩
            · rw [if_neg c20] at H
              have c20b0 : (a0_0 == 4) = false := beq_eq_false_iff_ne.mpr c20
              have c20b1 : (a0_0 != 4) = true := bne_iff_ne.mpr c20
              have H' := Aside0.mk H
              clear H
              have hcz22_0 : w3.cell? ⟨gb132, 0, none⟩ = some (.int .i64 a0_0) := (blk_cell BK132.out 0).trans rfl
              have hcz22_1 : w3.cell? ⟨gb132, 1, none⟩ = some (.int .i64 a0_1) := (blk_cell BK132.out 1).trans rfl
              have hcz22_2 : w3.cell? ⟨gb132, 2, none⟩ = some (.string a0_2) := (blk_cell BK132.out 2).trans rfl
              have hcz22_3 : w3.cell? ⟨gb132, 3, none⟩ = some (.slice A0_3 l0_3.length c0_3) := (blk_cell BK132.out 3).trans rfl
              have hcz22_4 : w3.cell? ⟨gb132, 4, none⟩ = some (.slice A0_4 l0_4.length c0_4) := (blk_cell BK132.out 4).trans rfl
              have hfz22_0 := blk_frozen BK132.out 0
              have hfz22_1 := blk_frozen BK132.out 1
              have hfz22_2 := blk_frozen BK132.out 2
              have hfz22_3 := blk_frozen BK132.out 3
              have hfz22_4 := blk_frozen BK132.out 4
              go_wp2
              go_meet
              case rel => exact ⟨_, (decide ((l0_3.length : Int) > 0)), (by first | rfl | (simp; done) | (simp [*]; done)), H', ⟨by first | omega | exact Nat.le_refl _⟩, ⟨by (with_reducible repeat (first | refine blk_drewN ?_ _ | refine blk_drew ?_ | refine blk_alloc ?_ _)); exact BK132.out⟩, ⟨by repeat (first | (with_reducible first | exact HB.out | apply below_alloc | apply pw_below_drewN | apply below_drew1 | refine below_set ?_ GE132.out) | exact HB.out)⟩⟩
          · rw [if_neg c19] at H
            have c19b0 : (a0_2.toList == ([] : List UInt8)) = false := beq_eq_false_iff_ne.mpr c19
            have c19b1 : (a0_2.toList != ([] : List UInt8)) = true := bne_iff_ne.mpr c19
            have H' := Aside0.mk H
            clear H
            have hcz23_0 : w3.cell? ⟨gb132, 0, none⟩ = some (.int .i64 a0_0) := (blk_cell BK132.out 0).trans rfl
            have hcz23_1 : w3.cell? ⟨gb132, 1, none⟩ = some (.int .i64 a0_1) := (blk_cell BK132.out 1).trans rfl
            have hcz23_2 : w3.cell? ⟨gb132, 2, none⟩ = some (.string a0_2) := (blk_cell BK132.out 2).trans rfl
            have hcz23_3 : w3.cell? ⟨gb132, 3, none⟩ = some (.slice A0_3 l0_3.length c0_3) := (blk_cell BK132.out 3).trans rfl
            have hcz23_4 : w3.cell? ⟨gb132, 4, none⟩ = some (.slice A0_4 l0_4.length c0_4) := (blk_cell BK132.out 4).trans rfl
            have hfz23_0 := blk_frozen BK132.out 0
            have hfz23_1 := blk_frozen BK132.out 1
            have hfz23_2 := blk_frozen BK132.out 2
            have hfz23_3 := blk_frozen BK132.out 3
            have hfz23_4 := blk_frozen BK132.out 4
            go_wp2
            go_meet
            case rel => exact ⟨_, (true), (by first | rfl | (simp; done) | (simp [*]; done)), H', ⟨by first | omega | exact Nat.le_refl _⟩, ⟨by (with_reducible repeat (first | refine blk_drewN ?_ _ | refine blk_drew ?_ | refine blk_alloc ?_ _)); exact BK132.out⟩, ⟨by repeat (first | (with_reducible first | exact HB.out | apply below_alloc | apply pw_below_drewN | apply below_drew1 | refine below_set ?_ GE132.out) | exact HB.out)⟩⟩
      · rw [if_neg c14] at H
        have c14b0 : (a0_1 == 0) = false := beq_eq_false_iff_ne.mpr c14
        have c14b1 : (a0_1 != 0) = true := bne_iff_ne.mpr c14
        have H' := Aside0.mk H
        clear H
        have hcz24_0 : w3.cell? ⟨gb132, 0, none⟩ = some (.int .i64 a0_0) := (blk_cell BK132.out 0).trans rfl
        have hcz24_1 : w3.cell? ⟨gb132, 1, none⟩ = some (.int .i64 a0_1) := (blk_cell BK132.out 1).trans rfl
        have hcz24_2 : w3.cell? ⟨gb132, 2, none⟩ = some (.string a0_2) := (blk_cell BK132.out 2).trans rfl
        have hcz24_3 : w3.cell? ⟨gb132, 3, none⟩ = some (.slice A0_3 l0_3.length c0_3) := (blk_cell BK132.out 3).trans rfl
        have hcz24_4 : w3.cell? ⟨gb132, 4, none⟩ = some (.slice A0_4 l0_4.length c0_4) := (blk_cell BK132.out 4).trans rfl
        have hfz24_0 := blk_frozen BK132.out 0
        have hfz24_1 := blk_frozen BK132.out 1
        have hfz24_2 := blk_frozen BK132.out 2
        have hfz24_3 := blk_frozen BK132.out 3
        have hfz24_4 := blk_frozen BK132.out 4
        go_wp2
        go_meet
        case rel => exact ⟨_, (true), (by first | rfl | (simp; done) | (simp [*]; done)), H', ⟨by first | omega | exact Nat.le_refl _⟩, ⟨by (with_reducible repeat (first | refine blk_drewN ?_ _ | refine blk_drew ?_ | refine blk_alloc ?_ _)); exact BK132.out⟩, ⟨by repeat (first | (with_reducible first | exact HB.out | apply below_alloc | apply pw_below_drewN | apply below_drew1 | refine below_set ?_ GE132.out) | exact HB.out)⟩⟩
  case rest =>
    clear HC2
    try clear c1
    try clear c2
    try clear p2
    try clear c3
    try clear c4
    try clear c4b0
    try clear c4b1
    try clear c5
    try clear c5b0
    try clear c5b1
    try clear c6
    try clear c6b0
    try clear c6b1
    try clear c9
    try clear c9b0
    try clear c9b1
    try clear c10
    try clear c10b0
    try clear c10b1
    try clear c14
    try clear c14b0
    try clear c14b1
    try clear c15
    try clear c15b0
    try clear c15b1
    try clear c16
    try clear c16b0
    try clear c16b1
    try clear c19
    try clear c19b0
    try clear c19b1
    try clear c20
    try clear c20b0
    try clear c20b1
    try clear hcz11_0
    try clear hcz11_1
    try clear hcz11_2
    try clear hcz11_3
    try clear hcz11_4
    try clear hcz12_0
    try clear hcz12_1
    try clear hcz12_2
    try clear hcz12_3
    try clear hcz12_4
    try clear hcz13_0
    try clear hcz13_1
    try clear hcz13_2
    try clear hcz13_3
    try clear hcz13_4
    try clear hcz17_0
    try clear hcz17_1
    try clear hcz17_2
    try clear hcz17_3
    try clear hcz17_4
    try clear hcz18_0
    try clear hcz18_1
    try clear hcz18_2
    try clear hcz18_3
    try clear hcz18_4
    try clear hcz21_0
    try clear hcz21_1
    try clear hcz21_2
    try clear hcz21_3
    try clear hcz21_4
    try clear hcz22_0
    try clear hcz22_1
    try clear hcz22_2
    try clear hcz22_3
    try clear hcz22_4
    try clear hcz23_0
    try clear hcz23_1
    try clear hcz23_2
    try clear hcz23_3
    try clear hcz23_4
    try clear hcz24_0
    try clear hcz24_1
    try clear hcz24_2
    try clear hcz24_3
    try clear hcz24_4
    try clear hcz7_0
    try clear hcz7_1
    try clear hcz7_2
    try clear hcz7_3
    try clear hcz7_4
    try clear hcz8_0
    try clear hcz8_1
    try clear hcz8_2
    try clear hcz8_3
    try clear hcz8_4
    try clear hfz11_0
    try clear hfz11_1
    try clear hfz11_2
    try clear hfz11_3
    try clear hfz11_4
    try clear hfz12_0
    try clear hfz12_1
    try clear hfz12_2
    try clear hfz12_3
    try clear hfz12_4
    try clear hfz13_0
    try clear hfz13_1
    try clear hfz13_2
    try clear hfz13_3
    try clear hfz13_4
    try clear hfz17_0
    try clear hfz17_1
    try clear hfz17_2
    try clear hfz17_3
    try clear hfz17_4
    try clear hfz18_0
    try clear hfz18_1
    try clear hfz18_2
    try clear hfz18_3
    try clear hfz18_4
    try clear hfz21_0
    try clear hfz21_1
    try clear hfz21_2
    try clear hfz21_3
    try clear hfz21_4
    try clear hfz22_0
    try clear hfz22_1
    try clear hfz22_2
    try clear hfz22_3
    try clear hfz22_4
    try clear hfz23_0
    try clear hfz23_1
    try clear hfz23_2
    try clear hfz23_3
    try clear hfz23_4
    try clear hfz24_0
    try clear hfz24_1
    try clear hfz24_2
    try clear hfz24_3
    try clear hfz24_4
    try clear hfz7_0
    try clear hfz7_1
    try clear hfz7_2
    try clear hfz7_3
    try clear hfz7_4
    try clear hfz8_0
    try clear hfz8_1
    try clear hfz8_2
    try clear hfz8_3
    try clear hfz8_4
    obtain ⟨kq, x31_1, rfl, HA, HJ1, BK132, HB⟩ := hcut
    cases kq with
    | zero => exact absurd HA.out (by simp [annuletref11_fields.j0])
    | succ kj1 =>
      have H := HA.out
      clear HA
      simp only [annuletref11_fields.j0] at H
      by_cases c25 : x31_1 = true
      · subst c25
        have H1 : (some true) = some r := by rw [if_pos rfl] at H; exact H
        clear H
        have H := H1
        clear H1
        obtain rfl := Option.some.inj H
        go_wp2
        all_goals go_ret
        all_goals first | (exact ⟨by first | rfl | (simp [errW_none, errW_some] <;> rfl) | (simp [*, errW_none, errW_some] <;> rfl), by repeat (first | (with_reducible first | exact HB.out | apply below_alloc | apply pw_below_drewN | apply below_drew1 | refine below_set ?_ GE132.out) | exact HB.out)⟩) | (exfalso; simp_all; done)
      · replace c25 := Bool.eq_false_iff.mpr c25
        subst c25
        have H1 : (if a0_0 < 3 then (some (decide ((l0_4.length : Int) > 0))) else (if a0_0 = 4 then (some ((l0_3.length : Int) != (l0_4.length : Int))) else (some false))) = some r := by rw [if_neg (show ¬ (false = true) by decide)] at H; exact H
        clear H
        have H := H1
        clear H1
        by_cases c26 : a0_0 < 3
        · rw [if_pos c26] at H
          have c26b0 : decide (a0_0 < 3) = true := decide_eq_true c26
          clear c26
          obtain rfl := Option.some.inj H
          have hcz27_0 : wc.cell? ⟨gb132, 0, none⟩ = some (.int .i64 a0_0) := (blk_cell BK132.out 0).trans rfl
          have hcz27_1 : wc.cell? ⟨gb132, 1, none⟩ = some (.int .i64 a0_1) := (blk_cell BK132.out 1).trans rfl
          have hcz27_2 : wc.cell? ⟨gb132, 2, none⟩ = some (.string a0_2) := (blk_cell BK132.out 2).trans rfl
          have hcz27_3 : wc.cell? ⟨gb132, 3, none⟩ = some (.slice A0_3 l0_3.length c0_3) := (blk_cell BK132.out 3).trans rfl
          have hcz27_4 : wc.cell? ⟨gb132, 4, none⟩ = some (.slice A0_4 l0_4.length c0_4) := (blk_cell BK132.out 4).trans rfl
          have hfz27_0 := blk_frozen BK132.out 0
          have hfz27_1 := blk_frozen BK132.out 1
          have hfz27_2 := blk_frozen BK132.out 2
          have hfz27_3 := blk_frozen BK132.out 3
          have hfz27_4 := blk_frozen BK132.out 4
          go_wp2
          all_goals go_ret
          all_goals first | (exact ⟨by first | rfl | (simp [errW_none, errW_some] <;> rfl) | (simp [*, errW_none, errW_some] <;> rfl), by repeat (first | (with_reducible first | exact HB.out | apply below_alloc | apply pw_below_drewN | apply below_drew1 | refine below_set ?_ GE132.out) | exact HB.out)⟩) | (exfalso; simp_all; done)
        · rw [if_neg c26] at H
          have c26b0 : decide (a0_0 < 3) = false := decide_eq_false c26
          clear c26
          by_cases c28 : a0_0 = 4
          · rw [if_pos c28] at H
            have c28b0 : (a0_0 == 4) = true := beq_iff_eq.mpr c28
            have c28b1 : (a0_0 != 4) = false := bne_eq_false_iff_eq.mpr c28
            clear c28
            obtain rfl := Option.some.inj H
            have hcz29_0 : wc.cell? ⟨gb132, 0, none⟩ = some (.int .i64 a0_0) := (blk_cell BK132.out 0).trans rfl
            have hcz29_1 : wc.cell? ⟨gb132, 1, none⟩ = some (.int .i64 a0_1) := (blk_cell BK132.out 1).trans rfl
            have hcz29_2 : wc.cell? ⟨gb132, 2, none⟩ = some (.string a0_2) := (blk_cell BK132.out 2).trans rfl
            have hcz29_3 : wc.cell? ⟨gb132, 3, none⟩ = some (.slice A0_3 l0_3.length c0_3) := (blk_cell BK132.out 3).trans rfl
            have hcz29_4 : wc.cell? ⟨gb132, 4, none⟩ = some (.slice A0_4 l0_4.length c0_4) := (blk_cell BK132.out 4).trans rfl
            have hfz29_0 := blk_frozen BK132.out 0
            have hfz29_1 := blk_frozen BK132.out 1
            have hfz29_2 := blk_frozen BK132.out 2
            have hfz29_3 := blk_frozen BK132.out 3
            have hfz29_4 := blk_frozen BK132.out 4
            go_wp2
            all_goals go_ret
            all_goals first | (exact ⟨by first | rfl | (simp [errW_none, errW_some] <;> rfl) | (simp [*, errW_none, errW_some] <;> rfl), by repeat (first | (with_reducible first | exact HB.out | apply below_alloc | apply pw_below_drewN | apply below_drew1 | refine below_set ?_ GE132.out) | exact HB.out)⟩) | (exfalso; simp_all; done)
          · rw [if_neg c28] at H
            have c28b0 : (a0_0 == 4) = false := beq_eq_false_iff_ne.mpr c28
            have c28b1 : (a0_0 != 4) = true := bne_iff_ne.mpr c28
            obtain rfl := Option.some.inj H
            have hcz30_0 : wc.cell? ⟨gb132, 0, none⟩ = some (.int .i64 a0_0) := (blk_cell BK132.out 0).trans rfl
            have hcz30_1 : wc.cell? ⟨gb132, 1, none⟩ = some (.int .i64 a0_1) := (blk_cell BK132.out 1).trans rfl
            have hcz30_2 : wc.cell? ⟨gb132, 2, none⟩ = some (.string a0_2) := (blk_cell BK132.out 2).trans rfl
            have hcz30_3 : wc.cell? ⟨gb132, 3, none⟩ = some (.slice A0_3 l0_3.length c0_3) := (blk_cell BK132.out 3).trans rfl
            have hcz30_4 : wc.cell? ⟨gb132, 4, none⟩ = some (.slice A0_4 l0_4.length c0_4) := (blk_cell BK132.out 4).trans rfl
            have hfz30_0 := blk_frozen BK132.out 0
            have hfz30_1 := blk_frozen BK132.out 1
            have hfz30_2 := blk_frozen BK132.out 2
            have hfz30_3 := blk_frozen BK132.out 3
            have hfz30_4 := blk_frozen BK132.out 4
            go_wp2
            all_goals go_ret
            all_goals first | (exact ⟨by first | rfl | (simp [errW_none, errW_some] <;> rfl) | (simp [*, errW_none, errW_some] <;> rfl), by repeat (first | (with_reducible first | exact HB.out | apply below_alloc | apply pw_below_drewN | apply below_drew1 | refine below_set ?_ GE132.out) | exact HB.out)⟩) | (exfalso; simp_all; done)

/-! ### annuletref11_Less: function 39 -/
mutual
def annuletref11_Less.l0 : Nat → ByteArray → ByteArray → Int → Option (Bool)
  | 0, _, _, _ => none
  | k + 1, x0, x1, x5 => if x5 < (x0.size : Int) then (annuletref11_Less.j1 k x0 x1 x5 (decide (x5 < (x1.size : Int)))) else (annuletref11_Less.j1 k x0 x1 x5 false)
def annuletref11_Less.j1 : Nat → ByteArray → ByteArray → Int → Bool → Option (Bool)
  | 0, _, _, _, _ => none
  | k + 1, x0, x1, x5, x15 => if x15 = true then (if 0 ≤ x5 then (if x5 < (x0.size : Int) then (if x5 < (x1.size : Int) then (if (bt x0 x5) = (bt x1 x5) then (annuletref11_Less.l0 k x0 x1 (wrap64 (x5 + 1))) else (some (decide ((bt x0 x5) < (bt x1 x5))))) else (none)) else (none)) else (none)) else (some (decide ((x0.size : Int) < (x1.size : Int))))
end
def annuletref11_Less.f (k : Nat) (a0 : ByteArray) (a1 : ByteArray) : Option (Bool) := annuletref11_Less.l0 k a0 a1 0
theorem annuletref11_Less.mono_l : ∀ k, (∀ y0 y1 y2, LeO (annuletref11_Less.l0 k y0 y1 y2) (annuletref11_Less.l0 (k + 1) y0 y1 y2)) ∧ (∀ y0 y1 y2 y3, LeO (annuletref11_Less.j1 k y0 y1 y2 y3) (annuletref11_Less.j1 (k + 1) y0 y1 y2 y3))
  | 0 => ⟨fun _ _ _ r h => by simp [annuletref11_Less.l0] at h, fun _ _ _ _ r h => by simp [annuletref11_Less.j1] at h⟩
  | k + 1 => by
    obtain ⟨ih0, ih1⟩ := annuletref11_Less.mono_l k
    refine ⟨?_, ?_⟩
    · intro y0 y1 y2
      unfold annuletref11_Less.l0
      repeat' first
      | (with_reducible exact ih0 _ _ _)
      | (with_reducible exact ih1 _ _ _ _)
      | (with_reducible exact LeO.refl _)
      | (with_reducible exact LeO.none _)
      | (with_reducible refine LeO.ite ?_ ?_)
      | (with_reducible refine LeO.bind ?_ (fun _ => ?_))
      | exact ih0 _ _ _
      | exact ih1 _ _ _ _
      | exact LeO.none _
      | refine LeO.ite ?_ ?_
      | refine LeO.bind ?_ (fun _ => ?_)
    · intro y0 y1 y2 y3
      unfold annuletref11_Less.j1
      repeat' first
      | (with_reducible exact ih0 _ _ _)
      | (with_reducible exact ih1 _ _ _ _)
      | (with_reducible exact LeO.refl _)
      | (with_reducible exact LeO.none _)
      | (with_reducible refine LeO.ite ?_ ?_)
      | (with_reducible refine LeO.bind ?_ (fun _ => ?_))
      | exact ih0 _ _ _
      | exact ih1 _ _ _ _
      | exact LeO.none _
      | refine LeO.ite ?_ ?_
      | refine LeO.bind ?_ (fun _ => ?_)
theorem annuletref11_Less.mono : ∀ a0 a1 k, LeO (annuletref11_Less.f k a0 a1) (annuletref11_Less.f (k + 1) a0 a1) := by
  intro a0 a1 k
  obtain ⟨ih0, ih1⟩ := annuletref11_Less.mono_l k
  unfold annuletref11_Less.f
  repeat' first
      | (with_reducible exact ih0 _ _ _)
      | (with_reducible exact ih1 _ _ _ _)
      | (with_reducible exact LeO.refl _)
      | (with_reducible exact LeO.none _)
      | (with_reducible refine LeO.ite ?_ ?_)
      | (with_reducible refine LeO.bind ?_ (fun _ => ?_))
      | exact ih0 _ _ _
      | exact ih1 _ _ _ _
      | exact LeO.none _
      | refine LeO.ite ?_ ?_
      | refine LeO.bind ?_ (fun _ => ?_)
set_option maxHeartbeats 3000000 in
set_option maxRecDepth 100000 in
theorem annuletref11_Less.calls (k : Nat) (a0 : ByteArray) (a1 : ByteArray) (r : Bool) (w : World) (h : annuletref11_Less.f k a0 a1 = some r) :
    Calls Try.prog 39 #[.string a0, .string a1] w fun e w' => e = .returned (.bool r) ∧ Drawn0 w w' := by
  have H : (annuletref11_Less.l0 k a0 a1 0) = some r := h
  clear h
  have H' := Aside0.mk H
  clear H
  go_enter Try.func39, Try.ntmps39
  go_wp2
  repeat (go_quiet (fail); try go_wp2)
  go_loopg [5] k (fun kq v5 w' => ∃ (x5_1 : Int), v5 = .int .i64 x5_1 ∧ Aside0 (annuletref11_Less.l0 kq a0 a1 x5_1 = some r) ∧ Aside0 (kq ≤ k) ∧ Drawn0 w w')
  case atStart => exact ⟨(0), (by first | rfl | (simp; done) | (simp [*]; done)), H', ⟨Nat.le_refl _⟩, by repeat (first | exact Drawn0.refl _ | apply Drawn0.step)⟩
  case round =>
    clear H'
    try clear p2
    obtain ⟨x5_1, rfl, HA, HK1, ⟨m1, rfl⟩⟩ := hrel
    cases gk with
    | zero => exact absurd HA.out (by simp [annuletref11_Less.l0])
    | succ k1 =>
      have H := HA.out
      clear HA
      simp only [annuletref11_Less.l0] at H
      have HC3 := Aside0.mk H
      clear H
      go_upto_region 2 with (fail)
      repeat (go_quiet (fail); go_upto_region 2 with (fail))
      go_cut [15] (fun v15 wc => ∃ (kq : Nat) (x15_2 : Bool), v15 = .bool x15_2 ∧ Aside0 (annuletref11_Less.j1 kq a0 a1 x5_1 x15_2 = some r) ∧ Aside0 (kq ≤ k1) ∧ Drawn0 w wc)
      case first =>
        have H := HC3.out
        clear HC3
        by_cases c4 : x5_1 < (a0.size : Int)
        · rw [if_pos c4] at H
          have c4b0 : decide (x5_1 < (a0.size : Int)) = true := decide_eq_true c4
          clear c4
          (first | rw [c4b0] | (simp only [i64_w, i32_w]; rw [c4b0]) | skip)
          have H' := Aside0.mk H
          clear H
          go_wp2
          repeat (go_quiet (fail); try go_wp2)
          go_meet
          case rel => exact ⟨_, (decide (x5_1 < (a1.size : Int))), (by first | rfl | (simp; done) | (simp [*]; done)), H', ⟨by have := HK1.out; first | omega | exact Nat.le_refl _⟩, by repeat (first | exact Drawn0.refl _ | apply Drawn0.step)⟩
        · rw [if_neg c4] at H
          have c4b0 : decide (x5_1 < (a0.size : Int)) = false := decide_eq_false c4
          clear c4
          (first | rw [c4b0] | (simp only [i64_w, i32_w]; rw [c4b0]) | skip)
          have H' := Aside0.mk H
          clear H
          go_wp2
          repeat (go_quiet (fail); try go_wp2)
          go_meet
          case rel => exact ⟨_, (false), (by first | rfl | (simp; done) | (simp [*]; done)), H', ⟨by have := HK1.out; first | omega | exact Nat.le_refl _⟩, by repeat (first | exact Drawn0.refl _ | apply Drawn0.step)⟩
      case rest =>
        clear HC3
        try clear p2
        try clear c3
        try clear c4
        try clear c4b0
        try clear p2
        obtain ⟨kq, x15_2, rfl, HA, HJ2, ⟨mc2, rfl⟩⟩ := hcut
        cases kq with
        | zero => exact absurd HA.out (by simp [annuletref11_Less.j1])
        | succ kj2 =>
          have H := HA.out
          clear HA
          simp only [annuletref11_Less.j1] at H
          by_cases c5 : x15_2 = true
          · subst c5
            have H1 : (if 0 ≤ x5_1 then (if x5_1 < (a0.size : Int) then (if x5_1 < (a1.size : Int) then (if (bt a0 x5_1) = (bt a1 x5_1) then (annuletref11_Less.l0 kj2 a0 a1 (wrap64 (x5_1 + 1))) else (some (decide ((bt a0 x5_1) < (bt a1 x5_1))))) else (none)) else (none)) else (none)) = some r := by rw [if_pos rfl] at H; exact H
            clear H
            have H := H1
            clear H1
            by_cases c6 : 0 ≤ x5_1
            · rw [if_pos c6] at H
              have c6b0 : decide (0 ≤ x5_1) = true := decide_eq_true c6
              clear c6
              by_cases c7 : x5_1 < (a0.size : Int)
              · rw [if_pos c7] at H
                have c7b0 : decide (x5_1 < (a0.size : Int)) = true := decide_eq_true c7
                clear c7
                by_cases c9 : x5_1 < (a1.size : Int)
                · rw [if_pos c9] at H
                  have c9b0 : decide (x5_1 < (a1.size : Int)) = true := decide_eq_true c9
                  clear c9
                  by_cases c11 : (bt a0 x5_1) = (bt a1 x5_1)
                  · rw [if_pos c11] at H
                    have c11b0 : ((bt a0 x5_1) == (bt a1 x5_1)) = true := beq_iff_eq.mpr c11
                    have c11b1 : ((bt a0 x5_1) != (bt a1 x5_1)) = false := bne_eq_false_iff_eq.mpr c11
                    clear c11
                    have H' := Aside0.mk H
                    clear H
                    have p8 : 0 ≤ (x5_1 : Int) := of_decide_eq_true (by first | (with_reducible assumption) | assumption)
                    have q8 : x5_1 < (a0.size : Int) := of_decide_eq_true (by first | (with_reducible assumption) | assumption)
                    have hx8 := bt_at a0 x5_1
                    replace p8 := eq_true p8
                    replace q8 := eq_true q8
                    have p10 : 0 ≤ (x5_1 : Int) := of_decide_eq_true (by first | (with_reducible assumption) | assumption)
                    have q10 : x5_1 < (a1.size : Int) := of_decide_eq_true (by first | (with_reducible assumption) | assumption)
                    have hx10 := bt_at a1 x5_1
                    replace p10 := eq_true p10
                    replace q10 := eq_true q10
                    go_wp2
                    repeat (go_quiet (fail); try go_wp2)
                    go_roundg kj2
                    case measure => have := HK1.out; have := HJ2.out; omega
                    case rel => exact ⟨(wrap64 (x5_1 + 1)), (by first | rfl | (simp; done) | (simp [*]; done)), H', ⟨by have := HK1.out; have := HJ2.out; omega⟩, by repeat (first | exact Drawn0.refl _ | apply Drawn0.step)⟩
                  · rw [if_neg c11] at H
                    have c11b0 : ((bt a0 x5_1) == (bt a1 x5_1)) = false := beq_eq_false_iff_ne.mpr c11
                    have c11b1 : ((bt a0 x5_1) != (bt a1 x5_1)) = true := bne_iff_ne.mpr c11
                    obtain rfl := Option.some.inj H
                    have p8 : 0 ≤ (x5_1 : Int) := of_decide_eq_true (by first | (with_reducible assumption) | assumption)
                    have q8 : x5_1 < (a0.size : Int) := of_decide_eq_true (by first | (with_reducible assumption) | assumption)
                    have hx8 := bt_at a0 x5_1
                    replace p8 := eq_true p8
                    replace q8 := eq_true q8
                    have p10 : 0 ≤ (x5_1 : Int) := of_decide_eq_true (by first | (with_reducible assumption) | assumption)
                    have q10 : x5_1 < (a1.size : Int) := of_decide_eq_true (by first | (with_reducible assumption) | assumption)
                    have hx10 := bt_at a1 x5_1
                    replace p10 := eq_true p10
                    replace q10 := eq_true q10
                    have p12 : 0 ≤ (x5_1 : Int) := of_decide_eq_true (by first | (with_reducible assumption) | assumption)
                    have q12 : x5_1 < (a0.size : Int) := of_decide_eq_true (by first | (with_reducible assumption) | assumption)
                    have hx12 := bt_at a0 x5_1
                    replace p12 := eq_true p12
                    replace q12 := eq_true q12
                    have p13 : 0 ≤ (x5_1 : Int) := of_decide_eq_true (by first | (with_reducible assumption) | assumption)
                    have q13 : x5_1 < (a1.size : Int) := of_decide_eq_true (by first | (with_reducible assumption) | assumption)
                    have hx13 := bt_at a1 x5_1
                    replace p13 := eq_true p13
                    replace q13 := eq_true q13
                    go_wp2
                    repeat (go_quiet (fail); try go_wp2)
                    all_goals go_ret
                    all_goals first | (exact ⟨by first | rfl | (simp; done) | (simp [*]; done) | (refine congrArg Ending.returned ?_; show Value.string _ = Value.string _; (first | (congr 2 <;> omega) | (congr 3 <;> omega) | (congr 4 <;> omega))), by repeat (first | exact Drawn0.refl _ | apply Drawn0.step)⟩) | (exfalso; simp_all; done)
                · rw [if_neg c9] at H
                  exact absurd H (by simp)
              · rw [if_neg c7] at H
                exact absurd H (by simp)
            · rw [if_neg c6] at H
              exact absurd H (by simp)
          · replace c5 := Bool.eq_false_iff.mpr c5
            subst c5
            have H1 : (some (decide ((a0.size : Int) < (a1.size : Int)))) = some r := by rw [if_neg (show ¬ (false = true) by decide)] at H; exact H
            clear H
            have H := H1
            clear H1
            obtain rfl := Option.some.inj H
            go_wp2
            repeat (go_quiet (fail); try go_wp2)
            all_goals go_ret
            all_goals first | (exact ⟨by first | rfl | (simp; done) | (simp [*]; done) | (refine congrArg Ending.returned ?_; show Value.string _ = Value.string _; (first | (congr 2 <;> omega) | (congr 3 <;> omega) | (congr 4 <;> omega))), by repeat (first | exact Drawn0.refl _ | apply Drawn0.step)⟩) | (exfalso; simp_all; done)

end Go.Proofs.Ytekcnfngcgchcaa.PBenPrints
