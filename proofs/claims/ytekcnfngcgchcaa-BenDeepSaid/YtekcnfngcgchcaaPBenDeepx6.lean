/- Written by a program of this session (a turned copy of the kit's print): functions of the program, each with the Lean function that it comes to, and the row of one law. No condition. -/
import Derived.Test.YtekcnfngcgchcaaPBenDeepx0
import Derived.Test.YtekcnfngcgchcaaPBenDeepx3
import Derived.Test.YtekcnfngcgchcaaPBenDeepx5
namespace Go.Proofs.Ytekcnfngcgchcaa.PBenDeep
open Go.RowKit Go.Proofs.YtekcnfngcgchcaaW.PrintWords Go.Proofs.YtekcnfngcgchcaaW.PrintLast Go.Proofs.YtekcnfngcgchcaaW.PrintMore
attribute [local go_sem] max2_int min2_int max_two min_two max_three min_three max_four min_four   -- for this text's walks alone
set_option linter.unusedVariables false
set_option linter.unusedSimpArgs false


/-! ### annuletlaw12_awake: function 8 -/
/-! ### the example -/
def awKids : List S25 := [⟨1, 5, ⟨#[]⟩, [], []⟩, ⟨2, 0, ⟨#[97, 98]⟩, [], []⟩]
def awTree : S25 := ⟨3, 0, ⟨#[]⟩, [], awKids⟩
theorem kids_aw (w : World) : k25.C (w.alloc (.cells #[.int .i64 1, .int .i64 5, .string ⟨#[]⟩, .slice none 0 0, .slice none 0 0, .int .i64 2, .int .i64 0, .string ⟨#[97, 98]⟩, .slice none 0 0, .slice none 0 0] 25)) (some ⟨w.heap.size, 0, none⟩) 2 awKids := by
  have hR : k25.R 25 (w.alloc (.cells #[.int .i64 1, .int .i64 5, .string ⟨#[]⟩, .slice none 0 0, .slice none 0 0, .int .i64 2, .int .i64 0, .string ⟨#[97, 98]⟩, .slice none 0 0, .slice none 0 0] 25)) w.heap.size (fun _ => True) (.slice (some ⟨w.heap.size, 0, none⟩) 2 2) awKids := by
    refine ⟨fun _ _ => trivial, _, World.ownsRow_lit w #[.int .i64 1, .int .i64 5, .string ⟨#[]⟩, .slice none 0 0, .slice none 0 0, .int .i64 2, .int .i64 0, .string ⟨#[97, 98]⟩, .slice none 0 0, .slice none 0 0] 2 (Nat.le_refl _) (by decide) rfl, ?_⟩
    exact ((Reps.none _ _).snoc (k25_mkM _ _ _ ⟨1, 5, ⟨#[]⟩, [], []⟩ (Kd.R_nil _ _ _ _ _) (Kd.R_nil _ _ _ _ _)) rfl).snoc (k25_mkM _ _ _ ⟨2, 0, ⟨#[97, 98]⟩, [], []⟩ (Kd.R_nil _ _ _ _ _) (Kd.R_nil _ _ _ _ _)) rfl
  obtain ⟨A, c, he, _, hC⟩ := Kd.R_reads hR
  cases he
  exact hC
def awPart (k : Nat) (l : List Int) (e : Int) : Prop := ∃ T, ben_Parse.f k l = some (T, e)
def law12_awake.ok (k : Nat) : Prop := ben_Print.f k awTree = some ([108, 105, 53, 101, 50, 58, 97, 98, 101], 0) ∧ awPart k [105, 45, 48, 101] 3 ∧ awPart k [50, 58, 97] 2 ∧ awPart k [108, 101, 53] 4 ∧ awPart k [100, 49, 58, 98, 105, 49, 101, 49, 58, 97, 105, 49, 101, 101] 3 ∧ (∃ T, ben_Parse.f k [100, 49, 58, 97, 105, 49, 101, 49, 58, 98, 105, 50, 101, 101] = some (T, 0) ∧ T.f3.length = 2)
theorem parse_lit (k : Nat) (A : Option Addr) (l : List Int) (T : S25) (e0 : Int) (w : World) (hr : (Kd.int .u8).C w A l.length l) (hs : l.length < 100) (h : ben_Parse.f k l = some (T, e0)) :
    Calls Try.prog 11 #[.slice A l.length l.length] w fun e w2 => ∃ (A3 : Option Addr) (c3 : Nat) (A4 : Option Addr) (c4 : Nat), e = .returned (.tuple #[.agg #[.int .i64 T.f0, .int .i64 T.f1, .string T.f2, .slice A3 T.f3.length c3, .slice A4 T.f4.length c4], .int .i64 e0]) ∧ Below w.heap.size w w2 :=
  (ben_Parse.calls k A l.length l T e0 w hr (Nat.le_refl _) (by omega) h).mono (fun e w2 ⟨v3, v4, he, h3, h4, hb⟩ => by
    obtain ⟨A3, c3, rfl⟩ := Kd.R_slice h3
    obtain ⟨A4, c4, rfl⟩ := Kd.R_slice h4
    exact ⟨A3, c3, A4, c4, he, hb⟩)
theorem aw_bytes : (strOfNums [108, 105, 53, 101, 50, 58, 97, 98, 101]).toList = [108, 105, 53, 101, 50, 58, 97, 98, 101] := by
  rw [show strOfNums [108, 105, 53, 101, 50, 58, 97, 98, 101] = (⟨#[108, 105, 53, 101, 50, 58, 97, 98, 101]⟩ : ByteArray) from rfl]
  simp
set_option maxHeartbeats 4000000 in
set_option maxRecDepth 100000 in
theorem law12_awake.calls (k : Nat) (w : World) (h : law12_awake.ok k) : Calls Try.prog 8 #[] w fun e w2 => e = .returned (.bool true) ∧ Below w.heap.size w w2 := by
  have hu25 := Try.underlying25
  obtain ⟨h1, ⟨T2, h2⟩, ⟨T3, h3⟩, ⟨T4, h4⟩, ⟨T5, h5⟩, ⟨T6, h6, h6n⟩⟩ := h
  obtain ⟨l2, q2⟩ : ∃ l : List Int, l = [105, 45, 48, 101] := ⟨_, rfl⟩
  rw [← q2] at h2
  have H2 := Aside0.mk h2
  have N2 := Aside0.mk (show l2.length < 100 by rw [q2]; decide)
  have Q2 := Aside0.mk q2
  obtain ⟨l3, q3⟩ : ∃ l : List Int, l = [50, 58, 97] := ⟨_, rfl⟩
  rw [← q3] at h3
  have H3 := Aside0.mk h3
  have N3 := Aside0.mk (show l3.length < 100 by rw [q3]; decide)
  have Q3 := Aside0.mk q3
  obtain ⟨l4, q4⟩ : ∃ l : List Int, l = [108, 101, 53] := ⟨_, rfl⟩
  rw [← q4] at h4
  have H4 := Aside0.mk h4
  have N4 := Aside0.mk (show l4.length < 100 by rw [q4]; decide)
  have Q4 := Aside0.mk q4
  obtain ⟨l5, q5⟩ : ∃ l : List Int, l = [100, 49, 58, 98, 105, 49, 101, 49, 58, 97, 105, 49, 101, 101] := ⟨_, rfl⟩
  rw [← q5] at h5
  have H5 := Aside0.mk h5
  have N5 := Aside0.mk (show l5.length < 100 by rw [q5]; decide)
  have Q5 := Aside0.mk q5
  obtain ⟨l6, q6⟩ : ∃ l : List Int, l = [100, 49, 58, 97, 105, 49, 101, 49, 58, 98, 105, 50, 101, 101] := ⟨_, rfl⟩
  rw [← q6] at h6
  have H6 := Aside0.mk h6
  have N6 := Aside0.mk (show l6.length < 100 by rw [q6]; decide)
  have Q6 := Aside0.mk q6
  obtain ⟨rr, qr⟩ : ∃ l : List Int, l = [108, 105, 53, 101, 50, 58, 97, 98, 101] := ⟨_, rfl⟩
  rw [← qr] at h1
  have QR := Aside0.mk qr
  have hst : (strOfNums rr).toList = [108, 105, 53, 101, 50, 58, 97, 98, 101] := by rw [qr]; exact aw_bytes
  have HPr := Aside0.mk (show ∀ W : World, k25.C W (some ⟨w.heap.size, 0, none⟩) 2 awKids → Calls Try.prog 9 #[.agg #[.int .i64 3, .int .i64 0, .string ⟨#[]⟩, .slice none 0 0, .slice (some ⟨w.heap.size, 0, none⟩) 2 2]] W fun e w2 => ∃ v, e = .returned (.tuple #[v, .int .i64 0]) ∧ PutS W w2 v rr from fun W hC => ben_Print.calls k awTree none (some ⟨w.heap.size, 0, none⟩) 0 2 rr 0 W (Kd.C_nil _ _) (Nat.le_refl _) hC (Nat.le_refl _) h1)
  have HK := Aside0.mk (kids_aw w)
  have HB0 := Aside0.mk (below_alloc (Below.refl w.heap.size w) (.cells #[.int .i64 1, .int .i64 5, .string ⟨#[]⟩, .slice none 0 0, .slice none 0 0, .int .i64 2, .int .i64 0, .string ⟨#[97, 98]⟩, .slice none 0 0, .slice none 0 0] 25))
  have H6N := Aside0.mk h6n
  clear h1 h2 h3 h4 h5 h6 q2 q3 q4 q5 q6 qr h6n
  go_enter Try.func8, Try.ntmps8
  go_upto_region 2 with (go_at_call 9; (with_reducible refine (HPr.out _ HK.out).mono ?_); rintro e w1 ⟨v, rfl, hp⟩; have HB1 := Aside0.mk (below_step HB0.out (Below.mono hp.bel (Nat.le_refl _))); have HP1 := Aside0.mk hp; clear hp)
  go_upto_region 3 with (first | ((with_reducible refine gate_dst (N := 22) rfl ?_); refine bconst_event rfl rfl (N1 := 22) (N2 := 23) rfl rfl (l := l2) (t := 28) (e := 5) Try.underlying28 Try.underlying5 rfl (by simp) (by have := N2.out; omega) ?hr ?_; (case hr => (rw [Q2.out]; first | (go_simp; done) | (go_simp; rfl))); intro B2 wb hC hb; have HC2 := Aside0.mk hC; have HBb := Aside0.mk (below_step HB1.out hb); have HPb := Aside0.mk (HP1.out.later hb); clear hC hb) | (go_at_call 11; (with_reducible refine (parse_lit k B2 l2 T2 3 _ HC2.out N2.out H2.out).mono ?_); rintro e wc ⟨A3, c3, A4, c4, rfl, hb⟩; have HBc := Aside0.mk (below_step HBb.out hb); have HPc := Aside0.mk (HPb.out.later hb); clear hb))
  have HB2 := Aside0.mk (below_step HBc.out (below_alloc (Below.refl _ _) (.cells #[.int .i64 T2.f0, .int .i64 T2.f1, .string T2.f2, .slice A3 T2.f3.length c3, .slice A4 T2.f4.length c4] 25)))
  have HP2 := Aside0.mk (HPc.out.later (below_alloc (Below.refl _ _) (.cells #[.int .i64 T2.f0, .int .i64 T2.f1, .string T2.f2, .slice A3 T2.f3.length c3, .slice A4 T2.f4.length c4] 25)))
  generalize wc.alloc (.cells #[.int .i64 T2.f0, .int .i64 T2.f1, .string T2.f2, .slice A3 T2.f3.length c3, .slice A4 T2.f4.length c4] 25) = w2 at HB2 HP2 ⊢
  clear HBb HBc HPb HPc
  go_upto_region 4 with (first | ((with_reducible refine gate_dst (N := 28) rfl ?_); refine bconst_event rfl rfl (N1 := 28) (N2 := 29) rfl rfl (l := l3) (t := 28) (e := 5) Try.underlying28 Try.underlying5 rfl (by simp) (by have := N3.out; omega) ?hr ?_; (case hr => (rw [Q3.out]; first | (go_simp; done) | (go_simp; rfl))); intro B3 wb hC hb; have HC3 := Aside0.mk hC; have HBb := Aside0.mk (below_step HB2.out hb); have HPb := Aside0.mk (HP2.out.later hb); clear hC hb) | (go_at_call 11; (with_reducible refine (parse_lit k B3 l3 T3 2 _ HC3.out N3.out H3.out).mono ?_); rintro e wc ⟨A3, c3, A4, c4, rfl, hb⟩; have HBc := Aside0.mk (below_step HBb.out hb); have HPc := Aside0.mk (HPb.out.later hb); clear hb))
  have HB3 := Aside0.mk (below_step HBc.out (below_alloc (Below.refl _ _) (.cells #[.int .i64 T3.f0, .int .i64 T3.f1, .string T3.f2, .slice A3 T3.f3.length c3, .slice A4 T3.f4.length c4] 25)))
  have HP3 := Aside0.mk (HPc.out.later (below_alloc (Below.refl _ _) (.cells #[.int .i64 T3.f0, .int .i64 T3.f1, .string T3.f2, .slice A3 T3.f3.length c3, .slice A4 T3.f4.length c4] 25)))
  generalize wc.alloc (.cells #[.int .i64 T3.f0, .int .i64 T3.f1, .string T3.f2, .slice A3 T3.f3.length c3, .slice A4 T3.f4.length c4] 25) = w3 at HB3 HP3 ⊢
  clear HBb HBc HPb HPc
  go_upto_region 5 with (first | ((with_reducible refine gate_dst (N := 34) rfl ?_); refine bconst_event rfl rfl (N1 := 34) (N2 := 35) rfl rfl (l := l4) (t := 28) (e := 5) Try.underlying28 Try.underlying5 rfl (by simp) (by have := N4.out; omega) ?hr ?_; (case hr => (rw [Q4.out]; first | (go_simp; done) | (go_simp; rfl))); intro B4 wb hC hb; have HC4 := Aside0.mk hC; have HBb := Aside0.mk (below_step HB3.out hb); have HPb := Aside0.mk (HP3.out.later hb); clear hC hb) | (go_at_call 11; (with_reducible refine (parse_lit k B4 l4 T4 4 _ HC4.out N4.out H4.out).mono ?_); rintro e wc ⟨A3, c3, A4, c4, rfl, hb⟩; have HBc := Aside0.mk (below_step HBb.out hb); have HPc := Aside0.mk (HPb.out.later hb); clear hb))
  have HB4 := Aside0.mk (below_step HBc.out (below_alloc (Below.refl _ _) (.cells #[.int .i64 T4.f0, .int .i64 T4.f1, .string T4.f2, .slice A3 T4.f3.length c3, .slice A4 T4.f4.length c4] 25)))
  have HP4 := Aside0.mk (HPc.out.later (below_alloc (Below.refl _ _) (.cells #[.int .i64 T4.f0, .int .i64 T4.f1, .string T4.f2, .slice A3 T4.f3.length c3, .slice A4 T4.f4.length c4] 25)))
  generalize wc.alloc (.cells #[.int .i64 T4.f0, .int .i64 T4.f1, .string T4.f2, .slice A3 T4.f3.length c3, .slice A4 T4.f4.length c4] 25) = w4 at HB4 HP4 ⊢
  clear HBb HBc HPb HPc
  go_upto_region 6 with (first | ((with_reducible refine gate_dst (N := 40) rfl ?_); refine bconst_event rfl rfl (N1 := 40) (N2 := 41) rfl rfl (l := l5) (t := 28) (e := 5) Try.underlying28 Try.underlying5 rfl (by simp) (by have := N5.out; omega) ?hr ?_; (case hr => (rw [Q5.out]; first | (go_simp; done) | (go_simp; rfl))); intro B5 wb hC hb; have HC5 := Aside0.mk hC; have HBb := Aside0.mk (below_step HB4.out hb); have HPb := Aside0.mk (HP4.out.later hb); clear hC hb) | (go_at_call 11; (with_reducible refine (parse_lit k B5 l5 T5 3 _ HC5.out N5.out H5.out).mono ?_); rintro e wc ⟨A3, c3, A4, c4, rfl, hb⟩; have HBc := Aside0.mk (below_step HBb.out hb); have HPc := Aside0.mk (HPb.out.later hb); clear hb))
  have HB5 := Aside0.mk (below_step HBc.out (below_alloc (Below.refl _ _) (.cells #[.int .i64 T5.f0, .int .i64 T5.f1, .string T5.f2, .slice A3 T5.f3.length c3, .slice A4 T5.f4.length c4] 25)))
  have HP5 := Aside0.mk (HPc.out.later (below_alloc (Below.refl _ _) (.cells #[.int .i64 T5.f0, .int .i64 T5.f1, .string T5.f2, .slice A3 T5.f3.length c3, .slice A4 T5.f4.length c4] 25)))
  generalize wc.alloc (.cells #[.int .i64 T5.f0, .int .i64 T5.f1, .string T5.f2, .slice A3 T5.f3.length c3, .slice A4 T5.f4.length c4] 25) = w5 at HB5 HP5 ⊢
  clear HBb HBc HPb HPc
  go_upto_region 7 with (first | ((with_reducible refine gate_dst (N := 46) rfl ?_); refine bconst_event rfl rfl (N1 := 46) (N2 := 47) rfl rfl (l := l6) (t := 28) (e := 5) Try.underlying28 Try.underlying5 rfl (by simp) (by have := N6.out; omega) ?hr ?_; (case hr => (rw [Q6.out]; first | (go_simp; done) | (go_simp; rfl))); intro B6 wb hC hb; have HC6 := Aside0.mk hC; have HBb := Aside0.mk (below_step HB5.out hb); have HPb := Aside0.mk (HP5.out.later hb); clear hC hb) | (go_at_call 11; (with_reducible refine (parse_lit k B6 l6 T6 0 _ HC6.out N6.out H6.out).mono ?_); rintro e wc ⟨A3, c3, A4, c4, rfl, hb⟩; have HBc := Aside0.mk (below_step HBb.out hb); have HPc := Aside0.mk (HPb.out.later hb); clear hb))
  have HB6 := Aside0.mk (below_step HBc.out (below_alloc (Below.refl _ _) (.cells #[.int .i64 T6.f0, .int .i64 T6.f1, .string T6.f2, .slice A3 T6.f3.length c3, .slice A4 T6.f4.length c4] 25)))
  have HP6 := Aside0.mk (HPc.out.later (below_alloc (Below.refl _ _) (.cells #[.int .i64 T6.f0, .int .i64 T6.f1, .string T6.f2, .slice A3 T6.f3.length c3, .slice A4 T6.f4.length c4] 25)))
  have HN := Aside0.mk (blk_new wc (.cells #[.int .i64 T6.f0, .int .i64 T6.f1, .string T6.f2, .slice A3 T6.f3.length c3, .slice A4 T6.f4.length c4] 25))
  generalize wc.alloc (.cells #[.int .i64 T6.f0, .int .i64 T6.f1, .string T6.f2, .slice A3 T6.f3.length c3, .slice A4 T6.f4.length c4] 25) = w6 at HB6 HP6 HN ⊢
  clear HBb HBc HPb HPc
  have hx3 : w6.cell? ⟨wc.heap.size, 3, none⟩ = some _ := (blk_cell HN.out 3).trans rfl
  have hcv := own_string (P := Try.prog) Try.underlying28 Try.underlying5 Try.underlying9 HP6.out.own
  have hn2 : ((T6.f3.length : Int) == 2) = true := by rw [H6N.out]; rfl
  go_wp2
  go_ret
  exact ⟨rfl, HB6.out⟩


/-! ### annuletlaw12_BenDeep: function 6 -/
/-! ### lists in one another -/
def deepL (n : Nat) : List Int := List.replicate n 108 ++ List.replicate n 101
open Classical in
noncomputable def annuletlaw12_BenDeep.f (k : Nat) (a0 : Int) : Option Bool := if law12_awake.ok k ∧ (a0 < 1 ∨ a0 > 300 ∨ ∃ (T : S25) (e : Int), ben_Parse.f k (deepL a0.toNat) = some (T, e) ∧ ((a0 ≤ 8 ∧ e = 0) ∨ (8 < a0 ∧ e = 6))) then some true else none
set_option maxHeartbeats 4000000 in
set_option maxRecDepth 100000 in
theorem annuletlaw12_BenDeep.calls (k : Nat) (a0 : Int) (r : Bool) (w : World) (h : annuletlaw12_BenDeep.f k a0 = some r) :
    Calls Try.prog 6 #[.int .i64 a0] w fun e w' => e = .returned (.bool r) ∧ Below w.heap.size w w' := by
  have hu25 := Try.underlying25
  unfold annuletlaw12_BenDeep.f at h
  by_cases hc : law12_awake.ok k ∧ (a0 < 1 ∨ a0 > 300 ∨ ∃ (T : S25) (e : Int), ben_Parse.f k (deepL a0.toNat) = some (T, e) ∧ ((a0 ≤ 8 ∧ e = 0) ∨ (8 < a0 ∧ e = 6)))
  case neg => rw [if_neg hc] at h; cases h
  rw [if_pos hc] at h
  cases h
  have HAW := Aside0.mk hc.1
  obtain ⟨_, hc⟩ := hc
  by_cases c1 : a0 < 1
  · have d1 : decide (a0 < 1) = true := decide_eq_true c1
    clear c1 hc
    go_enter Try.func6, Try.ntmps6
    go_wp2_with (go_at_call 8; (with_reducible refine (law12_awake.calls k _ HAW.out).mono ?_); rintro e w1 ⟨rfl, hb⟩)
    go_ret
    exact ⟨rfl, hb⟩
  have d1 : decide (a0 < 1) = false := decide_eq_false c1
  by_cases c2 : a0 > 300
  · have d2 : decide (300 < a0) = true := decide_eq_true c2
    clear c1 c2 hc
    go_enter Try.func6, Try.ntmps6
    go_wp2_with (go_at_call 8; (with_reducible refine (law12_awake.calls k _ HAW.out).mono ?_); rintro e w1 ⟨rfl, hb⟩)
    go_ret
    exact ⟨rfl, hb⟩
  have d2 : decide (300 < a0) = false := decide_eq_false c2
  obtain ⟨T, e2, hP, hE⟩ := (hc.resolve_left c1).resolve_left c2
  obtain ⟨N, rfl⟩ := Int.eq_ofNat_of_zero_le (show 0 ≤ a0 by omega)
  rw [Int.toNat_natCast] at hP
  have hN1 : 1 ≤ N := by omega
  have hN2 : N ≤ 300 := by omega
  have HPA := Aside0.mk hP
  have HE := Aside0.mk hE
  have P0 : Aside0 (PutS w (w.alloc (.cells #[] 5)) (.slice (some ⟨w.heap.size, 0, none⟩) 0 0) []) := ⟨⟨own_lit w w.heap.size 5 .u8 [] (Nat.le_refl _) (by simp), below_alloc (Below.refl _ _) _⟩⟩
  clear hc hP hE c1 c2
  go_enter Try.func6, Try.ntmps6
  go_wp2
  go_loopg [3, 4] N (fun gg v3 v4 wr => ∃ i : Nat, v4 = .int .i64 (i : Int) ∧ i ≤ N ∧ N - i ≤ gg ∧ Aside0 (PutS w wr v3 (List.replicate i 108)))
  case atStart => exact ⟨0, rfl, Nat.zero_le _, by omega, P0⟩
  case round =>
    obtain ⟨i, rfl, hi, hg, HPi⟩ := hrel
    by_cases hlt : i < N
    · have hltz : (i : Int) < (N : Int) := by omega
      have hwi : wrap64 ((i : Int) + 1) = (i : Int) + 1 := by unfold wrap64; omega
      have HIG := Aside0.mk hg
      clear hg
      go_wp2_with ((with_reducible refine gate_builtin (b := .append) (xs := #[.tmp 21, .tmp 22]) rfl ?_); at_builtin; obtain ⟨v9, w9, hr, hp, hg, hs⟩ := (HPi.out.alloc (.cells #[.int .u8 108] 5)).one (blk_new wr (.cells #[.int .u8 108] 5)) (by simp only [List.length_replicate]; omega) 28; refine list_app rfl (.tmp 21) (.tmp 22) 28 28 rfl _ (.slice (some ⟨wr.heap.size, 0, none⟩) 1 1) rfl rfl hr ?_; have HP9 := Aside0.mk hp; clear hp hg hr hs)
      go_roundg (N - (i + 1))
      case measure => have := HIG.out; omega
      case rel => exact ⟨i + 1, by go_num, by omega, by omega, ⟨by rw [List.replicate_succ']; exact HP9.out⟩⟩
    · obtain rfl : i = N := by omega
      have hltz : ¬ (i : Int) < (i : Int) := by omega
      clear hlt hg hi
      go_wp2
      go_loopg [3, 5] i (fun gg v3 v5 wr => ∃ j : Nat, v5 = .int .i64 (j : Int) ∧ j ≤ i ∧ i - j ≤ gg ∧ Aside0 (PutS w wr v3 (List.replicate i 108 ++ List.replicate j 101)))
      case atStart => exact ⟨0, rfl, Nat.zero_le _, by omega, ⟨by simpa using HPi.out⟩⟩
      case round =>
        obtain ⟨j, rfl, hj, hg, HPj⟩ := hrel
        by_cases hlt : j < i
        · have hltz : (j : Int) < (i : Int) := by omega
          have hwi : wrap64 ((j : Int) + 1) = (j : Int) + 1 := by unfold wrap64; omega
          have HIG := Aside0.mk hg
          clear hg
          go_wp2_with ((with_reducible refine gate_builtin (b := .append) (xs := #[.tmp 29, .tmp 30]) rfl ?_); at_builtin; obtain ⟨v9, w9, hr, hp, hg, hs⟩ := (HPj.out.alloc (.cells #[.int .u8 101] 5)).one (blk_new wr (.cells #[.int .u8 101] 5)) (by simp only [List.length_append, List.length_replicate]; omega) 28; refine list_app rfl (.tmp 29) (.tmp 30) 28 28 rfl _ (.slice (some ⟨wr.heap.size, 0, none⟩) 1 1) rfl rfl hr ?_; have HP9 := Aside0.mk hp; clear hp hg hr hs)
          go_roundg (i - (j + 1))
          case measure => have := HIG.out; omega
          case rel => exact ⟨j + 1, by go_num, by omega, by omega, ⟨by rw [List.replicate_succ', ← List.append_assoc]; exact HP9.out⟩⟩
        · obtain rfl : j = i := by omega
          have hltz : ¬ (j : Int) < (j : Int) := by omega
          obtain ⟨L, hL⟩ : ∃ L, L = deepL j := ⟨_, rfl⟩
          have hPL := HPj.out
          rw [show List.replicate j (108 : Int) ++ List.replicate j 101 = L from hL.symm] at hPL
          obtain ⟨A, c, rfl⟩ := own_slice hPL.own
          have hA := HPA.out
          rw [← hL] at hA
          have HCL := Aside0.mk (show Calls Try.prog 11 #[.slice A L.length c] wr _ from ben_Parse.calls k A c L T e2 wr (Kd.C_of_reads (enc := Value.int .u8) (d := (0 : Int)) (h1 := fun _ => rfl) (own_reads' hPL.own)) (own_le hPL.own) (by rw [hL]; simp only [deepL, List.length_append, List.length_replicate]; omega) hA)
          have HBL := Aside0.mk hPL.bel
          clear hlt hg hj hPL hA HPj HPi hL
          rcases HE.out with ⟨h8, rfl⟩ | ⟨h8, rfl⟩
          · have d8 : decide ((j : Int) ≤ 8) = true := decide_eq_true h8
            have d9 : decide (8 < (j : Int)) = false := decide_eq_false (by omega)
            clear h8
            go_wp2_with (first | (go_at_call 11; (with_reducible refine (HCL.out).mono ?_); rintro e w1 ⟨v3, v4, rfl, h3, h4, hb⟩; obtain ⟨A3, c3, rfl⟩ := Kd.R_slice h3; obtain ⟨A4, c4, rfl⟩ := Kd.R_slice h4; have HB1 := Aside0.mk (below_step HBL.out hb); clear h3 h4 hb) | (go_at_call 8; (with_reducible refine (law12_awake.calls k _ HAW.out).mono ?_); rintro e w2 ⟨rfl, hb⟩; have HB2 := Aside0.mk (below_step (below_alloc HB1.out _) hb); clear hb))
            go_ret
            exact ⟨rfl, HB2.out⟩
          · have d8 : decide ((j : Int) ≤ 8) = false := decide_eq_false (by omega)
            have d9 : decide (8 < (j : Int)) = true := decide_eq_true h8
            clear h8
            go_wp2_with (first | (go_at_call 11; (with_reducible refine (HCL.out).mono ?_); rintro e w1 ⟨v3, v4, rfl, h3, h4, hb⟩; obtain ⟨A3, c3, rfl⟩ := Kd.R_slice h3; obtain ⟨A4, c4, rfl⟩ := Kd.R_slice h4; have HB1 := Aside0.mk (below_step HBL.out hb); clear h3 h4 hb) | (go_at_call 8; (with_reducible refine (law12_awake.calls k _ HAW.out).mono ?_); rintro e w2 ⟨rfl, hb⟩; have HB2 := Aside0.mk (below_step (below_alloc HB1.out _) hb); clear hb))
            go_ret
            exact ⟨rfl, HB2.out⟩

def annuletlaw12_BenDeep.Pure : Prop := ∀ (a0 : Int), (Lit.int .i64 a0).wf = true → ∃ k, annuletlaw12_BenDeep.f k a0 = some true

end Go.Proofs.Ytekcnfngcgchcaa.PBenDeep
