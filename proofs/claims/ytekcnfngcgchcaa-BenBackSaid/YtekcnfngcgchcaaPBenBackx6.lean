/- Written by a program of this session (a turned copy of the kit's print): functions of the program, each with the Lean function that it comes to, and the row of one law. No condition. -/
import Derived.Test.YtekcnfngcgchcaaPBenBackx0
import Derived.Test.YtekcnfngcgchcaaPBenBackx3
import Derived.Test.YtekcnfngcgchcaaPBenBackx5
namespace Go.Proofs.Ytekcnfngcgchcaa.PBenBack
open Go.RowKit Go.Proofs.YtekcnfngcgchcaaW.PrintWords Go.Proofs.YtekcnfngcgchcaaW.PrintLast Go.Proofs.YtekcnfngcgchcaaW.PrintMore
attribute [local go_sem] max2_int min2_int max_two min_two max_three min_three max_four min_four   -- for this text's walks alone
set_option linter.unusedVariables false
set_option linter.unusedSimpArgs false


/-! ### annuletlaw12_awake: function 8 -/
/-! ### the example -/
def awKids : List S25 := [⟨1, 5, ⟨#[]⟩, [], []⟩, ⟨2, 0, ⟨#[97, 98]⟩, [], []⟩]
def awTree : S25 := ⟨3, 0, ⟨#[]⟩, [], awKids⟩
theorem kids_aw (w : World) : k25.C (w.alloc (.cells #[.int .i64 1, .int .i64 5, .string ⟨#[]⟩, .slice none 0 0, .slice none 0 0, .int .i64 2, .int .i64 0, .string ⟨#[97, 98]⟩, .slice none 0 0, .slice none 0 0] 25)) (some ⟨w.heap.size, 0, none⟩) 2 awKids := by
  have hR : k25.R 25 (w.alloc (.cells #[.int .i64 1, .int .i64 5, .string ⟨#[]⟩, .slice none 0 0, .slice none 0 0, .int .i64 2, .int .i64 0, .string ⟨#[97, 98]⟩, .slice none 0 0, .slice none 0 0] 25)) w.heap.size (fun _ => True) (.slice (some ⟨w.heap.size, 0, none⟩) 2 2) awKids := by
    refine ⟨fun _ _ => trivial, _, World.ownsRow_lit w #[.int .i64 1, .int .i64 5, .string ⟨#[]⟩, .slice none 0 0, .slice none 0 0, .int .i64 2, .int .i64 0, .string ⟨#[97, 98]⟩, .slice none 0 0, .slice none 0 0] 2 (Nat.le_refl _) (by decide) rfl, ?_⟩
    exact ((Reps.none _ _).snoc (k25_mkM _ _ _ ⟨1, 5, ⟨#[]⟩, [], []⟩ (Kd.R_nil _ _ _ _ _) (Kd.R_nil _ _ _ _ _)) rfl).snoc (k25_mkM _ _ _ ⟨2, 0, ⟨#[97, 98]⟩, [], []⟩ (Kd.R_nil _ _ _ _ _) (Kd.R_nil _ _ _ _ _)) rfl
  obtain ⟨A, c, he, _, hC⟩ := Kd.R_reads hR
  cases he
  exact hC
def awPart (k : Nat) (l : List Int) (e : Int) : Prop := ∃ T, ben_Parse.f k l = some (T, e)
def law12_awake.ok (k : Nat) : Prop := ben_Print.f k awTree = some ([108, 105, 53, 101, 50, 58, 97, 98, 101], 0) ∧ awPart k [105, 45, 48, 101] 3 ∧ awPart k [50, 58, 97] 2 ∧ awPart k [108, 101, 53] 4 ∧ awPart k [100, 49, 58, 98, 105, 49, 101, 49, 58, 97, 105, 49, 101, 101] 3 ∧ (∃ T, ben_Parse.f k [100, 49, 58, 97, 105, 49, 101, 49, 58, 98, 105, 50, 101, 101] = some (T, 0) ∧ T.f3.length = 2)
theorem parse_lit (k : Nat) (A : Option Addr) (l : List Int) (T : S25) (e0 : Int) (w : World) (hr : (Kd.int .u8).C w A l.length l) (hs : l.length < 100) (h : ben_Parse.f k l = some (T, e0)) :
    Calls Try.prog 11 #[.slice A l.length l.length] w fun e w2 => ∃ (A3 : Option Addr) (c3 : Nat) (A4 : Option Addr) (c4 : Nat), e = .returned (.tuple #[.agg #[.int .i64 T.f0, .int .i64 T.f1, .string T.f2, .slice A3 T.f3.length c3, .slice A4 T.f4.length c4], .int .i64 e0]) ∧ Below w.heap.size w w2 :=
  (ben_Parse.calls k A l.length l T e0 w hr (Nat.le_refl _) (by omega) h).mono (fun e w2 ⟨v3, v4, he, h3, h4, hb⟩ => by
    obtain ⟨A3, c3, rfl⟩ := Kd.R_slice h3
    obtain ⟨A4, c4, rfl⟩ := Kd.R_slice h4
    exact ⟨A3, c3, A4, c4, he, hb⟩)
theorem aw_bytes : (strOfNums [108, 105, 53, 101, 50, 58, 97, 98, 101]).toList = [108, 105, 53, 101, 50, 58, 97, 98, 101] := by
  rw [show strOfNums [108, 105, 53, 101, 50, 58, 97, 98, 101] = (⟨#[108, 105, 53, 101, 50, 58, 97, 98, 101]⟩ : ByteArray) from rfl]
  simp
set_option maxHeartbeats 4000000 in
set_option maxRecDepth 100000 in
theorem law12_awake.calls (k : Nat) (w : World) (h : law12_awake.ok k) : Calls Try.prog 8 #[] w fun e w2 => e = .returned (.bool true) ∧ Below w.heap.size w w2 := by
  have hu25 := Try.underlying25
  obtain ⟨h1, ⟨T2, h2⟩, ⟨T3, h3⟩, ⟨T4, h4⟩, ⟨T5, h5⟩, ⟨T6, h6, h6n⟩⟩ := h
  obtain ⟨l2, q2⟩ : ∃ l : List Int, l = [105, 45, 48, 101] := ⟨_, rfl⟩
  rw [← q2] at h2
  have H2 := Aside0.mk h2
  have N2 := Aside0.mk (show l2.length < 100 by rw [q2]; decide)
  have Q2 := Aside0.mk q2
  obtain ⟨l3, q3⟩ : ∃ l : List Int, l = [50, 58, 97] := ⟨_, rfl⟩
  rw [← q3] at h3
  have H3 := Aside0.mk h3
  have N3 := Aside0.mk (show l3.length < 100 by rw [q3]; decide)
  have Q3 := Aside0.mk q3
  obtain ⟨l4, q4⟩ : ∃ l : List Int, l = [108, 101, 53] := ⟨_, rfl⟩
  rw [← q4] at h4
  have H4 := Aside0.mk h4
  have N4 := Aside0.mk (show l4.length < 100 by rw [q4]; decide)
  have Q4 := Aside0.mk q4
  obtain ⟨l5, q5⟩ : ∃ l : List Int, l = [100, 49, 58, 98, 105, 49, 101, 49, 58, 97, 105, 49, 101, 101] := ⟨_, rfl⟩
  rw [← q5] at h5
  have H5 := Aside0.mk h5
  have N5 := Aside0.mk (show l5.length < 100 by rw [q5]; decide)
  have Q5 := Aside0.mk q5
  obtain ⟨l6, q6⟩ : ∃ l : List Int, l = [100, 49, 58, 97, 105, 49, 101, 49, 58, 98, 105, 50, 101, 101] := ⟨_, rfl⟩
  rw [← q6] at h6
  have H6 := Aside0.mk h6
  have N6 := Aside0.mk (show l6.length < 100 by rw [q6]; decide)
  have Q6 := Aside0.mk q6
  obtain ⟨rr, qr⟩ : ∃ l : List Int, l = [108, 105, 53, 101, 50, 58, 97, 98, 101] := ⟨_, rfl⟩
  rw [← qr] at h1
  have QR := Aside0.mk qr
  have hst : (strOfNums rr).toList = [108, 105, 53, 101, 50, 58, 97, 98, 101] := by rw [qr]; exact aw_bytes
  have HPr := Aside0.mk (show ∀ W : World, k25.C W (some ⟨w.heap.size, 0, none⟩) 2 awKids → Calls Try.prog 9 #[.agg #[.int .i64 3, .int .i64 0, .string ⟨#[]⟩, .slice none 0 0, .slice (some ⟨w.heap.size, 0, none⟩) 2 2]] W fun e w2 => ∃ v, e = .returned (.tuple #[v, .int .i64 0]) ∧ PutS W w2 v rr from fun W hC => ben_Print.calls k awTree none (some ⟨w.heap.size, 0, none⟩) 0 2 rr 0 W (Kd.C_nil _ _) (Nat.le_refl _) hC (Nat.le_refl _) h1)
  have HK := Aside0.mk (kids_aw w)
  have HB0 := Aside0.mk (below_alloc (Below.refl w.heap.size w) (.cells #[.int .i64 1, .int .i64 5, .string ⟨#[]⟩, .slice none 0 0, .slice none 0 0, .int .i64 2, .int .i64 0, .string ⟨#[97, 98]⟩, .slice none 0 0, .slice none 0 0] 25))
  have H6N := Aside0.mk h6n
  clear h1 h2 h3 h4 h5 h6 q2 q3 q4 q5 q6 qr h6n
  go_enter Try.func8, Try.ntmps8
  go_upto_region 2 with (go_at_call 9; (with_reducible refine (HPr.out _ HK.out).mono ?_); rintro e w1 ⟨v, rfl, hp⟩; have HB1 := Aside0.mk (below_step HB0.out (Below.mono hp.bel (Nat.le_refl _))); have HP1 := Aside0.mk hp; clear hp)
  go_upto_region 3 with (first | ((with_reducible refine gate_dst (N := 22) rfl ?_); refine bconst_event rfl rfl (N1 := 22) (N2 := 23) rfl rfl (l := l2) (t := 28) (e := 5) Try.underlying28 Try.underlying5 rfl (by simp) (by have := N2.out; omega) ?hr ?_; (case hr => (rw [Q2.out]; first | (go_simp; done) | (go_simp; rfl))); intro B2 wb hC hb; have HC2 := Aside0.mk hC; have HBb := Aside0.mk (below_step HB1.out hb); have HPb := Aside0.mk (HP1.out.later hb); clear hC hb) | (go_at_call 11; (with_reducible refine (parse_lit k B2 l2 T2 3 _ HC2.out N2.out H2.out).mono ?_); rintro e wc ⟨A3, c3, A4, c4, rfl, hb⟩; have HBc := Aside0.mk (below_step HBb.out hb); have HPc := Aside0.mk (HPb.out.later hb); clear hb))
  have HB2 := Aside0.mk (below_step HBc.out (below_alloc (Below.refl _ _) (.cells #[.int .i64 T2.f0, .int .i64 T2.f1, .string T2.f2, .slice A3 T2.f3.length c3, .slice A4 T2.f4.length c4] 25)))
  have HP2 := Aside0.mk (HPc.out.later (below_alloc (Below.refl _ _) (.cells #[.int .i64 T2.f0, .int .i64 T2.f1, .string T2.f2, .slice A3 T2.f3.length c3, .slice A4 T2.f4.length c4] 25)))
  generalize wc.alloc (.cells #[.int .i64 T2.f0, .int .i64 T2.f1, .string T2.f2, .slice A3 T2.f3.length c3, .slice A4 T2.f4.length c4] 25) = w2 at HB2 HP2 ⊢
  clear HBb HBc HPb HPc
  go_upto_region 4 with (first | ((with_reducible refine gate_dst (N := 28) rfl ?_); refine bconst_event rfl rfl (N1 := 28) (N2 := 29) rfl rfl (l := l3) (t := 28) (e := 5) Try.underlying28 Try.underlying5 rfl (by simp) (by have := N3.out; omega) ?hr ?_; (case hr => (rw [Q3.out]; first | (go_simp; done) | (go_simp; rfl))); intro B3 wb hC hb; have HC3 := Aside0.mk hC; have HBb := Aside0.mk (below_step HB2.out hb); have HPb := Aside0.mk (HP2.out.later hb); clear hC hb) | (go_at_call 11; (with_reducible refine (parse_lit k B3 l3 T3 2 _ HC3.out N3.out H3.out).mono ?_); rintro e wc ⟨A3, c3, A4, c4, rfl, hb⟩; have HBc := Aside0.mk (below_step HBb.out hb); have HPc := Aside0.mk (HPb.out.later hb); clear hb))
  have HB3 := Aside0.mk (below_step HBc.out (below_alloc (Below.refl _ _) (.cells #[.int .i64 T3.f0, .int .i64 T3.f1, .string T3.f2, .slice A3 T3.f3.length c3, .slice A4 T3.f4.length c4] 25)))
  have HP3 := Aside0.mk (HPc.out.later (below_alloc (Below.refl _ _) (.cells #[.int .i64 T3.f0, .int .i64 T3.f1, .string T3.f2, .slice A3 T3.f3.length c3, .slice A4 T3.f4.length c4] 25)))
  generalize wc.alloc (.cells #[.int .i64 T3.f0, .int .i64 T3.f1, .string T3.f2, .slice A3 T3.f3.length c3, .slice A4 T3.f4.length c4] 25) = w3 at HB3 HP3 ⊢
  clear HBb HBc HPb HPc
  go_upto_region 5 with (first | ((with_reducible refine gate_dst (N := 34) rfl ?_); refine bconst_event rfl rfl (N1 := 34) (N2 := 35) rfl rfl (l := l4) (t := 28) (e := 5) Try.underlying28 Try.underlying5 rfl (by simp) (by have := N4.out; omega) ?hr ?_; (case hr => (rw [Q4.out]; first | (go_simp; done) | (go_simp; rfl))); intro B4 wb hC hb; have HC4 := Aside0.mk hC; have HBb := Aside0.mk (below_step HB3.out hb); have HPb := Aside0.mk (HP3.out.later hb); clear hC hb) | (go_at_call 11; (with_reducible refine (parse_lit k B4 l4 T4 4 _ HC4.out N4.out H4.out).mono ?_); rintro e wc ⟨A3, c3, A4, c4, rfl, hb⟩; have HBc := Aside0.mk (below_step HBb.out hb); have HPc := Aside0.mk (HPb.out.later hb); clear hb))
  have HB4 := Aside0.mk (below_step HBc.out (below_alloc (Below.refl _ _) (.cells #[.int .i64 T4.f0, .int .i64 T4.f1, .string T4.f2, .slice A3 T4.f3.length c3, .slice A4 T4.f4.length c4] 25)))
  have HP4 := Aside0.mk (HPc.out.later (below_alloc (Below.refl _ _) (.cells #[.int .i64 T4.f0, .int .i64 T4.f1, .string T4.f2, .slice A3 T4.f3.length c3, .slice A4 T4.f4.length c4] 25)))
  generalize wc.alloc (.cells #[.int .i64 T4.f0, .int .i64 T4.f1, .string T4.f2, .slice A3 T4.f3.length c3, .slice A4 T4.f4.length c4] 25) = w4 at HB4 HP4 ⊢
  clear HBb HBc HPb HPc
  go_upto_region 6 with (first | ((with_reducible refine gate_dst (N := 40) rfl ?_); refine bconst_event rfl rfl (N1 := 40) (N2 := 41) rfl rfl (l := l5) (t := 28) (e := 5) Try.underlying28 Try.underlying5 rfl (by simp) (by have := N5.out; omega) ?hr ?_; (case hr => (rw [Q5.out]; first | (go_simp; done) | (go_simp; rfl))); intro B5 wb hC hb; have HC5 := Aside0.mk hC; have HBb := Aside0.mk (below_step HB4.out hb); have HPb := Aside0.mk (HP4.out.later hb); clear hC hb) | (go_at_call 11; (with_reducible refine (parse_lit k B5 l5 T5 3 _ HC5.out N5.out H5.out).mono ?_); rintro e wc ⟨A3, c3, A4, c4, rfl, hb⟩; have HBc := Aside0.mk (below_step HBb.out hb); have HPc := Aside0.mk (HPb.out.later hb); clear hb))
  have HB5 := Aside0.mk (below_step HBc.out (below_alloc (Below.refl _ _) (.cells #[.int .i64 T5.f0, .int .i64 T5.f1, .string T5.f2, .slice A3 T5.f3.length c3, .slice A4 T5.f4.length c4] 25)))
  have HP5 := Aside0.mk (HPc.out.later (below_alloc (Below.refl _ _) (.cells #[.int .i64 T5.f0, .int .i64 T5.f1, .string T5.f2, .slice A3 T5.f3.length c3, .slice A4 T5.f4.length c4] 25)))
  generalize wc.alloc (.cells #[.int .i64 T5.f0, .int .i64 T5.f1, .string T5.f2, .slice A3 T5.f3.length c3, .slice A4 T5.f4.length c4] 25) = w5 at HB5 HP5 ⊢
  clear HBb HBc HPb HPc
  go_upto_region 7 with (first | ((with_reducible refine gate_dst (N := 46) rfl ?_); refine bconst_event rfl rfl (N1 := 46) (N2 := 47) rfl rfl (l := l6) (t := 28) (e := 5) Try.underlying28 Try.underlying5 rfl (by simp) (by have := N6.out; omega) ?hr ?_; (case hr => (rw [Q6.out]; first | (go_simp; done) | (go_simp; rfl))); intro B6 wb hC hb; have HC6 := Aside0.mk hC; have HBb := Aside0.mk (below_step HB5.out hb); have HPb := Aside0.mk (HP5.out.later hb); clear hC hb) | (go_at_call 11; (with_reducible refine (parse_lit k B6 l6 T6 0 _ HC6.out N6.out H6.out).mono ?_); rintro e wc ⟨A3, c3, A4, c4, rfl, hb⟩; have HBc := Aside0.mk (below_step HBb.out hb); have HPc := Aside0.mk (HPb.out.later hb); clear hb))
  have HB6 := Aside0.mk (below_step HBc.out (below_alloc (Below.refl _ _) (.cells #[.int .i64 T6.f0, .int .i64 T6.f1, .string T6.f2, .slice A3 T6.f3.length c3, .slice A4 T6.f4.length c4] 25)))
  have HP6 := Aside0.mk (HPc.out.later (below_alloc (Below.refl _ _) (.cells #[.int .i64 T6.f0, .int .i64 T6.f1, .string T6.f2, .slice A3 T6.f3.length c3, .slice A4 T6.f4.length c4] 25)))
  have HN := Aside0.mk (blk_new wc (.cells #[.int .i64 T6.f0, .int .i64 T6.f1, .string T6.f2, .slice A3 T6.f3.length c3, .slice A4 T6.f4.length c4] 25))
  generalize wc.alloc (.cells #[.int .i64 T6.f0, .int .i64 T6.f1, .string T6.f2, .slice A3 T6.f3.length c3, .slice A4 T6.f4.length c4] 25) = w6 at HB6 HP6 HN ⊢
  clear HBb HBc HPb HPc
  have hx3 : w6.cell? ⟨wc.heap.size, 3, none⟩ = some _ := (blk_cell HN.out 3).trans rfl
  have hcv := own_string (P := Try.prog) Try.underlying28 Try.underlying5 Try.underlying9 HP6.out.own
  have hn2 : ((T6.f3.length : Int) == 2) = true := by rw [H6N.out]; rfl
  go_wp2
  go_ret
  exact ⟨rfl, HB6.out⟩

/-! ### annuletref11_texts: function 21 -/
def annuletref11_texts.l0 : Nat → List ByteArray → List ByteArray → Int → Option (Bool)
  | 0, _, _, _ => none
  | k + 1, x0, x1, x5 => if x5 < (x0.length : Int) then (if 0 ≤ x5 then (if x5 < (x1.length : Int) then (if (rdOf ByteArray.empty x0 x5).toList = (rdOf ByteArray.empty x1 x5).toList then (annuletref11_texts.l0 k x0 x1 (wrap64 (x5 + 1))) else (some false)) else (none)) else (none)) else (some true)
def annuletref11_texts.f (k : Nat) (l0 : List ByteArray) (l1 : List ByteArray) : Option (Bool) := if (l0.length : Int) = (l1.length : Int) then (annuletref11_texts.l0 k l0 l1 0) else (some false)
theorem annuletref11_texts.mono_l : ∀ k, (∀ y0 y1 y2, LeO (annuletref11_texts.l0 k y0 y1 y2) (annuletref11_texts.l0 (k + 1) y0 y1 y2))
  | 0 => fun _ _ _ r h => by simp [annuletref11_texts.l0] at h
  | k + 1 => by
    have ih0 := annuletref11_texts.mono_l k
    · intro y0 y1 y2
      unfold annuletref11_texts.l0
      repeat' first
      | (with_reducible exact ih0 _ _ _)
      | (with_reducible exact LeO.refl _)
      | (with_reducible exact LeO.none _)
      | (with_reducible refine LeO.ite ?_ ?_)
      | (with_reducible refine LeO.bind ?_ (fun _ => ?_))
      | exact ih0 _ _ _
      | exact LeO.none _
      | refine LeO.ite ?_ ?_
      | refine LeO.bind ?_ (fun _ => ?_)
theorem annuletref11_texts.mono : ∀ a0 a1 k, LeO (annuletref11_texts.f k a0 a1) (annuletref11_texts.f (k + 1) a0 a1) := by
  intro a0 a1 k
  have ih0 := annuletref11_texts.mono_l k
  unfold annuletref11_texts.f
  repeat' first
      | (with_reducible exact ih0 _ _ _)
      | (with_reducible exact LeO.refl _)
      | (with_reducible exact LeO.none _)
      | (with_reducible refine LeO.ite ?_ ?_)
      | (with_reducible refine LeO.bind ?_ (fun _ => ?_))
      | exact ih0 _ _ _
      | exact LeO.none _
      | refine LeO.ite ?_ ?_
      | refine LeO.bind ?_ (fun _ => ?_)
set_option maxHeartbeats 3000000 in
set_option maxRecDepth 100000 in
theorem annuletref11_texts.calls (k : Nat) (A0 : Option Addr) (c0 : Nat) (l0 : List ByteArray) (A1 : Option Addr) (c1 : Nat) (l1 : List ByteArray) (r : Bool) (w : World) (hr0 : Kd.C Kd.string w A0 l0.length l0) (hc0 : l0.length ≤ c0) (hr1 : Kd.C Kd.string w A1 l1.length l1) (hc1 : l1.length ≤ c1) (h : annuletref11_texts.f k l0 l1 = some r) :
    Calls Try.prog 21 #[.slice A0 l0.length c0, .slice A1 l1.length c1] w fun e w' => e = .returned (.bool r) ∧ Drawn0 w w' := by
  have HR0 := Aside0.mk hr0
  have HC0 := Aside0.mk hc0
  clear hr0 hc0
  have HR1 := Aside0.mk hr1
  have HC1 := Aside0.mk hc1
  clear hr1 hc1
  have H : (if (l0.length : Int) = (l1.length : Int) then (annuletref11_texts.l0 k l0 l1 0) else (some false)) = some r := h
  clear h
  by_cases c3 : (l0.length : Int) = (l1.length : Int)
  · rw [if_pos c3] at H
    have c3b0 : ((l0.length : Int) == (l1.length : Int)) = true := beq_iff_eq.mpr c3
    have c3b1 : ((l0.length : Int) != (l1.length : Int)) = false := bne_eq_false_iff_eq.mpr c3
    have c3b2 : (l0.length == l1.length) = true := by first | simpa using c3 | (simp at c3 ⊢; omega)
    clear c3
    have H' := Aside0.mk H
    clear H
    go_enter Try.func21, Try.ntmps21
    go_wp2
    repeat (go_quiet (fail); try go_wp2)
    go_loopg [5] k (fun kq v5 w' => ∃ (x5_1 : Int), v5 = .int .i64 x5_1 ∧ Aside0 (annuletref11_texts.l0 kq l0 l1 x5_1 = some r) ∧ Aside0 (kq ≤ k) ∧ Drawn0 w w')
    case atStart => exact ⟨(0), (by first | rfl | (simp; done) | (simp [*]; done)), H', ⟨Nat.le_refl _⟩, by repeat (first | exact Drawn0.refl _ | apply Drawn0.step)⟩
    case round =>
      clear H'
      try clear c1
      try clear c2
      try clear p2
      try clear c3
      try clear c3b0
      try clear c3b1
      try clear c3b2
      obtain ⟨x5_1, rfl, HA, HK1, ⟨m1, rfl⟩⟩ := hrel
      cases gk with
      | zero => exact absurd HA.out (by simp [annuletref11_texts.l0])
      | succ k1 =>
        have H := HA.out
        clear HA
        simp only [annuletref11_texts.l0] at H
        by_cases c4 : x5_1 < (l0.length : Int)
        · rw [if_pos c4] at H
          have c4b0 : decide (x5_1 < (l0.length : Int)) = true := decide_eq_true c4
          clear c4
          by_cases c5 : 0 ≤ x5_1
          · rw [if_pos c5] at H
            have c5b0 : decide (0 ≤ x5_1) = true := decide_eq_true c5
            clear c5
            by_cases c6 : x5_1 < (l1.length : Int)
            · rw [if_pos c6] at H
              have c6b0 : decide (x5_1 < (l1.length : Int)) = true := decide_eq_true c6
              clear c6
              by_cases c7 : (rdOf ByteArray.empty l0 x5_1).toList = (rdOf ByteArray.empty l1 x5_1).toList
              · rw [if_pos c7] at H
                have c7b0 : ((rdOf ByteArray.empty l0 x5_1).toList == (rdOf ByteArray.empty l1 x5_1).toList) = true := beq_iff_eq.mpr c7
                have c7b1 : ((rdOf ByteArray.empty l0 x5_1).toList != (rdOf ByteArray.empty l1 x5_1).toList) = false := bne_eq_false_iff_eq.mpr c7
                clear c7
                have H' := Aside0.mk H
                clear H
                have p132 : 0 ≤ (x5_1 : Int) := of_decide_eq_true (by first | (with_reducible assumption) | assumption)
                have q132 : x5_1 < (l0.length : Int) := of_decide_eq_true (by first | (with_reducible assumption) | assumption)
                obtain ⟨ad132, e132, hx132_0⟩ := Kd.at_string HR0.out x5_1 p132 q132
                cases e132
                replace p132 := eq_true p132
                replace q132 := eq_true q132
                have p133 : 0 ≤ (x5_1 : Int) := of_decide_eq_true (by first | (with_reducible assumption) | assumption)
                have q133 : x5_1 < (l1.length : Int) := of_decide_eq_true (by first | (with_reducible assumption) | assumption)
                obtain ⟨ad133, e133, hx133_0⟩ := Kd.at_string HR1.out x5_1 p133 q133
                cases e133
                replace p133 := eq_true p133
                replace q133 := eq_true q133
                go_wp2
                repeat (go_quiet (fail); try go_wp2)
                go_roundg k1
                case measure => have := HK1.out; omega
                case rel => exact ⟨(wrap64 (x5_1 + 1)), (by first | rfl | (simp; done) | (simp [*]; done)), H', ⟨by have := HK1.out; omega⟩, by repeat (first | exact Drawn0.refl _ | apply Drawn0.step)⟩
              · rw [if_neg c7] at H
                have c7b0 : ((rdOf ByteArray.empty l0 x5_1).toList == (rdOf ByteArray.empty l1 x5_1).toList) = false := beq_eq_false_iff_ne.mpr c7
                have c7b1 : ((rdOf ByteArray.empty l0 x5_1).toList != (rdOf ByteArray.empty l1 x5_1).toList) = true := bne_iff_ne.mpr c7
                obtain rfl := Option.some.inj H
                have p132 : 0 ≤ (x5_1 : Int) := of_decide_eq_true (by first | (with_reducible assumption) | assumption)
                have q132 : x5_1 < (l0.length : Int) := of_decide_eq_true (by first | (with_reducible assumption) | assumption)
                obtain ⟨ad132, e132, hx132_0⟩ := Kd.at_string HR0.out x5_1 p132 q132
                cases e132
                replace p132 := eq_true p132
                replace q132 := eq_true q132
                have p133 : 0 ≤ (x5_1 : Int) := of_decide_eq_true (by first | (with_reducible assumption) | assumption)
                have q133 : x5_1 < (l1.length : Int) := of_decide_eq_true (by first | (with_reducible assumption) | assumption)
                obtain ⟨ad133, e133, hx133_0⟩ := Kd.at_string HR1.out x5_1 p133 q133
                cases e133
                replace p133 := eq_true p133
                replace q133 := eq_true q133
                go_wp2
                repeat (go_quiet (fail); try go_wp2)
                all_goals go_ret
                all_goals first | (exact ⟨by first | rfl | (simp; done) | (simp [*]; done) | (refine congrArg Ending.returned ?_; show Value.string _ = Value.string _; (first | (congr 2 <;> omega) | (congr 3 <;> omega) | (congr 4 <;> omega))), by repeat (first | exact Drawn0.refl _ | apply Drawn0.step)⟩) | (exfalso; simp_all; done)
            · rw [if_neg c6] at H
              exact absurd H (by simp)
          · rw [if_neg c5] at H
            exact absurd H (by simp)
        · rw [if_neg c4] at H
          have c4b0 : decide (x5_1 < (l0.length : Int)) = false := decide_eq_false c4
          clear c4
          obtain rfl := Option.some.inj H
          go_wp2
          repeat (go_quiet (fail); try go_wp2)
          all_goals go_ret
          all_goals first | (exact ⟨by first | rfl | (simp; done) | (simp [*]; done) | (refine congrArg Ending.returned ?_; show Value.string _ = Value.string _; (first | (congr 2 <;> omega) | (congr 3 <;> omega) | (congr 4 <;> omega))), by repeat (first | exact Drawn0.refl _ | apply Drawn0.step)⟩) | (exfalso; simp_all; done)
  · rw [if_neg c3] at H
    have c3b0 : ((l0.length : Int) == (l1.length : Int)) = false := beq_eq_false_iff_ne.mpr c3
    have c3b1 : ((l0.length : Int) != (l1.length : Int)) = true := bne_iff_ne.mpr c3
    have c3b2 : (l0.length == l1.length) = false := by first | simpa using c3 | (simp at c3 ⊢; omega)
    obtain rfl := Option.some.inj H
    go_enter Try.func21, Try.ntmps21
    go_wp2
    repeat (go_quiet (fail); try go_wp2)
    all_goals go_ret
    all_goals first | (exact ⟨by first | rfl | (simp; done) | (simp [*]; done) | (refine congrArg Ending.returned ?_; show Value.string _ = Value.string _; (first | (congr 2 <;> omega) | (congr 3 <;> omega) | (congr 4 <;> omega))), by repeat (first | exact Drawn0.refl _ | apply Drawn0.step)⟩) | (exfalso; simp_all; done)

end Go.Proofs.Ytekcnfngcgchcaa.PBenBack
