/- Written by a program of this session (a turned copy of the kit's print): functions of the program, each with the Lean function that it comes to, and the row of one law. No condition. -/
import Derived.Test.YtopjffhmfgnedaaPBufBackx0
import Derived.Test.YtopjffhmfgnedaaPBufBackx1
import Derived.Test.YtopjffhmfgnedaaPBufBackx2
namespace Go.Proofs.Ytopjffhmfgnedaa.PBufBack
open Go.RowKit Go.Proofs.YtopjffhmfgnedaaW.PrintWords Go.Proofs.YtopjffhmfgnedaaW.PrintLast Go.Proofs.YtopjffhmfgnedaaW.PrintMore
attribute [local go_sem] max2_int min2_int max_two min_two max_three min_three max_four min_four   -- for this text's walks alone
set_option linter.unusedVariables false
set_option linter.unusedSimpArgs false


/-! ### annuletlaw06_awake: function 6 -/
set_option maxHeartbeats 1000000 in
set_option maxRecDepth 100000 in
theorem awake06_walk (w : World) : Calls Try.prog 6 #[] w fun e w' => e = .returned (.bool true) ∧ Below w.heap.size w w' := by
  have G1 := Aside0.mk (show uvar_Get.f 20 [2, 97, 98, 1] = some (2, 1, 0) by decide +kernel)
  have G2 := Aside0.mk (show textR 5 [2, 97, 98, 1] 0 2 1 0 = ((⟨#[97, 98]⟩ : ByteArray), [1], 0) by decide +kernel)
  have G3 := Aside0.mk (show flagR [1] 0 = (true, [], 0) by decide +kernel)
  have G4 := Aside0.mk (show buf_Fix.f 20 [] 258 2 = some [1, 2] by decide +kernel)
  have G5 := Aside0.mk (show buf_Text.f 20 [] (⟨#[97, 98]⟩ : ByteArray) = some [2, 97, 98] by decide +kernel)
  have s1 : strOfNums [1, 2] = (⟨#[1, 2]⟩ : ByteArray) := by decide +kernel
  have s2 : strOfNums [2, 97, 98] = (⟨#[2, 97, 98]⟩ : ByteArray) := by decide +kernel
  have S1 := Aside0.mk s1
  have S2 := Aside0.mk s2
  clear s1 s2
  go_enter Try.func6, Try.ntmps6
  go_wp2_with (first | (go_at_call 7; refine (rd_Open (some ⟨w.heap.size, 0, none⟩) 4 [2, 97, 98, 1] _ (C_marked w 5 [2, 97, 98, 1] (0, 0) (by decide)) (by decide) (by decide)).mono ?_; rintro e w1 ⟨g, w0, rfl, hi, h1, h2⟩; have HI := Aside0.mk hi; have H1 := Aside0.mk (below_step (below_alloc (Below.refl _ _) _) h1 : Below w.heap.size w w0); clear hi h1 h2) | (go_at_call 10; (with_reducible refine (rd_Text 20 g [2, 97, 98, 1] 0 5 2 1 0 w0 _ HI.out G1.out (by decide) (by decide) (by decide) (by decide) (by decide)).mono ?_); rw [G2.out]; rintro e w2 ⟨rfl, hi, hk⟩; have HI2 := Aside0.mk hi; clear hi hk) | (go_at_call 18; (with_reducible refine (rd_Flag g [1] 0 w0 _ HI2.out).mono ?_); rw [G3.out]; rintro e w3 ⟨rfl, hi, hk⟩; have HI3 := Aside0.mk hi; clear hi hk) | (go_at_call 9; (with_reducible refine (buf_Fix.calls 20 (fun _ => True) (.slice none 0 0) [] 258 2 [1, 2] _ _ (Below.refl _ _) (Kd.R_nil _ _ _ _ _) G4.out).mono ?_); rintro e w4 ⟨v, rfl, hR, hb, hk⟩; obtain ⟨A4, c4, rfl⟩ := Kd.R_slice hR; have hcv := Kd.C_string (P := Try.prog) (A := A4) (c := c4) Try.underlying26 Try.underlying5 Try.underlying9 (Kd.R_reads' hR).2.2; rw [S1.out] at hcv; simp only [List.length_cons, List.length_nil, Nat.reduceAdd, Nat.zero_add] at hcv; have HI4 := Aside0.mk (RdS.later HI3.out hb); clear hR hb hk) | (go_at_call 8; (with_reducible refine (buf_Text.calls 20 (fun _ => True) (.slice none 0 0) [] (⟨#[97, 98]⟩ : ByteArray) [2, 97, 98] _ _ (Below.refl _ _) (Kd.R_nil _ _ _ _ _) G5.out).mono ?_); rintro e w5 ⟨v, rfl, hR, hb, hk⟩; obtain ⟨A5, c5, rfl⟩ := Kd.R_slice hR; have hcw := Kd.C_string (P := Try.prog) (A := A5) (c := c5) Try.underlying26 Try.underlying5 Try.underlying9 (Kd.R_reads' hR).2.2; rw [S2.out] at hcw; simp only [List.length_cons, List.length_nil, Nat.reduceAdd, Nat.zero_add] at hcw; have HI5 := Aside0.mk (RdS.later HI4.out hb); clear hR hb hk) | (go_at_call 12; (with_reducible refine (rd_End g [] 0 w0 _ HI5.out).mono ?_); rintro e w6 ⟨rfl, rfl⟩) | (go_at_call 14; (with_reducible refine (rd_Err0 _).mono ?_); rintro e w6 ⟨rfl, rfl⟩) | (go_at_call 15; (with_reducible refine (rd_Left0 _).mono ?_); rintro e w6 ⟨rfl, rfl⟩))
  go_ret
  exact ⟨rfl, below_step H1.out HI5.out.bel⟩
def annuletlaw06_awake.f : Option (Bool) := some true
theorem annuletlaw06_awake.calls (r : Bool) (w : World) (h : annuletlaw06_awake.f = some r) :
    Calls Try.prog 6 #[] w fun e w' => e = .returned (.bool r) ∧ Below w.heap.size w w' := by
  obtain rfl := Option.some.inj h
  exact awake06_walk w


/-! ### buf_Reader_Fix: function 11 -/
set_option maxHeartbeats 1000000 in
set_option maxRecDepth 100000 in
theorem rd_Fix (g : Nat) (rest : List Int) (met s : Int) (w0 w : World) (hI : RdS 48 w0 w g rest met) :
    Calls Try.prog 11 #[.pointer (some ⟨g, 0, none⟩), .int .i64 s] w fun e w' => e = .returned (.int .u64 (fixR s rest met).1) ∧ RdS 48 w0 w' g (fixR s rest met).2.1 (fixR s rest met).2.2 ∧ KeepBut w w' g none := by
  have HI := Aside0.mk hI
  obtain ⟨A, c, HG, hc, HS⟩ := hI.ex
  have h2 : w.cell? ⟨g, 2, none⟩ = some (.int .i64 met) := (blk_cell HG 2).trans rfl
  have f2 := blk_frozen HG 2
  clear HG hc HS hI
  unfold fixR
  by_cases c1 : met = 0
  · have c1b : (met != 0) = false := by rw [bne_eq_false_iff_eq]; exact c1
    rw [if_neg (by simpa using c1)]
    by_cases c2 : s < 1 ∨ 8 < s
    · rw [if_pos c2]
      by_cases c3 : s < 1
      · go_enter Try.func11, Try.ntmps11
        go_wp2_with (go_at_call 22; (with_reducible refine (rd_dead g rest met w0 w HI.out).mono ?_); rintro e w1 ⟨rfl, rfl⟩)
        go_ret
        exact ⟨rfl, RdS.put_met HI.out 1, KeepBut.set_ (KeepBut.refl _ _ _) _ _⟩
      · have c4 : 8 < s := by omega
        go_enter Try.func11, Try.ntmps11
        go_wp2_with (go_at_call 22; (with_reducible refine (rd_dead g rest met w0 w HI.out).mono ?_); rintro e w1 ⟨rfl, rfl⟩)
        go_ret
        exact ⟨rfl, RdS.put_met HI.out 1, KeepBut.set_ (KeepBut.refl _ _ _) _ _⟩
    · rw [if_neg c2]
      have c3 : ¬ s < 1 := fun h => c2 (Or.inl h)
      have c4 : ¬ 8 < s := fun h => c2 (Or.inr h)
      by_cases c5 : (rest.length : Int) < s
      · rw [if_pos c5]
        go_enter Try.func11, Try.ntmps11
        go_wp2_with (first | (go_at_call 22; (with_reducible refine (rd_dead g rest met w0 w HI.out).mono ?_); rintro e w1 ⟨rfl, rfl⟩) | (go_at_call 25; (with_reducible refine (rd_lacks g rest met s w0 w HI.out).mono ?_); rintro e w1 ⟨rfl, hi, hk⟩; rw [if_pos c5] at hi; rw [decide_eq_true c5]; have HI2 := Aside0.mk hi; have HK := Aside0.mk hk; clear hi hk))
        go_ret
        exact ⟨rfl, HI2.out, HK.out⟩
      · rw [if_neg c5]
        obtain ⟨m, rfl⟩ : ∃ m : Nat, s = (m : Int) := ⟨s.toNat, by omega⟩
        rw [Int.toNat_natCast]
        have H0 := Aside0.mk (show (0 : Int) ≤ (m : Int) by omega)
        have HN := Aside0.mk (show (m : Int) ≤ (rest.length : Int) by omega)
        have HE := Aside0.mk (show (rest.take m).length = m by rw [List.length_take]; omega)
        have HM := Aside0.mk c1
        go_enter Try.func11, Try.ntmps11
        go_wp2_with (first | (go_at_call 22; (with_reducible refine (rd_dead g rest met w0 w HI.out).mono ?_); rintro e w1 ⟨rfl, rfl⟩) | (go_at_call 25; (with_reducible refine (rd_lacks g rest met m w0 w HI.out).mono ?_); rintro e w1 ⟨rfl, hi, hk⟩; rw [if_neg (by have := HN.out; omega)] at hi; rw [decide_eq_false (by have := HN.out; omega)]; have HI2 := Aside0.mk hi; have HK := Aside0.mk hk; clear hi hk) | (go_at_call 24; (with_reducible refine (rd_take g rest met m w0 _ HI2.out H0.out HN.out).mono ?_); rintro e w2 ⟨v, rfl, hR, hi, hk⟩; rw [Int.toNat_natCast] at hR hi; obtain ⟨A1, cc, rfl⟩ := Kd.R_slice hR; have HR := Aside0.mk hR; have HI3 := Aside0.mk hi; have HK2 := Aside0.mk (HK.out.trans hk (.inl rfl)); rw [HE.out]; clear hR hi hk))
        generalize hL : rest.take m = L at *
        have HLE := Aside0.mk HE.out
        clear HE
        go_loopw [5, 7, 26] (fun v5 v7 v26 wr => ∃ i : Nat, i ≤ m ∧ v26 = .int .i64 (i : Int) ∧ v5 = .int .u64 (beI (L.take i) 0) ∧ wr = w2) (fun _ _ v26 _ => m - (intOf v26).toNat)
        case atStart => exact ⟨0, by omega, rfl, rfl, rfl⟩
        case round =>
          obtain ⟨i, hi, rfl, rfl, rfl⟩ := hrel
          by_cases hlt : i < m
          · have hc1 : (i : Int) < (m : Int) := by omega
            have hc0 : (0 : Int) ≤ (i : Int) := by omega
            have hLl := HLE.out
            obtain ⟨ad, ea, hx⟩ := Kd.at_int (Kd.R_reads' HR.out).2.2 (i : Int) hc0 (by rw [hLl]; exact hc1)
            cases ea
            rw [Int.toNat_natCast] at hx
            have hw1 : wrap64 ((i : Int) + 1) = ((i + 1 : Nat) : Int) := by have := HI.out.small; have := HN.out; unfold wrap64; omega
            have hnx := Aside0.mk (beI_next L i 0 (by rw [hLl]; exact hlt))
            clear hLl
            go_wp2
            exact ⟨⟨i + 1, by omega, by congr 1, by rw [hnx.out], trivial⟩, by simp [intOf]; omega⟩
          · obtain rfl : i = m := by omega
            have hT : L.take i = L := List.take_of_length_le (by rw [HLE.out]; exact Nat.le_refl _)
            rw [hT]
            clear hT
            go_wp2
            go_ret
            rw [HM.out] at HI3
            exact ⟨by rw [hL]; rfl, HI3.out, HK2.out⟩
  · have c1b : (met != 0) = true := by simpa using c1
    rw [if_pos c1]
    go_enter Try.func11, Try.ntmps11
    go_wp2_with (go_at_call 22; (with_reducible refine (rd_dead g rest met w0 w HI.out).mono ?_); rintro e w1 ⟨rfl, rfl⟩)
    go_ret
    exact ⟨rfl, HI.out, KeepBut.refl _ _ _⟩
def buf_Reader_Fix.f (s0_0 : Bool) (s0_1 : List Int) (s0_2 : Int) (a1 : Int) : Option (Int × Bool × List Int × Int) := some ((fixR a1 s0_1 s0_2).1, s0_0, (fixR a1 s0_1 s0_2).2.1, (fixR a1 s0_1 s0_2).2.2)
theorem buf_Reader_Fix.calls (g : Nat) (s0_0 : Bool) (s0_1 : List Int) (s0_2 : Int) (a1 : Int) (r1 : Int) (r2 : Bool) (r3 : List Int) (r4 : Int) (w0 w : World) (hI : IsS48 w0 w g s0_0 s0_1 s0_2) (hB : Below w0.heap.size w0 w) (h : buf_Reader_Fix.f s0_0 s0_1 s0_2 a1 = some (r1, r2, r3, r4)) :
    Calls Try.prog 11 #[.pointer (some ⟨g, 0, none⟩), .int .i64 a1] w fun e w' => e = .returned (.int .u64 r1) ∧ IsS48 w0 w' g r2 r3 r4 ∧ Below w0.heap.size w0 w' ∧ KeepBut w w' g none := by
  have h := Option.some.inj h
  injection h with e1 h
  injection h with e2 h
  injection h with e3 e4
  subst e1 e2 e3 e4
  obtain ⟨h0, wb, hb, hr⟩ := hI
  refine (rd_Fix g s0_1 s0_2 a1 wb w hr).mono ?_
  rintro e w' ⟨he, hi, hk⟩
  exact ⟨he, ⟨h0, wb, hb, hi⟩, IsS48.keep hB hb hr.bel hi.bel hr.ge hk, hk⟩


/-! ### annuletlaw06_BufBack: function 3 -/
def backL : Nat → Int → Int
  | 0, x => x
  | n + 1, x => backL n (IntKind.u64.wrap (x * 256))
def annuletlaw06_BufBack.f (k : Nat) (a0 : Int) (a1 : Int) (a2 : ByteArray) (a3 : ByteArray) : Option (Bool) :=
  if (a2.size : Int) > 300 ∨ (a3.size : Int) > 300 ∨ a1 < 1 ∨ a1 > 8 then some true else
  (buf_Text.f k [] a2).bind fun b1 => (buf_Fix.f k b1 a0 a1).bind fun b2 => (buf_Text.f k b2 a3).bind fun b3 => (if b3.length < 140737488355328 then
  ((buf_Reader_Text.f k true b3 0 (a2.size : Int)).bind fun t1 => (buf_Reader_Fix.f t1.2.1 t1.2.2.1 t1.2.2.2 a1).bind fun t2 => (buf_Reader_Text.f k t2.2.1 t2.2.2.1 t2.2.2.2 300).bind fun t3 =>
  (if t1.1 = a2 ∧ backL (8 - a1).toNat t2.1 = backL (8 - a1).toNat a0 ∧ t3.1 = a3 ∧ endR t3.2.2.1 t3.2.2.2 = 0 then (some true) else (none))) else (none))
set_option maxHeartbeats 2000000 in
set_option maxRecDepth 100000 in
theorem annuletlaw06_BufBack.calls (k : Nat) (a0 : Int) (a1 : Int) (a2 : ByteArray) (a3 : ByteArray) (r : Bool) (w : World) (h : annuletlaw06_BufBack.f k a0 a1 a2 a3 = some r) :
    Calls Try.prog 3 #[.int .u64 a0, .int .i64 a1, .string a2, .string a3] w fun e w' => e = .returned (.bool r) ∧ Below w.heap.size w w' := by
  have HB := Aside0.mk (Below.refl w.heap.size w)
  unfold annuletlaw06_BufBack.f at h
  by_cases c : (a2.size : Int) > 300 ∨ (a3.size : Int) > 300 ∨ a1 < 1 ∨ a1 > 8
  · rw [if_pos c] at h
    obtain rfl := Option.some.inj h
    clear h
    have aw : ∀ w1 : World, Below w.heap.size w w1 → Calls Try.prog 6 #[] w1 fun e w' => e = .returned (.bool true) ∧ Below w.heap.size w w' := fun w1 hb => (awake06_walk w1).mono fun e w' ⟨he, h2⟩ => ⟨he, below_step hb h2⟩
    have AW := Aside0.mk aw
    clear aw
    by_cases c1 : (a2.size : Int) > 300
    · have d1 : decide (300 < (a2.size : Int)) = true := decide_eq_true c1
      have d2 : decide (300 < a2.size) = true := decide_eq_true (by omega)
      clear c c1
      go_enter Try.func3, Try.ntmps3
      go_wp2_with (go_at_call 6; refine (AW.out _ (Below.refl _ _)).mono ?_; rintro e w1 ⟨rfl, hb⟩)
      go_ret
      exact ⟨rfl, hb⟩
    · have d1 : decide (300 < (a2.size : Int)) = false := decide_eq_false c1
      have d2 : decide (300 < a2.size) = false := decide_eq_false (by omega)
      by_cases c2 : (a3.size : Int) > 300
      · have e1 : decide (300 < (a3.size : Int)) = true := decide_eq_true c2
        have e2 : decide (300 < a3.size) = true := decide_eq_true (by omega)
        clear c c1 c2
        go_enter Try.func3, Try.ntmps3
        go_wp2_with (go_at_call 6; refine (AW.out _ (Below.refl _ _)).mono ?_; rintro e w1 ⟨rfl, hb⟩)
        go_ret
        exact ⟨rfl, hb⟩
      · have e1 : decide (300 < (a3.size : Int)) = false := decide_eq_false c2
        have e2 : decide (300 < a3.size) = false := decide_eq_false (by omega)
        by_cases c3 : a1 < 1
        · have f1 : decide (a1 < 1) = true := decide_eq_true c3
          clear c c1 c2 c3
          go_enter Try.func3, Try.ntmps3
          go_wp2_with (go_at_call 6; refine (AW.out _ (Below.refl _ _)).mono ?_; rintro e w1 ⟨rfl, hb⟩)
          go_ret
          exact ⟨rfl, hb⟩
        · have f1 : decide (a1 < 1) = false := decide_eq_false c3
          have f2 : decide (8 < a1) = true := decide_eq_true (by omega)
          clear c c1 c2 c3
          go_enter Try.func3, Try.ntmps3
          go_wp2_with (go_at_call 6; refine (AW.out _ (Below.refl _ _)).mono ?_; rintro e w1 ⟨rfl, hb⟩)
          go_ret
          exact ⟨rfl, hb⟩
  · rw [if_neg c] at h
    obtain ⟨b1, E1, h⟩ := Option.bind_eq_some_iff.mp h
    obtain ⟨b2, E2, h⟩ := Option.bind_eq_some_iff.mp h
    obtain ⟨b3, E3, h⟩ := Option.bind_eq_some_iff.mp h
    by_cases L3 : b3.length < 140737488355328
    case neg => rw [if_neg L3] at h; exact absurd h (by simp)
    rw [if_pos L3] at h
    obtain ⟨⟨q1, m1, r1, e1⟩, G1, h⟩ := Option.bind_eq_some_iff.mp h
    obtain ⟨⟨q2, m2, r2, e2⟩, G2, h⟩ := Option.bind_eq_some_iff.mp h
    obtain ⟨⟨q3, m3, r3, e3⟩, G3, h⟩ := Option.bind_eq_some_iff.mp h
    by_cases hc : q1 = a2 ∧ backL (8 - a1).toNat q2 = backL (8 - a1).toNat a0 ∧ q3 = a3 ∧ endR r3 e3 = 0
    case neg => rw [if_neg hc] at h; exact absurd h (by simp)
    rw [if_pos hc] at h
    obtain rfl := Option.some.inj h
    obtain ⟨rfl, hbk, rfl, hen⟩ := hc
    have d1 : decide (300 < (q1.size : Int)) = false := decide_eq_false (by omega)
    have d2 : decide (300 < q1.size) = false := decide_eq_false (by omega)
    have d3 : decide (300 < (q3.size : Int)) = false := decide_eq_false (by omega)
    have d4 : decide (300 < q3.size) = false := decide_eq_false (by omega)
    have d5 : decide (a1 < 1) = false := decide_eq_false (by omega)
    have d6 : decide (8 < a1) = false := decide_eq_false (by omega)
    have a10 : 1 ≤ a1 := by omega
    have a18 : a1 ≤ 8 := by omega
    have GE : buf_Reader_End.f m3 r3 e3 = some (0, m3, e3) := by unfold buf_Reader_End.f; rw [hen]
    have GO : buf_Open.f b3 = some (true, b3, 0) := by unfold buf_Open.f; rw [if_pos L3]
    have E1 := Aside0.mk E1
    have E2 := Aside0.mk E2
    have E3 := Aside0.mk E3
    have G1 := Aside0.mk G1
    have G2 := Aside0.mk G2
    have G3 := Aside0.mk G3
    have GE := Aside0.mk GE
    have GO := Aside0.mk GO
    have BK := Aside0.mk hbk
    clear c h hbk hen L3
    go_enter Try.func3, Try.ntmps3
    go_wp2_with (first | (go_at_call 8; (with_reducible refine (buf_Text.calls k (fun _ => True) (.slice none 0 0) [] q1 b1 w _ (Below.refl _ _) (Kd.R_nil _ _ _ _ _) E1.out).mono ?_); rintro e w1 ⟨v, rfl, hR, hb, hk⟩; obtain ⟨A1, c1, rfl⟩ := Kd.R_slice hR; have HR1 := Aside0.mk hR; have HB1 := Aside0.mk hb; clear hR hb hk) | (go_at_call 9; (with_reducible refine (buf_Fix.calls k (fun _ => True) (.slice A1 b1.length c1) b1 a0 a1 b2 w _ HB1.out (Kd.R_mono HR1.out (fun _ _ => trivial)) E2.out).mono ?_); rintro e w2 ⟨v, rfl, hR, hb, hk⟩; obtain ⟨A2, c2, rfl⟩ := Kd.R_slice hR; have HR2 := Aside0.mk hR; have HB2 := Aside0.mk hb; clear hR hb hk) | (go_at_call 8; (with_reducible refine (buf_Text.calls k (fun _ => True) (.slice A2 b2.length c2) b2 q3 b3 w _ HB2.out (Kd.R_mono HR2.out (fun _ _ => trivial)) E3.out).mono ?_); rintro e w3 ⟨v, rfl, hR, hb, hk⟩; obtain ⟨A3, c3, rfl⟩ := Kd.R_slice hR; have HR3 := Aside0.mk (Kd.R_reads' hR); have HB3 := Aside0.mk hb; clear hR hb hk) | (go_at_call 7; (with_reducible refine (buf_Open.calls A3 c3 b3 true b3 0 w3 w3 (Below.refl _ _) HR3.out.2.2 HR3.out.2.1 GO.out).mono ?_); rintro e w4 ⟨g, rfl, hi, hb, hb2⟩; have HI4 := Aside0.mk hi; have HB4 := Aside0.mk hb; clear hi hb hb2) | (go_at_call 10; (with_reducible refine (buf_Reader_Text.calls k g true b3 0 (q1.size : Int) q1 m1 r1 e1 w3 _ HI4.out HB4.out G1.out).mono ?_); rintro e w5 ⟨rfl, hi, hb, hk⟩; have HI5 := Aside0.mk hi; have HB5 := Aside0.mk hb; clear hi hb hk) | (go_at_call 11; (with_reducible refine (buf_Reader_Fix.calls g m1 r1 e1 a1 q2 m2 r2 e2 w3 _ HI5.out HB5.out G2.out).mono ?_); rintro e w6 ⟨rfl, hi, hb, hk⟩; have HI6 := Aside0.mk hi; have HB6 := Aside0.mk hb; clear hi hb hk) | (go_at_call 10; (with_reducible refine (buf_Reader_Text.calls k g m2 r2 e2 300 q3 m3 r3 e3 w3 _ HI6.out HB6.out G3.out).mono ?_); rintro e w7 ⟨rfl, hi, hb, hk⟩; have HI7 := Aside0.mk hi; have HB7 := Aside0.mk hb; clear hi hb hk))
    go_loopw [0, 11, 13] (fun v0 v11 v13 wr => ∃ (x y j : Int), v0 = .int .u64 x ∧ v11 = .int .u64 y ∧ v13 = .int .i64 j ∧ 1 ≤ j ∧ j ≤ 8 ∧ Aside0 (backL (8 - j).toNat y = backL (8 - j).toNat x) ∧ wr = w7) (fun _ _ v13 _ => (8 - intOf v13).toNat)
    case atStart => exact ⟨a0, q2, a1, rfl, rfl, rfl, a10, a18, BK, rfl⟩
    case round =>
      obtain ⟨x, y, j, rfl, rfl, rfl, hj1, hj8, hbk, rfl⟩ := hrel
      by_cases hlt : j < 8
      · have hbk2 : Aside0 (backL (8 - (j + 1)).toNat (IntKind.u64.wrap (y * 256)) = backL (8 - (j + 1)).toNat (IntKind.u64.wrap (x * 256))) := by
          have := hbk.out
          rw [show (8 - j).toNat = (8 - (j + 1)).toNat + 1 by omega] at this
          exact ⟨this⟩
        go_wp2
        exact ⟨⟨_, _, _, rfl, rfl, rfl, by omega, by omega, hbk2, trivial⟩, by simp [intOf]; omega⟩
      · obtain rfl : j = 8 := by omega
        have e := hbk.out
        rw [show ((8 : Int) - 8).toNat = 0 from rfl] at e
        obtain rfl : y = x := e
        go_wp2_with (first | (go_at_call 12; (with_reducible refine (buf_Reader_End.calls g m3 r3 e3 0 m3 e3 w3 _ HI7.out HB7.out GE.out).mono ?_); rintro e w8 ⟨rfl, hi, hb, hk⟩; have HB8 := Aside0.mk hb; clear hi hb hk) | (go_at_call 6; refine (awake06_walk _).mono ?_; rintro e w9 ⟨rfl, hb⟩))
        go_ret
        exact ⟨rfl, below_step HB3.out (below_step HB8.out hb)⟩

def annuletlaw06_BufBack.Pure : Prop := ∀ (a0 : Int) (a1 : Int) (a2 : ByteArray) (a3 : ByteArray), (Lit.int .u64 a0).wf = true → (Lit.int .i64 a1).wf = true → a2.size ≤ 140737488351232 → a3.size ≤ 140737488351232 → ∃ k, annuletlaw06_BufBack.f k a0 a1 a2 a3 = some true

end Go.Proofs.Ytopjffhmfgnedaa.PBufBack
