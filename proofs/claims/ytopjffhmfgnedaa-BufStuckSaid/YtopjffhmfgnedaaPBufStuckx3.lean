/- Written by a program of this session (a turned copy of the kit's print): functions of the program, each with the Lean function that it comes to, and the row of one law. No condition. -/
import Derived.Test.YtopjffhmfgnedaaPBufStuckx0
import Derived.Test.YtopjffhmfgnedaaPBufStuckx1
import Derived.Test.YtopjffhmfgnedaaPBufStuckx2
namespace Go.Proofs.Ytopjffhmfgnedaa.PBufStuck
open Go.RowKit Go.Proofs.YtopjffhmfgnedaaW.PrintWords Go.Proofs.YtopjffhmfgnedaaW.PrintLast Go.Proofs.YtopjffhmfgnedaaW.PrintMore
attribute [local go_sem] max2_int min2_int max_two min_two max_three min_three max_four min_four   -- for this text's walks alone
set_option linter.unusedVariables false
set_option linter.unusedSimpArgs false


/-! ### annuletlaw06_awake: function 6 -/
set_option maxHeartbeats 1000000 in
set_option maxRecDepth 100000 in
theorem awake06_walk (w : World) : Calls Try.prog 6 #[] w fun e w' => e = .returned (.bool true) ∧ Below w.heap.size w w' := by
  have G1 := Aside0.mk (show uvar_Get.f 20 [2, 97, 98, 1] = some (2, 1, 0) by decide +kernel)
  have G2 := Aside0.mk (show textR 5 [2, 97, 98, 1] 0 2 1 0 = ((⟨#[97, 98]⟩ : ByteArray), [1], 0) by decide +kernel)
  have G3 := Aside0.mk (show flagR [1] 0 = (true, [], 0) by decide +kernel)
  have G4 := Aside0.mk (show buf_Fix.f 20 [] 258 2 = some [1, 2] by decide +kernel)
  have G5 := Aside0.mk (show buf_Text.f 20 [] (⟨#[97, 98]⟩ : ByteArray) = some [2, 97, 98] by decide +kernel)
  have s1 : strOfNums [1, 2] = (⟨#[1, 2]⟩ : ByteArray) := by decide +kernel
  have s2 : strOfNums [2, 97, 98] = (⟨#[2, 97, 98]⟩ : ByteArray) := by decide +kernel
  have S1 := Aside0.mk s1
  have S2 := Aside0.mk s2
  clear s1 s2
  go_enter Try.func6, Try.ntmps6
  go_wp2_with (first | (go_at_call 7; refine (rd_Open (some ⟨w.heap.size, 0, none⟩) 4 [2, 97, 98, 1] _ (C_marked w 5 [2, 97, 98, 1] (0, 0) (by decide)) (by decide) (by decide)).mono ?_; rintro e w1 ⟨g, w0, rfl, hi, h1, h2⟩; have HI := Aside0.mk hi; have H1 := Aside0.mk (below_step (below_alloc (Below.refl _ _) _) h1 : Below w.heap.size w w0); clear hi h1 h2) | (go_at_call 10; (with_reducible refine (rd_Text 20 g [2, 97, 98, 1] 0 5 2 1 0 w0 _ HI.out G1.out (by decide) (by decide) (by decide) (by decide) (by decide)).mono ?_); rw [G2.out]; rintro e w2 ⟨rfl, hi, hk⟩; have HI2 := Aside0.mk hi; clear hi hk) | (go_at_call 18; (with_reducible refine (rd_Flag g [1] 0 w0 _ HI2.out).mono ?_); rw [G3.out]; rintro e w3 ⟨rfl, hi, hk⟩; have HI3 := Aside0.mk hi; clear hi hk) | (go_at_call 9; (with_reducible refine (buf_Fix.calls 20 (fun _ => True) (.slice none 0 0) [] 258 2 [1, 2] _ _ (Below.refl _ _) (Kd.R_nil _ _ _ _ _) G4.out).mono ?_); rintro e w4 ⟨v, rfl, hR, hb, hk⟩; obtain ⟨A4, c4, rfl⟩ := Kd.R_slice hR; have hcv := Kd.C_string (P := Try.prog) (A := A4) (c := c4) Try.underlying26 Try.underlying5 Try.underlying9 (Kd.R_reads' hR).2.2; rw [S1.out] at hcv; simp only [List.length_cons, List.length_nil, Nat.reduceAdd, Nat.zero_add] at hcv; have HI4 := Aside0.mk (RdS.later HI3.out hb); clear hR hb hk) | (go_at_call 8; (with_reducible refine (buf_Text.calls 20 (fun _ => True) (.slice none 0 0) [] (⟨#[97, 98]⟩ : ByteArray) [2, 97, 98] _ _ (Below.refl _ _) (Kd.R_nil _ _ _ _ _) G5.out).mono ?_); rintro e w5 ⟨v, rfl, hR, hb, hk⟩; obtain ⟨A5, c5, rfl⟩ := Kd.R_slice hR; have hcw := Kd.C_string (P := Try.prog) (A := A5) (c := c5) Try.underlying26 Try.underlying5 Try.underlying9 (Kd.R_reads' hR).2.2; rw [S2.out] at hcw; simp only [List.length_cons, List.length_nil, Nat.reduceAdd, Nat.zero_add] at hcw; have HI5 := Aside0.mk (RdS.later HI4.out hb); clear hR hb hk) | (go_at_call 12; (with_reducible refine (rd_End g [] 0 w0 _ HI5.out).mono ?_); rintro e w6 ⟨rfl, rfl⟩) | (go_at_call 14; (with_reducible refine (rd_Err0 _).mono ?_); rintro e w6 ⟨rfl, rfl⟩) | (go_at_call 15; (with_reducible refine (rd_Left0 _).mono ?_); rintro e w6 ⟨rfl, rfl⟩))
  go_ret
  exact ⟨rfl, below_step H1.out HI5.out.bel⟩
def annuletlaw06_awake.f : Option (Bool) := some true
theorem annuletlaw06_awake.calls (r : Bool) (w : World) (h : annuletlaw06_awake.f = some r) :
    Calls Try.prog 6 #[] w fun e w' => e = .returned (.bool r) ∧ Below w.heap.size w w' := by
  obtain rfl := Option.some.inj h
  exact awake06_walk w


/-! ### buf_Reader_Fix: function 11 -/
set_option maxHeartbeats 1000000 in
set_option maxRecDepth 100000 in
theorem rd_Fix (g : Nat) (rest : List Int) (met s : Int) (w0 w : World) (hI : RdS 48 w0 w g rest met) :
    Calls Try.prog 11 #[.pointer (some ⟨g, 0, none⟩), .int .i64 s] w fun e w' => e = .returned (.int .u64 (fixR s rest met).1) ∧ RdS 48 w0 w' g (fixR s rest met).2.1 (fixR s rest met).2.2 ∧ KeepBut w w' g none := by
  have HI := Aside0.mk hI
  obtain ⟨A, c, HG, hc, HS⟩ := hI.ex
  have h2 : w.cell? ⟨g, 2, none⟩ = some (.int .i64 met) := (blk_cell HG 2).trans rfl
  have f2 := blk_frozen HG 2
  clear HG hc HS hI
  unfold fixR
  by_cases c1 : met = 0
  · have c1b : (met != 0) = false := by rw [bne_eq_false_iff_eq]; exact c1
    rw [if_neg (by simpa using c1)]
    by_cases c2 : s < 1 ∨ 8 < s
    · rw [if_pos c2]
      by_cases c3 : s < 1
      · go_enter Try.func11, Try.ntmps11
        go_wp2_with (go_at_call 22; (with_reducible refine (rd_dead g rest met w0 w HI.out).mono ?_); rintro e w1 ⟨rfl, rfl⟩)
        go_ret
        exact ⟨rfl, RdS.put_met HI.out 1, KeepBut.set_ (KeepBut.refl _ _ _) _ _⟩
      · have c4 : 8 < s := by omega
        go_enter Try.func11, Try.ntmps11
        go_wp2_with (go_at_call 22; (with_reducible refine (rd_dead g rest met w0 w HI.out).mono ?_); rintro e w1 ⟨rfl, rfl⟩)
        go_ret
        exact ⟨rfl, RdS.put_met HI.out 1, KeepBut.set_ (KeepBut.refl _ _ _) _ _⟩
    · rw [if_neg c2]
      have c3 : ¬ s < 1 := fun h => c2 (Or.inl h)
      have c4 : ¬ 8 < s := fun h => c2 (Or.inr h)
      by_cases c5 : (rest.length : Int) < s
      · rw [if_pos c5]
        go_enter Try.func11, Try.ntmps11
        go_wp2_with (first | (go_at_call 22; (with_reducible refine (rd_dead g rest met w0 w HI.out).mono ?_); rintro e w1 ⟨rfl, rfl⟩) | (go_at_call 25; (with_reducible refine (rd_lacks g rest met s w0 w HI.out).mono ?_); rintro e w1 ⟨rfl, hi, hk⟩; rw [if_pos c5] at hi; rw [decide_eq_true c5]; have HI2 := Aside0.mk hi; have HK := Aside0.mk hk; clear hi hk))
        go_ret
        exact ⟨rfl, HI2.out, HK.out⟩
      · rw [if_neg c5]
        obtain ⟨m, rfl⟩ : ∃ m : Nat, s = (m : Int) := ⟨s.toNat, by omega⟩
        rw [Int.toNat_natCast]
        have H0 := Aside0.mk (show (0 : Int) ≤ (m : Int) by omega)
        have HN := Aside0.mk (show (m : Int) ≤ (rest.length : Int) by omega)
        have HE := Aside0.mk (show (rest.take m).length = m by rw [List.length_take]; omega)
        have HM := Aside0.mk c1
        go_enter Try.func11, Try.ntmps11
        go_wp2_with (first | (go_at_call 22; (with_reducible refine (rd_dead g rest met w0 w HI.out).mono ?_); rintro e w1 ⟨rfl, rfl⟩) | (go_at_call 25; (with_reducible refine (rd_lacks g rest met m w0 w HI.out).mono ?_); rintro e w1 ⟨rfl, hi, hk⟩; rw [if_neg (by have := HN.out; omega)] at hi; rw [decide_eq_false (by have := HN.out; omega)]; have HI2 := Aside0.mk hi; have HK := Aside0.mk hk; clear hi hk) | (go_at_call 24; (with_reducible refine (rd_take g rest met m w0 _ HI2.out H0.out HN.out).mono ?_); rintro e w2 ⟨v, rfl, hR, hi, hk⟩; rw [Int.toNat_natCast] at hR hi; obtain ⟨A1, cc, rfl⟩ := Kd.R_slice hR; have HR := Aside0.mk hR; have HI3 := Aside0.mk hi; have HK2 := Aside0.mk (HK.out.trans hk (.inl rfl)); rw [HE.out]; clear hR hi hk))
        generalize hL : rest.take m = L at *
        have HLE := Aside0.mk HE.out
        clear HE
        go_loopw [5, 7, 26] (fun v5 v7 v26 wr => ∃ i : Nat, i ≤ m ∧ v26 = .int .i64 (i : Int) ∧ v5 = .int .u64 (beI (L.take i) 0) ∧ wr = w2) (fun _ _ v26 _ => m - (intOf v26).toNat)
        case atStart => exact ⟨0, by omega, rfl, rfl, rfl⟩
        case round =>
          obtain ⟨i, hi, rfl, rfl, rfl⟩ := hrel
          by_cases hlt : i < m
          · have hc1 : (i : Int) < (m : Int) := by omega
            have hc0 : (0 : Int) ≤ (i : Int) := by omega
            have hLl := HLE.out
            obtain ⟨ad, ea, hx⟩ := Kd.at_int (Kd.R_reads' HR.out).2.2 (i : Int) hc0 (by rw [hLl]; exact hc1)
            cases ea
            rw [Int.toNat_natCast] at hx
            have hw1 : wrap64 ((i : Int) + 1) = ((i + 1 : Nat) : Int) := by have := HI.out.small; have := HN.out; unfold wrap64; omega
            have hnx := Aside0.mk (beI_next L i 0 (by rw [hLl]; exact hlt))
            clear hLl
            go_wp2
            exact ⟨⟨i + 1, by omega, by congr 1, by rw [hnx.out], trivial⟩, by simp [intOf]; omega⟩
          · obtain rfl : i = m := by omega
            have hT : L.take i = L := List.take_of_length_le (by rw [HLE.out]; exact Nat.le_refl _)
            rw [hT]
            clear hT
            go_wp2
            go_ret
            rw [HM.out] at HI3
            exact ⟨by rw [hL]; rfl, HI3.out, HK2.out⟩
  · have c1b : (met != 0) = true := by simpa using c1
    rw [if_pos c1]
    go_enter Try.func11, Try.ntmps11
    go_wp2_with (go_at_call 22; (with_reducible refine (rd_dead g rest met w0 w HI.out).mono ?_); rintro e w1 ⟨rfl, rfl⟩)
    go_ret
    exact ⟨rfl, HI.out, KeepBut.refl _ _ _⟩
def buf_Reader_Fix.f (s0_0 : Bool) (s0_1 : List Int) (s0_2 : Int) (a1 : Int) : Option (Int × Bool × List Int × Int) := some ((fixR a1 s0_1 s0_2).1, s0_0, (fixR a1 s0_1 s0_2).2.1, (fixR a1 s0_1 s0_2).2.2)
theorem buf_Reader_Fix.calls (g : Nat) (s0_0 : Bool) (s0_1 : List Int) (s0_2 : Int) (a1 : Int) (r1 : Int) (r2 : Bool) (r3 : List Int) (r4 : Int) (w0 w : World) (hI : IsS48 w0 w g s0_0 s0_1 s0_2) (hB : Below w0.heap.size w0 w) (h : buf_Reader_Fix.f s0_0 s0_1 s0_2 a1 = some (r1, r2, r3, r4)) :
    Calls Try.prog 11 #[.pointer (some ⟨g, 0, none⟩), .int .i64 a1] w fun e w' => e = .returned (.int .u64 r1) ∧ IsS48 w0 w' g r2 r3 r4 ∧ Below w0.heap.size w0 w' ∧ KeepBut w w' g none := by
  have h := Option.some.inj h
  injection h with e1 h
  injection h with e2 h
  injection h with e3 e4
  subst e1 e2 e3 e4
  obtain ⟨h0, wb, hb, hr⟩ := hI
  refine (rd_Fix g s0_1 s0_2 a1 wb w hr).mono ?_
  rintro e w' ⟨he, hi, hk⟩
  exact ⟨he, ⟨h0, wb, hb, hi⟩, IsS48.keep hB hb hr.bel hi.bel hr.ge hk, hk⟩

/-- A state of type 38 at block g of W; what its slices lead to came in by w0. -/
def IsS38 (w0 W : World) (g : Nat) (f0 : List Int) (f1 : Int) (f2 : Int) : Prop := ∃ A0 c0, W.heap[g]? = some (.cells #[.slice A0 f0.length c0, .int .i64 f1, .int .i64 f2] 38 (0, 0)) ∧ w0.heap.size ≤ g ∧ (f0.length ≤ c0 ∧ Kd.C (Kd.int .u8) w0 A0 f0.length f0)
theorem IsS38.grown {w0 W : World} {g : Nat} {f0 : List Int} {f1 : Int} {f2 : Int} {W1 : World} {row : Option Nat} (h : IsS38 w0 W g f0 f1 f2) (hw : W.grownBy W1 row) (hne : some g ≠ row) : IsS38 w0 W1 g f0 f1 f2 := by
  obtain ⟨A0, c0, hb, hg, hr0⟩ := h
  exact ⟨A0, c0, blk_grown hb hw hne, hg, hr0⟩
theorem IsS38.own_neN {w0 W : World} {g : Nat} {f0 : List Int} {f1 : Int} {f2 : Int} {α : Type} {d : Kd α} {e : Nat} {base : Nat} {ok : Nat → Prop} {v : Value} {xs : List α} (h : IsS38 w0 W g f0 f1 f2) (ho : Kd.N d e W base ok v xs) (ht : e ≠ 38) : some g ≠ v.ownBlock := by
  obtain ⟨A0, c0, hb, hg, hr0⟩ := h
  exact Kd.N_ne ho hb ht
theorem IsS38.fresh {w0 W : World} {g : Nat} {f0 : List Int} {f1 : Int} {f2 : Int} (h : IsS38 w0 W g f0 f1 f2) : ∀ k, W.heap.size ≤ k → k ≠ g := by
  obtain ⟨A0, c0, hb, hg, hr0⟩ := h
  exact Kd.freshB hb
theorem IsS38.kept {w0 W : World} {g : Nat} {f0 : List Int} {f1 : Int} {f2 : Int} {W1 : World} {S : Nat → Prop} (h : IsS38 w0 W g f0 f1 f2) (hk : Kept W W1 S) (hne : ¬ S g) : IsS38 w0 W1 g f0 f1 f2 := by
  obtain ⟨A0, c0, hb, hg, hr0⟩ := h
  exact ⟨A0, c0, blk_kept hb hk hne, hg, hr0⟩
theorem IsS38.below {w0 W : World} {g : Nat} {f0 : List Int} {f1 : Int} {f2 : Int} {W1 : World} (h : IsS38 w0 W g f0 f1 f2) (hw : Below W.heap.size W W1) : IsS38 w0 W1 g f0 f1 f2 := h.grown (grown_of_below hw none) (by simp)
theorem IsS38.alloc {w0 W : World} {g : Nat} {f0 : List Int} {f1 : Int} {f2 : Int} (h : IsS38 w0 W g f0 f1 f2) (o : Obj) : IsS38 w0 (W.alloc o) g f0 f1 f2 := h.below (below_alloc (Below.refl _ _) o)
theorem IsS38.drewN {w0 W : World} {g : Nat} {f0 : List Int} {f1 : Int} {f2 : Int} (h : IsS38 w0 W g f0 f1 f2) (m : Nat) : IsS38 w0 (W.drewN m) g f0 f1 f2 := h
theorem IsS38.drew {w0 W : World} {g : Nat} {f0 : List Int} {f1 : Int} {f2 : Int} (h : IsS38 w0 W g f0 f1 f2) : IsS38 w0 W.drew g f0 f1 f2 := h
theorem IsS38.at_ {w0 W : World} {g : Nat} {f0 : List Int} {f1 : Int} {f2 : Int} {w' : World} {m : Nat} (hq : W.drewN m = w') (h : IsS38 w0 W g f0 f1 f2) : IsS38 w0 w' g f0 f1 f2 := by subst hq; exact IsS38.drewN h m
theorem IsS38.apart {w0 W : World} {g : Nat} {f0 : List Int} {f1 : Int} {f2 : Int} {α : Type} {d : Kd α} {e : Nat} {base : Nat} {ok : Nat → Prop} {v : Value} {xs : List α} (h : IsS38 w0 W g f0 f1 f2) (ho : d.R e W base ok v xs) (ht : ∀ q, q ∈ e :: d.E → q ≠ 38) : d.R e W base (fun k => ok k ∧ k ≠ g) v xs := by
  obtain ⟨A0, c0, hb, hg, hr0⟩ := h
  exact Kd.R_types ho hb ht
theorem IsS38.own_ne {w0 W : World} {g : Nat} {f0 : List Int} {f1 : Int} {f2 : Int} {α : Type} {d : Kd α} {e : Nat} {base : Nat} {ok : Nat → Prop} {v : Value} {xs : List α} (h : IsS38 w0 W g f0 f1 f2) (ho : d.R e W base ok v xs) (ht : e ≠ 38) : some g ≠ v.ownBlock := by
  obtain ⟨A0, c0, hb, hg, hr0⟩ := h
  exact Kd.R_ne ho hb ht
theorem IsS38.apartQ {w0 W : World} {g : Nat} {f0 : List Int} {f1 : Int} {f2 : Int} {α : Type} {d : Kd α} {e : Nat} {base : Nat} {ok : Nat → Prop} {v : Value} {xs : List α} (h : IsS38 w0 W g f0 f1 f2) (ho : d.Q e W base ok v xs) (ht : ∀ q, q ∈ e :: d.E → q ≠ 38) : d.Q e W base (fun k => ok k ∧ k ≠ g) v xs := by
  obtain ⟨A0, c0, hb, hg, hr0⟩ := h
  exact Kd.Q_types ho hb ht
theorem IsS38.own_neQ {w0 W : World} {g : Nat} {f0 : List Int} {f1 : Int} {f2 : Int} {α : Type} {d : Kd α} {e : Nat} {base : Nat} {ok : Nat → Prop} {v : Value} {xs : List α} (h : IsS38 w0 W g f0 f1 f2) (ho : d.Q e W base ok v xs) (ht : e ≠ 38) : some g ≠ v.ownBlock := by
  obtain ⟨A0, c0, hb, hg, hr0⟩ := h
  exact Kd.Q_ne ho hb ht
theorem IsS38.apartS {w0 W : World} {g : Nat} {f0 : List Int} {f1 : Int} {f2 : Int} {α : Type} {d : Kd α} {e : Nat} {base : Nat} {ok : Nat → Prop} {v : Value} {xs : List α} (h : IsS38 w0 W g f0 f1 f2) (ho : d.S e W base ok v xs) (ht : ∀ q, q ∈ e :: d.E → q ≠ 38) : d.S e W base (fun k => ok k ∧ k ≠ g) v xs := by
  obtain ⟨A0, c0, hb, hg, hr0⟩ := h
  exact Kd.S_types ho hb ht
theorem IsS38.own_neS {w0 W : World} {g : Nat} {f0 : List Int} {f1 : Int} {f2 : Int} {α : Type} {d : Kd α} {e : Nat} {base : Nat} {ok : Nat → Prop} {v : Value} {xs : List α} (h : IsS38 w0 W g f0 f1 f2) (ho : d.S e W base ok v xs) (ht : e ≠ 38) : some g ≠ v.ownBlock := by
  obtain ⟨A0, c0, hb, hg, hr0⟩ := h
  exact Kd.S_ne ho hb ht
theorem IsS38.lt {w0 W : World} {g : Nat} {f0 : List Int} {f1 : Int} {f2 : Int} (h : IsS38 w0 W g f0 f1 f2) : g < W.heap.size := by
  obtain ⟨A0, c0, hb, hg, hr0⟩ := h
  exact blk_lt hb
theorem IsS38.ge {w0 W : World} {g : Nat} {f0 : List Int} {f1 : Int} {f2 : Int} (h : IsS38 w0 W g f0 f1 f2) : w0.heap.size ≤ g := by
  obtain ⟨A0, c0, hb, hg, hr0⟩ := h
  exact hg
theorem IsS38.ne_blk {w0 W : World} {g : Nat} {f0 : List Int} {f1 : Int} {f2 : Int} {a : Nat} {cs : Array Value} {t : TypeId} {fr : Nat × Nat} (h : IsS38 w0 W g f0 f1 f2) (hb2 : W.heap[a]? = some (.cells cs t fr)) (ht : t ≠ 38) : g ≠ a := by
  obtain ⟨A0, c0, hb, hg, hr0⟩ := h
  rintro rfl
  rw [hb] at hb2
  injection hb2 with hb2
  injection hb2 with _ ht2
  exact ht ht2.symm
theorem IsS38.far {w0 W : World} {g : Nat} {f0 : List Int} {f1 : Int} {f2 : Int} {p : Addr} (h : IsS38 w0 W g f0 f1 f2) (hne : g ≠ p.block) (u : Value) : IsS38 w0 (W.setCell p u) g f0 f1 f2 := by
  obtain ⟨A0, c0, hb, hg, hr0⟩ := h
  exact ⟨A0, c0, blk_far hb hne u, hg, hr0⟩
theorem cellS38_0 {W : World} {g : Nat} {A0 : Option Addr} {c0 : Nat} {f0 : List Int} {f1 : Int} {f2 : Int} (h : W.heap[g]? = some (.cells #[.slice A0 f0.length c0, .int .i64 f1, .int .i64 f2] 38 (0, 0))) : W.cell? ⟨g, 0, none⟩ = some (.slice A0 f0.length c0) := (blk_cell h 0).trans rfl
theorem cellS38_1 {W : World} {g : Nat} {A0 : Option Addr} {c0 : Nat} {f0 : List Int} {f1 : Int} {f2 : Int} (h : W.heap[g]? = some (.cells #[.slice A0 f0.length c0, .int .i64 f1, .int .i64 f2] 38 (0, 0))) : W.cell? ⟨g, 1, none⟩ = some (.int .i64 f1) := (blk_cell h 1).trans rfl
theorem IsS38.set_1 {w0 W : World} {g : Nat} {f0 : List Int} {f1 : Int} {f2 : Int} (h : IsS38 w0 W g f0 f1 f2) (x : Int) : IsS38 w0 (W.setCell ⟨g, 1, none⟩ (.int .i64 x)) g f0 x f2 := by
  obtain ⟨A0, c0, hb, hg, hr0⟩ := h
  exact ⟨A0, c0, by simpa using blk_set hb 1 (.int .i64 x), hg, hr0⟩
theorem cellS38_2 {W : World} {g : Nat} {A0 : Option Addr} {c0 : Nat} {f0 : List Int} {f1 : Int} {f2 : Int} (h : W.heap[g]? = some (.cells #[.slice A0 f0.length c0, .int .i64 f1, .int .i64 f2] 38 (0, 0))) : W.cell? ⟨g, 2, none⟩ = some (.int .i64 f2) := (blk_cell h 2).trans rfl
theorem IsS38.set_2 {w0 W : World} {g : Nat} {f0 : List Int} {f1 : Int} {f2 : Int} (h : IsS38 w0 W g f0 f1 f2) (x : Int) : IsS38 w0 (W.setCell ⟨g, 2, none⟩ (.int .i64 x)) g f0 f1 x := by
  obtain ⟨A0, c0, hb, hg, hr0⟩ := h
  exact ⟨A0, c0, by simpa using blk_set hb 2 (.int .i64 x), hg, hr0⟩
theorem IsS38.new (w0 W : World) (A0 : Option Addr) (c0 : Nat) (f0 : List Int) (f1 : Int) (f2 : Int) (hB : Below w0.heap.size w0 W) (hr0 : f0.length ≤ c0 ∧ Kd.C (Kd.int .u8) w0 A0 f0.length f0) : IsS38 w0 (W.alloc (.cells #[.slice A0 f0.length c0, .int .i64 f1, .int .i64 f2] 38)) W.heap.size f0 f1 f2 := ⟨A0, c0, by simpa using heap_alloc_new W _, hB.size, hr0⟩

/-! ### annuletref06_Cur_left: function 34 -/
def annuletref06_Cur_left.f (s0_0 : List Int) (s0_1 : Int) (s0_2 : Int) : Option (Int × Int × Int) := some (wrap64 ((s0_0.length : Int) - s0_1), s0_1, s0_2)
set_option maxHeartbeats 3000000 in
set_option maxRecDepth 100000 in
theorem annuletref06_Cur_left.calls (g : Nat) (s0_0 : List Int) (s0_1 : Int) (s0_2 : Int) (r1 : Int) (r2 : Int) (r3 : Int) (w0 w : World) (hI : IsS38 w0 w g s0_0 s0_1 s0_2) (hB : Below w0.heap.size w0 w) (h : annuletref06_Cur_left.f s0_0 s0_1 s0_2 = some (r1, r2, r3)) :
    Calls Try.prog 34 #[.pointer (some ⟨g, 0, none⟩)] w fun e w' => e = .returned (.int .i64 r1) ∧ IsS38 w0 w' g s0_0 r2 r3 ∧ Below w0.heap.size w0 w' ∧ KeepBut w w' g none := by
  have HI0 := Aside0.mk hI
  have HK := Aside0.mk (KeepBut.refl w g none)
  have HL := Aside0.mk hB.size
  clear hI
  have HW0 := Aside0.mk hB.size
  have HB := Aside0.mk hB
  clear hB
  have H : (some (wrap64 ((s0_0.length : Int) - s0_1), s0_1, s0_2)) = some (r1, r2, r3) := h
  clear h
  simp only [Option.some.injEq, Prod.mk.injEq] at H
  obtain ⟨rfl, rfl, rfl⟩ := H
  obtain ⟨ASz2_0, cSz2_0, HGz2, hgz2, ⟨HLSz2_0, HSz2_0⟩⟩ := HI0.out
  have hcz2_0 := cellS38_0 HGz2
  have hcz2_1 := cellS38_1 HGz2
  have hcz2_2 := cellS38_2 HGz2
  have hfz2_1 := blk_frozen HGz2 1
  have hfz2_2 := blk_frozen HGz2 2
  clear HGz2 hgz2
  go_enter Try.func34, Try.ntmps34
  go_wp2
  repeat (go_quiet (fail); try go_wp2)
  all_goals go_ret
  all_goals first | (exact ⟨by first | rfl | (simp [errW_none, errW_some] <;> rfl) | (simp [*, errW_none, errW_some] <;> rfl), by repeat (first | (with_reducible first | exact HI0.out | apply IsS38.alloc | apply IsS38.drewN | apply IsS38.drew | apply IsS38.set_1 | apply IsS38.set_2) | exact HI0.out), by repeat (first | (with_reducible first | exact HB.out | apply below_alloc | apply pw_below_drewN | apply below_drew1 | refine below_set ?_ (IsS38.ge HI0.out)) | exact HB.out), by repeat (first | (with_reducible first | exact HK.out | apply KeepBut.set_ | apply keep_drewN | apply keep_drew | apply keep_alloc) | exact HK.out)⟩) | (exfalso; simp_all; done)

/-! ### annuletref06_Cur_Left: function 16 -/
def annuletref06_Cur_Left.f (s0_0 : List Int) (s0_1 : Int) (s0_2 : Int) : Option (Int × Int × Int) := if s0_2 = 0 then ((annuletref06_Cur_left.f s0_0 s0_1 s0_2).bind fun bt121 => (some (bt121.1, bt121.2.1, bt121.2.2))) else (some (0, s0_1, s0_2))
set_option maxHeartbeats 3000000 in
set_option maxRecDepth 100000 in
theorem annuletref06_Cur_Left.calls (g : Nat) (s0_0 : List Int) (s0_1 : Int) (s0_2 : Int) (r1 : Int) (r2 : Int) (r3 : Int) (w0 w : World) (hI : IsS38 w0 w g s0_0 s0_1 s0_2) (hB : Below w0.heap.size w0 w) (h : annuletref06_Cur_Left.f s0_0 s0_1 s0_2 = some (r1, r2, r3)) :
    Calls Try.prog 16 #[.pointer (some ⟨g, 0, none⟩)] w fun e w' => e = .returned (.int .i64 r1) ∧ IsS38 w0 w' g s0_0 r2 r3 ∧ Below w0.heap.size w0 w' ∧ KeepBut w w' g none := by
  have HI0 := Aside0.mk hI
  have HK := Aside0.mk (KeepBut.refl w g none)
  have HL := Aside0.mk hB.size
  clear hI
  have HW0 := Aside0.mk hB.size
  have HB := Aside0.mk hB
  clear hB
  have H : (if s0_2 = 0 then ((annuletref06_Cur_left.f s0_0 s0_1 s0_2).bind fun bt121 => (some (bt121.1, bt121.2.1, bt121.2.2))) else (some (0, s0_1, s0_2))) = some (r1, r2, r3) := h
  clear h
  by_cases c2 : s0_2 = 0
  · rw [if_pos c2] at H
    have c2b0 : (s0_2 == 0) = true := beq_iff_eq.mpr c2
    have c2b1 : (s0_2 != 0) = false := bne_eq_false_iff_eq.mpr c2
    clear c2
    replace H := Option.bind_eq_some_iff.mp H
    obtain ⟨⟨t121, t122, t123⟩, A30, H⟩ := H
    replace H : (some (t121, t122, t123)) = some (r1, r2, r3) := H
    have A3 := Aside0.mk A30
    clear A30
    simp only [Option.some.injEq, Prod.mk.injEq] at H
    obtain ⟨rfl, rfl, rfl⟩ := H
    obtain ⟨ASz4_0, cSz4_0, HGz4, hgz4, ⟨HLSz4_0, HSz4_0⟩⟩ := HI0.out
    have hcz4_0 := cellS38_0 HGz4
    have hcz4_1 := cellS38_1 HGz4
    have hcz4_2 := cellS38_2 HGz4
    have hfz4_1 := blk_frozen HGz4 1
    have hfz4_2 := blk_frozen HGz4 2
    clear HGz4 hgz4
    go_enter Try.func16, Try.ntmps16
    go_wp2_with (first | ((with_reducible refine gate_callee (f := 34) rfl ?_); refine goesL_ (some 9) rfl rfl Try.func34 (by kernel_rfl) rfl #[.pointer (some ⟨g, 0, none⟩)] rfl (by (try simp only [List.map_toArray, List.map_cons, List.map_nil]); first | done | rfl | (simp only [List.length_drop, List.length_take]; rfl)) ?_; (with_reducible refine (annuletref06_Cur_left.calls g s0_0 s0_1 s0_2 t121 t122 t123 w0 _ ?side1 ?side2 A3.out).mono ?_); (case side1 => repeat (first | (with_reducible first | exact HI0.out | apply IsS38.alloc | apply IsS38.drewN | apply IsS38.drew | apply IsS38.set_1 | apply IsS38.set_2) | exact HI0.out)); (case side2 => repeat (first | (with_reducible first | exact HB.out | apply below_alloc | apply pw_below_drewN | apply below_drew1 | refine below_set ?_ (IsS38.ge HI0.out)) | exact HB.out)); rintro e w5 ⟨rfl, hi, hb, hk⟩; refine ⟨_, rfl, ?_⟩; have n0_ := Aside0.mk (KeepBut.trans (by repeat (first | (with_reducible first | exact HK.out | apply KeepBut.set_ | apply keep_drewN | apply keep_drew | apply keep_alloc) | exact HK.out)) hk (.inl rfl)); have n1_ := Aside0.mk (hb); have n2_ := Aside0.mk (hi); clear HK; clear HB; clear HI0; have HK := n0_; have HB := n1_; have HI0 := n2_; clear n0_ n1_ n2_; (try clear hb); (try clear hb2); (try clear hk); (try clear hi)))
    all_goals go_ret
    all_goals first | (exact ⟨by first | rfl | (simp [errW_none, errW_some] <;> rfl) | (simp [*, errW_none, errW_some] <;> rfl), by repeat (first | (with_reducible first | exact HI0.out | apply IsS38.alloc | apply IsS38.drewN | apply IsS38.drew | apply IsS38.set_1 | apply IsS38.set_2) | exact HI0.out), by repeat (first | (with_reducible first | exact HB.out | apply below_alloc | apply pw_below_drewN | apply below_drew1 | refine below_set ?_ (IsS38.ge HI0.out)) | exact HB.out), by repeat (first | (with_reducible first | exact HK.out | apply KeepBut.set_ | apply keep_drewN | apply keep_drew | apply keep_alloc) | exact HK.out)⟩) | (exfalso; simp_all; done)
  · rw [if_neg c2] at H
    have c2b0 : (s0_2 == 0) = false := beq_eq_false_iff_ne.mpr c2
    have c2b1 : (s0_2 != 0) = true := bne_iff_ne.mpr c2
    simp only [Option.some.injEq, Prod.mk.injEq] at H
    obtain ⟨rfl, rfl, rfl⟩ := H
    obtain ⟨ASz6_0, cSz6_0, HGz6, hgz6, ⟨HLSz6_0, HSz6_0⟩⟩ := HI0.out
    have hcz6_0 := cellS38_0 HGz6
    have hcz6_1 := cellS38_1 HGz6
    have hcz6_2 := cellS38_2 HGz6
    have hfz6_1 := blk_frozen HGz6 1
    have hfz6_2 := blk_frozen HGz6 2
    clear HGz6 hgz6
    go_enter Try.func16, Try.ntmps16
    go_wp2
    all_goals go_ret
    all_goals first | (exact ⟨by first | rfl | (simp [errW_none, errW_some] <;> rfl) | (simp [*, errW_none, errW_some] <;> rfl), by repeat (first | (with_reducible first | exact HI0.out | apply IsS38.alloc | apply IsS38.drewN | apply IsS38.drew | apply IsS38.set_1 | apply IsS38.set_2) | exact HI0.out), by repeat (first | (with_reducible first | exact HB.out | apply below_alloc | apply pw_below_drewN | apply below_drew1 | refine below_set ?_ (IsS38.ge HI0.out)) | exact HB.out), by repeat (first | (with_reducible first | exact HK.out | apply KeepBut.set_ | apply keep_drewN | apply keep_drew | apply keep_alloc) | exact HK.out)⟩) | (exfalso; simp_all; done)


/-! ### buf_Reader_Uvar: function 17 -/
def uvarR (most : Int) (rest : List Int) (met n s e : Int) : Int × List Int × Int :=
  if met ≠ 0 then (0, rest, met) else if e ≠ 0 then (0, rest, e) else if n > most then (0, rest, 5) else (n, rest.drop s.toNat, 0)
set_option maxHeartbeats 800000 in
set_option maxRecDepth 100000 in
theorem rd_Uvar (k : Nat) (g : Nat) (rest : List Int) (met most n s e0 : Int) (w0 w : World) (hI : RdS 48 w0 w g rest met) (hg : uvar_Get.f k rest = some (n, s, e0)) (h0 : 0 ≤ s) (h1 : s ≤ rest.length) :
    Calls Try.prog 17 #[.pointer (some ⟨g, 0, none⟩), .int .u64 most] w fun e w' => e = .returned (.int .u64 (uvarR most rest met n s e0).1) ∧ RdS 48 w0 w' g (uvarR most rest met n s e0).2.1 (uvarR most rest met n s e0).2.2 ∧ KeepBut w w' g none := by
  have HI := Aside0.mk hI
  obtain ⟨A, c, HG, hc, HS⟩ := hI.ex
  have h1' : w.cell? ⟨g, 1, none⟩ = some (.slice A rest.length c) := (blk_cell HG 1).trans rfl
  have HSS := Aside0.mk (Kd.C_below HS hI.bel)
  have HH := Aside0.mk hc
  have HG0 := Aside0.mk hg
  have S0 := Aside0.mk h0
  have S1 := Aside0.mk h1
  clear HG hc HS hI hg h0 h1
  unfold uvarR
  by_cases c1 : met = 0
  · have c1b : (met != 0) = false := by rw [bne_eq_false_iff_eq]; exact c1
    rw [if_neg (by simpa using c1)]
    clear c1
    by_cases c2 : e0 = 0
    · have c2b : (e0 != 0) = false := by rw [bne_eq_false_iff_eq]; exact c2
      have c2c : (e0 == 0) = true := by rw [beq_iff_eq]; exact c2
      rw [if_neg (by simpa using c2)]
      have C2 := Aside0.mk c2
      clear c2
      by_cases c3 : n > most
      · have c3b : decide (most < n) = true := decide_eq_true c3
        rw [if_pos c3]
        clear c3
        go_enter Try.func17, Try.ntmps17
        go_wp2_with (first | (go_at_call 22; (with_reducible refine (rd_dead g rest met w0 w HI.out).mono ?_); rintro e w1 ⟨rfl, rfl⟩) | (go_at_call 23; (with_reducible refine (uvar_Get.calls k A c rest n s e0 w HSS.out HH.out HG0.out).mono ?_); rintro e w1 ⟨rfl, hb⟩; have HK := Aside0.mk (below_self hb g); have HI1 := Aside0.mk (RdS.later HI.out hb); obtain ⟨A2, cc2, HG2, hc2, HS2⟩ := HI1.out.ex; have gf2 := blk_frozen HG2 2; have g2 : w1.cell? ⟨g, 2, none⟩ = some (.int .i64 met) := (blk_cell HG2 2).trans rfl; clear HG2 hc2 HS2 hb))
        go_ret
        exact ⟨rfl, RdS.put_met HI1.out 5, KeepBut.set_ HK.out _ _⟩
      · have c3b : decide (most < n) = false := decide_eq_false c3
        rw [if_neg c3]
        clear c3
        go_enter Try.func17, Try.ntmps17
        go_wp2_with (first | (go_at_call 22; (with_reducible refine (rd_dead g rest met w0 w HI.out).mono ?_); rintro e w1 ⟨rfl, rfl⟩) | (go_at_call 23; (with_reducible refine (uvar_Get.calls k A c rest n s e0 w HSS.out HH.out HG0.out).mono ?_); rintro e w1 ⟨rfl, hb⟩; have HK := Aside0.mk (below_self hb g); have HI1 := Aside0.mk (RdS.later HI.out hb); obtain ⟨A2, cc2, HG2, hc2, HS2⟩ := HI1.out.ex; have gf2 := blk_frozen HG2 2; have g2 : w1.cell? ⟨g, 2, none⟩ = some (.int .i64 met) := (blk_cell HG2 2).trans rfl; clear HG2 hc2 HS2 hb) | (go_at_call 24; (with_reducible refine (rd_take g rest e0 s w0 _ (RdS.put_met HI1.out e0) S0.out S1.out).mono ?_); rintro e w2 ⟨v, rfl, hR, hi, hk⟩; have HI3 := Aside0.mk hi; have HK2 := Aside0.mk ((KeepBut.set_ HK.out 2 (.int .i64 e0)).trans hk (.inl rfl)); clear hR hi hk))
        go_ret
        have h3 := HI3.out
        rw [C2.out] at h3
        exact ⟨rfl, h3, HK2.out⟩
    · have c2b : (e0 != 0) = true := by simpa using c2
      have c2c : (e0 == 0) = false := by simpa using c2
      rw [if_pos (by simpa using c2)]
      clear c2
      go_enter Try.func17, Try.ntmps17
      go_wp2_with (first | (go_at_call 22; (with_reducible refine (rd_dead g rest met w0 w HI.out).mono ?_); rintro e w1 ⟨rfl, rfl⟩) | (go_at_call 23; (with_reducible refine (uvar_Get.calls k A c rest n s e0 w HSS.out HH.out HG0.out).mono ?_); rintro e w1 ⟨rfl, hb⟩; have HK := Aside0.mk (below_self hb g); have HI1 := Aside0.mk (RdS.later HI.out hb); obtain ⟨A2, cc2, HG2, hc2, HS2⟩ := HI1.out.ex; have gf2 := blk_frozen HG2 2; have g2 : w1.cell? ⟨g, 2, none⟩ = some (.int .i64 met) := (blk_cell HG2 2).trans rfl; clear HG2 hc2 HS2 hb))
      go_ret
      exact ⟨rfl, RdS.put_met HI1.out e0, KeepBut.set_ HK.out _ _⟩
  · have c1b : (met != 0) = true := by simpa using c1
    rw [if_pos c1]
    clear c1
    go_enter Try.func17, Try.ntmps17
    go_wp2_with (go_at_call 22; (with_reducible refine (rd_dead g rest met w0 w HI.out).mono ?_); rintro e w1 ⟨rfl, rfl⟩)
    go_ret
    exact ⟨rfl, HI.out, KeepBut.refl _ _ _⟩
def buf_Reader_Uvar.f (k : Nat) (s0_0 : Bool) (s0_1 : List Int) (s0_2 : Int) (a1 : Int) : Option (Int × Bool × List Int × Int) := (uvar_Get.f k s0_1).bind fun t => (if 0 ≤ t.2.1 then (if t.2.1 ≤ (s0_1.length : Int) then (some ((uvarR a1 s0_1 s0_2 t.1 t.2.1 t.2.2).1, s0_0, (uvarR a1 s0_1 s0_2 t.1 t.2.1 t.2.2).2.1, (uvarR a1 s0_1 s0_2 t.1 t.2.1 t.2.2).2.2)) else (none)) else (none))
theorem buf_Reader_Uvar.mono : ∀ a0 a1 a2 a3 k, LeO (buf_Reader_Uvar.f k a0 a1 a2 a3) (buf_Reader_Uvar.f (k + 1) a0 a1 a2 a3) := fun a0 a1 a2 a3 k => LeO.bind (uvar_Get.mono _ k) (fun _ => LeO.refl _)
theorem buf_Reader_Uvar.calls (k : Nat) (g : Nat) (s0_0 : Bool) (s0_1 : List Int) (s0_2 : Int) (a1 : Int) (r1 : Int) (r2 : Bool) (r3 : List Int) (r4 : Int) (w0 w : World) (hI : IsS48 w0 w g s0_0 s0_1 s0_2) (hB : Below w0.heap.size w0 w) (h : buf_Reader_Uvar.f k s0_0 s0_1 s0_2 a1 = some (r1, r2, r3, r4)) :
    Calls Try.prog 17 #[.pointer (some ⟨g, 0, none⟩), .int .u64 a1] w fun e w' => e = .returned (.int .u64 r1) ∧ IsS48 w0 w' g r2 r3 r4 ∧ Below w0.heap.size w0 w' ∧ KeepBut w w' g none := by
  unfold buf_Reader_Uvar.f at h
  obtain ⟨⟨n, s, e0⟩, hg, h⟩ := Option.bind_eq_some_iff.mp h
  by_cases h0 : 0 ≤ s
  · rw [if_pos h0] at h
    by_cases h1 : s ≤ (s0_1.length : Int)
    · rw [if_pos h1] at h
      have h := Option.some.inj h
      injection h with e1 h
      injection h with e2 h
      injection h with e3 e4
      subst e1 e2 e3 e4
      obtain ⟨h0_, wb, hb, hr⟩ := hI
      refine (rd_Uvar k g s0_1 s0_2 a1 n s e0 wb w hr hg h0 h1).mono ?_
      rintro e w' ⟨he, hi, hk⟩
      exact ⟨he, ⟨h0_, wb, hb, hi⟩, IsS48.keep hB hb hr.bel hi.bel hr.ge hk, hk⟩
    · rw [if_neg h1] at h
      exact absurd h (by simp)
  · rw [if_neg h0] at h
    exact absurd h (by simp)


/-! ### buf_Reader_Take: function 19 -/
set_option maxHeartbeats 800000 in
set_option maxRecDepth 100000 in
theorem rd_Take (g : Nat) (rest : List Int) (met n : Int) (w0 w : World) (hI : RdS 48 w0 w g rest met) :
    Calls Try.prog 19 #[.pointer (some ⟨g, 0, none⟩), .int .i64 n] w fun e w' => ∃ v : Value, e = .returned v ∧ Kd.R (Kd.int .u8) 5 w' w.heap.size (fun _ => True) v (takeR n rest met).1 ∧ RdS 48 w0 w' g (takeR n rest met).2.1 (takeR n rest met).2.2 ∧ KeepBut w w' g none := by
  have HI := Aside0.mk hI
  obtain ⟨A, c, HG, hc, HS⟩ := hI.ex
  have h2 : w.cell? ⟨g, 2, none⟩ = some (.int .i64 met) := (blk_cell HG 2).trans rfl
  have f2 := blk_frozen HG 2
  clear HG hc HS hI
  unfold takeR
  by_cases c1 : met = 0
  · have c1b : (met != 0) = false := by rw [bne_eq_false_iff_eq]; exact c1
    rw [if_neg (by simpa using c1)]
    by_cases c2 : n < 0
    · rw [if_pos c2]
      go_enter Try.func19, Try.ntmps19
      go_wp2_with (go_at_call 22; (with_reducible refine (rd_dead g rest met w0 w HI.out).mono ?_); rintro e w1 ⟨rfl, rfl⟩)
      go_ret
      exact ⟨_, rfl, Kd.R_nil _ _ _ _ _, RdS.put_met HI.out 1, KeepBut.set_ (KeepBut.refl _ _ _) _ _⟩
    · rw [if_neg c2]
      have c2b : 0 ≤ n := by omega
      have C2 := Aside0.mk c2b
      clear c2
      by_cases c5 : (rest.length : Int) < n
      · rw [if_pos c5]
        go_enter Try.func19, Try.ntmps19
        go_wp2_with (first | (go_at_call 22; (with_reducible refine (rd_dead g rest met w0 w HI.out).mono ?_); rintro e w1 ⟨rfl, rfl⟩) | (go_at_call 25; (with_reducible refine (rd_lacks g rest met n w0 w HI.out).mono ?_); rintro e w1 ⟨rfl, hi, hk⟩; rw [if_pos c5] at hi; rw [decide_eq_true c5]; have HI2 := Aside0.mk hi; have HK := Aside0.mk hk; clear hi hk))
        go_ret
        exact ⟨_, rfl, Kd.R_nil _ _ _ _ _, HI2.out, HK.out⟩
      · rw [if_neg c5]
        have c5b : n ≤ (rest.length : Int) := by omega
        have HN := Aside0.mk c5b
        clear c5
        go_enter Try.func19, Try.ntmps19
        go_wp2_with (first | (go_at_call 22; (with_reducible refine (rd_dead g rest met w0 w HI.out).mono ?_); rintro e w1 ⟨rfl, rfl⟩) | (go_at_call 25; (with_reducible refine (rd_lacks g rest met n w0 w HI.out).mono ?_); rintro e w1 ⟨rfl, hi, hk⟩; rw [if_neg (by have := HN.out; omega)] at hi; rw [decide_eq_false (by have := HN.out; omega)]; have HI2 := Aside0.mk hi; have HK := Aside0.mk hk; clear hi hk) | (go_at_call 24; (with_reducible refine (rd_take g rest met n w0 _ HI2.out C2.out HN.out).mono ?_); rintro e w2 ⟨v, rfl, hR, hi, hk⟩; obtain ⟨A1, cc, rfl⟩ := Kd.R_slice hR; have HR := Aside0.mk hR; have HI3 := Aside0.mk hi; have HK2 := Aside0.mk (KeepBut.trans HK.out hk (.inl rfl)); clear hR hi hk))
        go_ret
        have hR2 := HR.out
        rw [List.length_take, show min n.toNat rest.length = n.toNat from by have := HN.out; have := C2.out; omega] at hR2
        exact ⟨_, rfl, Kd.R_lower hR2 HK.out.1, HI3.out, HK2.out⟩
  · have c1b : (met != 0) = true := by simpa using c1
    rw [if_pos c1]
    go_enter Try.func19, Try.ntmps19
    go_wp2_with (go_at_call 22; (with_reducible refine (rd_dead g rest met w0 w HI.out).mono ?_); rintro e w1 ⟨rfl, rfl⟩)
    go_ret
    exact ⟨_, rfl, Kd.R_nil _ _ _ _ _, HI.out, KeepBut.refl _ _ _⟩
def buf_Reader_Take.f (s0_0 : Bool) (s0_1 : List Int) (s0_2 : Int) (a1 : Int) : Option (List Int × Bool × List Int × Int) := some ((takeR a1 s0_1 s0_2).1, s0_0, (takeR a1 s0_1 s0_2).2.1, (takeR a1 s0_1 s0_2).2.2)
theorem buf_Reader_Take.calls (g : Nat) (s0_0 : Bool) (s0_1 : List Int) (s0_2 : Int) (a1 : Int) (r1 : List Int) (r2 : Bool) (r3 : List Int) (r4 : Int) (w0 w : World) (hI : IsS48 w0 w g s0_0 s0_1 s0_2) (hB : Below w0.heap.size w0 w) (h : buf_Reader_Take.f s0_0 s0_1 s0_2 a1 = some (r1, r2, r3, r4)) :
    Calls Try.prog 19 #[.pointer (some ⟨g, 0, none⟩), .int .i64 a1] w fun e w' => ∃ v0_ : Value, e = .returned (v0_) ∧ Kd.R (Kd.int .u8) 5 w' w.heap.size (fun _ => True) v0_ r1 ∧ IsS48 w0 w' g r2 r3 r4 ∧ Below w0.heap.size w0 w' ∧ KeepBut w w' g none := by
  have h := Option.some.inj h
  injection h with e1 h
  injection h with e2 h
  injection h with e3 e4
  subst e1 e2 e3 e4
  obtain ⟨h0, wb, hb, hr⟩ := hI
  refine (rd_Take g s0_1 s0_2 a1 wb w hr).mono ?_
  rintro e w' ⟨v, he, hR, hi, hk⟩
  exact ⟨v, he, hR, ⟨h0, wb, hb, hi⟩, IsS48.keep hB hb hr.bel hi.bel hr.ge hk, hk⟩

/-! ### annuletref06_Cur_Take: function 29 -/
def annuletref06_Cur_Take.f (s0_0 : List Int) (s0_1 : Int) (s0_2 : Int) (a1 : Int) : Option (List Int × Int × Int) := if s0_2 = 0 then (if a1 < 0 then (some (([] : List Int), s0_1, 1)) else ((annuletref06_Cur_left.f s0_0 s0_1 s0_2).bind fun bt124 => (if bt124.1 < a1 then (some (([] : List Int), bt124.2.1, 2)) else ((some (([] : List Int) : List Int)).bind fun y127 => (if 0 ≤ (wrap64 ((wrap64 (bt124.2.1 + a1)) - a1)) then (if (wrap64 ((wrap64 (bt124.2.1 + a1)) - a1)) ≤ (wrap64 (bt124.2.1 + a1)) then (if (wrap64 (bt124.2.1 + a1)) ≤ (s0_0.length : Int) then (if y127.length + ((s0_0.take ((wrap64 (bt124.2.1 + a1)) : Int).toNat).drop ((wrap64 ((wrap64 (bt124.2.1 + a1)) - a1)) : Int).toNat).length < 140737488355328 then (some ((y127 ++ ((s0_0.take ((wrap64 (bt124.2.1 + a1)) : Int).toNat).drop ((wrap64 ((wrap64 (bt124.2.1 + a1)) - a1)) : Int).toNat)), wrap64 (bt124.2.1 + a1), bt124.2.2)) else (none)) else (none)) else (none)) else (none)))))) else (some (([] : List Int), s0_1, s0_2))
def annuletref06_Cur_Take.T10 : Bool × List (List Nat × List Nat) := (true, [([], []), ([], []), ([1], [1]), ([2], [2]), ([3], [3]), ([], []), ([5], [5]), ([6], [6]), ([7], [7]), ([], []), ([8, 9], [8, 9]), ([], []), ([11], [11]), ([12], [12]), ([13], [13]), ([4, 10, 14], [4, 10, 14]), ([0, 15], [0, 15]), ([16, 16, 0, 1, 2, 3, 4, 5, 6, 7, 8, 9, 10, 11, 12, 13, 14, 15, 16], [16])])
def annuletref06_Cur_Take.B10 : List Nat := [0, 0, 2, 6, 14, 0, 32, 96, 224, 0, 992, 0, 2048, 6144, 14336, 32766, 65535, 131071]
theorem annuletref06_Cur_Take.tab10 : rtab .any (opsOf Try.f29 10) = annuletref06_Cur_Take.T10 := by kernel_rfl
theorem annuletref06_Cur_Take.bits10 : waitsOk annuletref06_Cur_Take.T10.2 annuletref06_Cur_Take.B10 = true := by kernel_rfl
set_option maxHeartbeats 3000000 in
set_option maxRecDepth 100000 in
theorem annuletref06_Cur_Take.calls (g : Nat) (s0_0 : List Int) (s0_1 : Int) (s0_2 : Int) (a1 : Int) (r1 : List Int) (r2 : Int) (r3 : Int) (w0 w : World) (hI : IsS38 w0 w g s0_0 s0_1 s0_2) (hB : Below w0.heap.size w0 w) (h : annuletref06_Cur_Take.f s0_0 s0_1 s0_2 a1 = some (r1, r2, r3)) :
    Calls Try.prog 29 #[.pointer (some ⟨g, 0, none⟩), .int .i64 a1] w fun e w' => ∃ v0_ : Value, e = .returned (v0_) ∧ Kd.R (Kd.int .u8) 5 w' w.heap.size (fun _ => True) v0_ r1 ∧ IsS38 w0 w' g s0_0 r2 r3 ∧ Below w0.heap.size w0 w' ∧ KeepBut w w' g none := by
  have HI0 := Aside0.mk hI
  have HK := Aside0.mk (KeepBut.refl w g none)
  have HL := Aside0.mk hB.size
  clear hI
  have HW0 := Aside0.mk hB.size
  have HB := Aside0.mk hB
  clear hB
  have H : (if s0_2 = 0 then (if a1 < 0 then (some (([] : List Int), s0_1, 1)) else ((annuletref06_Cur_left.f s0_0 s0_1 s0_2).bind fun bt124 => (if bt124.1 < a1 then (some (([] : List Int), bt124.2.1, 2)) else ((some (([] : List Int) : List Int)).bind fun y127 => (if 0 ≤ (wrap64 ((wrap64 (bt124.2.1 + a1)) - a1)) then (if (wrap64 ((wrap64 (bt124.2.1 + a1)) - a1)) ≤ (wrap64 (bt124.2.1 + a1)) then (if (wrap64 (bt124.2.1 + a1)) ≤ (s0_0.length : Int) then (if y127.length + ((s0_0.take ((wrap64 (bt124.2.1 + a1)) : Int).toNat).drop ((wrap64 ((wrap64 (bt124.2.1 + a1)) - a1)) : Int).toNat).length < 140737488355328 then (some ((y127 ++ ((s0_0.take ((wrap64 (bt124.2.1 + a1)) : Int).toNat).drop ((wrap64 ((wrap64 (bt124.2.1 + a1)) - a1)) : Int).toNat)), wrap64 (bt124.2.1 + a1), bt124.2.2)) else (none)) else (none)) else (none)) else (none)))))) else (some (([] : List Int), s0_1, s0_2))) = some (r1, r2, r3) := h
  clear h
  by_cases c3 : s0_2 = 0
  · rw [if_pos c3] at H
    have c3b0 : (s0_2 == 0) = true := beq_iff_eq.mpr c3
    have c3b1 : (s0_2 != 0) = false := bne_eq_false_iff_eq.mpr c3
    clear c3
    by_cases c4 : a1 < 0
    · rw [if_pos c4] at H
      have c4b0 : decide (a1 < 0) = true := decide_eq_true c4
      clear c4
      simp only [Option.some.injEq, Prod.mk.injEq] at H
      obtain ⟨rfl, rfl, rfl⟩ := H
      obtain ⟨ASz5_0, cSz5_0, HGz5, hgz5, ⟨HLSz5_0, HSz5_0⟩⟩ := HI0.out
      have hcz5_0 := cellS38_0 HGz5
      have hcz5_1 := cellS38_1 HGz5
      have hcz5_2 := cellS38_2 HGz5
      have hfz5_1 := blk_frozen HGz5 1
      have hfz5_2 := blk_frozen HGz5 2
      clear HGz5 hgz5
      go_enter Try.func29, Try.ntmps29
      go_wp2
      all_goals go_ret
      all_goals first | (exact ⟨_, by first | rfl | (simp [errW_none, errW_some] <;> rfl) | (simp [*, errW_none, errW_some] <;> rfl), by first | exact Kd.R_nil _ _ _ _ _ | exact Kd.N_nil _ _ _ _ _ | exact Kd.V_nil _ _ _ _ _ | exact Kd.Q_nil _ _ _ _ _ | exact Kd.S_nil _ _ _ _ _, by repeat (first | (with_reducible first | exact HI0.out | apply IsS38.alloc | apply IsS38.drewN | apply IsS38.drew | apply IsS38.set_1 | apply IsS38.set_2) | exact HI0.out), by repeat (first | (with_reducible first | exact HB.out | apply below_alloc | apply pw_below_drewN | apply below_drew1 | refine below_set ?_ (IsS38.ge HI0.out)) | exact HB.out), by repeat (first | (with_reducible first | exact HK.out | apply KeepBut.set_ | apply keep_drewN | apply keep_drew | apply keep_alloc) | exact HK.out)⟩) | (exfalso; simp_all; done)
    · rw [if_neg c4] at H
      have c4b0 : decide (a1 < 0) = false := decide_eq_false c4
      clear c4
      replace H := Option.bind_eq_some_iff.mp H
      obtain ⟨⟨t124, t125, t126⟩, A60, H⟩ := H
      replace H : (if t124 < a1 then (some (([] : List Int), t125, 2)) else ((some (([] : List Int) : List Int)).bind fun y127 => (if 0 ≤ (wrap64 ((wrap64 (t125 + a1)) - a1)) then (if (wrap64 ((wrap64 (t125 + a1)) - a1)) ≤ (wrap64 (t125 + a1)) then (if (wrap64 (t125 + a1)) ≤ (s0_0.length : Int) then (if y127.length + ((s0_0.take ((wrap64 (t125 + a1)) : Int).toNat).drop ((wrap64 ((wrap64 (t125 + a1)) - a1)) : Int).toNat).length < 140737488355328 then (some ((y127 ++ ((s0_0.take ((wrap64 (t125 + a1)) : Int).toNat).drop ((wrap64 ((wrap64 (t125 + a1)) - a1)) : Int).toNat)), wrap64 (t125 + a1), t126)) else (none)) else (none)) else (none)) else (none)))) = some (r1, r2, r3) := H
      have A6 := Aside0.mk A60
      clear A60
      by_cases c7 : t124 < a1
      · rw [if_pos c7] at H
        have c7b0 : decide (t124 < a1) = true := decide_eq_true c7
        clear c7
        simp only [Option.some.injEq, Prod.mk.injEq] at H
        obtain ⟨rfl, rfl, rfl⟩ := H
        obtain ⟨ASz8_0, cSz8_0, HGz8, hgz8, ⟨HLSz8_0, HSz8_0⟩⟩ := HI0.out
        have hcz8_0 := cellS38_0 HGz8
        have hcz8_1 := cellS38_1 HGz8
        have hcz8_2 := cellS38_2 HGz8
        have hfz8_1 := blk_frozen HGz8 1
        have hfz8_2 := blk_frozen HGz8 2
        clear HGz8 hgz8
        go_enter Try.func29, Try.ntmps29
        go_wp2_with (first | ((with_reducible refine gate_callee (f := 34) rfl ?_); refine goesL_ (some 16) rfl rfl Try.func34 (by kernel_rfl) rfl #[.pointer (some ⟨g, 0, none⟩)] rfl (by (try simp only [List.map_toArray, List.map_cons, List.map_nil]); first | done | rfl | (simp only [List.length_drop, List.length_take]; rfl)) ?_; (with_reducible refine (annuletref06_Cur_left.calls g s0_0 s0_1 s0_2 t124 t125 t126 w0 _ ?side1 ?side2 A6.out).mono ?_); (case side1 => repeat (first | (with_reducible first | exact HI0.out | apply IsS38.alloc | apply IsS38.drewN | apply IsS38.drew | apply IsS38.set_1 | apply IsS38.set_2) | exact HI0.out)); (case side2 => repeat (first | (with_reducible first | exact HB.out | apply below_alloc | apply pw_below_drewN | apply below_drew1 | refine below_set ?_ (IsS38.ge HI0.out)) | exact HB.out)); rintro e w9 ⟨rfl, hi, hb, hk⟩; refine ⟨_, rfl, ?_⟩; have n0_ := Aside0.mk (KeepBut.trans (by repeat (first | (with_reducible first | exact HK.out | apply KeepBut.set_ | apply keep_drewN | apply keep_drew | apply keep_alloc) | exact HK.out)) hk (.inl rfl)); have n1_ := Aside0.mk (hb); have n2_ := Aside0.mk (hi); clear HK; clear HB; clear HI0; have HK := n0_; have HB := n1_; have HI0 := n2_; clear n0_ n1_ n2_; (try clear hb); (try clear hb2); (try clear hk); (try clear hi); obtain ⟨ASz10_0, cSz10_0, HGz10, hgz10, ⟨HLSz10_0, HSz10_0⟩⟩ := HI0.out; have hcz10_0 := cellS38_0 HGz10; have hcz10_1 := cellS38_1 HGz10; have hcz10_2 := cellS38_2 HGz10; have hfz10_1 := blk_frozen HGz10 1; have hfz10_2 := blk_frozen HGz10 2; clear HGz10 hgz10))
        all_goals go_ret
        all_goals first | (exact ⟨_, by first | rfl | (simp [errW_none, errW_some] <;> rfl) | (simp [*, errW_none, errW_some] <;> rfl), by first | exact Kd.R_nil _ _ _ _ _ | exact Kd.N_nil _ _ _ _ _ | exact Kd.V_nil _ _ _ _ _ | exact Kd.Q_nil _ _ _ _ _ | exact Kd.S_nil _ _ _ _ _, by repeat (first | (with_reducible first | exact HI0.out | apply IsS38.alloc | apply IsS38.drewN | apply IsS38.drew | apply IsS38.set_1 | apply IsS38.set_2) | exact HI0.out), by repeat (first | (with_reducible first | exact HB.out | apply below_alloc | apply pw_below_drewN | apply below_drew1 | refine below_set ?_ (IsS38.ge HI0.out)) | exact HB.out), by repeat (first | (with_reducible first | exact HK.out | apply KeepBut.set_ | apply keep_drewN | apply keep_drew | apply keep_alloc) | exact HK.out)⟩) | (exfalso; simp_all; done)
      · rw [if_neg c7] at H
        have c7b0 : decide (t124 < a1) = false := decide_eq_false c7
        clear c7
        obtain ⟨y127, hy127⟩ : ∃ y_ : List Int, y_ = (([] : List Int)) := ⟨_, rfl⟩
        replace H : (if 0 ≤ (wrap64 ((wrap64 (t125 + a1)) - a1)) then (if (wrap64 ((wrap64 (t125 + a1)) - a1)) ≤ (wrap64 (t125 + a1)) then (if (wrap64 (t125 + a1)) ≤ (s0_0.length : Int) then (if y127.length + ((s0_0.take ((wrap64 (t125 + a1)) : Int).toNat).drop ((wrap64 ((wrap64 (t125 + a1)) - a1)) : Int).toNat).length < 140737488355328 then (some ((y127 ++ ((s0_0.take ((wrap64 (t125 + a1)) : Int).toNat).drop ((wrap64 ((wrap64 (t125 + a1)) - a1)) : Int).toNat)), wrap64 (t125 + a1), t126)) else (none)) else (none)) else (none)) else (none)) = some (r1, r2, r3) := by first | (rw [hy127]; with_reducible exact H) | (have H2_ := (Option.bind_some _ _).symm.trans H; rw [hy127]; with_reducible exact H2_) | (have H2_ := (Option.bind_some _ _).symm.trans H; with_reducible exact H2_) | with_reducible exact H | (rw [hy127]; exact H) | exact H
        have Ny127 := Aside0.mk hy127
        clear hy127
        obtain ⟨ji11, hji11⟩ : ∃ j_ : Int, (wrap64 ((wrap64 (t125 + a1)) - a1)) = j_ := ⟨_, rfl⟩
        replace H : (if 0 ≤ (ji11) then (if (ji11) ≤ (wrap64 (t125 + a1)) then (if (wrap64 (t125 + a1)) ≤ (s0_0.length : Int) then (if y127.length + ((s0_0.take ((wrap64 (t125 + a1)) : Int).toNat).drop ((ji11) : Int).toNat).length < 140737488355328 then (some ((y127 ++ ((s0_0.take ((wrap64 (t125 + a1)) : Int).toNat).drop ((ji11) : Int).toNat)), wrap64 (t125 + a1), t126)) else (none)) else (none)) else (none)) else (none)) = some (r1, r2, r3) := by first | (rw [hji11] at H; exact H) | (simp only [hji11] at H ⊢; exact H)
        (try rw [hji11] at A6)
        have hji11w : (IntKind.i64.wrap ((wrap64 (t125 + a1)) - a1)) = ji11 := (i64_w _).trans hji11
        by_cases c12 : 0 ≤ (ji11)
        · rw [if_pos c12] at H
          have c12b0 := eq_true c12
          have c12b1 : decide (0 ≤ (ji11)) = true := decide_eq_true c12
          clear c12
          by_cases c13 : (ji11) ≤ (wrap64 (t125 + a1))
          · rw [if_pos c13] at H
            have c13b0 := eq_true c13
            have c13b1 : decide ((ji11) ≤ (wrap64 (t125 + a1))) = true := decide_eq_true c13
            by_cases c14 : (wrap64 (t125 + a1)) ≤ (s0_0.length : Int)
            · rw [if_pos c14] at H
              have c14b0 := eq_true c14
              have c14b1 : decide ((wrap64 (t125 + a1)) ≤ (s0_0.length : Int)) = true := decide_eq_true c14
              by_cases c15 : y127.length + ((s0_0.take ((wrap64 (t125 + a1)) : Int).toNat).drop ((ji11) : Int).toNat).length < 140737488355328
              · rw [if_pos c15] at H
                have LMc15 := Aside0.mk c15
                clear c15
                obtain ⟨y131, hy131⟩ : ∃ y_ : List Int, y_ = (y127 ++ ((s0_0.take ((wrap64 (t125 + a1)) : Int).toNat).drop ((ji11) : Int).toNat)) := ⟨_, rfl⟩
                replace H : (some (y131, wrap64 (t125 + a1), t126)) = some (r1, r2, r3) := by first | (rw [hy131]; with_reducible exact H) | (have H2_ := (Option.bind_some _ _).symm.trans H; rw [hy131]; with_reducible exact H2_) | (have H2_ := (Option.bind_some _ _).symm.trans H; with_reducible exact H2_) | with_reducible exact H | (rw [hy131]; exact H) | exact H
                have Ny131 := Aside0.mk hy131
                clear hy131
                simp only [Option.some.injEq, Prod.mk.injEq] at H
                obtain ⟨rfl, rfl, rfl⟩ := H
                obtain ⟨ASz16_0, cSz16_0, HGz16, hgz16, ⟨HLSz16_0, HSz16_0⟩⟩ := HI0.out
                have hcz16_0 := cellS38_0 HGz16
                have hcz16_1 := cellS38_1 HGz16
                have hcz16_2 := cellS38_2 HGz16
                have hfz16_1 := blk_frozen HGz16 1
                have hfz16_2 := blk_frozen HGz16 2
                clear HGz16 hgz16
                go_enter Try.func29, Try.ntmps29
                try go_wp2_with (first | ((with_reducible refine gate_callee (f := 34) rfl ?_); refine goesL_ (some 16) rfl rfl Try.func34 (by kernel_rfl) rfl #[.pointer (some ⟨g, 0, none⟩)] rfl (by (try simp only [List.map_toArray, List.map_cons, List.map_nil]); first | done | rfl | (simp only [List.length_drop, List.length_take]; rfl)) ?_; (with_reducible refine (annuletref06_Cur_left.calls g s0_0 s0_1 s0_2 t124 t125 t126 w0 _ ?side1 ?side2 A6.out).mono ?_); (case side1 => repeat (first | (with_reducible first | exact HI0.out | apply IsS38.alloc | apply IsS38.drewN | apply IsS38.drew | apply IsS38.set_1 | apply IsS38.set_2) | exact HI0.out)); (case side2 => repeat (first | (with_reducible first | exact HB.out | apply below_alloc | apply pw_below_drewN | apply below_drew1 | refine below_set ?_ (IsS38.ge HI0.out)) | exact HB.out)); rintro e w17 ⟨rfl, hi, hb, hk⟩; refine ⟨_, rfl, ?_⟩; have n0_ := Aside0.mk (KeepBut.trans (by repeat (first | (with_reducible first | exact HK.out | apply KeepBut.set_ | apply keep_drewN | apply keep_drew | apply keep_alloc) | exact HK.out)) hk (.inl rfl)); have n1_ := Aside0.mk (hb); have n2_ := Aside0.mk (hi); clear HK; clear HB; clear HI0; have HK := n0_; have HB := n1_; have HI0 := n2_; clear n0_ n1_ n2_; (try clear hb); (try clear hb2); (try clear hk); (try clear hi); obtain ⟨ASz18_0, cSz18_0, HGz18, hgz18, ⟨HLSz18_0, HSz18_0⟩⟩ := HI0.out; have hcz18_0 := cellS38_0 HGz18; have hcz18_1 := cellS38_1 HGz18; have hcz18_2 := cellS38_2 HGz18; have hfz18_1 := blk_frozen HGz18 1; have hfz18_2 := blk_frozen HGz18 2; clear HGz18 hgz18))
                have n0_ : Aside0 (IsS38 w0 (w17.setCell ⟨g, 1, none⟩ (.int .i64 (wrap64 (t125 + a1)))) g s0_0 (wrap64 (t125 + a1)) t126) := ⟨by repeat (first | (with_reducible first | exact HI0.out | apply IsS38.alloc | apply IsS38.drewN | apply IsS38.drew | apply IsS38.set_1 | apply IsS38.set_2) | exact HI0.out)⟩
                have n1_ : Aside0 (KeepBut w (w17.setCell ⟨g, 1, none⟩ (.int .i64 (wrap64 (t125 + a1)))) g none) := ⟨by repeat (first | (with_reducible first | exact HK.out | apply KeepBut.set_ | apply keep_drewN | apply keep_drew | apply keep_alloc) | exact HK.out)⟩
                have n2_ : Aside0 (Below w0.heap.size w0 (w17.setCell ⟨g, 1, none⟩ (.int .i64 (wrap64 (t125 + a1))))) := ⟨by repeat (first | (with_reducible first | exact HB.out | apply below_alloc | apply pw_below_drewN | apply below_drew1 | refine below_set ?_ (IsS38.ge HI0.out)) | exact HB.out)⟩
                (try clear HI0)
                (try clear HK)
                (try clear HB)
                generalize (w17.setCell ⟨g, 1, none⟩ (.int .i64 (wrap64 (t125 + a1)))) = w19 at n0_ n1_ n2_ ⊢
                have HI0 := n0_
                have HK := n1_
                have HB := n2_
                clear n0_ n1_ n2_
                have n0_ := Aside0.mk (IsS38.drew HI0.out)
                have n1_ := Aside0.mk (keep_drew HK.out)
                have n2_ := Aside0.mk (below_drew1 HB.out)
                clear HI0
                clear HK
                clear HB
                have HI0 := n0_
                have HK := n1_
                have HB := n2_
                clear n0_ n1_ n2_
                obtain ⟨ASz21_0, cSz21_0, HGz21, hgz21, ⟨HLSz21_0, HSz21_0⟩⟩ := HI0.out
                have hcz21_0 := cellS38_0 HGz21
                have hcz21_1 := cellS38_1 HGz21
                have hcz21_2 := cellS38_2 HGz21
                have hfz21_1 := blk_frozen HGz21 1
                have hfz21_2 := blk_frozen HGz21 2
                clear HGz21 hgz21
                have HRs23 := Aside0.mk HSz21_0
                have HCs23 := Aside0.mk HLSz21_0
                obtain ⟨i022, hi022, _, hsz22, _⟩ := info_parts info5
                obtain ⟨A22, hcut22, hA22, hC22⟩ := print_mid_of (P := Try.prog) (Value.int .u8) 0 26 5 .i64 .i64 Try.underlying26 hi022 hsz22 ASz21_0 cSz21_0 s0_0 (ji11) (wrap64 (t125 + a1)) (of_decide_eq_true (by first | (with_reducible assumption) | assumption)) (by first | omega | exact of_decide_eq_true (by first | (with_reducible assumption) | assumption)) (of_decide_eq_true (by first | (with_reducible assumption) | assumption)) HCs23.out
                have HR130 := Aside0.mk (Kd.C_of_reads (h1 := fun _ => rfl) (hA22 _ (Kd.reads_of_C HRs23.out)))
                have HC130 := Aside0.mk hC22
                clear hA22 hC22 hi022 hsz22
                refine start_ (n := 18) (S := fun w' => w'.cell? ⟨g, 0, none⟩ = some (.slice ASz21_0 s0_0.length cSz21_0) ∧ w'.cell? ⟨g, 1, none⟩ = some (.int .i64 (wrap64 (t125 + a1))) ∧ w'.cell? ⟨g, 2, none⟩ = some (.int .i64 t126)) (ds := [16]) #[false, false, false, false, false, false, false, false, false, false, false, false, false, false, false, false, false, false] (by kernel_rfl) rfl rfl ⟨hcz21_0, hcz21_1, hcz21_2⟩ (fun hHeld => ?_); refine with_tabW annuletref06_Cur_Take.tab10 annuletref06_Cur_Take.bits10 (fun HT_ HW_ => ?_)
                generalize w19.drew = w20 at HI0 HK HB HR130 hHeld ⊢
                refine pure_ (i := 1) (N := some 32) (v := ?_) (a' := ?_) #[false, true, false, false, false, false, false, false, false, false, false, false, false, false, false, false, false, false] rfl rfl (any_of HT_.out (by kernel_rfl)) (fun _ _ _ h => h) (Or.inl ⟨by rfl, ?_⟩) ?_ ?_
                rotate_left
                · intro w'
                  go_simp
                  with_reducible rfl
                rotate_left
                · simp only [Act.put, List.setIfInBounds_toArray, List.set_cons_zero, List.set_cons_succ, i64_w, i32_w]
                  rfl
                refine pure_ (i := 2) (N := some 33) (v := ?_) (a' := ?_) #[false, true, true, false, false, false, false, false, false, false, false, false, false, false, false, false, false, false] rfl rfl (any_of HT_.out (by kernel_rfl)) (fun _ _ _ h => h) (Or.inl ⟨by rfl, ?_⟩) ?_ ?_
                rotate_left
                · intro w'
                  go_simp
                  with_reducible rfl
                rotate_left
                · simp only [Act.put, List.setIfInBounds_toArray, List.set_cons_zero, List.set_cons_succ, i64_w, i32_w]
                  rfl
                refine pure_ (i := 3) (N := some 34) (v := ?_) (a' := ?_) #[false, true, true, true, false, false, false, false, false, false, false, false, false, false, false, false, false, false] rfl rfl (any_of HT_.out (by kernel_rfl)) (fun _ _ _ h => h) (Or.inl ⟨by rfl, ?_⟩) ?_ ?_
                rotate_left
                · intro w'
                  go_simp
                  with_reducible rfl
                rotate_left
                · simp only [Act.put, List.setIfInBounds_toArray, List.set_cons_zero, List.set_cons_succ, i64_w, i32_w]
                  rfl
                refine pure_ (i := 5) (N := some 36) (v := ?_) (a' := ?_) #[false, true, true, true, false, true, false, false, false, false, false, false, false, false, false, false, false, false] rfl rfl (any_of HT_.out (by kernel_rfl)) (fun _ _ _ h => h) (Or.inl ⟨by rfl, ?_⟩) ?_ ?_
                rotate_left
                · intro w'
                  go_simp
                  with_reducible rfl
                rotate_left
                · simp only [Act.put, List.setIfInBounds_toArray, List.set_cons_zero, List.set_cons_succ, i64_w, i32_w]
                  rfl
                refine pure_ (i := 6) (N := some 37) (v := ?_) (a' := ?_) #[false, true, true, true, false, true, true, false, false, false, false, false, false, false, false, false, false, false] rfl rfl (any_of HT_.out (by kernel_rfl)) (fun _ _ _ h => h) (Or.inl ⟨by rfl, ?_⟩) ?_ ?_
                rotate_left
                · intro w'
                  go_simp
                  with_reducible rfl
                rotate_left
                · simp only [Act.put, List.setIfInBounds_toArray, List.set_cons_zero, List.set_cons_succ, i64_w, i32_w]
                  rfl
                refine pure_ (i := 7) (N := some 38) (v := ?_) (a' := ?_) #[false, true, true, true, false, true, true, true, false, false, false, false, false, false, false, false, false, false] rfl rfl (any_of HT_.out (by kernel_rfl)) (fun _ _ _ h => h) (Or.inl ⟨by rfl, ?_⟩) ?_ ?_
                rotate_left
                · intro w'
                  go_simp
                  with_reducible rfl
                rotate_left
                · simp only [Act.put, List.setIfInBounds_toArray, List.set_cons_zero, List.set_cons_succ, i64_w, i32_w]
                  rfl
                refine pure_ (i := 9) (N := some 40) (v := ?_) (a' := ?_) #[false, true, true, true, false, true, true, true, false, true, false, false, false, false, false, false, false, false] rfl rfl (any_of HT_.out (by kernel_rfl)) (fun _ _ _ h => h) (Or.inl ⟨by rfl, ?_⟩) ?_ ?_
                rotate_left
                · intro w'
                  go_simp
                  with_reducible rfl
                rotate_left
                · simp only [Act.put, List.setIfInBounds_toArray, List.set_cons_zero, List.set_cons_succ, i64_w, i32_w]
                  rfl
                refine pure_ (i := 11) (N := some 42) (v := ?_) (a' := ?_) #[false, true, true, true, false, true, true, true, false, true, false, true, false, false, false, false, false, false] rfl rfl (any_of HT_.out (by kernel_rfl)) (fun _ _ _ h => h) (Or.inl ⟨by rfl, ?_⟩) ?_ ?_
                rotate_left
                · intro w'
                  go_simp
                  with_reducible rfl
                rotate_left
                · simp only [Act.put, List.setIfInBounds_toArray, List.set_cons_zero, List.set_cons_succ, i64_w, i32_w]
                  rfl
                refine pure_ (i := 12) (N := some 43) (v := ?_) (a' := ?_) #[false, true, true, true, false, true, true, true, false, true, false, true, true, false, false, false, false, false] rfl rfl (any_of HT_.out (by kernel_rfl)) (fun _ _ _ h => h) (Or.inl ⟨by rfl, ?_⟩) ?_ ?_
                rotate_left
                · intro w'
                  go_simp
                  with_reducible rfl
                rotate_left
                · simp only [Act.put, List.setIfInBounds_toArray, List.set_cons_zero, List.set_cons_succ, i64_w, i32_w]
                  rfl
                refine pure_ (i := 13) (N := some 44) (v := ?_) (a' := ?_) #[false, true, true, true, false, true, true, true, false, true, false, true, true, true, false, false, false, false] rfl rfl (any_of HT_.out (by kernel_rfl)) (fun _ _ _ h => h) (Or.inl ⟨by rfl, ?_⟩) ?_ ?_
                rotate_left
                · intro w'
                  go_simp
                  with_reducible rfl
                rotate_left
                · simp only [Act.put, List.setIfInBounds_toArray, List.set_cons_zero, List.set_cons_succ, i64_w, i32_w]
                  rfl
                refine take_ (i := 4) (N := some 35) (v := ?_) (a' := ?_) #[false, true, true, true, true, true, true, true, false, true, false, true, true, true, false, false, false, false] rfl rfl (take_ofW HT_.out HW_.out (by kernel_rfl)) (fun _ _ _ h => h) (Or.inl ⟨by rfl, ?_⟩) hHeld ?_ ?_
                rotate_left
                · rintro w' ⟨s0, s1, s2⟩
                  go_simp
                  with_reducible rfl
                rotate_left
                · simp only [Act.put, List.setIfInBounds_toArray, List.set_cons_zero, List.set_cons_succ, i64_w, i32_w]
                  rfl
                refine take_ (i := 8) (N := some 39) (v := ?_) (a' := ?_) #[false, true, true, true, true, true, true, true, true, true, false, true, true, true, false, false, false, false] rfl rfl (take_ofW HT_.out HW_.out (by kernel_rfl)) (fun _ _ _ h => h) (Or.inl ⟨by rfl, ?_⟩) hHeld ?_ ?_
                rotate_left
                · rintro w' ⟨s0, s1, s2⟩
                  go_simp
                  with_reducible rfl
                rotate_left
                · simp only [Act.put, List.setIfInBounds_toArray, List.set_cons_zero, List.set_cons_succ, i64_w, i32_w]
                  rfl
                refine pure_ (i := 10) (N := some 41) (v := ?_) (a' := ?_) #[false, true, true, true, true, true, true, true, true, true, true, true, true, true, false, false, false, false] rfl rfl (any_of HT_.out (by kernel_rfl)) (fun _ _ _ h => h) (Or.inl ⟨by rfl, ?_⟩) ?_ ?_
                rotate_left
                · intro w'
                  go_simp
                  with_reducible rfl
                rotate_left
                · simp only [Act.put, List.setIfInBounds_toArray, List.set_cons_zero, List.set_cons_succ, i64_w, i32_w]
                  rfl
                refine take_ (i := 14) (N := some 45) (v := ?_) (a' := ?_) #[false, true, true, true, true, true, true, true, true, true, true, true, true, true, true, false, false, false] rfl rfl (take_ofW HT_.out HW_.out (by kernel_rfl)) (fun _ _ _ h => h) (Or.inl ⟨by rfl, ?_⟩) hHeld ?_ ?_
                rotate_left
                · rintro w' ⟨s0, s1, s2⟩
                  go_simp
                  with_reducible rfl
                rotate_left
                · simp only [Act.put, List.setIfInBounds_toArray, List.set_cons_zero, List.set_cons_succ, i64_w, i32_w]
                  rfl
                refine pure_ (i := 15) (N := some 46) (v := ?_) (a' := ?_) #[false, true, true, true, true, true, true, true, true, true, true, true, true, true, true, true, false, false] rfl rfl (any_of HT_.out (by kernel_rfl)) (fun _ _ _ h => h) (Or.inl ⟨by rfl, ?_⟩) ?_ ?_
                rotate_left
                · intro w'
                  go_simp
                  with_reducible rfl
                rotate_left
                · simp only [Act.put, List.setIfInBounds_toArray, List.set_cons_zero, List.set_cons_succ, i64_w, i32_w]
                  rfl
                refine one_ (i := 0) (N := some 31) #[true, true, true, true, true, true, true, true, true, true, true, true, true, true, true, true, false, false] rfl rfl (one_of HT_.out (by kernel_rfl)) (by decide) (fun K hK => ?_)
                refine Kd.R_lit_step (Kd.int .u8) _ 5 ?hg (N := 31) ?hd (xs := ([] : List Int)) (inner := []) (ok := fun _ => True) (okp := fun _ => True) ?hr ?hp (fun _ hk => hk) trivial (Below.refl _ _) (Nat.le_refl _) (by simp) ?_; (case hd => rfl); (case hg => rfl); (case hr => first | (go_simp; done) | (go_simp; rfl)); (case hp => exact (Reps.none _ _))
                intro v128 w24 ho25 hb hg_ hnew_
                have HS0_ := (hb.cell (World.block_lt_of_cell? _ _ (hHeld.1))).trans (hHeld.1)
                have HS1_ := (hb.cell (World.block_lt_of_cell? _ _ (hHeld.2.1))).trans (hHeld.2.1)
                have HS2_ := (hb.cell (World.block_lt_of_cell? _ _ (hHeld.2.2))).trans (hHeld.2.2)
                clear hg_ hnew_
                (first | rw [← Ny127.out] at ho25 | (simp only [Int.reduceToNat] at ho25; rw [← Ny127.out] at ho25))
                have n0_ := Aside0.mk (Kd.R_lower ho25 (keep_size (w := w) (g := g) (row := none) (by repeat (first | (with_reducible first | exact HK.out | apply KeepBut.set_ | apply keep_drewN | apply keep_drew | apply keep_alloc) | exact HK.out))))
                have n1_ := Aside0.mk (IsS38.below (by repeat (first | (with_reducible first | exact HI0.out | apply IsS38.alloc | apply IsS38.drewN | apply IsS38.drew | apply IsS38.set_1 | apply IsS38.set_2) | exact HI0.out)) hb)
                have n2_ := Aside0.mk (KeepBut.trans (by repeat (first | (with_reducible first | exact HK.out | apply KeepBut.set_ | apply keep_drewN | apply keep_drew | apply keep_alloc) | exact HK.out)) (KeepBut.of_below hb g none) (.inl rfl))
                have n3_ := Aside0.mk (below_step (by repeat (first | (with_reducible first | exact HB.out | apply below_alloc | apply pw_below_drewN | apply below_drew1 | refine below_set ?_ (IsS38.ge HI0.out)) | exact HB.out)) hb)
                clear HI0
                clear HK
                clear HB
                have HO129 := n0_
                have HI0 := n1_
                have HK := n2_
                have HB := n3_
                clear n0_ n1_ n2_ n3_
                clear hb ho25
                refine hK.out _ _ ⟨HS0_, HS1_, HS2_⟩ (fun hHeld => ?_)
                clear hK K
                refine norm_ (a' := ?_) ?_ ?_
                rotate_left
                · show Act.put _ (some 31) _ = _
                  simp only [Act.put, List.setIfInBounds_toArray, List.set_cons_zero, List.set_cons_succ, i64_w, i32_w]
                  rfl
                refine last_ (i := 16) (N := some 47) #[true, true, true, true, true, true, true, true, true, true, true, true, true, true, true, true, true, false] rfl rfl (one_of HT_.out (by kernel_rfl)) (by decide) (fun K hK => ?_)
                refine Kd.R_append_rows_step (Kd.int .u8) w.heap.size (by rfl) (.tmp 31) (.tmp 46) 26 5 (.int .u8 0) 1 rfl Try.underlying26 info5 rfl (by decide) (by omega) v128 y127 ((s0_0.take ((wrap64 (t125 + a1)) : Int).toNat).drop ((ji11) : Int).toNat) _ _ _ (fun _ => True) (fun _ => False) rfl rfl ?aO ?aR (fun _ _ h => h) (fun _ h => h.elim) ?aF (Below.refl _ _) ?aS ?aL ?_
                (case aR => first | (rw [← show ((s0_0.take ((wrap64 (t125 + a1)) : Int).toNat).drop ((ji11) : Int).toNat).length = ((wrap64 (t125 + a1)).toNat - (ji11).toNat) from (by rw [List.length_drop, List.length_take]; have h_ : ((wrap64 (t125 + a1)) : Int) ≤ (s0_0.length : Int) := of_decide_eq_true (by first | (with_reducible assumption) | assumption); omega)]; exact Kd.C_below HR130.out (by repeat (first | (with_reducible first | exact HB.out | apply below_alloc | apply pw_below_drewN | apply below_drew1 | refine below_set ?_ (IsS38.ge HI0.out)) | exact HB.out))) | (exact Kd.C_below HR130.out (by repeat (first | (with_reducible first | exact HB.out | apply below_alloc | apply pw_below_drewN | apply below_drew1 | refine below_set ?_ (IsS38.ge HI0.out)) | exact HB.out))))
                (case aF => exact (fun _ _ => trivial))
                (case aO => exact (by (with_reducible repeat (first | apply Kd.R_alloc | apply Kd.R_drewN | apply Kd.R_drew)); exact HO129.out))
                (case aS => exact (keep_size (w := w) (g := g) (row := none) (by repeat (first | (with_reducible first | exact HK.out | apply KeepBut.set_ | apply keep_drewN | apply keep_drew | apply keep_alloc) | exact HK.out))))
                (case aL => have := LMc15.out; have hlx_ := (show ((s0_0.take ((wrap64 (t125 + a1)) : Int).toNat).drop ((ji11) : Int).toNat).length = ((wrap64 (t125 + a1)).toNat - (ji11).toNat) from (by rw [List.length_drop, List.length_take]; have h_ : ((wrap64 (t125 + a1)) : Int) ≤ (s0_0.length : Int) := of_decide_eq_true (by first | (with_reducible assumption) | assumption); omega)); omega)
                intro v132 w26 ho hb hg hat
                rw [← Ny131.out] at ho
                have n0_ := Aside0.mk (IsS38.grown (by repeat (first | (with_reducible first | exact HI0.out | apply IsS38.alloc | apply IsS38.drewN | apply IsS38.drew | apply IsS38.set_1 | apply IsS38.set_2) | exact HI0.out)) hg (IsS38.own_ne HI0.out HO129.out (by decide)))
                have n1_ := Aside0.mk (below_weaken (by repeat (first | (with_reducible first | exact HB.out | apply below_alloc | apply pw_below_drewN | apply below_drew1 | refine below_set ?_ (IsS38.ge HI0.out)) | exact HB.out)) HL.out hb)
                have n2_ := Aside0.mk (KeepBut.trans (by repeat (first | (with_reducible first | exact HK.out | apply KeepBut.set_ | apply keep_drewN | apply keep_drew | apply keep_alloc) | exact HK.out)) (KeepBut.of_grown hg g) (Kd.R_base2 HO129.out))
                have n3_ := Aside0.mk (ho)
                clear HI0
                clear HB
                clear HK
                clear HO129
                have HI0 := n0_
                have HB := n1_
                have HK := n2_
                have HO133 := n3_
                clear n0_ n1_ n2_ n3_
                clear ho hb hg hat
                refine hK.out _ _ ?_
                clear hK K
                refine norm_ (a' := ?_) ?_ ?_
                rotate_left
                · show Act.put _ (some 47) _ = _
                  simp only [Act.put, List.setIfInBounds_toArray, List.set_cons_zero, List.set_cons_succ, i64_w, i32_w]
                  rfl
                refine pure_ (i := 17) (N := some 4) (v := ?_) (a' := ?_) #[true, true, true, true, true, true, true, true, true, true, true, true, true, true, true, true, true, true] rfl rfl (any_of HT_.out (by kernel_rfl)) (fun _ _ _ h => h) (Or.inl ⟨by rfl, ?_⟩) ?_ ?_
                rotate_left
                · intro w'
                  go_simp
                  with_reducible rfl
                rotate_left
                · simp only [Act.put, List.setIfInBounds_toArray, List.set_cons_zero, List.set_cons_succ, i64_w, i32_w]
                  rfl
                refine done_ (done_of HT_.out (by kernel_rfl)) ?_
                try go_wp2
                all_goals go_ret
                all_goals first | (exact ⟨_, by first | rfl | (simp [errW_none, errW_some] <;> rfl) | (simp only [← hji11]; first | rfl | (simp [errW_none, errW_some] <;> rfl)) | (simp [*, errW_none, errW_some] <;> rfl), by (with_reducible repeat (first | apply Kd.R_alloc | apply Kd.R_drewN | apply Kd.R_drew)); exact HO133.out, by repeat (first | (with_reducible first | exact HI0.out | apply IsS38.alloc | apply IsS38.drewN | apply IsS38.drew | apply IsS38.set_1 | apply IsS38.set_2) | exact HI0.out), by repeat (first | (with_reducible first | exact HB.out | apply below_alloc | apply pw_below_drewN | apply below_drew1 | refine below_set ?_ (IsS38.ge HI0.out)) | exact HB.out), by repeat (first | (with_reducible first | exact HK.out | apply KeepBut.set_ | apply keep_drewN | apply keep_drew | apply keep_alloc) | exact HK.out)⟩) | (exfalso; simp_all; done)
              · rw [if_neg c15] at H
                exact absurd H (by simp)
            · rw [if_neg c14] at H
              exact absurd H (by simp)
          · rw [if_neg c13] at H
            exact absurd H (by simp)
        · rw [if_neg c12] at H
          exact absurd H (by simp)
  · rw [if_neg c3] at H
    have c3b0 : (s0_2 == 0) = false := beq_eq_false_iff_ne.mpr c3
    have c3b1 : (s0_2 != 0) = true := bne_iff_ne.mpr c3
    simp only [Option.some.injEq, Prod.mk.injEq] at H
    obtain ⟨rfl, rfl, rfl⟩ := H
    obtain ⟨ASz27_0, cSz27_0, HGz27, hgz27, ⟨HLSz27_0, HSz27_0⟩⟩ := HI0.out
    have hcz27_0 := cellS38_0 HGz27
    have hcz27_1 := cellS38_1 HGz27
    have hcz27_2 := cellS38_2 HGz27
    have hfz27_1 := blk_frozen HGz27 1
    have hfz27_2 := blk_frozen HGz27 2
    clear HGz27 hgz27
    go_enter Try.func29, Try.ntmps29
    go_wp2
    all_goals go_ret
    all_goals first | (exact ⟨_, by first | rfl | (simp [errW_none, errW_some] <;> rfl) | (simp [*, errW_none, errW_some] <;> rfl), by first | exact Kd.R_nil _ _ _ _ _ | exact Kd.N_nil _ _ _ _ _ | exact Kd.V_nil _ _ _ _ _ | exact Kd.Q_nil _ _ _ _ _ | exact Kd.S_nil _ _ _ _ _, by repeat (first | (with_reducible first | exact HI0.out | apply IsS38.alloc | apply IsS38.drewN | apply IsS38.drew | apply IsS38.set_1 | apply IsS38.set_2) | exact HI0.out), by repeat (first | (with_reducible first | exact HB.out | apply below_alloc | apply pw_below_drewN | apply below_drew1 | refine below_set ?_ (IsS38.ge HI0.out)) | exact HB.out), by repeat (first | (with_reducible first | exact HK.out | apply KeepBut.set_ | apply keep_drewN | apply keep_drew | apply keep_alloc) | exact HK.out)⟩) | (exfalso; simp_all; done)

end Go.Proofs.Ytopjffhmfgnedaa.PBufStuck
