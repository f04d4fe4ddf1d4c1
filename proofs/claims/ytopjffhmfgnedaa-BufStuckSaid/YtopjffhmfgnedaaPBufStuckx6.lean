/- Written by a program of this session (a turned copy of the kit's print): functions of the program, each with the Lean function that it comes to, and the row of one law. No condition. -/
import Derived.Test.YtopjffhmfgnedaaPBufStuckx0
import Derived.Test.YtopjffhmfgnedaaPBufStuckx1
import Derived.Test.YtopjffhmfgnedaaPBufStuckx2
import Derived.Test.YtopjffhmfgnedaaPBufStuckx3
import Derived.Test.YtopjffhmfgnedaaPBufStuckx4
import Derived.Test.YtopjffhmfgnedaaPBufStuckx5
namespace Go.Proofs.Ytopjffhmfgnedaa.PBufStuck
open Go.RowKit Go.Proofs.YtopjffhmfgnedaaW.PrintWords Go.Proofs.YtopjffhmfgnedaaW.PrintLast Go.Proofs.YtopjffhmfgnedaaW.PrintMore
attribute [local go_sem] max2_int min2_int max_two min_two max_three min_three max_four min_four   -- for this text's walks alone
set_option linter.unusedVariables false
set_option linter.unusedSimpArgs false

/-! ### annuletref06_Cur_End: function 33 -/
def annuletref06_Cur_End.f (s0_0 : List Int) (s0_1 : Int) (s0_2 : Int) : Option (Int × Int × Int) := if s0_2 = 0 then ((annuletref06_Cur_left.f s0_0 s0_1 s0_2).bind fun bt164 => (if bt164.1 > 0 then (some (4, bt164.2.1, bt164.2.2)) else (some (bt164.2.2, bt164.2.1, bt164.2.2)))) else (some (s0_2, s0_1, s0_2))
set_option maxHeartbeats 3000000 in
set_option maxRecDepth 100000 in
theorem annuletref06_Cur_End.calls (g : Nat) (s0_0 : List Int) (s0_1 : Int) (s0_2 : Int) (r1 : Int) (r2 : Int) (r3 : Int) (w0 w : World) (hI : IsS38 w0 w g s0_0 s0_1 s0_2) (hB : Below w0.heap.size w0 w) (h : annuletref06_Cur_End.f s0_0 s0_1 s0_2 = some (r1, r2, r3)) :
    Calls Try.prog 33 #[.pointer (some ⟨g, 0, none⟩)] w fun e w' => e = .returned (.int .i64 r1) ∧ IsS38 w0 w' g s0_0 r2 r3 ∧ Below w0.heap.size w0 w' ∧ KeepBut w w' g none := by
  have HI0 := Aside0.mk hI
  have HK := Aside0.mk (KeepBut.refl w g none)
  have HL := Aside0.mk hB.size
  clear hI
  have HW0 := Aside0.mk hB.size
  have HB := Aside0.mk hB
  clear hB
  have H : (if s0_2 = 0 then ((annuletref06_Cur_left.f s0_0 s0_1 s0_2).bind fun bt164 => (if bt164.1 > 0 then (some (4, bt164.2.1, bt164.2.2)) else (some (bt164.2.2, bt164.2.1, bt164.2.2)))) else (some (s0_2, s0_1, s0_2))) = some (r1, r2, r3) := h
  clear h
  by_cases c2 : s0_2 = 0
  · rw [if_pos c2] at H
    have c2b0 : (s0_2 == 0) = true := beq_iff_eq.mpr c2
    have c2b1 : (s0_2 != 0) = false := bne_eq_false_iff_eq.mpr c2
    clear c2
    replace H := Option.bind_eq_some_iff.mp H
    obtain ⟨⟨t164, t165, t166⟩, A30, H⟩ := H
    replace H : (if t164 > 0 then (some (4, t165, t166)) else (some (t166, t165, t166))) = some (r1, r2, r3) := H
    have A3 := Aside0.mk A30
    clear A30
    by_cases c4 : t164 > 0
    · rw [if_pos c4] at H
      have c4b0 : decide (0 < t164) = true := decide_eq_true c4
      clear c4
      simp only [Option.some.injEq, Prod.mk.injEq] at H
      obtain ⟨rfl, rfl, rfl⟩ := H
      obtain ⟨ASz5_0, cSz5_0, HGz5, hgz5, ⟨HLSz5_0, HSz5_0⟩⟩ := HI0.out
      have hcz5_0 := cellS38_0 HGz5
      have hcz5_1 := cellS38_1 HGz5
      have hcz5_2 := cellS38_2 HGz5
      have hfz5_1 := blk_frozen HGz5 1
      have hfz5_2 := blk_frozen HGz5 2
      clear HGz5 hgz5
      go_enter Try.func33, Try.ntmps33
      go_wp2_with (first | (go_at_call 34; (with_reducible refine (annuletref06_Cur_left.calls g s0_0 s0_1 s0_2 t164 t165 t166 w0 _ ?side1 ?side2 A3.out).mono ?_); (case side1 => repeat (first | (with_reducible first | exact HI0.out | apply IsS38.alloc | apply IsS38.drewN | apply IsS38.drew | apply IsS38.set_1 | apply IsS38.set_2) | exact HI0.out)); (case side2 => repeat (first | (with_reducible first | exact HB.out | apply below_alloc | apply pw_below_drewN | apply below_drew1 | refine below_set ?_ (IsS38.ge HI0.out)) | exact HB.out)); rintro e w6 ⟨rfl, hi, hb, hk⟩; have n0_ := Aside0.mk (KeepBut.trans (by repeat (first | (with_reducible first | exact HK.out | apply KeepBut.set_ | apply keep_drewN | apply keep_drew | apply keep_alloc) | exact HK.out)) hk (.inl rfl)); have n1_ := Aside0.mk (hb); have n2_ := Aside0.mk (hi); clear HK; clear HB; clear HI0; have HK := n0_; have HB := n1_; have HI0 := n2_; clear n0_ n1_ n2_; (try clear hb); (try clear hb2); (try clear hk); (try clear hi)))
      all_goals go_ret
      all_goals first | (exact ⟨by first | rfl | (simp [errW_none, errW_some] <;> rfl) | (simp [*, errW_none, errW_some] <;> rfl), by repeat (first | (with_reducible first | exact HI0.out | apply IsS38.alloc | apply IsS38.drewN | apply IsS38.drew | apply IsS38.set_1 | apply IsS38.set_2) | exact HI0.out), by repeat (first | (with_reducible first | exact HB.out | apply below_alloc | apply pw_below_drewN | apply below_drew1 | refine below_set ?_ (IsS38.ge HI0.out)) | exact HB.out), by repeat (first | (with_reducible first | exact HK.out | apply KeepBut.set_ | apply keep_drewN | apply keep_drew | apply keep_alloc) | exact HK.out)⟩) | (exfalso; simp_all; done)
    · rw [if_neg c4] at H
      have c4b0 : decide (0 < t164) = false := decide_eq_false c4
      clear c4
      simp only [Option.some.injEq, Prod.mk.injEq] at H
      obtain ⟨rfl, rfl, rfl⟩ := H
      obtain ⟨ASz7_0, cSz7_0, HGz7, hgz7, ⟨HLSz7_0, HSz7_0⟩⟩ := HI0.out
      have hcz7_0 := cellS38_0 HGz7
      have hcz7_1 := cellS38_1 HGz7
      have hcz7_2 := cellS38_2 HGz7
      have hfz7_1 := blk_frozen HGz7 1
      have hfz7_2 := blk_frozen HGz7 2
      clear HGz7 hgz7
      go_enter Try.func33, Try.ntmps33
      go_wp2_with (first | (go_at_call 34; (with_reducible refine (annuletref06_Cur_left.calls g s0_0 s0_1 s0_2 t164 t165 t166 w0 _ ?side1 ?side2 A3.out).mono ?_); (case side1 => repeat (first | (with_reducible first | exact HI0.out | apply IsS38.alloc | apply IsS38.drewN | apply IsS38.drew | apply IsS38.set_1 | apply IsS38.set_2) | exact HI0.out)); (case side2 => repeat (first | (with_reducible first | exact HB.out | apply below_alloc | apply pw_below_drewN | apply below_drew1 | refine below_set ?_ (IsS38.ge HI0.out)) | exact HB.out)); rintro e w8 ⟨rfl, hi, hb, hk⟩; have n0_ := Aside0.mk (KeepBut.trans (by repeat (first | (with_reducible first | exact HK.out | apply KeepBut.set_ | apply keep_drewN | apply keep_drew | apply keep_alloc) | exact HK.out)) hk (.inl rfl)); have n1_ := Aside0.mk (hb); have n2_ := Aside0.mk (hi); clear HK; clear HB; clear HI0; have HK := n0_; have HB := n1_; have HI0 := n2_; clear n0_ n1_ n2_; (try clear hb); (try clear hb2); (try clear hk); (try clear hi); obtain ⟨ASz9_0, cSz9_0, HGz9, hgz9, ⟨HLSz9_0, HSz9_0⟩⟩ := HI0.out; have hcz9_0 := cellS38_0 HGz9; have hcz9_1 := cellS38_1 HGz9; have hcz9_2 := cellS38_2 HGz9; have hfz9_1 := blk_frozen HGz9 1; have hfz9_2 := blk_frozen HGz9 2; clear HGz9 hgz9))
      all_goals go_ret
      all_goals first | (exact ⟨by first | rfl | (simp [errW_none, errW_some] <;> rfl) | (simp [*, errW_none, errW_some] <;> rfl), by repeat (first | (with_reducible first | exact HI0.out | apply IsS38.alloc | apply IsS38.drewN | apply IsS38.drew | apply IsS38.set_1 | apply IsS38.set_2) | exact HI0.out), by repeat (first | (with_reducible first | exact HB.out | apply below_alloc | apply pw_below_drewN | apply below_drew1 | refine below_set ?_ (IsS38.ge HI0.out)) | exact HB.out), by repeat (first | (with_reducible first | exact HK.out | apply KeepBut.set_ | apply keep_drewN | apply keep_drew | apply keep_alloc) | exact HK.out)⟩) | (exfalso; simp_all; done)
  · rw [if_neg c2] at H
    have c2b0 : (s0_2 == 0) = false := beq_eq_false_iff_ne.mpr c2
    have c2b1 : (s0_2 != 0) = true := bne_iff_ne.mpr c2
    simp only [Option.some.injEq, Prod.mk.injEq] at H
    obtain ⟨rfl, rfl, rfl⟩ := H
    obtain ⟨ASz10_0, cSz10_0, HGz10, hgz10, ⟨HLSz10_0, HSz10_0⟩⟩ := HI0.out
    have hcz10_0 := cellS38_0 HGz10
    have hcz10_1 := cellS38_1 HGz10
    have hcz10_2 := cellS38_2 HGz10
    have hfz10_1 := blk_frozen HGz10 1
    have hfz10_2 := blk_frozen HGz10 2
    clear HGz10 hgz10
    go_enter Try.func33, Try.ntmps33
    go_wp2
    all_goals go_ret
    all_goals first | (exact ⟨by first | rfl | (simp [errW_none, errW_some] <;> rfl) | (simp [*, errW_none, errW_some] <;> rfl), by repeat (first | (with_reducible first | exact HI0.out | apply IsS38.alloc | apply IsS38.drewN | apply IsS38.drew | apply IsS38.set_1 | apply IsS38.set_2) | exact HI0.out), by repeat (first | (with_reducible first | exact HB.out | apply below_alloc | apply pw_below_drewN | apply below_drew1 | refine below_set ?_ (IsS38.ge HI0.out)) | exact HB.out), by repeat (first | (with_reducible first | exact HK.out | apply KeepBut.set_ | apply keep_drewN | apply keep_drew | apply keep_alloc) | exact HK.out)⟩) | (exfalso; simp_all; done)


/-! ### annuletlaw06_one: function 13 -/
/-! ### a reader and the document's reader side by side -/
def TwoS (w0 W : World) (g1 g2 : Nat) (m : Bool) (l : List Int) (met : Int) (B : List Int) (At Met : Int) : Prop := IsS48 w0 W g1 m l met ∧ IsS38 w0 W g2 B At Met ∧ Below w0.heap.size w0 W ∧ g1 < g2
section
variable {w0 w w1 : World} {g1 g2 : Nat} {m m' : Bool} {l l' : List Int} {met met' : Int} {B : List Int} {At Met At' Met' N U x y : Int} {k : Nat} {bx bl : Bool} {sx : ByteArray} {lx : List Int}
theorem TwoS.below (h : TwoS w0 w g1 g2 m l met B At Met) (hb : Below w.heap.size w w1) : TwoS w0 w1 g1 g2 m l met B At Met := ⟨h.1.below hb, h.2.1.below hb, below_step h.2.2.1 hb, h.2.2.2⟩
theorem TwoS.alloc (h : TwoS w0 w g1 g2 m l met B At Met) (ob : Obj) : TwoS w0 (w.alloc ob) g1 g2 m l met B At Met := h.below (below_alloc (Below.refl _ _) ob)
theorem TwoS.drewN (h : TwoS w0 w g1 g2 m l met B At Met) (n : Nat) : TwoS w0 (w.drewN n) g1 g2 m l met B At Met := h.below (pw_below_drewN (Below.refl _ _) n)
theorem TwoS.drew (h : TwoS w0 w g1 g2 m l met B At Met) : TwoS w0 w.drew g1 g2 m l met B At Met := h.below (Below.refl _ _).drew
theorem TwoS.r_ (h : TwoS w0 w g1 g2 m l met B At Met) (hi : IsS48 w0 w1 g1 m' l' met') (hb : Below w0.heap.size w0 w1) (hk : KeepBut w w1 g1 none) : TwoS w0 w1 g1 g2 m' l' met' B At Met := by
  obtain ⟨_, hc, _, hlt⟩ := h
  refine ⟨hi, ?_, hb, hlt⟩
  obtain ⟨A0, c0, hg, hge, hr⟩ := hc
  exact ⟨A0, c0, hk.blk hg (by omega) (by simp), hge, hr⟩
theorem TwoS.c_ (h : TwoS w0 w g1 g2 m l met B At Met) (hi : IsS38 w0 w1 g2 B At' Met') (hb : Below w0.heap.size w0 w1) (hk : KeepBut w w1 g2 none) : TwoS w0 w1 g1 g2 m l met B At' Met' := by
  obtain ⟨hr, hc, hB, hlt⟩ := h
  refine ⟨?_, hi, hb, hlt⟩
  obtain ⟨h0, wb, hwb, hs⟩ := hr
  obtain ⟨A, c, hg, hcc, hC⟩ := hs.ex
  have hge := hs.ge
  have hsz := hs.bel.size
  exact ⟨h0, wb, hwb, ⟨⟨A, c, hk.blk hg (by omega) (by simp), hcc, hC⟩, hs.ge, hs.small, ⟨hb.os.trans (hB.os.symm.trans hs.bel.os), hb.tape.trans (hB.tape.symm.trans hs.bel.tape), hb.output.trans (hB.output.symm.trans hs.bel.output), Nat.le_trans hsz hk.1, fun k hk' => (hk.2 k (by omega) (by omega) (by simp)).trans (hs.bel.block k hk')⟩⟩⟩
theorem t_rF (h : TwoS w0 w g1 g2 m l met B At Met) (hf : buf_Reader_Fix.f m l met N = some (x, m', l', met')) : Calls Try.prog 11 #[.pointer (some ⟨g1, 0, none⟩), .int .i64 N] w fun e w' => e = .returned (.int .u64 x) ∧ TwoS w0 w' g1 g2 m' l' met' B At Met ∧ KeepBut w w' g1 none :=
  (buf_Reader_Fix.calls g1 m l met N x m' l' met' w0 w h.1 h.2.2.1 hf).mono fun e w' ⟨he, hi, hb, hk⟩ => ⟨he, h.r_ hi hb hk, hk⟩
theorem t_rU (h : TwoS w0 w g1 g2 m l met B At Met) (hf : buf_Reader_Uvar.f k m l met U = some (x, m', l', met')) : Calls Try.prog 17 #[.pointer (some ⟨g1, 0, none⟩), .int .u64 U] w fun e w' => e = .returned (.int .u64 x) ∧ TwoS w0 w' g1 g2 m' l' met' B At Met ∧ KeepBut w w' g1 none :=
  (buf_Reader_Uvar.calls k g1 m l met U x m' l' met' w0 w h.1 h.2.2.1 hf).mono fun e w' ⟨he, hi, hb, hk⟩ => ⟨he, h.r_ hi hb hk, hk⟩
theorem t_rG (h : TwoS w0 w g1 g2 m l met B At Met) (hf : buf_Reader_Flag.f m l met = some (bl, m', l', met')) : Calls Try.prog 18 #[.pointer (some ⟨g1, 0, none⟩)] w fun e w' => e = .returned (.bool bl) ∧ TwoS w0 w' g1 g2 m' l' met' B At Met ∧ KeepBut w w' g1 none :=
  (buf_Reader_Flag.calls g1 m l met bl m' l' met' w0 w h.1 h.2.2.1 hf).mono fun e w' ⟨he, hi, hb, hk⟩ => ⟨he, h.r_ hi hb hk, hk⟩
theorem t_rT (h : TwoS w0 w g1 g2 m l met B At Met) (hf : buf_Reader_Text.f k m l met N = some (sx, m', l', met')) : Calls Try.prog 10 #[.pointer (some ⟨g1, 0, none⟩), .int .i64 N] w fun e w' => e = .returned (.string sx) ∧ TwoS w0 w' g1 g2 m' l' met' B At Met ∧ KeepBut w w' g1 none :=
  (buf_Reader_Text.calls k g1 m l met N sx m' l' met' w0 w h.1 h.2.2.1 hf).mono fun e w' ⟨he, hi, hb, hk⟩ => ⟨he, h.r_ hi hb hk, hk⟩
theorem t_rL (h : TwoS w0 w g1 g2 m l met B At Met) (hf : buf_Reader_Left.f m l met = some (x, m', met')) : Calls Try.prog 15 #[.pointer (some ⟨g1, 0, none⟩)] w fun e w' => e = .returned (.int .i64 x) ∧ TwoS w0 w' g1 g2 m' l met' B At Met ∧ KeepBut w w' g1 none :=
  (buf_Reader_Left.calls g1 m l met x m' met' w0 w h.1 h.2.2.1 hf).mono fun e w' ⟨he, hi, hb, hk⟩ => ⟨he, h.r_ hi hb hk, hk⟩
theorem t_rR (h : TwoS w0 w g1 g2 m l met B At Met) (hf : buf_Reader_Err.f m l met = some (x, m', met')) : Calls Try.prog 14 #[.pointer (some ⟨g1, 0, none⟩)] w fun e w' => e = .returned (.int .i64 x) ∧ TwoS w0 w' g1 g2 m' l met' B At Met ∧ KeepBut w w' g1 none :=
  (buf_Reader_Err.calls g1 m l met x m' met' w0 w h.1 h.2.2.1 hf).mono fun e w' ⟨he, hi, hb, hk⟩ => ⟨he, h.r_ hi hb hk, hk⟩
theorem t_rE (h : TwoS w0 w g1 g2 m l met B At Met) (hf : buf_Reader_End.f m l met = some (x, m', met')) : Calls Try.prog 12 #[.pointer (some ⟨g1, 0, none⟩)] w fun e w' => e = .returned (.int .i64 x) ∧ TwoS w0 w' g1 g2 m' l met' B At Met ∧ KeepBut w w' g1 none :=
  (buf_Reader_End.calls g1 m l met x m' met' w0 w h.1 h.2.2.1 hf).mono fun e w' ⟨he, hi, hb, hk⟩ => ⟨he, h.r_ hi hb hk, hk⟩
theorem t_rK (h : TwoS w0 w g1 g2 m l met B At Met) (hf : buf_Reader_Take.f m l met N = some (lx, m', l', met')) : Calls Try.prog 19 #[.pointer (some ⟨g1, 0, none⟩), .int .i64 N] w fun e w' => ∃ v : Value, e = .returned v ∧ Kd.R (Kd.int .u8) 5 w' w.heap.size (fun _ => True) v lx ∧ TwoS w0 w' g1 g2 m' l' met' B At Met ∧ KeepBut w w' g1 none :=
  (buf_Reader_Take.calls g1 m l met N lx m' l' met' w0 w h.1 h.2.2.1 hf).mono fun e w' ⟨v, he, hR, hi, hb, hk⟩ => ⟨v, he, hR, h.r_ hi hb hk, hk⟩
theorem t_rX (h : TwoS w0 w g1 g2 m l met B At Met) (hf : buf_Reader_Fail.f m l met N = some (m', met')) : Calls Try.prog 31 #[.pointer (some ⟨g1, 0, none⟩), .int .i64 N] w fun e w' => e = .returned (.tuple #[]) ∧ TwoS w0 w' g1 g2 m' l met' B At Met ∧ KeepBut w w' g1 none :=
  (buf_Reader_Fail.calls g1 m l met N m' met' w0 w h.1 h.2.2.1 hf).mono fun e w' ⟨he, hi, hb, hk⟩ => ⟨he, h.r_ hi hb hk, hk⟩
theorem t_cF (h : TwoS w0 w g1 g2 m l met B At Met) (hf : annuletref06_Cur_Fix.f k B At Met N = some (y, At', Met')) : Calls Try.prog 26 #[.pointer (some ⟨g2, 0, none⟩), .int .i64 N] w fun e w' => e = .returned (.int .u64 y) ∧ TwoS w0 w' g1 g2 m l met B At' Met' ∧ KeepBut w w' g2 none :=
  (annuletref06_Cur_Fix.calls k g2 B At Met N y At' Met' w0 w h.2.1 h.2.2.1 hf).mono fun e w' ⟨he, hi, hb, hk⟩ => ⟨he, h.c_ hi hb hk, hk⟩
theorem t_cU (h : TwoS w0 w g1 g2 m l met B At Met) (hf : annuletref06_Cur_Uvar.f k B At Met U = some (y, At', Met')) : Calls Try.prog 27 #[.pointer (some ⟨g2, 0, none⟩), .int .u64 U] w fun e w' => e = .returned (.int .u64 y) ∧ TwoS w0 w' g1 g2 m l met B At' Met' ∧ KeepBut w w' g2 none :=
  (annuletref06_Cur_Uvar.calls k g2 B At Met U y At' Met' w0 w h.2.1 h.2.2.1 hf).mono fun e w' ⟨he, hi, hb, hk⟩ => ⟨he, h.c_ hi hb hk, hk⟩
theorem t_cG (h : TwoS w0 w g1 g2 m l met B At Met) (hf : annuletref06_Cur_Flag.f B At Met = some (bl, At', Met')) : Calls Try.prog 28 #[.pointer (some ⟨g2, 0, none⟩)] w fun e w' => e = .returned (.bool bl) ∧ TwoS w0 w' g1 g2 m l met B At' Met' ∧ KeepBut w w' g2 none :=
  (annuletref06_Cur_Flag.calls g2 B At Met bl At' Met' w0 w h.2.1 h.2.2.1 hf).mono fun e w' ⟨he, hi, hb, hk⟩ => ⟨he, h.c_ hi hb hk, hk⟩
theorem t_cT (h : TwoS w0 w g1 g2 m l met B At Met) (hf : annuletref06_Cur_Text.f k B At Met N = some (sx, At', Met')) : Calls Try.prog 30 #[.pointer (some ⟨g2, 0, none⟩), .int .i64 N] w fun e w' => e = .returned (.string sx) ∧ TwoS w0 w' g1 g2 m l met B At' Met' ∧ KeepBut w w' g2 none :=
  (annuletref06_Cur_Text.calls k g2 B At Met N sx At' Met' w0 w h.2.1 h.2.2.1 hf).mono fun e w' ⟨he, hi, hb, hk⟩ => ⟨he, h.c_ hi hb hk, hk⟩
theorem t_cL (h : TwoS w0 w g1 g2 m l met B At Met) (hf : annuletref06_Cur_Left.f B At Met = some (y, At', Met')) : Calls Try.prog 16 #[.pointer (some ⟨g2, 0, none⟩)] w fun e w' => e = .returned (.int .i64 y) ∧ TwoS w0 w' g1 g2 m l met B At' Met' ∧ KeepBut w w' g2 none :=
  (annuletref06_Cur_Left.calls g2 B At Met y At' Met' w0 w h.2.1 h.2.2.1 hf).mono fun e w' ⟨he, hi, hb, hk⟩ => ⟨he, h.c_ hi hb hk, hk⟩
theorem t_cE (h : TwoS w0 w g1 g2 m l met B At Met) (hf : annuletref06_Cur_End.f B At Met = some (y, At', Met')) : Calls Try.prog 33 #[.pointer (some ⟨g2, 0, none⟩)] w fun e w' => e = .returned (.int .i64 y) ∧ TwoS w0 w' g1 g2 m l met B At' Met' ∧ KeepBut w w' g2 none :=
  (annuletref06_Cur_End.calls g2 B At Met y At' Met' w0 w h.2.1 h.2.2.1 hf).mono fun e w' ⟨he, hi, hb, hk⟩ => ⟨he, h.c_ hi hb hk, hk⟩
theorem t_cK (h : TwoS w0 w g1 g2 m l met B At Met) (hf : annuletref06_Cur_Take.f B At Met N = some (lx, At', Met')) : Calls Try.prog 29 #[.pointer (some ⟨g2, 0, none⟩), .int .i64 N] w fun e w' => ∃ v : Value, e = .returned v ∧ Kd.R (Kd.int .u8) 5 w' w.heap.size (fun _ => True) v lx ∧ TwoS w0 w' g1 g2 m l met B At' Met' ∧ KeepBut w w' g2 none :=
  (annuletref06_Cur_Take.calls g2 B At Met N lx At' Met' w0 w h.2.1 h.2.2.1 hf).mono fun e w' ⟨v, he, hR, hi, hb, hk⟩ => ⟨v, he, hR, h.c_ hi hb hk, hk⟩
theorem t_cX (h : TwoS w0 w g1 g2 m l met B At Met) (hf : annuletref06_Cur_Fail.f B At Met N = some (At', Met')) : Calls Try.prog 32 #[.pointer (some ⟨g2, 0, none⟩), .int .i64 N] w fun e w' => e = .returned (.tuple #[]) ∧ TwoS w0 w' g1 g2 m l met B At' Met' ∧ KeepBut w w' g2 none :=
  (annuletref06_Cur_Fail.calls g2 B At Met N At' Met' w0 w h.2.1 h.2.2.1 hf).mono fun e w' ⟨he, hi, hb, hk⟩ => ⟨he, h.c_ hi hb hk, hk⟩
end
def annuletlaw06_one.f (k : Nat) (kind N U : Int) (m : Bool) (l : List Int) (met : Int) (B : List Int) (At Met : Int) : Option (Bool × (Bool × List Int × Int) × (Int × Int)) :=
  if kind = 0 then ((buf_Reader_Fix.f m l met N).bind fun a => (annuletref06_Cur_Fix.f k B At Met N).bind fun c => some (a.1 == c.1, (a.2.1, a.2.2.1, a.2.2.2), (c.2.1, c.2.2)))
  else if kind = 1 then ((buf_Reader_Uvar.f k m l met U).bind fun a => (annuletref06_Cur_Uvar.f k B At Met U).bind fun c => some (a.1 == c.1, (a.2.1, a.2.2.1, a.2.2.2), (c.2.1, c.2.2)))
  else if kind = 2 then ((buf_Reader_Flag.f m l met).bind fun a => (annuletref06_Cur_Flag.f B At Met).bind fun c => some (a.1 == c.1, (a.2.1, a.2.2.1, a.2.2.2), (c.2.1, c.2.2)))
  else if kind = 3 then ((buf_Reader_Take.f m l met N).bind fun a => (annuletref06_Cur_Take.f B At Met N).bind fun c => some ((strOfNums a.1).toList == (strOfNums c.1).toList, (a.2.1, a.2.2.1, a.2.2.2), (c.2.1, c.2.2)))
  else if kind = 4 then ((buf_Reader_Text.f k m l met N).bind fun a => (annuletref06_Cur_Text.f k B At Met N).bind fun c => some (a.1.toList == c.1.toList, (a.2.1, a.2.2.1, a.2.2.2), (c.2.1, c.2.2)))
  else if kind = 5 then ((buf_Reader_Left.f m l met).bind fun a => (annuletref06_Cur_Left.f B At Met).bind fun c => some (a.1 == c.1, (a.2.1, l, a.2.2), (c.2.1, c.2.2)))
  else if kind = 6 then ((buf_Reader_Fail.f m l met N).bind fun a => (annuletref06_Cur_Fail.f B At Met N).bind fun c => some (true, (a.1, l, a.2), (c.1, c.2)))
  else if kind = 7 then ((buf_Reader_Err.f m l met).bind fun a => some (a.1 == Met, (a.2.1, l, a.2.2), (At, Met)))
  else ((buf_Reader_End.f m l met).bind fun a => (annuletref06_Cur_End.f B At Met).bind fun c => some (a.1 == c.1, (a.2.1, l, a.2.2), (c.2.1, c.2.2)))
set_option maxHeartbeats 4000000 in
set_option maxRecDepth 100000 in
theorem annuletlaw06_one.calls (k : Nat) (g1 g2 : Nat) (kind N U : Int) (m : Bool) (l : List Int) (met : Int) (B : List Int) (At Met : Int) (b : Bool) (m' : Bool) (l' : List Int) (met' At' Met' : Int) (w0 w : World) (hT : TwoS w0 w g1 g2 m l met B At Met) (h : annuletlaw06_one.f k kind N U m l met B At Met = some (b, (m', l', met'), (At', Met'))) :
    Calls Try.prog 13 #[.pointer (some ⟨g1, 0, none⟩), .pointer (some ⟨g2, 0, none⟩), .agg #[.int .i64 kind, .int .i64 N, .int .u64 U]] w fun e w' => e = .returned (.bool b) ∧ TwoS w0 w' g1 g2 m' l' met' B At' Met' := by
  have HT := Aside0.mk hT
  have L1 := Aside0.mk hT.1.lt
  clear hT
  unfold annuletlaw06_one.f at h
  by_cases c0 : kind = 0
  · rw [if_pos c0] at h
    subst c0
    obtain ⟨⟨x, m1, l1, met1⟩, G1, h⟩ := Option.bind_eq_some_iff.mp h
    obtain ⟨⟨y, At1, Met1⟩, G2, h⟩ := Option.bind_eq_some_iff.mp h
    simp only [Option.some.injEq, Prod.mk.injEq] at h
    obtain ⟨rfl, ⟨rfl, rfl, rfl⟩, rfl, rfl⟩ := h
    have G1 := Aside0.mk G1
    have G2 := Aside0.mk G2
    go_enter Try.func13, Try.ntmps13
    go_wp2
    go_region_with (first | (go_at_call 11; refine (t_rF (by first | exact HT.out.alloc _ | exact (HT.out.alloc _).drew | exact (HT.out.alloc _).drewN _ | exact HT.out) G1.out).mono ?_; rintro e w1 ⟨rfl, ht, hk⟩; have BX1 := hk.blk (g' := w.heap.size) (o := .cells #[.int .i64 0, .int .i64 N, .int .u64 U] 41 (0, 0)) (by exact blk_new w _) (Nat.ne_of_gt L1.out) (by simp); have bx1 : w1.cell? ⟨w.heap.size, 1, none⟩ = some (.int .i64 N) := (blk_cell BX1 1).trans rfl; have bx2 : w1.cell? ⟨w.heap.size, 2, none⟩ = some (.int .u64 U) := (blk_cell BX1 2).trans rfl; clear BX1; have HT1 := Aside0.mk ht; clear ht hk) | (go_at_call 26; refine (t_cF (by first | exact HT1.out | exact HT1.out.drew | exact HT1.out.drewN _) G2.out).mono ?_; rintro e w2 ⟨rfl, ht, hk⟩; have HT2 := Aside0.mk ht; clear ht hk))
    all_goals go_wp2
    all_goals go_ret
    all_goals exact ⟨by first | rfl | simp, by first | exact HT2.out | exact HT2.out.drew | exact HT2.out.drewN _⟩
  · rw [if_neg c0] at h
    have d0 : (kind == 0) = false := beq_eq_false_iff_ne.mpr c0
    by_cases c1 : kind = 1
    · rw [if_pos c1] at h
      subst c1
      obtain ⟨⟨x, m1, l1, met1⟩, G1, h⟩ := Option.bind_eq_some_iff.mp h
      obtain ⟨⟨y, At1, Met1⟩, G2, h⟩ := Option.bind_eq_some_iff.mp h
      simp only [Option.some.injEq, Prod.mk.injEq] at h
      obtain ⟨rfl, ⟨rfl, rfl, rfl⟩, rfl, rfl⟩ := h
      have G1 := Aside0.mk G1
      have G2 := Aside0.mk G2
      go_enter Try.func13, Try.ntmps13
      go_wp2
      go_region_with (first | (go_at_call 17; refine (t_rU (by first | exact HT.out.alloc _ | exact (HT.out.alloc _).drew | exact (HT.out.alloc _).drewN _ | exact HT.out) G1.out).mono ?_; rintro e w1 ⟨rfl, ht, hk⟩; have BX1 := hk.blk (g' := w.heap.size) (o := .cells #[.int .i64 1, .int .i64 N, .int .u64 U] 41 (0, 0)) (by exact blk_new w _) (Nat.ne_of_gt L1.out) (by simp); have bx1 : w1.cell? ⟨w.heap.size, 1, none⟩ = some (.int .i64 N) := (blk_cell BX1 1).trans rfl; have bx2 : w1.cell? ⟨w.heap.size, 2, none⟩ = some (.int .u64 U) := (blk_cell BX1 2).trans rfl; clear BX1; have HT1 := Aside0.mk ht; clear ht hk) | (go_at_call 27; refine (t_cU (by first | exact HT1.out | exact HT1.out.drew | exact HT1.out.drewN _) G2.out).mono ?_; rintro e w2 ⟨rfl, ht, hk⟩; have HT2 := Aside0.mk ht; clear ht hk))
      all_goals go_wp2
      all_goals go_ret
      all_goals exact ⟨by first | rfl | simp, by first | exact HT2.out | exact HT2.out.drew | exact HT2.out.drewN _⟩
    · rw [if_neg c1] at h
      have d1 : (kind == 1) = false := beq_eq_false_iff_ne.mpr c1
      by_cases c2 : kind = 2
      · rw [if_pos c2] at h
        subst c2
        obtain ⟨⟨x, m1, l1, met1⟩, G1, h⟩ := Option.bind_eq_some_iff.mp h
        obtain ⟨⟨y, At1, Met1⟩, G2, h⟩ := Option.bind_eq_some_iff.mp h
        simp only [Option.some.injEq, Prod.mk.injEq] at h
        obtain ⟨rfl, ⟨rfl, rfl, rfl⟩, rfl, rfl⟩ := h
        have G1 := Aside0.mk G1
        have G2 := Aside0.mk G2
        go_enter Try.func13, Try.ntmps13
        go_wp2_with (first | (go_at_call 18; refine (t_rG (by first | exact HT.out.alloc _ | exact (HT.out.alloc _).drew | exact (HT.out.alloc _).drewN _ | exact HT.out) G1.out).mono ?_; rintro e w1 ⟨rfl, ht, hk⟩; have BX1 := hk.blk (g' := w.heap.size) (o := .cells #[.int .i64 2, .int .i64 N, .int .u64 U] 41 (0, 0)) (by exact blk_new w _) (Nat.ne_of_gt L1.out) (by simp); have bx1 : w1.cell? ⟨w.heap.size, 1, none⟩ = some (.int .i64 N) := (blk_cell BX1 1).trans rfl; have bx2 : w1.cell? ⟨w.heap.size, 2, none⟩ = some (.int .u64 U) := (blk_cell BX1 2).trans rfl; clear BX1; have HT1 := Aside0.mk ht; clear ht hk) | (go_at_call 28; refine (t_cG (by first | exact HT1.out | exact HT1.out.drew | exact HT1.out.drewN _) G2.out).mono ?_; rintro e w2 ⟨rfl, ht, hk⟩; have HT2 := Aside0.mk ht; clear ht hk))
        go_ret
        exact ⟨by first | rfl | simp, HT2.out⟩
      · rw [if_neg c2] at h
        have d2 : (kind == 2) = false := beq_eq_false_iff_ne.mpr c2
        by_cases c3 : kind = 3
        · rw [if_pos c3] at h
          subst c3
          obtain ⟨⟨x, m1, l1, met1⟩, G1, h⟩ := Option.bind_eq_some_iff.mp h
          obtain ⟨⟨y, At1, Met1⟩, G2, h⟩ := Option.bind_eq_some_iff.mp h
          simp only [Option.some.injEq, Prod.mk.injEq] at h
          obtain ⟨rfl, ⟨rfl, rfl, rfl⟩, rfl, rfl⟩ := h
          have G1 := Aside0.mk G1
          have G2 := Aside0.mk G2
          go_enter Try.func13, Try.ntmps13
          go_wp2
          go_region_with (first | (go_at_call 19; refine (t_rK (by first | exact HT.out.alloc _ | exact (HT.out.alloc _).drew | exact (HT.out.alloc _).drewN _ | exact HT.out) G1.out).mono ?_; rintro e w1 ⟨v, rfl, hR, ht, hk⟩; obtain ⟨A1, cc1, rfl⟩ := Kd.R_slice hR; have hcv1 := Kd.C_string (P := Try.prog) (A := A1) (c := cc1) Try.underlying26 Try.underlying5 Try.underlying9 (Kd.R_reads' hR).2.2; have HRX := Aside0.mk (ht.2.1.apart hR (by decide)); clear hR; have BX1 := hk.blk (g' := w.heap.size) (o := .cells #[.int .i64 3, .int .i64 N, .int .u64 U] 41 (0, 0)) (by exact blk_new w _) (Nat.ne_of_gt L1.out) (by simp); have bx1 : w1.cell? ⟨w.heap.size, 1, none⟩ = some (.int .i64 N) := (blk_cell BX1 1).trans rfl; have bx2 : w1.cell? ⟨w.heap.size, 2, none⟩ = some (.int .u64 U) := (blk_cell BX1 2).trans rfl; clear BX1; have HT1 := Aside0.mk ht; clear ht hk) | (go_at_call 29; refine (t_cK (by first | exact HT1.out | exact HT1.out.drew | exact HT1.out.drewN _) G2.out).mono ?_; rintro e w2 ⟨v, rfl, hR, ht, hk⟩; obtain ⟨A2, cc2, rfl⟩ := Kd.R_slice hR; have hcv2 := Kd.C_string (P := Try.prog) (A := A2) (c := cc2) Try.underlying26 Try.underlying5 Try.underlying9 (Kd.R_reads' hR).2.2; clear hR; have hcx := Kd.C_string (P := Try.prog) (A := A1) (c := cc1) Try.underlying26 Try.underlying5 Try.underlying9 (Kd.R_reads' (Kd.R_keep HRX.out hk (fun k hk_ => hk_.2))).2.2; have HT2 := Aside0.mk ht; clear ht hk))
          all_goals go_wp2
          all_goals go_ret
          all_goals exact ⟨by first | rfl | simp, by first | exact HT2.out | exact HT2.out.drew | exact HT2.out.drewN _⟩
        · rw [if_neg c3] at h
          have d3 : (kind == 3) = false := beq_eq_false_iff_ne.mpr c3
          by_cases c4 : kind = 4
          · rw [if_pos c4] at h
            subst c4
            obtain ⟨⟨x, m1, l1, met1⟩, G1, h⟩ := Option.bind_eq_some_iff.mp h
            obtain ⟨⟨y, At1, Met1⟩, G2, h⟩ := Option.bind_eq_some_iff.mp h
            simp only [Option.some.injEq, Prod.mk.injEq] at h
            obtain ⟨rfl, ⟨rfl, rfl, rfl⟩, rfl, rfl⟩ := h
            have G1 := Aside0.mk G1
            have G2 := Aside0.mk G2
            go_enter Try.func13, Try.ntmps13
            go_wp2
            go_region_with (first | (go_at_call 10; refine (t_rT (by first | exact HT.out.alloc _ | exact (HT.out.alloc _).drew | exact (HT.out.alloc _).drewN _ | exact HT.out) G1.out).mono ?_; rintro e w1 ⟨rfl, ht, hk⟩; have BX1 := hk.blk (g' := w.heap.size) (o := .cells #[.int .i64 4, .int .i64 N, .int .u64 U] 41 (0, 0)) (by exact blk_new w _) (Nat.ne_of_gt L1.out) (by simp); have bx1 : w1.cell? ⟨w.heap.size, 1, none⟩ = some (.int .i64 N) := (blk_cell BX1 1).trans rfl; have bx2 : w1.cell? ⟨w.heap.size, 2, none⟩ = some (.int .u64 U) := (blk_cell BX1 2).trans rfl; clear BX1; have HT1 := Aside0.mk ht; clear ht hk) | (go_at_call 30; refine (t_cT (by first | exact HT1.out | exact HT1.out.drew | exact HT1.out.drewN _) G2.out).mono ?_; rintro e w2 ⟨rfl, ht, hk⟩; have HT2 := Aside0.mk ht; clear ht hk))
            all_goals go_wp2
            all_goals go_ret
            all_goals exact ⟨by first | rfl | simp, by first | exact HT2.out | exact HT2.out.drew | exact HT2.out.drewN _⟩
          · rw [if_neg c4] at h
            have d4 : (kind == 4) = false := beq_eq_false_iff_ne.mpr c4
            by_cases c5 : kind = 5
            · rw [if_pos c5] at h
              subst c5
              obtain ⟨⟨x, m1, met1⟩, G1, h⟩ := Option.bind_eq_some_iff.mp h
              obtain ⟨⟨y, At1, Met1⟩, G2, h⟩ := Option.bind_eq_some_iff.mp h
              simp only [Option.some.injEq, Prod.mk.injEq] at h
              obtain ⟨rfl, ⟨rfl, rfl, rfl⟩, rfl, rfl⟩ := h
              have G1 := Aside0.mk G1
              have G2 := Aside0.mk G2
              go_enter Try.func13, Try.ntmps13
              go_wp2_with (first | (go_at_call 15; refine (t_rL (by first | exact HT.out.alloc _ | exact (HT.out.alloc _).drew | exact (HT.out.alloc _).drewN _ | exact HT.out) G1.out).mono ?_; rintro e w1 ⟨rfl, ht, hk⟩; have BX1 := hk.blk (g' := w.heap.size) (o := .cells #[.int .i64 5, .int .i64 N, .int .u64 U] 41 (0, 0)) (by exact blk_new w _) (Nat.ne_of_gt L1.out) (by simp); have bx1 : w1.cell? ⟨w.heap.size, 1, none⟩ = some (.int .i64 N) := (blk_cell BX1 1).trans rfl; have bx2 : w1.cell? ⟨w.heap.size, 2, none⟩ = some (.int .u64 U) := (blk_cell BX1 2).trans rfl; clear BX1; have HT1 := Aside0.mk ht; clear ht hk) | (go_at_call 16; refine (t_cL (by first | exact HT1.out | exact HT1.out.drew | exact HT1.out.drewN _) G2.out).mono ?_; rintro e w2 ⟨rfl, ht, hk⟩; have HT2 := Aside0.mk ht; clear ht hk))
              go_ret
              exact ⟨by first | rfl | simp, HT2.out⟩
            · rw [if_neg c5] at h
              have d5 : (kind == 5) = false := beq_eq_false_iff_ne.mpr c5
              by_cases c6 : kind = 6
              · rw [if_pos c6] at h
                subst c6
                obtain ⟨⟨m1, met1⟩, G1, h⟩ := Option.bind_eq_some_iff.mp h
                obtain ⟨⟨At1, Met1⟩, G2, h⟩ := Option.bind_eq_some_iff.mp h
                simp only [Option.some.injEq, Prod.mk.injEq] at h
                obtain ⟨rfl, ⟨rfl, rfl, rfl⟩, rfl, rfl⟩ := h
                have G1 := Aside0.mk G1
                have G2 := Aside0.mk G2
                go_enter Try.func13, Try.ntmps13
                go_wp2_with (first | (go_at_call 31; refine (t_rX (by first | exact HT.out.alloc _ | exact (HT.out.alloc _).drew | exact (HT.out.alloc _).drewN _ | exact HT.out) G1.out).mono ?_; rintro e w1 ⟨rfl, ht, hk⟩; have BX1 := hk.blk (g' := w.heap.size) (o := .cells #[.int .i64 6, .int .i64 N, .int .u64 U] 41 (0, 0)) (by exact blk_new w _) (Nat.ne_of_gt L1.out) (by simp); have bx1 : w1.cell? ⟨w.heap.size, 1, none⟩ = some (.int .i64 N) := (blk_cell BX1 1).trans rfl; have bx2 : w1.cell? ⟨w.heap.size, 2, none⟩ = some (.int .u64 U) := (blk_cell BX1 2).trans rfl; clear BX1; have HT1 := Aside0.mk ht; clear ht hk) | (go_at_call 32; refine (t_cX (by first | exact HT1.out | exact HT1.out.drew | exact HT1.out.drewN _) G2.out).mono ?_; rintro e w2 ⟨rfl, ht, hk⟩; have HT2 := Aside0.mk ht; clear ht hk))
                go_ret
                exact ⟨rfl, HT2.out⟩
              · rw [if_neg c6] at h
                have d6 : (kind == 6) = false := beq_eq_false_iff_ne.mpr c6
                by_cases c7 : kind = 7
                · rw [if_pos c7] at h
                  subst c7
                  obtain ⟨⟨x, m1, met1⟩, G1, h⟩ := Option.bind_eq_some_iff.mp h
                  simp only [Option.some.injEq, Prod.mk.injEq] at h
                  obtain ⟨rfl, ⟨rfl, rfl, rfl⟩, rfl, rfl⟩ := h
                  have G1 := Aside0.mk G1
                  obtain ⟨AC0, cC0, hgC0, _, _⟩ := HT.out.2.1
                  have hm0 : w.cell? ⟨g2, 2, none⟩ = some (.int .i64 Met) := (blk_cell hgC0 2).trans rfl
                  have hlt2 := HT.out.2.1.lt
                  clear hgC0
                  go_enter Try.func13, Try.ntmps13
                  go_wp2
                  go_region_with (go_at_call 14; refine (t_rR (by first | exact HT.out.alloc _ | exact (HT.out.alloc _).drew | exact (HT.out.alloc _).drewN _ | exact HT.out) G1.out).mono ?_; rintro e w1 ⟨rfl, ht, hk⟩; obtain ⟨AC, cC, hgC, _, _⟩ := ht.2.1; have hm2 : w1.cell? ⟨g2, 2, none⟩ = some (.int .i64 Met) := (blk_cell hgC 2).trans rfl; clear hgC; have HT1 := Aside0.mk ht; clear ht hk)
                  all_goals go_wp2
                  all_goals go_ret
                  all_goals exact ⟨by first | rfl | simp, by first | exact HT1.out | exact HT1.out.drew | exact HT1.out.drewN _⟩
                · rw [if_neg c7] at h
                  have d7 : (kind == 7) = false := beq_eq_false_iff_ne.mpr c7
                  clear c0 c1 c2 c3 c4 c5 c6 c7
                  obtain ⟨⟨x, m1, met1⟩, G1, h⟩ := Option.bind_eq_some_iff.mp h
                  obtain ⟨⟨y, At1, Met1⟩, G2, h⟩ := Option.bind_eq_some_iff.mp h
                  simp only [Option.some.injEq, Prod.mk.injEq] at h
                  obtain ⟨rfl, ⟨rfl, rfl, rfl⟩, rfl, rfl⟩ := h
                  have G1 := Aside0.mk G1
                  have G2 := Aside0.mk G2
                  go_enter Try.func13, Try.ntmps13
                  go_wp2_with (first | (go_at_call 12; refine (t_rE (by first | exact HT.out.alloc _ | exact (HT.out.alloc _).drew | exact (HT.out.alloc _).drewN _ | exact HT.out) G1.out).mono ?_; rintro e w1 ⟨rfl, ht, hk⟩; have BX1 := hk.blk (g' := w.heap.size) (o := .cells #[.int .i64 kind, .int .i64 N, .int .u64 U] 41 (0, 0)) (by exact blk_new w _) (Nat.ne_of_gt L1.out) (by simp); have bx1 : w1.cell? ⟨w.heap.size, 1, none⟩ = some (.int .i64 N) := (blk_cell BX1 1).trans rfl; have bx2 : w1.cell? ⟨w.heap.size, 2, none⟩ = some (.int .u64 U) := (blk_cell BX1 2).trans rfl; clear BX1; have HT1 := Aside0.mk ht; clear ht hk) | (go_at_call 33; refine (t_cE (by first | exact HT1.out | exact HT1.out.drew | exact HT1.out.drewN _) G2.out).mono ?_; rintro e w2 ⟨rfl, ht, hk⟩; have HT2 := Aside0.mk ht; clear ht hk))
                  go_ret
                  exact ⟨by first | rfl | simp, HT2.out⟩


/-! ### annuletlaw06_BufStuck: function 5 -/
def annuletlaw06_BufStuck.go (k : Nat) : List S41 → Bool → List Int → Int → List Int → Int → Int → Option Bool
  | [], _, _, _, _, _, _ => some true
  | d :: ds, m, l, met, B, At, Met => if met = 0 ∨ (buf_Reader_Uvar.f k m l met 9 = some (0, m, l, met) ∧ buf_Reader_Text.f k m l met 9 = some (⟨#[]⟩, m, l, met)) then ((annuletlaw06_one.f k d.f0 d.f1 d.f2 m l met B At Met).bind fun t => annuletlaw06_BufStuck.go k ds t.2.1.1 t.2.1.2.1 t.2.1.2.2 B t.2.2.1 t.2.2.2) else none
def annuletlaw06_BufStuck.f (k : Nat) (l0 : List Int) (l1 : List S41) : Option (Bool) := if (l0.length : Int) > 300 ∨ (l1.length : Int) > 30 then some true else annuletlaw06_BufStuck.go k l1 true l0 0 [] 0 0
theorem drop_T41 (l : List S41) (i : Nat) (h : i < l.length) : l.drop i = rd_T41 l (i : Int) :: l.drop (i + 1) := by
  rw [List.drop_eq_getElem_cons h]
  simp [rd_T41, List.getD, h]
theorem TwoS.met {w0 W : World} {g1 g2 : Nat} {m : Bool} {l : List Int} {met : Int} {B : List Int} {At Met : Int} (h : TwoS w0 W g1 g2 m l met B At Met) : W.cell? ⟨g2, 2, none⟩ = some (.int .i64 Met) := by
  obtain ⟨A, c, hg, _, _⟩ := h.2.1
  exact (blk_cell hg 2).trans rfl
set_option maxHeartbeats 4000000 in
set_option maxRecDepth 100000 in
theorem annuletlaw06_BufStuck.calls (k : Nat) (A0 : Option Addr) (c0 : Nat) (l0 : List Int) (A1 : Option Addr) (c1 : Nat) (l1 : List S41) (r : Bool) (w : World) (hr0 : Kd.C (Kd.int .u8) w A0 l0.length l0) (hc0 : l0.length ≤ c0) (hr1 : Kd.C k41 w A1 l1.length l1) (hc1 : l1.length ≤ c1) (h : annuletlaw06_BufStuck.f k l0 l1 = some r) :
    Calls Try.prog 5 #[.slice A0 l0.length c0, .slice A1 l1.length c1] w fun e w' => e = .returned (.bool r) ∧ Below w.heap.size w w' := by
  have HR0 := Aside0.mk hr0
  have HC0 := Aside0.mk hc0
  have HR1 := Aside0.mk hr1
  have HC1 := Aside0.mk hc1
  clear hr0 hc0 hr1 hc1
  have aw : ∀ w1 : World, Below w.heap.size w w1 → Calls Try.prog 6 #[] w1 fun e w' => e = .returned (.bool true) ∧ Below w.heap.size w w' := fun w1 hb => (awake06_walk w1).mono fun e w' ⟨he, h2⟩ => ⟨he, below_step hb h2⟩
  have AW := Aside0.mk aw
  clear aw
  unfold annuletlaw06_BufStuck.f at h
  by_cases c : (l0.length : Int) > 300 ∨ (l1.length : Int) > 30
  · rw [if_pos c] at h
    obtain rfl := Option.some.inj h
    clear h
    by_cases c2 : (l0.length : Int) > 300
    · have d1 : decide (300 < (l0.length : Int)) = true := decide_eq_true c2
      have d2 : decide (300 < l0.length) = true := decide_eq_true (by omega)
      clear c c2
      go_enter Try.func5, Try.ntmps5
      go_wp2_with (go_at_call 6; refine (AW.out _ (Below.refl _ _)).mono ?_; rintro e w1 ⟨rfl, hb⟩)
      go_ret
      exact ⟨rfl, hb⟩
    · have d1 : decide (300 < (l0.length : Int)) = false := decide_eq_false c2
      have d2 : decide (300 < l0.length) = false := decide_eq_false (by omega)
      have e1 : decide (30 < (l1.length : Int)) = true := decide_eq_true (by omega)
      have e2 : decide (30 < l1.length) = true := decide_eq_true (by omega)
      clear c c2
      go_enter Try.func5, Try.ntmps5
      go_wp2_with (go_at_call 6; refine (AW.out _ (Below.refl _ _)).mono ?_; rintro e w1 ⟨rfl, hb⟩)
      go_ret
      exact ⟨rfl, hb⟩
  · rw [if_neg c] at h
    have d1 : decide (300 < (l0.length : Int)) = false := decide_eq_false (by omega)
    have d2 : decide (300 < l0.length) = false := decide_eq_false (by omega)
    have e1 : decide (30 < (l1.length : Int)) = false := decide_eq_false (by omega)
    have e2 : decide (30 < l1.length) = false := decide_eq_false (by omega)
    have LM0 := Aside0.mk (show l0.length ≤ 300 by omega)
    have LM1 := Aside0.mk (show l1.length ≤ 30 by omega)
    have H := Aside0.mk h
    clear c h
    have GO := Aside0.mk (show buf_Open.f l0 = some (true, l0, 0) by unfold buf_Open.f; rw [if_pos (by have := LM0.out; omega)])
    have HB := Aside0.mk (Below.refl w.heap.size w)
    go_enter Try.func5, Try.ntmps5
    go_wp2_with (go_at_call 7; (with_reducible refine (buf_Open.calls A0 c0 l0 true l0 0 w w (Below.refl _ _) HR0.out HC0.out GO.out).mono ?_); rintro e w3 ⟨g1, rfl, hi, hb, hb2⟩; have HI3 := Aside0.mk hi; have HB3 := Aside0.mk hb; clear hi hb hb2)
    have HT0 := Aside0.mk (show TwoS w (w3.alloc (.cells #[.slice none 0 0, .int .i64 0, .int .i64 0] 38)) g1 w3.heap.size true l0 0 [] 0 0 from ⟨HI3.out.alloc _, IsS38.new w w3 none 0 [] 0 0 HB3.out ⟨Nat.le_refl _, Kd.C_nil _ _⟩, below_step HB3.out (below_alloc (Below.refl _ _) _), HI3.out.lt⟩)
    go_loopw [7, 8] (fun v7 v8 wr => ∃ (i : Nat) (m : Bool) (l : List Int) (met At Met : Int), v8 = .int .i64 (i : Int) ∧ v7 = .int .i64 met ∧ Aside0 (i ≤ l1.length) ∧ Aside0 (TwoS w wr g1 w3.heap.size m l met [] At Met) ∧ Aside0 (annuletlaw06_BufStuck.go k (l1.drop i) m l met [] At Met = some r)) (fun _ v8 _ => l1.length - (intOf v8).toNat)
    case atStart => exact ⟨0, true, l0, 0, 0, 0, rfl, rfl, ⟨Nat.zero_le _⟩, HT0, H⟩
    case round =>
      obtain ⟨i, m, l, met, At, Met, rfl, rfl, hi, HT, HG⟩ := hrel
      have HB3' := HT.out.2.2.1
      by_cases hlt : i < l1.length
      · have hl1 : (i : Int) < (l1.length : Int) := by omega
        have hl0 : (0 : Int) ≤ (i : Int) := by omega
        have hG := HG.out
        rw [drop_T41 l1 i hlt, annuletlaw06_BufStuck.go] at hG
        by_cases hc : met = 0 ∨ (buf_Reader_Uvar.f k m l met 9 = some (0, m, l, met) ∧ buf_Reader_Text.f k m l met 9 = some (⟨#[]⟩, m, l, met))
        case neg => rw [if_neg hc] at hG; exact absurd hG (by simp)
        rw [if_pos hc] at hG
        obtain ⟨⟨b1, ⟨m', l', met'⟩, At', Met'⟩, G1, hG⟩ := Option.bind_eq_some_iff.mp hG
        have G1 := Aside0.mk G1
        have HH := Aside0.mk hG
        have HLT := Aside0.mk hlt
        have hi30 : (i : Int) ≤ 30 := by have := LM1.out; omega
        have GR2 := Aside0.mk (show buf_Reader_Err.f m' l' met' = some (met', m', met') from rfl)
        by_cases hm : met = 0
        · have m1 : (met != 0) = false := by rw [bne_eq_false_iff_eq]; exact hm
          obtain ⟨ad, ea, hx0, hx1, hx2⟩ := at_T41 (Kd.C_below HR1.out HB3') (i : Int) hl0 hl1; cases ea; simp only [Int.toNat_natCast] at hx0 hx1 hx2
          clear hi HG hlt HB3' hm hc hG
          go_wp2_with (first | (go_at_call 13; (refine (annuletlaw06_one.calls k g1 w3.heap.size (rd_T41 l1 (i : Int)).f0 (rd_T41 l1 (i : Int)).f1 (rd_T41 l1 (i : Int)).f2 m l met [] At Met b1 m' l' met' At' Met' w _ HT.out G1.out).mono ?_); rintro e w28 ⟨rfl, ht⟩; have HT28 := Aside0.mk ht; clear ht) | (go_at_call 14; (refine (t_rR HT28.out GR2.out).mono ?_); rintro e w29 ⟨rfl, ht, hk⟩; have HT29 := Aside0.mk ht; clear ht hk))
          exact ⟨⟨i + 1, m', l', met', At', Met', by first | rfl | (simp; done) | go_num, by first | rfl | (simp; done), ⟨by have := HLT.out; omega⟩, HT29, HH⟩, by have := HLT.out; simp [intOf]; omega⟩
        · have m1 : (met != 0) = true := by simpa using hm
          obtain ⟨gU, gT⟩ := hc.resolve_left hm
          have gR := Aside0.mk (show buf_Reader_Err.f m l met = some (met, m, met) from rfl)
          have gL := Aside0.mk (show buf_Reader_Left.f m l met = some (0, m, met) by unfold buf_Reader_Left.f; rw [if_neg hm])
          have gF := Aside0.mk (show buf_Reader_Fix.f m l met 1 = some (0, m, l, met) by unfold buf_Reader_Fix.f fixR; simp [hm])
          have gG := Aside0.mk (show buf_Reader_Flag.f m l met = some (false, m, l, met) by unfold buf_Reader_Flag.f flagR; simp [hm])
          have gK := Aside0.mk (show buf_Reader_Take.f m l met 0 = some ([], m, l, met) by unfold buf_Reader_Take.f takeR; simp [hm])
          have gU := Aside0.mk gU
          have gT := Aside0.mk gT
          clear hi HG hlt HB3' hm hc hG
          go_wp2_with (first | (go_at_call 14; (refine (t_rR HT.out gR.out).mono ?_); rintro e w20 ⟨rfl, ht, hk⟩; have HT20 := Aside0.mk ht; clear ht hk) | (go_at_call 15; (refine (t_rL HT20.out gL.out).mono ?_); rintro e w21 ⟨rfl, ht, hk⟩; have HT21 := Aside0.mk ht; clear ht hk) | (go_at_call 11; (refine (t_rF HT21.out gF.out).mono ?_); rintro e w22 ⟨rfl, ht, hk⟩; have HT22 := Aside0.mk ht; clear ht hk) | (go_at_call 17; (refine (t_rU HT22.out gU.out).mono ?_); rintro e w23 ⟨rfl, ht, hk⟩; have HT23 := Aside0.mk ht; clear ht hk) | (go_at_call 18; (refine (t_rG HT23.out gG.out).mono ?_); rintro e w24 ⟨rfl, ht, hk⟩; have HT24 := Aside0.mk ht; clear ht hk) | (go_at_call 19; (refine (t_rK HT24.out gK.out).mono ?_); rintro e w25 ⟨v, rfl, hR, ht, hk⟩; obtain ⟨A5, c5, rfl⟩ := Kd.R_slice hR; clear hR; have HT25 := Aside0.mk ht; clear ht hk) | (go_at_call 10; (refine (t_rT HT25.out gT.out).mono ?_); rintro e w26 ⟨rfl, ht, hk⟩; obtain ⟨ad, ea, hx0, hx1, hx2⟩ := at_T41 (Kd.C_below HR1.out ht.2.2.1) (i : Int) hl0 hl1; cases ea; simp only [Int.toNat_natCast] at hx0 hx1 hx2; have HT26 := Aside0.mk ht; clear ht hk) | (go_at_call 13; (refine (annuletlaw06_one.calls k g1 w3.heap.size (rd_T41 l1 (i : Int)).f0 (rd_T41 l1 (i : Int)).f1 (rd_T41 l1 (i : Int)).f2 m l met [] At Met b1 m' l' met' At' Met' w _ HT26.out G1.out).mono ?_); rintro e w28 ⟨rfl, ht⟩; have HT28 := Aside0.mk ht; clear ht) | (go_at_call 14; (refine (t_rR HT28.out GR2.out).mono ?_); rintro e w29 ⟨rfl, ht, hk⟩; have HT29 := Aside0.mk ht; clear ht hk))
          exact ⟨⟨i + 1, m', l', met', At', Met', by first | rfl | (simp; done) | go_num, by first | rfl | (simp; done), ⟨by have := HLT.out; omega⟩, HT29, HH⟩, by have := HLT.out; simp [intOf]; omega⟩
      · obtain rfl : i = l1.length := by have := hi.out; omega
        have hG := HG.out
        rw [List.drop_length, annuletlaw06_BufStuck.go] at hG
        obtain rfl := Option.some.inj hG
        have BW := Aside0.mk HB3'
        clear hG hlt hi HB3'
        go_wp2_with (go_at_call 6; refine (AW.out _ BW.out).mono ?_; rintro e w7 ⟨rfl, hb⟩)
        go_ret
        exact ⟨rfl, hb⟩

def annuletlaw06_BufStuck.Pure : Prop := ∀ (l0 : List Int) (l1 : List (S41)), (l0.length ≤ maxLen ∧ ∀ z0 ∈ l0, (Lit.int .u8 z0).wf = true) → (l1.length ≤ maxLen ∧ ∀ z0 ∈ l1, ((Lit.int .i64 z0.f0).wf = true ∧ (Lit.int .i64 z0.f1).wf = true ∧ (Lit.int .u64 z0.f2).wf = true)) → ∃ k, annuletlaw06_BufStuck.f k l0 l1 = some true

end Go.Proofs.Ytopjffhmfgnedaa.PBufStuck
