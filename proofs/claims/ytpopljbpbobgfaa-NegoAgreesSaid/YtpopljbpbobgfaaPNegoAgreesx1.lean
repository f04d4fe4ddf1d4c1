/- Written by a program of this session (a turned copy of the kit's print): functions of the program, each with the Lean function that it comes to, and the row of one law. No condition. -/
import Derived.Test.YtpopljbpbobgfaaPNegoAgreesx0
namespace Go.Proofs.Ytpopljbpbobgfaa.PNegoAgrees
open Go.RowKit Go.Proofs.YtpopljbpbobgfaaW.PrintWords Go.Proofs.YtpopljbpbobgfaaW.PrintLast Go.Proofs.YtpopljbpbobgfaaW.PrintMore
attribute [local go_sem] max2_int min2_int max_two min_two max_three min_three max_four min_four   -- for this text's walks alone
set_option linter.unusedVariables false
set_option linter.unusedSimpArgs false


/-! ### slices_Clone_byte_byte: function 28 -/
def slices_Clone_byte_byte.f (l0 : List Int) : Option (List Int) := if l0.length < 140737488355328 then (some l0) else (none)
set_option maxHeartbeats 3000000 in
set_option maxRecDepth 100000 in
theorem slices_Clone_byte_byte.calls (A0 : Option Addr) (c0 : Nat) (l0 : List Int) (r : List Int) (w : World) (hr0 : Kd.C (Kd.int .u8) w A0 l0.length l0) (hc0 : l0.length ≤ c0) (h : slices_Clone_byte_byte.f l0 = some r) :
    Calls Try.prog 28 #[.slice A0 l0.length c0] w fun e w' => ∃ v0_ : Value, e = .returned (v0_) ∧ Kd.R (Kd.int .u8) 5 w' w.heap.size (fun _ => True) v0_ r ∧ Below w.heap.size w w' := by
  have HR0 := Aside0.mk hr0
  have HC0 := Aside0.mk hc0
  have HB := Aside0.mk (Below.refl w.heap.size w)
  unfold slices_Clone_byte_byte.f at h
  by_cases c : l0.length < 140737488355328
  · rw [if_pos c] at h
    obtain rfl := Option.some.inj h
    have LMc := Aside0.mk c
    clear c h
    cases A0 with
    | none =>
      have hn : l0 = [] := by
        cases l0 with
        | nil => rfl
        | cons x l => obtain ⟨ad, he, _⟩ := (HR0.out).2.2 (by simp); cases he
      subst hn
      clear hr0 hc0 LMc
      have hq := fun (w : World) => Lib.run_eql_slice_nil (P := Try.prog) w 23 5 none 0 c0 0 0 Try.underlying23
      go_enter Try.func28, Try.ntmps28
      go_wp2
      go_ret
      exact ⟨_, rfl, by first | exact Kd.R_nil _ _ _ _ _, HB.out⟩
    | some ad =>
      clear hr0 hc0
      have hq := fun (w : World) => Lib.run_eql_slice_nil (P := Try.prog) w 23 5 (some ad) l0.length c0 0 0 Try.underlying23
      obtain ⟨y1, hy1⟩ : ∃ y_ : List Int, y_ = [] := ⟨_, rfl⟩
      obtain ⟨y2, hy2⟩ : ∃ y_ : List Int, y_ = y1 ++ l0 := ⟨_, rfl⟩
      have hy3 : y2 = l0 := by rw [hy2, hy1]; rfl
      have Ny1 := Aside0.mk hy1
      have Ny2 := Aside0.mk hy2
      have Ny3 := Aside0.mk hy3
      clear hy1 hy2 hy3
      go_enter Try.func28, Try.ntmps28
      go_wp2_with (first | ((with_reducible refine gate_dst (N := 5) rfl ?_); refine Kd.R_lit (Kd.int .u8) _ 5 ?hg (N := 5) ?hd (xs := ([] : List Int)) (inner := []) (ok := fun _ => True) (okp := fun _ => True) ?hr ?hp (fun _ hk => hk) trivial (Below.refl _ _) (Nat.le_refl _) (by simp) ?_; (case hd => rfl); (case hg => rfl); (case hr => first | (go_simp; done) | (go_simp; rfl)); (case hp => exact (Reps.none _ _)); intro v133 w13 ho14 hb hg_ hnew_; clear hg_ hnew_; (first | rw [← Ny1.out] at ho14 | (simp only [Int.reduceToNat] at ho14; rw [← Ny1.out] at ho14)); have n0_ := Aside0.mk (Kd.R_lower ho14 (below_size (by repeat (first | (with_reducible first | exact HB.out | apply below_alloc | apply pw_below_drewN | apply below_drew1) | exact HB.out)))); have n1_ := Aside0.mk (below_step (by repeat (first | (with_reducible first | exact HB.out | apply below_alloc | apply pw_below_drewN | apply below_drew1) | exact HB.out)) hb); clear HB; have HO134 := n0_; have HB := n1_; clear n0_ n1_; clear hb ho14) | ((with_reducible refine gate_builtin (b := .append) (xs := #[.tmp 5, .tmp 6]) rfl ?_); at_builtin; refine Kd.R_append_rows (Kd.int .u8) (w0 := w) w.heap.size rfl (.tmp 5) (.tmp 6) 23 5 (.int .u8 0) 1 rfl Try.underlying23 info5 rfl (by decide) (by omega) v133 y1 l0 _ _ _ (fun _ => True) (fun _ => False) rfl rfl ?aO ?aR (fun _ _ h => h) (fun _ h => h.elim) ?aF ?aB ?aS ?aL ?_; (case aR => repeat (first | exact (Kd.C_below HR0.out HB.out) | (with_reducible refine Kd.C_alloc ?_ _) | (with_reducible refine Kd.C_drewN ?_ _) | (with_reducible refine Kd.C_drew ?_))); (case aB => exact (by repeat (first | (with_reducible first | exact HB.out | apply below_alloc | apply pw_below_drewN | apply below_drew1) | exact HB.out))); (case aF => exact (fun _ _ => trivial)); (case aO => exact (by (with_reducible repeat (first | apply Kd.R_alloc | apply Kd.R_drewN | apply Kd.R_drew)); exact HO134.out)); (case aS => exact (below_size (by repeat (first | (with_reducible first | exact HB.out | apply below_alloc | apply pw_below_drewN | apply below_drew1) | exact HB.out)))); (case aL => have := LMc.out; have h1_ := congrArg List.length Ny1.out; simp only [List.length_nil] at h1_; omega); intro v137 w16 ho hb hg hat; rw [← Ny2.out] at ho; have n0_ := Aside0.mk (hb); have n1_ := Aside0.mk (ho); clear HB; clear HO134; have HB := n0_; have HO138 := n1_; clear n0_ n1_; clear ho hb hg hat))
      go_ret
      exact ⟨_, rfl, by rw [← Ny3.out]; exact HO138.out, (by repeat (first | (with_reducible first | exact HB.out | apply below_alloc | apply pw_below_drewN | apply below_drew1) | exact HB.out))⟩
  · rw [if_neg c] at h
    exact absurd h (by simp)
theorem clone_n (A : Option Addr) (c n : Nat) (l : List Int) (w : World) (hn : l.length = n) (hC : Kd.C (Kd.int .u8) w A n l) (hc : n ≤ c) (hl : n < 140737488355328) :
    Calls Try.prog 28 #[.slice A n c] w fun e w' => ∃ v : Value, e = .returned v ∧ Kd.R (Kd.int .u8) 5 w' w.heap.size (fun _ => True) v l ∧ Below w.heap.size w w' := by
  subst hn
  exact slices_Clone_byte_byte.calls A c l l w hC hc (by unfold slices_Clone_byte_byte.f; rw [if_pos hl])


/-! ### buf_Open: function 21 -/
set_option maxHeartbeats 400000 in
set_option maxRecDepth 100000 in
theorem rd_Open (A : Option Addr) (c : Nat) (l : List Int) (w : World) (hC : Kd.C (Kd.int .u8) w A l.length l) (hc : l.length ≤ c) (hl : l.length < 140737488355328) :
    Calls Try.prog 21 #[.slice A l.length c] w fun e w' => ∃ (g : Nat) (w0 : World), e = .returned (.pointer (some ⟨g, 0, none⟩)) ∧ RdS 61 w0 w' g l 0 ∧ Below w.heap.size w w0 ∧ Below w.heap.size w w' := by
  have HL := Aside0.mk hl
  have HC := Aside0.mk hC
  have HH := Aside0.mk hc
  clear hC hc hl
  go_enter Try.func21, Try.ntmps21
  go_wp2_with (first | (go_at_call 28; (with_reducible refine (clone_n A c l.length l w rfl HC.out HH.out HL.out).mono ?_); rintro e w1 ⟨v, rfl, hR, hb⟩; obtain ⟨A1, cc, rfl⟩ := Kd.R_slice hR; have HR := Aside0.mk hR; have HB := Aside0.mk hb; clear hR hb))
  go_ret
  have hr := Kd.R_reads' HR.out
  exact ⟨_, w1, rfl, ⟨⟨A1, cc, heap_alloc_new w1 _, hr.2.1, hr.2.2⟩, Nat.le_refl _, HL.out, below_alloc (Below.refl _ _) _⟩, HB.out, below_step HB.out (below_alloc (Below.refl _ _) _)⟩
/-- a reader at block g of W, as a state: what is left lay there by a world since w0 -/
def IsS61 (w0 W : World) (g : Nat) (f0 : Bool) (f1 : List Int) (f2 : Int) : Prop := f0 = true ∧ ∃ wb : World, w0.heap.size ≤ wb.heap.size ∧ RdS 61 wb W g f1 f2
section
variable {w0 W : World} {g : Nat} {f0 : Bool} {f1 : List Int} {f2 : Int}
theorem IsS61.blk (h : IsS61 w0 W g f0 f1 f2) : ∃ cs : Array Value, W.heap[g]? = some (.cells cs 61 (0, 0)) := by
  obtain ⟨_, wb, _, hr⟩ := h
  obtain ⟨A, c, hg, _⟩ := hr.ex
  exact ⟨_, hg⟩
theorem IsS61.ge (h : IsS61 w0 W g f0 f1 f2) : w0.heap.size ≤ g := by
  obtain ⟨_, wb, hb, hr⟩ := h
  exact Nat.le_trans hb hr.ge
theorem IsS61.lt (h : IsS61 w0 W g f0 f1 f2) : g < W.heap.size := by
  obtain ⟨cs, hb⟩ := h.blk
  exact blk_lt hb
theorem IsS61.fresh (h : IsS61 w0 W g f0 f1 f2) : ∀ k, W.heap.size ≤ k → k ≠ g := by
  obtain ⟨cs, hb⟩ := h.blk
  exact Kd.freshB hb
theorem IsS61.below {W1 : World} (h : IsS61 w0 W g f0 f1 f2) (hw : Below W.heap.size W W1) : IsS61 w0 W1 g f0 f1 f2 := by
  obtain ⟨h0, wb, hb, hr⟩ := h
  exact ⟨h0, wb, hb, hr.later hw⟩
theorem IsS61.alloc (h : IsS61 w0 W g f0 f1 f2) (o : Obj) : IsS61 w0 (W.alloc o) g f0 f1 f2 := h.below (below_alloc (Below.refl _ _) o)
theorem IsS61.drewN (h : IsS61 w0 W g f0 f1 f2) (m : Nat) : IsS61 w0 (W.drewN m) g f0 f1 f2 := h.below (pw_below_drewN (Below.refl _ _) m)
theorem IsS61.drew (h : IsS61 w0 W g f0 f1 f2) : IsS61 w0 W.drew g f0 f1 f2 := h.below (Below.refl _ _).drew
theorem IsS61.at_ {w' : World} {m : Nat} (hq : W.drewN m = w') (h : IsS61 w0 W g f0 f1 f2) : IsS61 w0 w' g f0 f1 f2 := by subst hq; exact h.drewN m
theorem IsS61.apart {α : Type} {d : Kd α} {e : Nat} {base : Nat} {ok : Nat → Prop} {v : Value} {xs : List α} (h : IsS61 w0 W g f0 f1 f2) (ho : d.R e W base ok v xs) (ht : ∀ q, q ∈ e :: d.E → q ≠ 61) : d.R e W base (fun k => ok k ∧ k ≠ g) v xs := by
  obtain ⟨cs, hb⟩ := h.blk
  exact Kd.R_types ho hb ht
theorem IsS61.own_ne {α : Type} {d : Kd α} {e : Nat} {base : Nat} {ok : Nat → Prop} {v : Value} {xs : List α} (h : IsS61 w0 W g f0 f1 f2) (ho : d.R e W base ok v xs) (ht : e ≠ 61) : some g ≠ v.ownBlock := by
  obtain ⟨cs, hb⟩ := h.blk
  exact Kd.R_ne ho hb ht
theorem IsS61.apartQ {α : Type} {d : Kd α} {e : Nat} {base : Nat} {ok : Nat → Prop} {v : Value} {xs : List α} (h : IsS61 w0 W g f0 f1 f2) (ho : d.Q e W base ok v xs) (ht : ∀ q, q ∈ e :: d.E → q ≠ 61) : d.Q e W base (fun k => ok k ∧ k ≠ g) v xs := by
  obtain ⟨cs, hb⟩ := h.blk
  exact Kd.Q_types ho hb ht
theorem IsS61.own_neQ {α : Type} {d : Kd α} {e : Nat} {base : Nat} {ok : Nat → Prop} {v : Value} {xs : List α} (h : IsS61 w0 W g f0 f1 f2) (ho : d.Q e W base ok v xs) (ht : e ≠ 61) : some g ≠ v.ownBlock := by
  obtain ⟨cs, hb⟩ := h.blk
  exact Kd.Q_ne ho hb ht
theorem IsS61.ne_blk {a : Nat} {cs : Array Value} {t : TypeId} {fr : Nat × Nat} (h : IsS61 w0 W g f0 f1 f2) (hb2 : W.heap[a]? = some (.cells cs t fr)) (ht : t ≠ 61) : g ≠ a := by
  obtain ⟨cs, hb⟩ := h.blk
  rintro rfl
  rw [hb] at hb2
  injection hb2 with hb2
  injection hb2 with _ ht2
  exact ht ht2.symm
theorem IsS61.far2 {p : Addr} (h : IsS61 w0 W g f0 f1 f2) (hgt : g < p.block) (u : Value) : IsS61 w0 (W.setCell p u) g f0 f1 f2 := by
  obtain ⟨h0, wb, hb, hr⟩ := h
  obtain ⟨A, c, hg, hc, hC⟩ := hr.ex
  exact ⟨h0, wb, hb, ⟨⟨A, c, blk_far hg (Nat.ne_of_lt hgt) u, hc, hC⟩, hr.ge, hr.small, hr.bel.setCell (Nat.le_trans hr.ge (Nat.le_of_lt hgt)) u⟩⟩
theorem IsS61.keep {w w' wb : World} (hB : Below w0.heap.size w0 w) (hb : w0.heap.size ≤ wb.heap.size) (h1 : Below wb.heap.size wb w) (h2 : Below wb.heap.size wb w') (hg : wb.heap.size ≤ g) (hk : KeepBut w w' g none) : Below w0.heap.size w0 w' :=
  ⟨h2.os.trans (h1.os.symm.trans hB.os), h2.tape.trans (h1.tape.symm.trans hB.tape), h2.output.trans (h1.output.symm.trans hB.output), Nat.le_trans hB.size hk.1, fun k hk' => (hk.2 k (Nat.lt_of_lt_of_le hk' hB.size) (by omega) (by simp)).trans (hB.block k hk')⟩
end
def buf_Open.f (l0 : List Int) : Option (Bool × List Int × Int) := if l0.length < 140737488355328 then (some (true, l0, 0)) else (none)
theorem buf_Open.calls (A0 : Option Addr) (c0 : Nat) (l0 : List Int) (r1 : Bool) (r2 : List Int) (r3 : Int) (w0 w : World) (hB : Below w0.heap.size w0 w) (hr0 : Kd.C (Kd.int .u8) w0 A0 l0.length l0) (hc0 : l0.length ≤ c0) (h : buf_Open.f l0 = some (r1, r2, r3)) :
    Calls Try.prog 21 #[.slice A0 l0.length c0] w fun e w' => ∃ g_ : Nat, e = .returned (.pointer (some ⟨g_, 0, none⟩)) ∧ IsS61 w0 w' g_ r1 r2 r3 ∧ Below w0.heap.size w0 w' ∧ Below w.heap.size w w' := by
  unfold buf_Open.f at h
  by_cases hl : l0.length < 140737488355328
  · rw [if_pos hl] at h
    have h := Option.some.inj h
    injection h with e1 h
    injection h with e2 e3
    subst e1 e2 e3
    refine (rd_Open A0 c0 l0 w (Kd.C_below hr0 hB) hc0 hl).mono ?_
    rintro e w' ⟨g, wb, he, hi, h1, h2⟩
    exact ⟨g, he, ⟨rfl, wb, Nat.le_trans hB.size h1.size, hi⟩, below_step hB h2, h2⟩
  · rw [if_neg hl] at h
    exact absurd h (by simp)


/-! ### buf_Reader_dead: function 29 -/
set_option maxHeartbeats 400000 in
set_option maxRecDepth 100000 in
theorem rd_dead (g : Nat) (rest : List Int) (met : Int) (w0 w : World) (hI : RdS 61 w0 w g rest met) :
    Calls Try.prog 29 #[.pointer (some ⟨g, 0, none⟩)] w fun e w' => e = .returned (.bool (met != 0)) ∧ w = w' := by
  obtain ⟨A, c, HG, hg, HS⟩ := hI.ex
  have h0 : w.cell? ⟨g, 0, none⟩ = some (.bool true) := (blk_cell HG 0).trans rfl
  have h2 : w.cell? ⟨g, 2, none⟩ = some (.int .i64 met) := (blk_cell HG 2).trans rfl
  clear HG hg HS hI
  go_enter Try.func29, Try.ntmps29
  go_wp2
  go_ret
  exact ⟨by first | rfl | simp, by rfl⟩
set_option maxHeartbeats 400000 in
set_option maxRecDepth 100000 in
theorem rd_dead0 (w : World) : Calls Try.prog 29 #[.pointer none] w fun e w' => e = .returned (.bool true) ∧ w = w' := by
  go_enter Try.func29, Try.ntmps29
  go_wp2
  go_ret
  exact ⟨rfl, rfl⟩


/-! ### buf_Reader_lacks: function 30 -/
set_option maxHeartbeats 400000 in
set_option maxRecDepth 100000 in
theorem rd_lacks (g : Nat) (rest : List Int) (met n : Int) (w0 w : World) (hI : RdS 61 w0 w g rest met) :
    Calls Try.prog 30 #[.pointer (some ⟨g, 0, none⟩), .int .i64 n] w fun e w' => e = .returned (.bool (decide ((rest.length : Int) < n))) ∧ RdS 61 w0 w' g rest (if (rest.length : Int) < n then 2 else met) ∧ KeepBut w w' g none := by
  have HI := Aside0.mk hI
  obtain ⟨A, c, HG, hg, HS⟩ := hI.ex
  have h1 : w.cell? ⟨g, 1, none⟩ = some (.slice A rest.length c) := (blk_cell HG 1).trans rfl
  have h2 : w.cell? ⟨g, 2, none⟩ = some (.int .i64 met) := (blk_cell HG 2).trans rfl
  have f2 := blk_frozen HG 2
  clear HG hg HS hI
  by_cases c1 : (rest.length : Int) < n
  · have c1b : ¬ n ≤ (rest.length : Int) := by omega
    rw [if_pos c1, decide_eq_true c1]
    go_enter Try.func30, Try.ntmps30
    go_wp2
    go_ret
    exact ⟨rfl, RdS.put_met HI.out 2, KeepBut.set_ (KeepBut.refl _ _ _) _ _⟩
  · have c1b : n ≤ (rest.length : Int) := by omega
    rw [if_neg c1, decide_eq_false c1]
    go_enter Try.func30, Try.ntmps30
    go_wp2
    go_ret
    exact ⟨rfl, HI.out, KeepBut.refl _ _ _⟩


/-! ### buf_Reader_take: function 31 -/
set_option maxHeartbeats 800000 in
set_option maxRecDepth 100000 in
theorem rd_take (g : Nat) (rest : List Int) (met n : Int) (w0 w : World) (hI : RdS 61 w0 w g rest met) (h0 : 0 ≤ n) (hn : n ≤ rest.length) :
    Calls Try.prog 31 #[.pointer (some ⟨g, 0, none⟩), .int .i64 n] w fun e w' => ∃ v : Value, e = .returned v ∧ Kd.R (Kd.int .u8) 5 w' w.heap.size (fun _ => True) v (rest.take n.toNat) ∧ RdS 61 w0 w' g (rest.drop n.toNat) met ∧ KeepBut w w' g none := by
  have HI := Aside0.mk hI
  obtain ⟨A, c, HG, hc, HS⟩ := hI.ex
  have h1 : w.cell? ⟨g, 1, none⟩ = some (.slice A rest.length c) := (blk_cell HG 1).trans rfl
  obtain ⟨i5, hi5, he5⟩ := Option.map_eq_some_iff.1 info5
  have hz5 : i5.size = 1 := congrArg (fun p => p.2.1) he5
  have hs1 := cut_to (P := Try.prog) 23 5 .i64 Try.underlying23 hi5 A rest.length c n h0 hn hc
  have hs2 := cut_from (P := Try.prog) 23 5 .i64 Try.underlying23 hi5 1 hz5 A rest.length c n h0 hn
  have HD0 := Kd.C_drop HS (show n.toNat ≤ rest.length by omega) hc
  obtain ⟨A2, hA2⟩ : ∃ A2, A2 = (if c = n.toNat then A else A.map (·.add (n.toNat * 1))) := ⟨_, rfl⟩
  rw [← hA2] at hs2
  have HD := Aside0.mk (show (Kd.int .u8).C w0 A2 (rest.drop n.toNat).length (rest.drop n.toNat) by rw [hA2]; exact HD0)
  have HC := Aside0.mk (Kd.C_take HS (show n.toNat ≤ rest.length by omega))
  have HL := Aside0.mk hc
  have HN := Aside0.mk hn
  have H0 := Aside0.mk h0
  have HB := Aside0.mk hI.bel
  have HGG := Aside0.mk HG
  have HS2 := Aside0.mk hI.small
  have HE := Aside0.mk (show (rest.take n.toNat).length = n.toNat by rw [List.length_take]; omega)
  clear hc HS hI HG h0 hn hi5 he5 hz5 HD0 hA2
  go_enter Try.func31, Try.ntmps31
  go_wp2_with (go_at_call 28; refine (clone_n A c n.toNat (rest.take n.toNat) w HE.out (by have := Kd.C_below HC.out HB.out; rwa [HE.out] at this) (by have := HL.out; have := HN.out; omega) (by have := HS2.out; have := HN.out; omega)).mono ?_; rintro e w1 ⟨v, rfl, hR, hb⟩; have HR := Aside0.mk hR; have HG1 := Aside0.mk (blk_below HGG.out hb); have HBB := Aside0.mk hb; have h1 : w1.cell? ⟨g, 1, none⟩ = some (.slice A rest.length c) := (blk_cell HG1.out 1).trans rfl; have f1 := blk_frozen HG1.out 1; clear hR hb)
  go_ret
  have hbs := blk_set HG1.out 1 (.slice A2 (rest.length - n.toNat) (c - n.toNat))
  refine ⟨_, rfl, Kd.R_mono (Kd.R_far (p := ⟨g, 1, none⟩) (Kd.R_types HR.out HG1.out (by decide)) (fun _ hk => hk.2) _) (fun _ hk => hk.1), ⟨⟨A2, c - n.toNat, ?_, ?_, HD.out⟩, HI.out.ge, ?_, (below_step HB.out HBB.out).setCell HI.out.ge _⟩, (below_self HBB.out g).set_ _ _⟩
  · rw [List.length_drop]
    exact hbs
  · rw [List.length_drop]
    have := HL.out
    omega
  · rw [List.length_drop]
    have := HS2.out
    omega


/-! ### buf_Reader_Fix: function 22 -/
set_option maxHeartbeats 1000000 in
set_option maxRecDepth 100000 in
theorem rd_Fix (g : Nat) (rest : List Int) (met s : Int) (w0 w : World) (hI : RdS 61 w0 w g rest met) :
    Calls Try.prog 22 #[.pointer (some ⟨g, 0, none⟩), .int .i64 s] w fun e w' => e = .returned (.int .u64 (fixR s rest met).1) ∧ RdS 61 w0 w' g (fixR s rest met).2.1 (fixR s rest met).2.2 ∧ KeepBut w w' g none := by
  have HI := Aside0.mk hI
  obtain ⟨A, c, HG, hc, HS⟩ := hI.ex
  have h2 : w.cell? ⟨g, 2, none⟩ = some (.int .i64 met) := (blk_cell HG 2).trans rfl
  have f2 := blk_frozen HG 2
  clear HG hc HS hI
  unfold fixR
  by_cases c1 : met = 0
  · have c1b : (met != 0) = false := by rw [bne_eq_false_iff_eq]; exact c1
    rw [if_neg (by simpa using c1)]
    by_cases c2 : s < 1 ∨ 8 < s
    · rw [if_pos c2]
      by_cases c3 : s < 1
      · go_enter Try.func22, Try.ntmps22
        go_wp2_with (go_at_call 29; (with_reducible refine (rd_dead g rest met w0 w HI.out).mono ?_); rintro e w1 ⟨rfl, rfl⟩)
        go_ret
        exact ⟨rfl, RdS.put_met HI.out 1, KeepBut.set_ (KeepBut.refl _ _ _) _ _⟩
      · have c4 : 8 < s := by omega
        go_enter Try.func22, Try.ntmps22
        go_wp2_with (go_at_call 29; (with_reducible refine (rd_dead g rest met w0 w HI.out).mono ?_); rintro e w1 ⟨rfl, rfl⟩)
        go_ret
        exact ⟨rfl, RdS.put_met HI.out 1, KeepBut.set_ (KeepBut.refl _ _ _) _ _⟩
    · rw [if_neg c2]
      have c3 : ¬ s < 1 := fun h => c2 (Or.inl h)
      have c4 : ¬ 8 < s := fun h => c2 (Or.inr h)
      by_cases c5 : (rest.length : Int) < s
      · rw [if_pos c5]
        go_enter Try.func22, Try.ntmps22
        go_wp2_with (first | (go_at_call 29; (with_reducible refine (rd_dead g rest met w0 w HI.out).mono ?_); rintro e w1 ⟨rfl, rfl⟩) | (go_at_call 30; (with_reducible refine (rd_lacks g rest met s w0 w HI.out).mono ?_); rintro e w1 ⟨rfl, hi, hk⟩; rw [if_pos c5] at hi; rw [decide_eq_true c5]; have HI2 := Aside0.mk hi; have HK := Aside0.mk hk; clear hi hk))
        go_ret
        exact ⟨rfl, HI2.out, HK.out⟩
      · rw [if_neg c5]
        obtain ⟨m, rfl⟩ : ∃ m : Nat, s = (m : Int) := ⟨s.toNat, by omega⟩
        rw [Int.toNat_natCast]
        have H0 := Aside0.mk (show (0 : Int) ≤ (m : Int) by omega)
        have HN := Aside0.mk (show (m : Int) ≤ (rest.length : Int) by omega)
        have HE := Aside0.mk (show (rest.take m).length = m by rw [List.length_take]; omega)
        have HM := Aside0.mk c1
        go_enter Try.func22, Try.ntmps22
        go_wp2_with (first | (go_at_call 29; (with_reducible refine (rd_dead g rest met w0 w HI.out).mono ?_); rintro e w1 ⟨rfl, rfl⟩) | (go_at_call 30; (with_reducible refine (rd_lacks g rest met m w0 w HI.out).mono ?_); rintro e w1 ⟨rfl, hi, hk⟩; rw [if_neg (by have := HN.out; omega)] at hi; rw [decide_eq_false (by have := HN.out; omega)]; have HI2 := Aside0.mk hi; have HK := Aside0.mk hk; clear hi hk) | (go_at_call 31; (with_reducible refine (rd_take g rest met m w0 _ HI2.out H0.out HN.out).mono ?_); rintro e w2 ⟨v, rfl, hR, hi, hk⟩; rw [Int.toNat_natCast] at hR hi; obtain ⟨A1, cc, rfl⟩ := Kd.R_slice hR; have HR := Aside0.mk hR; have HI3 := Aside0.mk hi; have HK2 := Aside0.mk (HK.out.trans hk (.inl rfl)); rw [HE.out]; clear hR hi hk))
        generalize hL : rest.take m = L at *
        have HLE := Aside0.mk HE.out
        clear HE
        go_loopw [5, 7, 26] (fun v5 v7 v26 wr => ∃ i : Nat, i ≤ m ∧ v26 = .int .i64 (i : Int) ∧ v5 = .int .u64 (beI (L.take i) 0) ∧ wr = w2) (fun _ _ v26 _ => m - (intOf v26).toNat)
        case atStart => exact ⟨0, by omega, rfl, rfl, rfl⟩
        case round =>
          obtain ⟨i, hi, rfl, rfl, rfl⟩ := hrel
          by_cases hlt : i < m
          · have hc1 : (i : Int) < (m : Int) := by omega
            have hc0 : (0 : Int) ≤ (i : Int) := by omega
            have hLl := HLE.out
            obtain ⟨ad, ea, hx⟩ := Kd.at_int (Kd.R_reads' HR.out).2.2 (i : Int) hc0 (by rw [hLl]; exact hc1)
            cases ea
            rw [Int.toNat_natCast] at hx
            have hw1 : wrap64 ((i : Int) + 1) = ((i + 1 : Nat) : Int) := by have := HI.out.small; have := HN.out; unfold wrap64; omega
            have hnx := Aside0.mk (beI_next L i 0 (by rw [hLl]; exact hlt))
            clear hLl
            go_wp2
            exact ⟨⟨i + 1, by omega, by congr 1, by rw [hnx.out], trivial⟩, by simp [intOf]; omega⟩
          · obtain rfl : i = m := by omega
            have hT : L.take i = L := List.take_of_length_le (by rw [HLE.out]; exact Nat.le_refl _)
            rw [hT]
            clear hT
            go_wp2
            go_ret
            rw [HM.out] at HI3
            exact ⟨by rw [hL]; rfl, HI3.out, HK2.out⟩
  · have c1b : (met != 0) = true := by simpa using c1
    rw [if_pos c1]
    go_enter Try.func22, Try.ntmps22
    go_wp2_with (go_at_call 29; (with_reducible refine (rd_dead g rest met w0 w HI.out).mono ?_); rintro e w1 ⟨rfl, rfl⟩)
    go_ret
    exact ⟨rfl, HI.out, KeepBut.refl _ _ _⟩
def buf_Reader_Fix.f (s0_0 : Bool) (s0_1 : List Int) (s0_2 : Int) (a1 : Int) : Option (Int × Bool × List Int × Int) := some ((fixR a1 s0_1 s0_2).1, s0_0, (fixR a1 s0_1 s0_2).2.1, (fixR a1 s0_1 s0_2).2.2)
theorem buf_Reader_Fix.calls (g : Nat) (s0_0 : Bool) (s0_1 : List Int) (s0_2 : Int) (a1 : Int) (r1 : Int) (r2 : Bool) (r3 : List Int) (r4 : Int) (w0 w : World) (hI : IsS61 w0 w g s0_0 s0_1 s0_2) (hB : Below w0.heap.size w0 w) (h : buf_Reader_Fix.f s0_0 s0_1 s0_2 a1 = some (r1, r2, r3, r4)) :
    Calls Try.prog 22 #[.pointer (some ⟨g, 0, none⟩), .int .i64 a1] w fun e w' => e = .returned (.int .u64 r1) ∧ IsS61 w0 w' g r2 r3 r4 ∧ Below w0.heap.size w0 w' ∧ KeepBut w w' g none := by
  have h := Option.some.inj h
  injection h with e1 h
  injection h with e2 h
  injection h with e3 e4
  subst e1 e2 e3 e4
  obtain ⟨h0, wb, hb, hr⟩ := hI
  refine (rd_Fix g s0_1 s0_2 a1 wb w hr).mono ?_
  rintro e w' ⟨he, hi, hk⟩
  exact ⟨he, ⟨h0, wb, hb, hi⟩, IsS61.keep hB hb hr.bel hi.bel hr.ge hk, hk⟩


/-! ### buf_Reader_Err: function 32 -/
set_option maxHeartbeats 400000 in
set_option maxRecDepth 100000 in
theorem rd_Err (g : Nat) (rest : List Int) (met : Int) (w0 w : World) (hI : RdS 61 w0 w g rest met) :
    Calls Try.prog 32 #[.pointer (some ⟨g, 0, none⟩)] w fun e w' => e = .returned (.int .i64 met) ∧ w = w' := by
  obtain ⟨A, c, HG, hg, HS⟩ := hI.ex
  have h0 : w.cell? ⟨g, 0, none⟩ = some (.bool true) := (blk_cell HG 0).trans rfl
  have h2 : w.cell? ⟨g, 2, none⟩ = some (.int .i64 met) := (blk_cell HG 2).trans rfl
  clear HG hg HS hI
  go_enter Try.func32, Try.ntmps32
  go_wp2
  go_ret
  exact ⟨by first | rfl | simp, by rfl⟩
set_option maxHeartbeats 400000 in
set_option maxRecDepth 100000 in
theorem rd_Err0 (w : World) : Calls Try.prog 32 #[.pointer none] w fun e w' => e = .returned (.int .i64 14) ∧ w = w' := by
  go_enter Try.func32, Try.ntmps32
  go_wp2
  go_ret
  exact ⟨rfl, rfl⟩
def buf_Reader_Err.f (s0_0 : Bool) (s0_1 : List Int) (s0_2 : Int) : Option (Int × Bool × Int) := some (s0_2, s0_0, s0_2)
theorem buf_Reader_Err.calls (g : Nat) (s0_0 : Bool) (s0_1 : List Int) (s0_2 : Int) (r1 : Int) (r2 : Bool) (r3 : Int) (w0 w : World) (hI : IsS61 w0 w g s0_0 s0_1 s0_2) (hB : Below w0.heap.size w0 w) (h : buf_Reader_Err.f s0_0 s0_1 s0_2 = some (r1, r2, r3)) :
    Calls Try.prog 32 #[.pointer (some ⟨g, 0, none⟩)] w fun e w' => e = .returned (.int .i64 r1) ∧ IsS61 w0 w' g r2 s0_1 r3 ∧ Below w0.heap.size w0 w' ∧ KeepBut w w' g none := by
  have h := Option.some.inj h
  injection h with e1 h
  injection h with e2 e3
  subst e1 e2
  obtain ⟨h0, wb, hb, hr⟩ := hI
  refine (rd_Err g s0_1 s0_2 wb w hr).mono ?_
  rintro e w' ⟨he, rfl⟩
  exact ⟨he, ⟨h0, wb, hb, e3 ▸ hr⟩, hB, KeepBut.refl _ _ _⟩


/-! ### buf_Reader_End: function 23 -/
set_option maxHeartbeats 400000 in
set_option maxRecDepth 100000 in
theorem rd_End (g : Nat) (rest : List Int) (met : Int) (w0 w : World) (hI : RdS 61 w0 w g rest met) :
    Calls Try.prog 23 #[.pointer (some ⟨g, 0, none⟩)] w fun e w' => e = .returned (.int .i64 (endR rest met)) ∧ w = w' := by
  have HI := Aside0.mk hI
  obtain ⟨A, c, HG, hg, HS⟩ := hI.ex
  have h1 : w.cell? ⟨g, 1, none⟩ = some (.slice A rest.length c) := (blk_cell HG 1).trans rfl
  clear HG hg HS hI
  unfold endR
  by_cases c1 : met = 0
  · have c1b : (met != 0) = false := by rw [bne_eq_false_iff_eq]; exact c1
    rw [if_neg (by simpa using c1)]
    by_cases c2 : rest = []
    · have c3 : ¬ (0 : Int) < (rest.length : Int) := by rw [c2]; decide
      rw [if_pos c2]
      clear c2
      go_enter Try.func23, Try.ntmps23
      go_wp2_with (go_at_call 32; (with_reducible refine (rd_Err g rest met w0 w HI.out).mono ?_); rintro e w1 ⟨rfl, rfl⟩)
      go_ret
      exact ⟨rfl, rfl⟩
    · have c3 : (0 : Int) < (rest.length : Int) := by
        cases rest with
        | nil => exact absurd rfl c2
        | cons a l => rw [List.length_cons]; omega
      rw [if_neg c2]
      clear c2
      go_enter Try.func23, Try.ntmps23
      go_wp2_with (go_at_call 32; (with_reducible refine (rd_Err g rest met w0 w HI.out).mono ?_); rintro e w1 ⟨rfl, rfl⟩)
      go_ret
      exact ⟨rfl, rfl⟩
  · have c1b : (met != 0) = true := by simpa using c1
    rw [if_pos c1]
    go_enter Try.func23, Try.ntmps23
    go_wp2_with (go_at_call 32; (with_reducible refine (rd_Err g rest met w0 w HI.out).mono ?_); rintro e w1 ⟨rfl, rfl⟩)
    go_ret
    exact ⟨rfl, rfl⟩
def buf_Reader_End.f (s0_0 : Bool) (s0_1 : List Int) (s0_2 : Int) : Option (Int × Bool × Int) := some (endR s0_1 s0_2, s0_0, s0_2)
theorem buf_Reader_End.calls (g : Nat) (s0_0 : Bool) (s0_1 : List Int) (s0_2 : Int) (r1 : Int) (r2 : Bool) (r3 : Int) (w0 w : World) (hI : IsS61 w0 w g s0_0 s0_1 s0_2) (hB : Below w0.heap.size w0 w) (h : buf_Reader_End.f s0_0 s0_1 s0_2 = some (r1, r2, r3)) :
    Calls Try.prog 23 #[.pointer (some ⟨g, 0, none⟩)] w fun e w' => e = .returned (.int .i64 r1) ∧ IsS61 w0 w' g r2 s0_1 r3 ∧ Below w0.heap.size w0 w' ∧ KeepBut w w' g none := by
  have h := Option.some.inj h
  injection h with e1 h
  injection h with e2 e3
  subst e1 e2 e3
  obtain ⟨h0, wb, hb, hr⟩ := hI
  refine (rd_End g s0_1 s0_2 wb w hr).mono ?_
  rintro e w' ⟨he, rfl⟩
  exact ⟨he, ⟨h0, wb, hb, hr⟩, hB, KeepBut.refl _ _ _⟩


/-! ### nego_Read: function 8 -/
set_option maxHeartbeats 1000000 in
set_option maxRecDepth 100000 in
theorem nego_Read_walk (A : Option Addr) (c : Nat) (l : List Int) (w : World) (hC : Kd.C (Kd.int .u8) w A l.length l) (hc : l.length ≤ c) (hl : l.length < 140737488355328) :
    Calls Try.prog 8 #[.slice A l.length c] w fun e w' => e = .returned (.tuple #[.int .u16 (negoRd l).1, .bool (negoRd l).2.1, .int .i64 (negoRd l).2.2]) ∧ Below w.heap.size w w' := by
  have HL := Aside0.mk hl
  have HC := Aside0.mk hC
  have HH := Aside0.mk hc
  clear hC hc hl
  unfold negoRd
  obtain ⟨a1, a2, a3, ha⟩ : ∃ a1 a2 a3, fixR 1 l 0 = (a1, a2, a3) := ⟨_, _, _, rfl⟩
  rw [ha]
  obtain ⟨b1, b2, b3, hb⟩ : ∃ b1 b2 b3, fixR 2 a2 a3 = (b1, b2, b3) := ⟨_, _, _, rfl⟩
  simp only [hb]
  obtain ⟨q, hq⟩ : ∃ q, endR b2 b3 = q := ⟨_, rfl⟩
  rw [hq]
  have HA := Aside0.mk ha
  have HBB := Aside0.mk hb
  have HQ := Aside0.mk hq
  clear ha hb hq
  by_cases c1 : q = 0
  · have c1b : (q != 0) = false := by rw [bne_eq_false_iff_eq]; exact c1
    by_cases c2 : a1 = 1
    · have c2b : (a1 != 1) = false := by rw [bne_eq_false_iff_eq]; exact c2
      have c2c : (a1 == 2) = false := by rw [c2]; rfl
      rw [if_neg (by simp [c1, c2]), c2c]
      clear c2 c1
      go_enter Try.func8, Try.ntmps8
      go_wp2_with (first | (go_at_call 21; (with_reducible refine (rd_Open A c l w HC.out HH.out HL.out).mono ?_); rintro e w1 ⟨g, w0, rfl, hi, h1, h2⟩; have HI := Aside0.mk hi; have H1 := Aside0.mk h1; have H2 := Aside0.mk h2; clear hi h1 h2) | (go_at_call 22; (with_reducible refine (rd_Fix g l 0 1 w0 _ HI.out).mono ?_); rw [HA.out]; rintro e w2 ⟨rfl, hi, hk⟩; have HI2 := Aside0.mk hi; have HK := Aside0.mk hk; clear hi hk) | (go_at_call 22; (with_reducible refine (rd_Fix g a2 a3 2 w0 _ HI2.out).mono ?_); rw [HBB.out]; rintro e w3 ⟨rfl, hi, hk⟩; have HI3 := Aside0.mk hi; have HK3 := Aside0.mk hk; clear hi hk) | (go_at_call 23; (with_reducible refine (rd_End g b2 b3 w0 _ HI3.out).mono ?_); rw [HQ.out]; rintro e w4 ⟨rfl, rfl⟩))
      go_ret3
      exact ⟨by first | rfl | simp_all, below_step H1.out HI3.out.bel⟩
    · have c2b : (a1 != 1) = true := by simpa using c2
      by_cases c3 : a1 = 2
      · have c3b : (a1 != 2) = false := by rw [bne_eq_false_iff_eq]; exact c3
        have c3c : (a1 == 2) = true := by rw [c3]; rfl
        rw [if_neg (by simp [c1, c3]), c3c]
        clear c3 c2 c1
        go_enter Try.func8, Try.ntmps8
        go_wp2_with (first | (go_at_call 21; (with_reducible refine (rd_Open A c l w HC.out HH.out HL.out).mono ?_); rintro e w1 ⟨g, w0, rfl, hi, h1, h2⟩; have HI := Aside0.mk hi; have H1 := Aside0.mk h1; have H2 := Aside0.mk h2; clear hi h1 h2) | (go_at_call 22; (with_reducible refine (rd_Fix g l 0 1 w0 _ HI.out).mono ?_); rw [HA.out]; rintro e w2 ⟨rfl, hi, hk⟩; have HI2 := Aside0.mk hi; have HK := Aside0.mk hk; clear hi hk) | (go_at_call 22; (with_reducible refine (rd_Fix g a2 a3 2 w0 _ HI2.out).mono ?_); rw [HBB.out]; rintro e w3 ⟨rfl, hi, hk⟩; have HI3 := Aside0.mk hi; have HK3 := Aside0.mk hk; clear hi hk) | (go_at_call 23; (with_reducible refine (rd_End g b2 b3 w0 _ HI3.out).mono ?_); rw [HQ.out]; rintro e w4 ⟨rfl, rfl⟩))
        go_ret3
        exact ⟨by first | rfl | simp_all, below_step H1.out HI3.out.bel⟩
      · have c3b : (a1 != 2) = true := by simpa using c3
        rw [if_pos (Or.inr ⟨c2, c3⟩)]
        clear c3 c2 c1
        go_enter Try.func8, Try.ntmps8
        go_wp2_with (first | (go_at_call 21; (with_reducible refine (rd_Open A c l w HC.out HH.out HL.out).mono ?_); rintro e w1 ⟨g, w0, rfl, hi, h1, h2⟩; have HI := Aside0.mk hi; have H1 := Aside0.mk h1; have H2 := Aside0.mk h2; clear hi h1 h2) | (go_at_call 22; (with_reducible refine (rd_Fix g l 0 1 w0 _ HI.out).mono ?_); rw [HA.out]; rintro e w2 ⟨rfl, hi, hk⟩; have HI2 := Aside0.mk hi; have HK := Aside0.mk hk; clear hi hk) | (go_at_call 22; (with_reducible refine (rd_Fix g a2 a3 2 w0 _ HI2.out).mono ?_); rw [HBB.out]; rintro e w3 ⟨rfl, hi, hk⟩; have HI3 := Aside0.mk hi; have HK3 := Aside0.mk hk; clear hi hk) | (go_at_call 23; (with_reducible refine (rd_End g b2 b3 w0 _ HI3.out).mono ?_); rw [HQ.out]; rintro e w4 ⟨rfl, rfl⟩))
        go_ret3
        exact ⟨by first | rfl | simp_all, below_step H1.out HI3.out.bel⟩
  · have c1b : (q != 0) = true := by simpa using c1
    rw [if_pos (Or.inl c1)]
    clear c1
    go_enter Try.func8, Try.ntmps8
    go_wp2_with (first | (go_at_call 21; (with_reducible refine (rd_Open A c l w HC.out HH.out HL.out).mono ?_); rintro e w1 ⟨g, w0, rfl, hi, h1, h2⟩; have HI := Aside0.mk hi; have H1 := Aside0.mk h1; have H2 := Aside0.mk h2; clear hi h1 h2) | (go_at_call 22; (with_reducible refine (rd_Fix g l 0 1 w0 _ HI.out).mono ?_); rw [HA.out]; rintro e w2 ⟨rfl, hi, hk⟩; have HI2 := Aside0.mk hi; have HK := Aside0.mk hk; clear hi hk) | (go_at_call 22; (with_reducible refine (rd_Fix g a2 a3 2 w0 _ HI2.out).mono ?_); rw [HBB.out]; rintro e w3 ⟨rfl, hi, hk⟩; have HI3 := Aside0.mk hi; have HK3 := Aside0.mk hk; clear hi hk) | (go_at_call 23; (with_reducible refine (rd_End g b2 b3 w0 _ HI3.out).mono ?_); rw [HQ.out]; rintro e w4 ⟨rfl, rfl⟩))
    go_ret3
    exact ⟨by first | rfl | simp_all, below_step H1.out HI3.out.bel⟩

def nego_Read.f (l0 : List Int) : Option (Int × Bool × Int) := if l0.length < 140737488355328 then (some (negoRd l0)) else (none)
theorem nego_Read.calls (A0 : Option Addr) (c0 : Nat) (l0 : List Int) (r1 : Int) (r2 : Bool) (r3 : Int) (w : World) (hr0 : Kd.C (Kd.int .u8) w A0 l0.length l0) (hc0 : l0.length ≤ c0) (h : nego_Read.f l0 = some (r1, r2, r3)) :
    Calls Try.prog 8 #[.slice A0 l0.length c0] w fun e w' => e = .returned (.tuple #[.int .u16 r1, .bool r2, .int .i64 r3]) ∧ Below w.heap.size w w' := by
  unfold nego_Read.f at h
  by_cases hl : l0.length < 140737488355328
  · rw [if_pos hl] at h
    have h := Option.some.inj h
    have := nego_Read_walk A0 c0 l0 w hr0 hc0 hl
    rw [h] at this
    exact this
  · rw [if_neg hl] at h
    exact absurd h (by simp)

/-! ### buf_Fix: function 24 -/
mutual
def buf_Fix.j0 : Nat → List Int → Int → Int → Bool → Option (List Int)
  | 0, _, _, _, _ => none
  | k + 1, x0, x1, x2, x13 => if x13 = true then (some x0) else (buf_Fix.l0 k x0 x1 (wrap64 (x2 - 1)))
def buf_Fix.l0 : Nat → List Int → Int → Int → Option (List Int)
  | 0, _, _, _ => none
  | k + 1, x0, x1, x7 => if x7 ≥ 0 then (if 0 ≤ (wrap64 (8 * x7)) then (if x0.length < 140737488355328 then (buf_Fix.l0 k (x0 ++ [(shr .u64 x1 (wrap64 (8 * x7))) % 256]) x1 (wrap64 (x7 - 1))) else (none)) else (none)) else (some x0)
end
def buf_Fix.f (k : Nat) (l0 : List Int) (a1 : Int) (a2 : Int) : Option (List Int) := if a2 < 1 then (buf_Fix.j0 k l0 a1 a2 true) else (buf_Fix.j0 k l0 a1 a2 (decide (a2 > 8)))
theorem buf_Fix.mono_l : ∀ k, (∀ y0 y1 y2 y3, LeO (buf_Fix.j0 k y0 y1 y2 y3) (buf_Fix.j0 (k + 1) y0 y1 y2 y3)) ∧ (∀ y0 y1 y2, LeO (buf_Fix.l0 k y0 y1 y2) (buf_Fix.l0 (k + 1) y0 y1 y2))
  | 0 => ⟨fun _ _ _ _ r h => by simp [buf_Fix.j0] at h, fun _ _ _ r h => by simp [buf_Fix.l0] at h⟩
  | k + 1 => by
    obtain ⟨ih0, ih1⟩ := buf_Fix.mono_l k
    refine ⟨?_, ?_⟩
    · intro y0 y1 y2 y3
      unfold buf_Fix.j0
      repeat' first
      | (with_reducible exact ih0 _ _ _ _)
      | (with_reducible exact ih1 _ _ _)
      | (with_reducible exact LeO.refl _)
      | (with_reducible exact LeO.none _)
      | (with_reducible refine LeO.ite ?_ ?_)
      | (with_reducible refine LeO.bind ?_ (fun _ => ?_))
      | exact ih0 _ _ _ _
      | exact ih1 _ _ _
      | exact LeO.none _
      | refine LeO.ite ?_ ?_
      | refine LeO.bind ?_ (fun _ => ?_)
    · intro y0 y1 y2
      unfold buf_Fix.l0
      repeat' first
      | (with_reducible exact ih0 _ _ _ _)
      | (with_reducible exact ih1 _ _ _)
      | (with_reducible exact LeO.refl _)
      | (with_reducible exact LeO.none _)
      | (with_reducible refine LeO.ite ?_ ?_)
      | (with_reducible refine LeO.bind ?_ (fun _ => ?_))
      | exact ih0 _ _ _ _
      | exact ih1 _ _ _
      | exact LeO.none _
      | refine LeO.ite ?_ ?_
      | refine LeO.bind ?_ (fun _ => ?_)
theorem buf_Fix.mono : ∀ a0 a1 a2 k, LeO (buf_Fix.f k a0 a1 a2) (buf_Fix.f (k + 1) a0 a1 a2) := by
  intro a0 a1 a2 k
  obtain ⟨ih0, ih1⟩ := buf_Fix.mono_l k
  unfold buf_Fix.f
  repeat' first
      | (with_reducible exact ih0 _ _ _ _)
      | (with_reducible exact ih1 _ _ _)
      | (with_reducible exact LeO.refl _)
      | (with_reducible exact LeO.none _)
      | (with_reducible refine LeO.ite ?_ ?_)
      | (with_reducible refine LeO.bind ?_ (fun _ => ?_))
      | exact ih0 _ _ _ _
      | exact ih1 _ _ _
      | exact LeO.none _
      | refine LeO.ite ?_ ?_
      | refine LeO.bind ?_ (fun _ => ?_)
set_option maxHeartbeats 3000000 in
set_option maxRecDepth 100000 in
theorem buf_Fix.calls (k : Nat) (P0_ : Nat → Prop) (u9000_ : Value) (l0 : List Int) (a1 : Int) (a2 : Int) (r : List Int) (w0 w : World) (hB : Below w0.heap.size w0 w) (ho0 : Kd.R (Kd.int .u8) 5 w w0.heap.size P0_ u9000_ l0) (h : buf_Fix.f k l0 a1 a2 = some r) :
    Calls Try.prog 24 #[u9000_, .int .u64 a1, .int .i64 a2] w fun e w' => ∃ v0_ : Value, e = .returned (v0_) ∧ Kd.R (Kd.int .u8) 5 w' w0.heap.size (fun k_ => (P0_ k_ ∨ w.heap.size ≤ k_)) v0_ r ∧ Below w0.heap.size w0 w' ∧ Kept w w' (fun k_ => P0_ k_) := by
  have HO0 := Aside0.mk (show Kd.R (Kd.int .u8) 5 w w0.heap.size (fun k_ => (P0_ k_ ∨ w.heap.size ≤ k_)) u9000_ l0 from Kd.R_mono ho0 (fun k_ hk => (.inl hk)))
  have HK := Aside0.mk (Kept.refl w (fun k_ => P0_ k_))
  have HW0 := Aside0.mk hB.size
  have HB := Aside0.mk hB
  clear hB
  have H : (if a2 < 1 then (buf_Fix.j0 k l0 a1 a2 true) else (buf_Fix.j0 k l0 a1 a2 (decide (a2 > 8)))) = some r := h
  clear h
  have HC4 := Aside0.mk H
  clear H
  go_enter Try.func24, Try.ntmps24
  go_upto_region 1 with (fail)
  go_cut [13] (fun v13 wc => ∃ (kq : Nat) (x13_3 : Bool), v13 = .bool x13_3 ∧ Aside0 (buf_Fix.j0 kq l0 a1 a2 x13_3 = some r) ∧ Aside0 (kq ≤ k) ∧ Aside0 (Kd.R (Kd.int .u8) 5 wc w0.heap.size (fun k_ => (P0_ k_ ∨ w.heap.size ≤ k_)) u9000_ l0) ∧ Aside0 (Kept w wc (fun k_ => P0_ k_)) ∧ Aside0 (Below w0.heap.size w0 wc))
  case first =>
    have H := HC4.out
    clear HC4
    by_cases c5 : a2 < 1
    · rw [if_pos c5] at H
      have c5b0 : decide (a2 < 1) = true := decide_eq_true c5
      clear c5
      (first | rw [c5b0] | (simp only [i64_w, i32_w]; rw [c5b0]) | skip)
      have H' := Aside0.mk H
      clear H
      go_wp2
      go_meet
      case rel => exact ⟨_, (true), (by first | rfl | (simp; done) | (simp [*]; done)), H', ⟨by first | omega | exact Nat.le_refl _⟩, ⟨by (with_reducible repeat (first | apply Kd.R_alloc | apply Kd.R_drewN | apply Kd.R_drew)); exact HO0.out⟩, ⟨by repeat (first | (with_reducible first | exact HK.out | apply Kept.alloc | apply Kept.drewN | apply Kept.drew) | exact HK.out)⟩, ⟨by repeat (first | (with_reducible first | exact HB.out | apply below_alloc | apply pw_below_drewN | apply below_drew1) | exact HB.out)⟩⟩
    · rw [if_neg c5] at H
      have c5b0 : decide (a2 < 1) = false := decide_eq_false c5
      clear c5
      (first | rw [c5b0] | (simp only [i64_w, i32_w]; rw [c5b0]) | skip)
      have H' := Aside0.mk H
      clear H
      go_wp2
      go_meet
      case rel => exact ⟨_, (decide (a2 > 8)), (by first | rfl | (simp; done) | (simp [*]; done)), H', ⟨by first | omega | exact Nat.le_refl _⟩, ⟨by (with_reducible repeat (first | apply Kd.R_alloc | apply Kd.R_drewN | apply Kd.R_drew)); exact HO0.out⟩, ⟨by repeat (first | (with_reducible first | exact HK.out | apply Kept.alloc | apply Kept.drewN | apply Kept.drew) | exact HK.out)⟩, ⟨by repeat (first | (with_reducible first | exact HB.out | apply below_alloc | apply pw_below_drewN | apply below_drew1) | exact HB.out)⟩⟩
  case rest =>
    clear HC4
    try clear c2
    try clear p2
    try clear c5
    try clear c5b0
    obtain ⟨kq, x13_3, rfl, HA, HJ3, HO_0, HK, HB⟩ := hcut
    cases kq with
    | zero => exact absurd HA.out (by simp [buf_Fix.j0])
    | succ kj3 =>
      have H := HA.out
      clear HA
      simp only [buf_Fix.j0] at H
      by_cases c6 : x13_3 = true
      · subst c6
        have H1 : (some l0) = some r := by rw [if_pos rfl] at H; exact H
        clear H
        have H := H1
        clear H1
        obtain rfl := Option.some.inj H
        go_wp2
        all_goals go_ret
        all_goals first | (exact ⟨_, by first | rfl | (simp [errW_none, errW_some] <;> rfl) | (simp [*, errW_none, errW_some] <;> rfl), by (with_reducible repeat (first | apply Kd.R_alloc | apply Kd.R_drewN | apply Kd.R_drew)); exact HO_0.out, by repeat (first | (with_reducible first | exact HB.out | apply below_alloc | apply pw_below_drewN | apply below_drew1) | exact HB.out), by repeat (first | (with_reducible first | exact HK.out | apply Kept.alloc | apply Kept.drewN | apply Kept.drew) | exact HK.out)⟩) | (exfalso; simp_all; done)
      · replace c6 := Bool.eq_false_iff.mpr c6
        subst c6
        have H1 : (buf_Fix.l0 kj3 l0 a1 (wrap64 (a2 - 1))) = some r := by rw [if_neg (show ¬ (false = true) by decide)] at H; exact H
        clear H
        have H := H1
        clear H1
        have H' := Aside0.mk H
        clear H
        go_wp2
        go_loopg [0, 7] kj3 (fun kq v0 v7 w' => ∃ (x0_2 : List Int) (x7_2 : Int), v7 = .int .i64 x7_2 ∧ Aside0 (buf_Fix.l0 kq x0_2 a1 x7_2 = some r) ∧ Aside0 (kq ≤ kj3) ∧ Aside0 (Kd.R (Kd.int .u8) 5 w' w0.heap.size (fun k_ => (P0_ k_ ∨ w.heap.size ≤ k_)) v0 x0_2) ∧ Aside0 (Kept w w' (fun k_ => P0_ k_)) ∧ Aside0 (Below w0.heap.size w0 w'))
        case atStart => exact ⟨(l0), (wrap64 (a2 - 1)), (by first | rfl | (simp; done) | (simp [*]; done)), H', ⟨Nat.le_refl _⟩, ⟨by (with_reducible repeat (first | apply Kd.R_alloc | apply Kd.R_drewN | apply Kd.R_drew)); exact HO_0.out⟩, ⟨by repeat (first | (with_reducible first | exact HK.out | apply Kept.alloc | apply Kept.drewN | apply Kept.drew) | exact HK.out)⟩, ⟨by repeat (first | (with_reducible first | exact HB.out | apply below_alloc | apply pw_below_drewN | apply below_drew1) | exact HB.out)⟩⟩
        case round =>
          clear H'
          try clear c2
          try clear p2
          try clear c5
          try clear c5b0
          try clear c6
          try clear p6
          try clear p2
          obtain ⟨x0_2, x7_2, rfl, HA, HK2, HO_0, HK, HB⟩ := hrel
          cases gk with
          | zero => exact absurd HA.out (by simp [buf_Fix.l0])
          | succ k2 =>
            have H := HA.out
            clear HA
            simp only [buf_Fix.l0] at H
            by_cases c7 : x7_2 ≥ 0
            · rw [if_pos c7] at H
              have c7b0 : decide (0 ≤ x7_2) = true := decide_eq_true c7
              clear c7
              obtain ⟨ji8, hji8⟩ : ∃ j_ : Int, (wrap64 (8 * x7_2)) = j_ := ⟨_, rfl⟩
              replace H : (if 0 ≤ (ji8) then (if x0_2.length < 140737488355328 then (buf_Fix.l0 k2 (x0_2 ++ [(shr .u64 a1 (ji8)) % 256]) a1 (wrap64 (x7_2 - 1))) else (none)) else (none)) = some r := by first | (rw [hji8] at H; exact H) | (simp only [hji8] at H ⊢; exact H)
              have hji8w : (IntKind.i64.wrap (8 * x7_2)) = ji8 := (i64_w _).trans hji8
              by_cases c9 : 0 ≤ (ji8)
              · rw [if_pos c9] at H
                have c9b0 := eq_true c9
                have c9b1 : decide (0 ≤ (ji8)) = true := decide_eq_true c9
                clear c9
                obtain ⟨ji10, hji10⟩ : ∃ j_ : Int, (shr .u64 a1 (ji8)) = j_ := ⟨_, rfl⟩
                replace H : (if x0_2.length < 140737488355328 then (buf_Fix.l0 k2 (x0_2 ++ [(ji10) % 256]) a1 (wrap64 (x7_2 - 1))) else (none)) = some r := by first | (rw [hji10] at H; exact H) | (simp only [hji10] at H ⊢; exact H)
                have hji10_ : (a1 / 2 ^ min (ji8).toNat 64) = ji10 := hji10
                have hji10z : (ji8) ≤ 64 → (a1 / 2 ^ (ji8).toNat) = ji10 := shr_small hji10
                by_cases c11 : x0_2.length < 140737488355328
                · rw [if_pos c11] at H
                  have LMc11 := Aside0.mk c11
                  clear c11
                  obtain ⟨y101, hy101⟩ : ∃ y_ : List Int, y_ = (x0_2 ++ [(ji10) % 256]) := ⟨_, rfl⟩
                  replace H : (buf_Fix.l0 k2 y101 a1 (wrap64 (x7_2 - 1))) = some r := by first | (rw [hy101]; with_reducible exact H) | (have H2_ := (Option.bind_some _ _).symm.trans H; rw [hy101]; with_reducible exact H2_) | (have H2_ := (Option.bind_some _ _).symm.trans H; with_reducible exact H2_) | with_reducible exact H | (rw [hy101]; exact H) | exact H
                  have Ny101 := Aside0.mk hy101
                  clear hy101
                  have H' := Aside0.mk H
                  clear H
                  go_wp2_with (first | ((with_reducible refine gate_builtin (b := .append) (xs := #[.tmp 21, .tmp 27]) rfl ?_); at_builtin; refine Kd.R_append (Kd.int .u8) (w0 := w0) w0.heap.size rfl (.tmp 21) (.tmp 27) 23 5 (.int .u8 0) 1 rfl Try.underlying23 info5 rfl (by decide) (by omega) u0 x0_2 ((ji10) % 256) [.int .u8 ((ji10) % 256)] (fun k_ => (P0_ k_ ∨ w.heap.size ≤ k_)) (fun _ => False) rfl rfl ?aP (fun _ hk => hk.elim) ?aF ?aO ?aB ?aS ?aL ?_; (case aP => exact rfl); (case aB => exact (by repeat (first | (with_reducible first | exact HB.out | apply below_alloc | apply pw_below_drewN | apply below_drew1) | exact HB.out))); (case aF => exact (fun k_ hk => (.inr (Nat.le_trans (by first | exact HK.out.1 | exact (show Kept w _ (fun k_ => P0_ k_) from by repeat (first | (with_reducible first | exact HK.out | apply Kept.alloc | apply Kept.drewN | apply Kept.drew) | exact HK.out)).1) hk)))); (case aO => exact (by (with_reducible repeat (first | apply Kd.R_alloc | apply Kd.R_drewN | apply Kd.R_drew)); exact HO_0.out)); (case aS => exact (below_size (by repeat (first | (with_reducible first | exact HB.out | apply below_alloc | apply pw_below_drewN | apply below_drew1) | exact HB.out)))); (case aL => have := LMc11.out; omega); intro v102 w12 ho hb hg hat; rw [← Ny101.out] at ho; have n0_ := Aside0.mk (hb); have n1_ := Aside0.mk (Kept.of_grown (S := (fun k_ => P0_ k_)) hg (by repeat (first | (with_reducible first | exact HK.out | apply Kept.alloc | apply Kept.drewN | apply Kept.drew) | exact HK.out)) (fun k_ e_ => (HO_0.out.1 k_ e_))); have n2_ := Aside0.mk (ho); clear HB; clear HK; clear HO_0; have HB := n0_; have HK := n1_; have HO103 := n2_; clear n0_ n1_ n2_; clear ho hb hg hat))
                  go_roundg k2
                  case measure => have := HJ3.out; have := HK2.out; omega
                  case rel => exact ⟨(y101), (wrap64 (x7_2 - 1)), (by first | rfl | (simp; done) | (simp [*]; done)), H', ⟨by have := HJ3.out; have := HK2.out; omega⟩, ⟨by (with_reducible repeat (first | apply Kd.R_alloc | apply Kd.R_drewN | apply Kd.R_drew)); exact HO103.out⟩, ⟨by repeat (first | (with_reducible first | exact HK.out | apply Kept.alloc | apply Kept.drewN | apply Kept.drew) | exact HK.out)⟩, ⟨by repeat (first | (with_reducible first | exact HB.out | apply below_alloc | apply pw_below_drewN | apply below_drew1) | exact HB.out)⟩⟩
                · rw [if_neg c11] at H
                  exact absurd H (by simp)
              · rw [if_neg c9] at H
                exact absurd H (by simp)
            · rw [if_neg c7] at H
              have c7b0 : decide (0 ≤ x7_2) = false := decide_eq_false c7
              clear c7
              obtain rfl := Option.some.inj H
              go_wp2
              all_goals go_ret
              all_goals first | (exact ⟨_, by first | rfl | (simp [errW_none, errW_some] <;> rfl) | (simp [*, errW_none, errW_some] <;> rfl), by (with_reducible repeat (first | apply Kd.R_alloc | apply Kd.R_drewN | apply Kd.R_drew)); exact HO_0.out, by repeat (first | (with_reducible first | exact HB.out | apply below_alloc | apply pw_below_drewN | apply below_drew1) | exact HB.out), by repeat (first | (with_reducible first | exact HK.out | apply Kept.alloc | apply Kept.drewN | apply Kept.drew) | exact HK.out)⟩) | (exfalso; simp_all; done)

/-! ### nego_Hello: function 10 -/
def nego_Hello.f (k : Nat) (a0 : Int) (a1 : Bool) : Option (List Int) := if a1 = true then ((buf_Fix.f k ([] : List Int) 2 1).bind fun t104 => ((buf_Fix.f k t104 (IntKind.u64.wrap (a0)) 2).bind fun t107 => (some t107))) else ((buf_Fix.f k ([] : List Int) 1 1).bind fun t110 => ((buf_Fix.f k t110 (IntKind.u64.wrap (a0)) 2).bind fun t113 => (some t113)))
theorem nego_Hello.mono : ∀ a0 a1 k, LeO (nego_Hello.f k a0 a1) (nego_Hello.f (k + 1) a0 a1) := by
  intro a0 a1 k
  unfold nego_Hello.f
  repeat' first
      | (with_reducible exact buf_Fix.mono _ _ _ _)
      | (with_reducible exact LeO.refl _)
      | (with_reducible exact LeO.none _)
      | (with_reducible refine LeO.ite ?_ ?_)
      | (with_reducible refine LeO.bind ?_ (fun _ => ?_))
      | exact buf_Fix.mono _ _ _ _
      | exact LeO.none _
      | refine LeO.ite ?_ ?_
      | refine LeO.bind ?_ (fun _ => ?_)
set_option maxHeartbeats 3000000 in
set_option maxRecDepth 100000 in
theorem nego_Hello.calls (k : Nat) (a0 : Int) (a1 : Bool) (r : List Int) (w : World) (h : nego_Hello.f k a0 a1 = some r) :
    Calls Try.prog 10 #[.int .u16 a0, .bool a1] w fun e w' => ∃ v0_ : Value, e = .returned (v0_) ∧ Kd.R (Kd.int .u8) 5 w' w.heap.size (fun _ => True) v0_ r ∧ Below w.heap.size w w' := by
  have HB := Aside0.mk (Below.refl w.heap.size w)
  have H : (if a1 = true then ((buf_Fix.f k ([] : List Int) 2 1).bind fun t104 => ((buf_Fix.f k t104 (IntKind.u64.wrap (a0)) 2).bind fun t107 => (some t107))) else ((buf_Fix.f k ([] : List Int) 1 1).bind fun t110 => ((buf_Fix.f k t110 (IntKind.u64.wrap (a0)) 2).bind fun t113 => (some t113)))) = some r := h
  clear h
  by_cases c3 : a1 = true
  · subst c3
    have H1 : ((buf_Fix.f k ([] : List Int) 2 1).bind fun t104 => ((buf_Fix.f k t104 (IntKind.u64.wrap (a0)) 2).bind fun t107 => (some t107))) = some r := by rw [if_pos rfl] at H; exact H
    clear H
    have H := H1
    clear H1
    replace H := Option.bind_eq_some_iff.mp H
    obtain ⟨t104, A40, H⟩ := H
    replace H : ((buf_Fix.f k t104 (IntKind.u64.wrap (a0)) 2).bind fun t107 => (some t107)) = some r := H
    have A4 := Aside0.mk A40
    clear A40
    replace H := Option.bind_eq_some_iff.mp H
    obtain ⟨t107, A50, H⟩ := H
    replace H : (some t107) = some r := H
    have A5 := Aside0.mk A50
    clear A50
    obtain rfl := Option.some.inj H
    go_enter Try.func10, Try.ntmps10
    go_wp2_with (first | ((with_reducible refine gate_callee (f := 24) rfl ?_); refine goesL_ (some 8) rfl rfl Try.func24 (by kernel_rfl) rfl #[.slice none 0 0, .int .u64 2, .int .i64 1] rfl (by (try simp only [List.map_toArray, List.map_cons, List.map_nil]); first | done | rfl | (simp only [List.length_drop, List.length_take]; rfl)) ?_; (refine (buf_Fix.calls k (fun k_ => some k_ = (.slice none 0 0 : Value).ownBlock) (.slice none 0 0) ([] : List Int) 2 1 t104 w _ ?side1 ?side2 A4.out).mono ?_); (case side1 => repeat (first | (with_reducible first | exact HB.out | apply below_alloc | apply pw_below_drewN | apply below_drew1) | exact HB.out)); (case side2 => exact Kd.R_nil _ _ _ _ _); rintro e w6 ⟨v105, rfl, ho0, hb, hkp⟩; refine ⟨_, rfl, ?_⟩; have n0_ := Aside0.mk (Kd.R_mono (ok' := fun k_ => True) ho0 (fun k_ hk_ => trivial)); have n1_ := Aside0.mk (hb); clear HB; have HO106 := n0_; have HB := n1_; clear n0_ n1_; (try clear hb); (try clear hkp); (try clear ho0); obtain ⟨Ao7, co7, eo7⟩ := Kd.R_slice HO106.out; subst eo7) | ((with_reducible refine gate_callee (f := 24) rfl ?_); refine goesL_ (some 11) rfl rfl Try.func24 (by kernel_rfl) rfl #[.slice Ao7 t104.length co7, .int .u64 (IntKind.u64.wrap (a0)), .int .i64 2] rfl (by (try simp only [List.map_toArray, List.map_cons, List.map_nil]); first | done | rfl | (simp only [List.length_drop, List.length_take]; rfl)) ?_; (with_reducible refine (buf_Fix.calls k (fun k_ => some k_ = (.slice Ao7 t104.length co7 : Value).ownBlock) (.slice Ao7 t104.length co7) t104 (IntKind.u64.wrap (a0)) 2 t107 w _ ?side1 ?side2 A5.out).mono ?_); (case side1 => repeat (first | (with_reducible first | exact HB.out | apply below_alloc | apply pw_below_drewN | apply below_drew1) | exact HB.out)); (case side2 => exact Kd.R_tight rfl HO106.out); rintro e w8 ⟨v108, rfl, ho0, hb, hkp⟩; refine ⟨_, rfl, ?_⟩; have n0_ := Aside0.mk (Kd.R_mono (ok' := fun k_ => True) ho0 (fun k_ hk_ => trivial)); have n1_ := Aside0.mk (hb); clear HB; clear HO106; have HO109 := n0_; have HB := n1_; clear n0_ n1_; (try clear hb); (try clear hkp); (try clear ho0)))
    all_goals go_ret
    all_goals first | (exact ⟨_, by first | rfl | (simp [errW_none, errW_some] <;> rfl) | (simp [*, errW_none, errW_some] <;> rfl), by (with_reducible repeat (first | apply Kd.R_alloc | apply Kd.R_drewN | apply Kd.R_drew)); exact HO109.out, by repeat (first | (with_reducible first | exact HB.out | apply below_alloc | apply pw_below_drewN | apply below_drew1) | exact HB.out)⟩) | (exfalso; simp_all; done)
  · replace c3 := Bool.eq_false_iff.mpr c3
    subst c3
    have H1 : ((buf_Fix.f k ([] : List Int) 1 1).bind fun t110 => ((buf_Fix.f k t110 (IntKind.u64.wrap (a0)) 2).bind fun t113 => (some t113))) = some r := by rw [if_neg (show ¬ (false = true) by decide)] at H; exact H
    clear H
    have H := H1
    clear H1
    replace H := Option.bind_eq_some_iff.mp H
    obtain ⟨t110, A90, H⟩ := H
    replace H : ((buf_Fix.f k t110 (IntKind.u64.wrap (a0)) 2).bind fun t113 => (some t113)) = some r := H
    have A9 := Aside0.mk A90
    clear A90
    replace H := Option.bind_eq_some_iff.mp H
    obtain ⟨t113, A100, H⟩ := H
    replace H : (some t113) = some r := H
    have A10 := Aside0.mk A100
    clear A100
    obtain rfl := Option.some.inj H
    go_enter Try.func10, Try.ntmps10
    go_wp2_with (first | ((with_reducible refine gate_callee (f := 24) rfl ?_); refine goesL_ (some 8) rfl rfl Try.func24 (by kernel_rfl) rfl #[.slice none 0 0, .int .u64 1, .int .i64 1] rfl (by (try simp only [List.map_toArray, List.map_cons, List.map_nil]); first | done | rfl | (simp only [List.length_drop, List.length_take]; rfl)) ?_; (refine (buf_Fix.calls k (fun k_ => some k_ = (.slice none 0 0 : Value).ownBlock) (.slice none 0 0) ([] : List Int) 1 1 t110 w _ ?side1 ?side2 A9.out).mono ?_); (case side1 => repeat (first | (with_reducible first | exact HB.out | apply below_alloc | apply pw_below_drewN | apply below_drew1) | exact HB.out)); (case side2 => exact Kd.R_nil _ _ _ _ _); rintro e w11 ⟨v111, rfl, ho0, hb, hkp⟩; refine ⟨_, rfl, ?_⟩; have n0_ := Aside0.mk (Kd.R_mono (ok' := fun k_ => True) ho0 (fun k_ hk_ => trivial)); have n1_ := Aside0.mk (hb); clear HB; have HO112 := n0_; have HB := n1_; clear n0_ n1_; (try clear hb); (try clear hkp); (try clear ho0); obtain ⟨Ao12, co12, eo12⟩ := Kd.R_slice HO112.out; subst eo12) | ((with_reducible refine gate_callee (f := 24) rfl ?_); refine goesL_ (some 11) rfl rfl Try.func24 (by kernel_rfl) rfl #[.slice Ao12 t110.length co12, .int .u64 (IntKind.u64.wrap (a0)), .int .i64 2] rfl (by (try simp only [List.map_toArray, List.map_cons, List.map_nil]); first | done | rfl | (simp only [List.length_drop, List.length_take]; rfl)) ?_; (with_reducible refine (buf_Fix.calls k (fun k_ => some k_ = (.slice Ao12 t110.length co12 : Value).ownBlock) (.slice Ao12 t110.length co12) t110 (IntKind.u64.wrap (a0)) 2 t113 w _ ?side1 ?side2 A10.out).mono ?_); (case side1 => repeat (first | (with_reducible first | exact HB.out | apply below_alloc | apply pw_below_drewN | apply below_drew1) | exact HB.out)); (case side2 => exact Kd.R_tight rfl HO112.out); rintro e w13 ⟨v114, rfl, ho0, hb, hkp⟩; refine ⟨_, rfl, ?_⟩; have n0_ := Aside0.mk (Kd.R_mono (ok' := fun k_ => True) ho0 (fun k_ hk_ => trivial)); have n1_ := Aside0.mk (hb); clear HB; clear HO112; have HO115 := n0_; have HB := n1_; clear n0_ n1_; (try clear hb); (try clear hkp); (try clear ho0)))
    all_goals go_ret
    all_goals first | (exact ⟨_, by first | rfl | (simp [errW_none, errW_some] <;> rfl) | (simp [*, errW_none, errW_some] <;> rfl), by (with_reducible repeat (first | apply Kd.R_alloc | apply Kd.R_drewN | apply Kd.R_drew)); exact HO115.out, by repeat (first | (with_reducible first | exact HB.out | apply below_alloc | apply pw_below_drewN | apply below_drew1) | exact HB.out)⟩) | (exfalso; simp_all; done)

/-! ### nego_Ask: function 13 -/
def nego_Ask.f (a0_0 : Int) (a0_1 : Int) (a0_2 : Int) (a0_3 : Int) (a0_4 : Int) (a0_5 : Int) (a0_6 : Int) (l0_7 : List (S72)) : Option (Int × Int × Int × Int × Int × Int × Int × (List (S72)) × Bool) := if a0_1 = 0 then (some (a0_0, 1, a0_2, a0_3, 0, a0_5, a0_6, l0_7, true)) else (some (a0_0, a0_1, a0_2, a0_3, a0_4, a0_5, a0_6, l0_7, false))
set_option maxHeartbeats 3000000 in
set_option maxRecDepth 100000 in
theorem nego_Ask.calls (a0_0 : Int) (a0_1 : Int) (a0_2 : Int) (a0_3 : Int) (a0_4 : Int) (a0_5 : Int) (a0_6 : Int) (P0_7_ : Nat → Prop) (A0_7 : Option Addr) (c0_7 : Nat) (l0_7 : List (S72)) (r1 : Int) (r2 : Int) (r3 : Int) (r4 : Int) (r5 : Int) (r6 : Int) (r7 : Int) (r8 : List (S72)) (r9 : Bool) (w : World) (hs0_7 : Kd.V k72 72 w w.heap.size (fun k_ => P0_7_ k_) (.slice A0_7 l0_7.length c0_7) l0_7) (h : nego_Ask.f a0_0 a0_1 a0_2 a0_3 a0_4 a0_5 a0_6 l0_7 = some (r1, r2, r3, r4, r5, r6, r7, r8, r9)) :
    Calls Try.prog 13 #[.agg #[.int .u16 a0_0, .int .i64 a0_1, .int .u16 a0_2, .int .i64 a0_3, .int .i64 a0_4, .int .u32 a0_5, .int .u32 a0_6, .slice A0_7 l0_7.length c0_7]] w fun e w' => ∃ v7_ : Value, e = .returned (.tuple #[.agg #[.int .u16 r1, .int .i64 r2, .int .u16 r3, .int .i64 r4, .int .i64 r5, .int .u32 r6, .int .u32 r7, v7_], .bool r9]) ∧ Kd.V k72 72 w' w.heap.size (fun k_ => (P0_7_ k_ ∨ w.heap.size ≤ k_)) v7_ r8 ∧ Below w.heap.size w w' := by
  have hu33 := Try.underlying33
  have HO0_7 := Aside0.mk (show Kd.V k72 72 w w.heap.size (fun k_ => (P0_7_ k_ ∨ w.heap.size ≤ k_)) (.slice A0_7 l0_7.length c0_7) l0_7 from Kd.V_mono hs0_7 (fun k_ hk => .inl hk))
  have HB := Aside0.mk (Below.refl w.heap.size w)
  have H : (if a0_1 = 0 then (some (a0_0, 1, a0_2, a0_3, 0, a0_5, a0_6, l0_7, true)) else (some (a0_0, a0_1, a0_2, a0_3, a0_4, a0_5, a0_6, l0_7, false))) = some (r1, r2, r3, r4, r5, r6, r7, r8, r9) := h
  clear h
  by_cases c2 : a0_1 = 0
  · rw [if_pos c2] at H
    have c2b0 : (a0_1 == 0) = true := beq_iff_eq.mpr c2
    have c2b1 : (a0_1 != 0) = false := bne_eq_false_iff_eq.mpr c2
    clear c2
    simp only [Option.some.injEq, Prod.mk.injEq] at H
    obtain ⟨rfl, rfl, rfl, rfl, rfl, rfl, rfl, rfl, rfl⟩ := H
    go_enter Try.func13, Try.ntmps13
    go_wp2_with (first | ((with_reducible refine gate_dst (N := 1) rfl ?_); refine box_event ?hg (N := 1) ?hd (cs := #[.int .u16 a0_0, .int .i64 a0_1, .int .u16 a0_2, .int .i64 a0_3, .int .i64 a0_4, .int .u32 a0_5, .int .u32 a0_6, .slice A0_7 l0_7.length c0_7]) (t := 33) ?hr ?_; (case hd => rfl); (case hg => rfl); (case hr => first | (go_simp; done) | (go_simp; rfl)); intro gb116 hg w3 hbox hb; have n0_ := Aside0.mk (Kd.V_below (Kd.V_elderB (by (with_reducible repeat (first | apply Kd.V_alloc | apply Kd.V_drewN | apply Kd.V_drew)); exact HO0_7.out) gb116 (Nat.le_of_eq hg.symm)) hb); have n1_ := Aside0.mk (below_step (by repeat (first | (with_reducible first | exact HB.out | apply below_alloc | apply pw_below_drewN | apply below_drew1) | exact HB.out)) hb); have n2_ := Aside0.mk (hbox); have n3_ := Aside0.mk ((by rw [hg]; exact (below_size (by repeat (first | (with_reducible first | exact HB.out | apply below_alloc | apply pw_below_drewN | apply below_drew1) | exact HB.out))) : w.heap.size ≤ gb116)); have n4_ := Aside0.mk ((by rw [hg]; exact (below_size (by repeat (first | (with_reducible first | exact HB.out | apply below_alloc | apply pw_below_drewN | apply below_drew1) | exact HB.out))) : w.heap.size ≤ gb116)); clear HO0_7; clear HB; have HO0_7 := n0_; have HB := n1_; have BK116 := n2_; have GW116 := n3_; have GE116 := n4_; clear n0_ n1_ n2_ n3_ n4_; clear hb hbox hg) | ((with_reducible refine gate_dst (N := 2) rfl ?_); refine box_event ?hg (N := 2) ?hd (cs := #[.int .u16 0, .int .i64 0, .int .u16 0, .int .i64 0, .int .i64 0, .int .u32 0, .int .u32 0, .slice none 0 0]) (t := 33) ?hr ?_; (case hd => rfl); (case hg => rfl); (case hr => first | (go_simp; done) | (go_simp; rfl)); intro gb117 hg w4 hbox hb; have n0_ := Aside0.mk (Kd.V_below (Kd.V_elderB (by (with_reducible repeat (first | apply Kd.V_alloc | apply Kd.V_drewN | apply Kd.V_drew)); exact HO0_7.out) gb117 (Nat.le_of_eq hg.symm)) hb); have n1_ := Aside0.mk (blk_below (g := gb116) (o := .cells #[.int .u16 a0_0, .int .i64 a0_1, .int .u16 a0_2, .int .i64 a0_3, .int .i64 a0_4, .int .u32 a0_5, .int .u32 a0_6, .slice A0_7 l0_7.length c0_7] 33 (0, 0)) (by (with_reducible repeat (first | refine blk_drewN ?_ _ | refine blk_drew ?_ | refine blk_alloc ?_ _)); exact BK116.out) hb); have n2_ := Aside0.mk (below_step (by repeat (first | (with_reducible first | exact HB.out | apply below_alloc | apply pw_below_drewN | apply below_drew1 | refine below_set ?_ GE116.out) | exact HB.out)) hb); have n3_ := Aside0.mk (hbox); have n4_ := Aside0.mk ((by rw [hg]; exact (below_size (by repeat (first | (with_reducible first | exact HB.out | apply below_alloc | apply pw_below_drewN | apply below_drew1 | refine below_set ?_ GE116.out) | exact HB.out))) : w.heap.size ≤ gb117)); have n5_ := Aside0.mk ((by rw [hg]; exact (below_size (by repeat (first | (with_reducible first | exact HB.out | apply below_alloc | apply pw_below_drewN | apply below_drew1 | refine below_set ?_ GE116.out) | exact HB.out))) : w.heap.size ≤ gb117)); have n6_ := Aside0.mk ((by rw [hg]; exact Nat.ne_of_lt (blk_lt (g := gb116) (o := .cells #[.int .u16 a0_0, .int .i64 a0_1, .int .u16 a0_2, .int .i64 a0_3, .int .i64 a0_4, .int .u32 a0_5, .int .u32 a0_6, .slice A0_7 l0_7.length c0_7] 33 (0, 0)) (by (with_reducible repeat (first | refine blk_drewN ?_ _ | refine blk_drew ?_ | refine blk_alloc ?_ _)); exact BK116.out)) : gb116 ≠ gb117)); have n7_ := Aside0.mk ((by rw [hg]; exact Nat.ne_of_gt (blk_lt (g := gb116) (o := .cells #[.int .u16 a0_0, .int .i64 a0_1, .int .u16 a0_2, .int .i64 a0_3, .int .i64 a0_4, .int .u32 a0_5, .int .u32 a0_6, .slice A0_7 l0_7.length c0_7] 33 (0, 0)) (by (with_reducible repeat (first | refine blk_drewN ?_ _ | refine blk_drew ?_ | refine blk_alloc ?_ _)); exact BK116.out)) : gb117 ≠ gb116)); clear HO0_7; clear BK116; clear HB; have HO0_7 := n0_; have BK116 := n1_; have HB := n2_; have BK117 := n3_; have GW117 := n4_; have GE117 := n5_; have NB116_117 := n6_; have NB117_116 := n7_; clear n0_ n1_ n2_ n3_ n4_ n5_ n6_ n7_; clear hb hbox hg; have hnb5 := NB116_117.out; have hnc5 := NB117_116.out; have hcz6_0 : w4.cell? ⟨gb116, 0, none⟩ = some (.int .u16 a0_0) := (blk_cell BK116.out 0).trans rfl; have hcz6_1 : w4.cell? ⟨gb116, 1, none⟩ = some (.int .i64 a0_1) := (blk_cell BK116.out 1).trans rfl; have hcz6_2 : w4.cell? ⟨gb116, 2, none⟩ = some (.int .u16 a0_2) := (blk_cell BK116.out 2).trans rfl; have hcz6_3 : w4.cell? ⟨gb116, 3, none⟩ = some (.int .i64 a0_3) := (blk_cell BK116.out 3).trans rfl; have hcz6_4 : w4.cell? ⟨gb116, 4, none⟩ = some (.int .i64 a0_4) := (blk_cell BK116.out 4).trans rfl; have hcz6_5 : w4.cell? ⟨gb116, 5, none⟩ = some (.int .u32 a0_5) := (blk_cell BK116.out 5).trans rfl; have hcz6_6 : w4.cell? ⟨gb116, 6, none⟩ = some (.int .u32 a0_6) := (blk_cell BK116.out 6).trans rfl; have hcz6_7 : w4.cell? ⟨gb116, 7, none⟩ = some (.slice A0_7 l0_7.length c0_7) := (blk_cell BK116.out 7).trans rfl; have hfz6_0 := blk_frozen BK116.out 0; have hfz6_1 := blk_frozen BK116.out 1; have hfz6_2 := blk_frozen BK116.out 2; have hfz6_3 := blk_frozen BK116.out 3; have hfz6_4 := blk_frozen BK116.out 4; have hfz6_5 := blk_frozen BK116.out 5; have hfz6_6 := blk_frozen BK116.out 6; have hfz6_7 := blk_frozen BK116.out 7; have hcz7_0 : w4.cell? ⟨gb117, 0, none⟩ = some (.int .u16 0) := (blk_cell BK117.out 0).trans rfl; have hcz7_1 : w4.cell? ⟨gb117, 1, none⟩ = some (.int .i64 0) := (blk_cell BK117.out 1).trans rfl; have hcz7_2 : w4.cell? ⟨gb117, 2, none⟩ = some (.int .u16 0) := (blk_cell BK117.out 2).trans rfl; have hcz7_3 : w4.cell? ⟨gb117, 3, none⟩ = some (.int .i64 0) := (blk_cell BK117.out 3).trans rfl; have hcz7_4 : w4.cell? ⟨gb117, 4, none⟩ = some (.int .i64 0) := (blk_cell BK117.out 4).trans rfl; have hcz7_5 : w4.cell? ⟨gb117, 5, none⟩ = some (.int .u32 0) := (blk_cell BK117.out 5).trans rfl; have hcz7_6 : w4.cell? ⟨gb117, 6, none⟩ = some (.int .u32 0) := (blk_cell BK117.out 6).trans rfl; have hcz7_7 : w4.cell? ⟨gb117, 7, none⟩ = some (.slice none 0 0) := (blk_cell BK117.out 7).trans rfl; have hfz7_0 := blk_frozen BK117.out 0; have hfz7_1 := blk_frozen BK117.out 1; have hfz7_2 := blk_frozen BK117.out 2; have hfz7_3 := blk_frozen BK117.out 3; have hfz7_4 := blk_frozen BK117.out 4; have hfz7_5 := blk_frozen BK117.out 5; have hfz7_6 := blk_frozen BK117.out 6; have hfz7_7 := blk_frozen BK117.out 7))
    refine bodyPost_ret (results_ct rfl _ _ gb117 33 #[.int .u16 a0_0, .int .i64 1, .int .u16 a0_2, .int .i64 a0_3, .int .i64 0, .int .u32 a0_5, .int .u32 a0_6, .slice A0_7 l0_7.length c0_7] (0, 0) _ rfl (by (with_reducible repeat (first | refine blk_drewN ?_ _ | refine blk_drew ?_ | refine blk_alloc ?_ _)); refine blk_put (cs := #[.int .u16 a0_0, .int .i64 1, .int .u16 a0_2, .int .i64 a0_3, .int .i64 0, .int .u32 a0_5, .int .u32 a0_6, .slice none 0 0]) ?_ 7 _ rfl; (with_reducible repeat (first | refine blk_drewN ?_ _ | refine blk_drew ?_ | refine blk_alloc ?_ _)); refine blk_put (cs := #[.int .u16 a0_0, .int .i64 1, .int .u16 a0_2, .int .i64 a0_3, .int .i64 0, .int .u32 a0_5, .int .u32 0, .slice none 0 0]) ?_ 6 _ rfl; (with_reducible repeat (first | refine blk_drewN ?_ _ | refine blk_drew ?_ | refine blk_alloc ?_ _)); refine blk_put (cs := #[.int .u16 a0_0, .int .i64 1, .int .u16 a0_2, .int .i64 a0_3, .int .i64 0, .int .u32 0, .int .u32 0, .slice none 0 0]) ?_ 5 _ rfl; (with_reducible repeat (first | refine blk_drewN ?_ _ | refine blk_drew ?_ | refine blk_alloc ?_ _)); refine blk_put (cs := #[.int .u16 a0_0, .int .i64 1, .int .u16 a0_2, .int .i64 a0_3, .int .i64 0, .int .u32 0, .int .u32 0, .slice none 0 0]) ?_ 4 _ rfl; (with_reducible repeat (first | refine blk_drewN ?_ _ | refine blk_drew ?_ | refine blk_alloc ?_ _)); refine blk_put (cs := #[.int .u16 a0_0, .int .i64 1, .int .u16 a0_2, .int .i64 0, .int .i64 0, .int .u32 0, .int .u32 0, .slice none 0 0]) ?_ 3 _ rfl; (with_reducible repeat (first | refine blk_drewN ?_ _ | refine blk_drew ?_ | refine blk_alloc ?_ _)); refine blk_put (cs := #[.int .u16 a0_0, .int .i64 1, .int .u16 0, .int .i64 0, .int .i64 0, .int .u32 0, .int .u32 0, .slice none 0 0]) ?_ 2 _ rfl; (with_reducible repeat (first | refine blk_drewN ?_ _ | refine blk_drew ?_ | refine blk_alloc ?_ _)); refine blk_put (cs := #[.int .u16 a0_0, .int .i64 0, .int .u16 0, .int .i64 0, .int .i64 0, .int .u32 0, .int .u32 0, .slice none 0 0]) ?_ 1 _ rfl; (with_reducible repeat (first | refine blk_drewN ?_ _ | refine blk_drew ?_ | refine blk_alloc ?_ _)); refine blk_put (cs := #[.int .u16 0, .int .i64 0, .int .u16 0, .int .i64 0, .int .i64 0, .int .u32 0, .int .u32 0, .slice none 0 0]) ?_ 0 _ rfl; (with_reducible repeat (first | refine blk_drewN ?_ _ | refine blk_drew ?_ | refine blk_alloc ?_ _)); refine blk_far ?_ NB117_116.out _; (with_reducible repeat (first | refine blk_drewN ?_ _ | refine blk_drew ?_ | refine blk_alloc ?_ _)); refine blk_far ?_ NB117_116.out _; (with_reducible repeat (first | refine blk_drewN ?_ _ | refine blk_drew ?_ | refine blk_alloc ?_ _)); exact BK117.out) Try.underlying33 rfl (by kernel_rfl)) rfl ?_
    exact ⟨_, by first | rfl | (simp [errW_none, errW_some] <;> rfl) | (simp [*, errW_none, errW_some] <;> rfl), by (with_reducible repeat (first | apply Kd.V_alloc | apply Kd.V_drewN | apply Kd.V_drew)); exact Kd.V_mono (Kd.V_far (p := ⟨gb117, 7, none⟩) (Kd.V_far (p := ⟨gb117, 6, none⟩) (Kd.V_far (p := ⟨gb117, 5, none⟩) (Kd.V_far (p := ⟨gb117, 4, none⟩) (Kd.V_far (p := ⟨gb117, 3, none⟩) (Kd.V_far (p := ⟨gb117, 2, none⟩) (Kd.V_far (p := ⟨gb117, 1, none⟩) (Kd.V_far (p := ⟨gb117, 0, none⟩) (Kd.V_far (p := ⟨gb116, 4, none⟩) (Kd.V_far (p := ⟨gb116, 1, none⟩) (Kd.V_mono (Kd.V_mono HO0_7.out (fun k_ hk => (⟨hk, hk.1.2⟩ : _ ∧ k_ ≠ gb116))) (fun k_ hk => (⟨hk, hk.1.2⟩ : _ ∧ k_ ≠ gb117))) (fun _ hk => hk.1.2) (.int .i64 1)) (fun _ hk => hk.1.2) (.int .i64 0)) (fun _ hk => hk.2) (.int .u16 a0_0)) (fun _ hk => hk.2) (.int .i64 1)) (fun _ hk => hk.2) (.int .u16 a0_2)) (fun _ hk => hk.2) (.int .i64 a0_3)) (fun _ hk => hk.2) (.int .i64 0)) (fun _ hk => hk.2) (.int .u32 a0_5)) (fun _ hk => hk.2) (.int .u32 a0_6)) (fun _ hk => hk.2) (.slice A0_7 l0_7.length c0_7)) (fun _ hk => hk.1.1.1.1), by repeat (first | (with_reducible first | exact HB.out | apply below_alloc | apply pw_below_drewN | apply below_drew1 | refine below_set ?_ GE116.out | refine below_set ?_ GE117.out) | exact HB.out)⟩
  · rw [if_neg c2] at H
    have c2b0 : (a0_1 == 0) = false := beq_eq_false_iff_ne.mpr c2
    have c2b1 : (a0_1 != 0) = true := bne_iff_ne.mpr c2
    simp only [Option.some.injEq, Prod.mk.injEq] at H
    obtain ⟨rfl, rfl, rfl, rfl, rfl, rfl, rfl, rfl, rfl⟩ := H
    go_enter Try.func13, Try.ntmps13
    go_wp2_with (first | ((with_reducible refine gate_dst (N := 1) rfl ?_); refine box_event ?hg (N := 1) ?hd (cs := #[.int .u16 a0_0, .int .i64 a0_1, .int .u16 a0_2, .int .i64 a0_3, .int .i64 a0_4, .int .u32 a0_5, .int .u32 a0_6, .slice A0_7 l0_7.length c0_7]) (t := 33) ?hr ?_; (case hd => rfl); (case hg => rfl); (case hr => first | (go_simp; done) | (go_simp; rfl)); intro gb116 hg w8 hbox hb; have n0_ := Aside0.mk (Kd.V_below (Kd.V_elderB (by (with_reducible repeat (first | apply Kd.V_alloc | apply Kd.V_drewN | apply Kd.V_drew)); exact HO0_7.out) gb116 (Nat.le_of_eq hg.symm)) hb); have n1_ := Aside0.mk (below_step (by repeat (first | (with_reducible first | exact HB.out | apply below_alloc | apply pw_below_drewN | apply below_drew1) | exact HB.out)) hb); have n2_ := Aside0.mk (hbox); have n3_ := Aside0.mk ((by rw [hg]; exact (below_size (by repeat (first | (with_reducible first | exact HB.out | apply below_alloc | apply pw_below_drewN | apply below_drew1) | exact HB.out))) : w.heap.size ≤ gb116)); have n4_ := Aside0.mk ((by rw [hg]; exact (below_size (by repeat (first | (with_reducible first | exact HB.out | apply below_alloc | apply pw_below_drewN | apply below_drew1) | exact HB.out))) : w.heap.size ≤ gb116)); clear HO0_7; clear HB; have HO0_7 := n0_; have HB := n1_; have BK116 := n2_; have GW116 := n3_; have GE116 := n4_; clear n0_ n1_ n2_ n3_ n4_; clear hb hbox hg) | ((with_reducible refine gate_dst (N := 2) rfl ?_); refine box_event ?hg (N := 2) ?hd (cs := #[.int .u16 0, .int .i64 0, .int .u16 0, .int .i64 0, .int .i64 0, .int .u32 0, .int .u32 0, .slice none 0 0]) (t := 33) ?hr ?_; (case hd => rfl); (case hg => rfl); (case hr => first | (go_simp; done) | (go_simp; rfl)); intro gb117 hg w9 hbox hb; have n0_ := Aside0.mk (Kd.V_below (Kd.V_elderB (by (with_reducible repeat (first | apply Kd.V_alloc | apply Kd.V_drewN | apply Kd.V_drew)); exact HO0_7.out) gb117 (Nat.le_of_eq hg.symm)) hb); have n1_ := Aside0.mk (blk_below (g := gb116) (o := .cells #[.int .u16 a0_0, .int .i64 a0_1, .int .u16 a0_2, .int .i64 a0_3, .int .i64 a0_4, .int .u32 a0_5, .int .u32 a0_6, .slice A0_7 l0_7.length c0_7] 33 (0, 0)) (by (with_reducible repeat (first | refine blk_drewN ?_ _ | refine blk_drew ?_ | refine blk_alloc ?_ _)); exact BK116.out) hb); have n2_ := Aside0.mk (below_step (by repeat (first | (with_reducible first | exact HB.out | apply below_alloc | apply pw_below_drewN | apply below_drew1 | refine below_set ?_ GE116.out) | exact HB.out)) hb); have n3_ := Aside0.mk (hbox); have n4_ := Aside0.mk ((by rw [hg]; exact (below_size (by repeat (first | (with_reducible first | exact HB.out | apply below_alloc | apply pw_below_drewN | apply below_drew1 | refine below_set ?_ GE116.out) | exact HB.out))) : w.heap.size ≤ gb117)); have n5_ := Aside0.mk ((by rw [hg]; exact (below_size (by repeat (first | (with_reducible first | exact HB.out | apply below_alloc | apply pw_below_drewN | apply below_drew1 | refine below_set ?_ GE116.out) | exact HB.out))) : w.heap.size ≤ gb117)); have n6_ := Aside0.mk ((by rw [hg]; exact Nat.ne_of_lt (blk_lt (g := gb116) (o := .cells #[.int .u16 a0_0, .int .i64 a0_1, .int .u16 a0_2, .int .i64 a0_3, .int .i64 a0_4, .int .u32 a0_5, .int .u32 a0_6, .slice A0_7 l0_7.length c0_7] 33 (0, 0)) (by (with_reducible repeat (first | refine blk_drewN ?_ _ | refine blk_drew ?_ | refine blk_alloc ?_ _)); exact BK116.out)) : gb116 ≠ gb117)); have n7_ := Aside0.mk ((by rw [hg]; exact Nat.ne_of_gt (blk_lt (g := gb116) (o := .cells #[.int .u16 a0_0, .int .i64 a0_1, .int .u16 a0_2, .int .i64 a0_3, .int .i64 a0_4, .int .u32 a0_5, .int .u32 a0_6, .slice A0_7 l0_7.length c0_7] 33 (0, 0)) (by (with_reducible repeat (first | refine blk_drewN ?_ _ | refine blk_drew ?_ | refine blk_alloc ?_ _)); exact BK116.out)) : gb117 ≠ gb116)); clear HO0_7; clear BK116; clear HB; have HO0_7 := n0_; have BK116 := n1_; have HB := n2_; have BK117 := n3_; have GW117 := n4_; have GE117 := n5_; have NB116_117 := n6_; have NB117_116 := n7_; clear n0_ n1_ n2_ n3_ n4_ n5_ n6_ n7_; clear hb hbox hg; have hnb10 := NB116_117.out; have hnc10 := NB117_116.out; have hcz11_0 : w9.cell? ⟨gb116, 0, none⟩ = some (.int .u16 a0_0) := (blk_cell BK116.out 0).trans rfl; have hcz11_1 : w9.cell? ⟨gb116, 1, none⟩ = some (.int .i64 a0_1) := (blk_cell BK116.out 1).trans rfl; have hcz11_2 : w9.cell? ⟨gb116, 2, none⟩ = some (.int .u16 a0_2) := (blk_cell BK116.out 2).trans rfl; have hcz11_3 : w9.cell? ⟨gb116, 3, none⟩ = some (.int .i64 a0_3) := (blk_cell BK116.out 3).trans rfl; have hcz11_4 : w9.cell? ⟨gb116, 4, none⟩ = some (.int .i64 a0_4) := (blk_cell BK116.out 4).trans rfl; have hcz11_5 : w9.cell? ⟨gb116, 5, none⟩ = some (.int .u32 a0_5) := (blk_cell BK116.out 5).trans rfl; have hcz11_6 : w9.cell? ⟨gb116, 6, none⟩ = some (.int .u32 a0_6) := (blk_cell BK116.out 6).trans rfl; have hcz11_7 : w9.cell? ⟨gb116, 7, none⟩ = some (.slice A0_7 l0_7.length c0_7) := (blk_cell BK116.out 7).trans rfl; have hfz11_0 := blk_frozen BK116.out 0; have hfz11_1 := blk_frozen BK116.out 1; have hfz11_2 := blk_frozen BK116.out 2; have hfz11_3 := blk_frozen BK116.out 3; have hfz11_4 := blk_frozen BK116.out 4; have hfz11_5 := blk_frozen BK116.out 5; have hfz11_6 := blk_frozen BK116.out 6; have hfz11_7 := blk_frozen BK116.out 7; have hcz12_0 : w9.cell? ⟨gb117, 0, none⟩ = some (.int .u16 0) := (blk_cell BK117.out 0).trans rfl; have hcz12_1 : w9.cell? ⟨gb117, 1, none⟩ = some (.int .i64 0) := (blk_cell BK117.out 1).trans rfl; have hcz12_2 : w9.cell? ⟨gb117, 2, none⟩ = some (.int .u16 0) := (blk_cell BK117.out 2).trans rfl; have hcz12_3 : w9.cell? ⟨gb117, 3, none⟩ = some (.int .i64 0) := (blk_cell BK117.out 3).trans rfl; have hcz12_4 : w9.cell? ⟨gb117, 4, none⟩ = some (.int .i64 0) := (blk_cell BK117.out 4).trans rfl; have hcz12_5 : w9.cell? ⟨gb117, 5, none⟩ = some (.int .u32 0) := (blk_cell BK117.out 5).trans rfl; have hcz12_6 : w9.cell? ⟨gb117, 6, none⟩ = some (.int .u32 0) := (blk_cell BK117.out 6).trans rfl; have hcz12_7 : w9.cell? ⟨gb117, 7, none⟩ = some (.slice none 0 0) := (blk_cell BK117.out 7).trans rfl; have hfz12_0 := blk_frozen BK117.out 0; have hfz12_1 := blk_frozen BK117.out 1; have hfz12_2 := blk_frozen BK117.out 2; have hfz12_3 := blk_frozen BK117.out 3; have hfz12_4 := blk_frozen BK117.out 4; have hfz12_5 := blk_frozen BK117.out 5; have hfz12_6 := blk_frozen BK117.out 6; have hfz12_7 := blk_frozen BK117.out 7))
    refine bodyPost_ret (results_ct rfl _ _ gb117 33 #[.int .u16 a0_0, .int .i64 a0_1, .int .u16 a0_2, .int .i64 a0_3, .int .i64 a0_4, .int .u32 a0_5, .int .u32 a0_6, .slice A0_7 l0_7.length c0_7] (0, 0) _ rfl (by (with_reducible repeat (first | refine blk_drewN ?_ _ | refine blk_drew ?_ | refine blk_alloc ?_ _)); refine blk_put (cs := #[.int .u16 a0_0, .int .i64 a0_1, .int .u16 a0_2, .int .i64 a0_3, .int .i64 a0_4, .int .u32 a0_5, .int .u32 a0_6, .slice none 0 0]) ?_ 7 _ rfl; (with_reducible repeat (first | refine blk_drewN ?_ _ | refine blk_drew ?_ | refine blk_alloc ?_ _)); refine blk_put (cs := #[.int .u16 a0_0, .int .i64 a0_1, .int .u16 a0_2, .int .i64 a0_3, .int .i64 a0_4, .int .u32 a0_5, .int .u32 0, .slice none 0 0]) ?_ 6 _ rfl; (with_reducible repeat (first | refine blk_drewN ?_ _ | refine blk_drew ?_ | refine blk_alloc ?_ _)); refine blk_put (cs := #[.int .u16 a0_0, .int .i64 a0_1, .int .u16 a0_2, .int .i64 a0_3, .int .i64 a0_4, .int .u32 0, .int .u32 0, .slice none 0 0]) ?_ 5 _ rfl; (with_reducible repeat (first | refine blk_drewN ?_ _ | refine blk_drew ?_ | refine blk_alloc ?_ _)); refine blk_put (cs := #[.int .u16 a0_0, .int .i64 a0_1, .int .u16 a0_2, .int .i64 a0_3, .int .i64 0, .int .u32 0, .int .u32 0, .slice none 0 0]) ?_ 4 _ rfl; (with_reducible repeat (first | refine blk_drewN ?_ _ | refine blk_drew ?_ | refine blk_alloc ?_ _)); refine blk_put (cs := #[.int .u16 a0_0, .int .i64 a0_1, .int .u16 a0_2, .int .i64 0, .int .i64 0, .int .u32 0, .int .u32 0, .slice none 0 0]) ?_ 3 _ rfl; (with_reducible repeat (first | refine blk_drewN ?_ _ | refine blk_drew ?_ | refine blk_alloc ?_ _)); refine blk_put (cs := #[.int .u16 a0_0, .int .i64 a0_1, .int .u16 0, .int .i64 0, .int .i64 0, .int .u32 0, .int .u32 0, .slice none 0 0]) ?_ 2 _ rfl; (with_reducible repeat (first | refine blk_drewN ?_ _ | refine blk_drew ?_ | refine blk_alloc ?_ _)); refine blk_put (cs := #[.int .u16 a0_0, .int .i64 0, .int .u16 0, .int .i64 0, .int .i64 0, .int .u32 0, .int .u32 0, .slice none 0 0]) ?_ 1 _ rfl; (with_reducible repeat (first | refine blk_drewN ?_ _ | refine blk_drew ?_ | refine blk_alloc ?_ _)); refine blk_put (cs := #[.int .u16 0, .int .i64 0, .int .u16 0, .int .i64 0, .int .i64 0, .int .u32 0, .int .u32 0, .slice none 0 0]) ?_ 0 _ rfl; (with_reducible repeat (first | refine blk_drewN ?_ _ | refine blk_drew ?_ | refine blk_alloc ?_ _)); exact BK117.out) Try.underlying33 rfl (by kernel_rfl)) rfl ?_
    exact ⟨_, by first | rfl | (simp [errW_none, errW_some] <;> rfl) | (simp [*, errW_none, errW_some] <;> rfl), by (with_reducible repeat (first | apply Kd.V_alloc | apply Kd.V_drewN | apply Kd.V_drew)); exact Kd.V_mono (Kd.V_far (p := ⟨gb117, 7, none⟩) (Kd.V_far (p := ⟨gb117, 6, none⟩) (Kd.V_far (p := ⟨gb117, 5, none⟩) (Kd.V_far (p := ⟨gb117, 4, none⟩) (Kd.V_far (p := ⟨gb117, 3, none⟩) (Kd.V_far (p := ⟨gb117, 2, none⟩) (Kd.V_far (p := ⟨gb117, 1, none⟩) (Kd.V_far (p := ⟨gb117, 0, none⟩) (Kd.V_mono HO0_7.out (fun k_ hk => (⟨hk, hk.2⟩ : _ ∧ k_ ≠ gb117))) (fun _ hk => hk.2) (.int .u16 a0_0)) (fun _ hk => hk.2) (.int .i64 a0_1)) (fun _ hk => hk.2) (.int .u16 a0_2)) (fun _ hk => hk.2) (.int .i64 a0_3)) (fun _ hk => hk.2) (.int .i64 a0_4)) (fun _ hk => hk.2) (.int .u32 a0_5)) (fun _ hk => hk.2) (.int .u32 a0_6)) (fun _ hk => hk.2) (.slice A0_7 l0_7.length c0_7)) (fun _ hk => hk.1.1.1), by repeat (first | (with_reducible first | exact HB.out | apply below_alloc | apply pw_below_drewN | apply below_drew1 | refine below_set ?_ GE116.out | refine below_set ?_ GE117.out) | exact HB.out)⟩


/-! ### bits_Len16: function 33 -/
def bits_Len16.f (a0 : Int) : Option (Int) := if 0 ≤ a0 then (if a0 ≤ 65535 then (some ((Lib.bitLen a0.toNat : Nat) : Int)) else (none)) else (none)
theorem bits_Len16.calls (a0 : Int) (r : Int) (w : World) (h : bits_Len16.f a0 = some r) :
    Calls Try.prog 33 #[.int .u16 a0] w fun e w' => e = .returned (.int .i64 r) ∧ Drawn0 w w' := by
  unfold bits_Len16.f at h
  by_cases h0 : 0 ≤ a0
  · rw [if_pos h0] at h
    by_cases h1 : a0 ≤ 65535
    · rw [if_pos h1] at h
      obtain rfl := Option.some.inj h
      exact (Try.bits_Len16 a0 w h0 h1).mono fun e w' ⟨he, hw⟩ => ⟨he, hw ▸ Drawn0.refl w⟩
    · rw [if_neg h1] at h
      exact absurd h (by simp)
  · rw [if_neg h0] at h
    exact absurd h (by simp)

/-! ### vers_Best: function 25 -/
def vers_Best.f (a0 : Int) (a1 : Int) : Option (Int) := (bits_Len16.f (Go.bits .and .u16 a0 a1)).bind fun t118 => (some t118)
set_option maxHeartbeats 3000000 in
set_option maxRecDepth 100000 in
theorem vers_Best.calls (a0 : Int) (a1 : Int) (r : Int) (w : World) (h : vers_Best.f a0 a1 = some r) :
    Calls Try.prog 25 #[.int .u16 a0, .int .u16 a1] w fun e w' => e = .returned (.int .i64 r) ∧ Drawn0 w w' := by
  have H : ((bits_Len16.f (Go.bits .and .u16 a0 a1)).bind fun t118 => (some t118)) = some r := h
  clear h
  replace H := Option.bind_eq_some_iff.mp H
  obtain ⟨t118, A30, H⟩ := H
  replace H : (some t118) = some r := H
  have A3 := Aside0.mk A30
  clear A30
  obtain rfl := Option.some.inj H
  go_enter Try.func25, Try.ntmps25
  go_wp2_with (first | ((with_reducible refine gate_callee (f := 33) rfl ?_); refine goesL_ (some 8) rfl rfl Try.func33 (by kernel_rfl) rfl #[.int .u16 (Go.bits .and .u16 a0 a1)] rfl (by (try simp only [List.map_toArray, List.map_cons, List.map_nil]); first | done | rfl | (simp only [List.length_drop, List.length_take]; rfl)) ?_; (with_reducible refine (bits_Len16.calls (Go.bits .and .u16 a0 a1) t118 _ A3.out).mono ?_); rintro e w' ⟨rfl, ⟨nd, rfl⟩⟩; refine ⟨_, rfl, ?_⟩))
  all_goals go_ret
  all_goals first | (exact ⟨by first | rfl | (simp; done) | (simp [*]; done) | (refine congrArg Ending.returned ?_; show Value.string _ = Value.string _; (first | (congr 2 <;> omega) | (congr 3 <;> omega) | (congr 4 <;> omega))), by repeat (first | exact Drawn0.refl _ | apply Drawn0.step)⟩) | (exfalso; simp_all; done)

/-! ### nego_Hear: function 15 -/
def nego_Hear.f (a0_0 : Int) (a0_1 : Int) (a0_2 : Int) (a0_3 : Int) (a0_4 : Int) (a0_5 : Int) (a0_6 : Int) (l0_7 : List (S72)) (a1 : Int) (a2 : Int) (a3 : Bool) : Option (Int × Int × Int × Int × Int × Int × Int × (List (S72)) × Bool) := (vers_Best.f a1 a2).bind fun t121 => (if t121 = 0 then (some (a0_0, 3, a2, t121, 0, a0_5, a0_6, l0_7, !a3)) else (some (a0_0, 2, a2, t121, 0, a0_5, a0_6, l0_7, !a3)))
set_option maxHeartbeats 3000000 in
set_option maxRecDepth 100000 in
theorem nego_Hear.calls (a0_0 : Int) (a0_1 : Int) (a0_2 : Int) (a0_3 : Int) (a0_4 : Int) (a0_5 : Int) (a0_6 : Int) (P0_7_ : Nat → Prop) (A0_7 : Option Addr) (c0_7 : Nat) (l0_7 : List (S72)) (a1 : Int) (a2 : Int) (a3 : Bool) (r1 : Int) (r2 : Int) (r3 : Int) (r4 : Int) (r5 : Int) (r6 : Int) (r7 : Int) (r8 : List (S72)) (r9 : Bool) (w : World) (hs0_7 : Kd.V k72 72 w w.heap.size (fun k_ => P0_7_ k_) (.slice A0_7 l0_7.length c0_7) l0_7) (h : nego_Hear.f a0_0 a0_1 a0_2 a0_3 a0_4 a0_5 a0_6 l0_7 a1 a2 a3 = some (r1, r2, r3, r4, r5, r6, r7, r8, r9)) :
    Calls Try.prog 15 #[.agg #[.int .u16 a0_0, .int .i64 a0_1, .int .u16 a0_2, .int .i64 a0_3, .int .i64 a0_4, .int .u32 a0_5, .int .u32 a0_6, .slice A0_7 l0_7.length c0_7], .int .u16 a1, .int .u16 a2, .bool a3] w fun e w' => ∃ v7_ : Value, e = .returned (.tuple #[.agg #[.int .u16 r1, .int .i64 r2, .int .u16 r3, .int .i64 r4, .int .i64 r5, .int .u32 r6, .int .u32 r7, v7_], .bool r9]) ∧ Kd.V k72 72 w' w.heap.size (fun k_ => (P0_7_ k_ ∨ w.heap.size ≤ k_)) v7_ r8 ∧ Below w.heap.size w w' := by
  have hu33 := Try.underlying33
  have HO0_7 := Aside0.mk (show Kd.V k72 72 w w.heap.size (fun k_ => (P0_7_ k_ ∨ w.heap.size ≤ k_)) (.slice A0_7 l0_7.length c0_7) l0_7 from Kd.V_mono hs0_7 (fun k_ hk => .inl hk))
  have HB := Aside0.mk (Below.refl w.heap.size w)
  have H : ((vers_Best.f a1 a2).bind fun t121 => (if t121 = 0 then (some (a0_0, 3, a2, t121, 0, a0_5, a0_6, l0_7, !a3)) else (some (a0_0, 2, a2, t121, 0, a0_5, a0_6, l0_7, !a3)))) = some (r1, r2, r3, r4, r5, r6, r7, r8, r9) := h
  clear h
  replace H := Option.bind_eq_some_iff.mp H
  obtain ⟨t121, A50, H⟩ := H
  replace H : (if t121 = 0 then (some (a0_0, 3, a2, t121, 0, a0_5, a0_6, l0_7, !a3)) else (some (a0_0, 2, a2, t121, 0, a0_5, a0_6, l0_7, !a3))) = some (r1, r2, r3, r4, r5, r6, r7, r8, r9) := H
  have A5 := Aside0.mk A50
  clear A50
  by_cases c6 : t121 = 0
  · rw [if_pos c6] at H
    have c6b0 : (t121 == 0) = true := beq_iff_eq.mpr c6
    have c6b1 : (t121 != 0) = false := bne_eq_false_iff_eq.mpr c6
    clear c6
    simp only [Option.some.injEq, Prod.mk.injEq] at H
    obtain ⟨rfl, rfl, rfl, rfl, rfl, rfl, rfl, rfl, rfl⟩ := H
    go_enter Try.func15, Try.ntmps15
    go_wp2_with (first | ((with_reducible refine gate_dst (N := 4) rfl ?_); refine box_event ?hg (N := 4) ?hd (cs := #[.int .u16 a0_0, .int .i64 a0_1, .int .u16 a0_2, .int .i64 a0_3, .int .i64 a0_4, .int .u32 a0_5, .int .u32 a0_6, .slice A0_7 l0_7.length c0_7]) (t := 33) ?hr ?_; (case hd => rfl); (case hg => rfl); (case hr => first | (go_simp; done) | (go_simp; rfl)); intro gb119 hg w7 hbox hb; have n0_ := Aside0.mk (Kd.V_below (Kd.V_elderB (by (with_reducible repeat (first | apply Kd.V_alloc | apply Kd.V_drewN | apply Kd.V_drew)); exact HO0_7.out) gb119 (Nat.le_of_eq hg.symm)) hb); have n1_ := Aside0.mk (below_step (by repeat (first | (with_reducible first | exact HB.out | apply below_alloc | apply pw_below_drewN | apply below_drew1) | exact HB.out)) hb); have n2_ := Aside0.mk (hbox); have n3_ := Aside0.mk ((by rw [hg]; exact (below_size (by repeat (first | (with_reducible first | exact HB.out | apply below_alloc | apply pw_below_drewN | apply below_drew1) | exact HB.out))) : w.heap.size ≤ gb119)); have n4_ := Aside0.mk ((by rw [hg]; exact (below_size (by repeat (first | (with_reducible first | exact HB.out | apply below_alloc | apply pw_below_drewN | apply below_drew1) | exact HB.out))) : w.heap.size ≤ gb119)); clear HO0_7; clear HB; have HO0_7 := n0_; have HB := n1_; have BK119 := n2_; have GW119 := n3_; have GE119 := n4_; clear n0_ n1_ n2_ n3_ n4_; clear hb hbox hg) | ((with_reducible refine gate_dst (N := 8) rfl ?_); refine box_event ?hg (N := 8) ?hd (cs := #[.int .u16 0, .int .i64 0, .int .u16 0, .int .i64 0, .int .i64 0, .int .u32 0, .int .u32 0, .slice none 0 0]) (t := 33) ?hr ?_; (case hd => rfl); (case hg => rfl); (case hr => first | (go_simp; done) | (go_simp; rfl)); intro gb120 hg w8 hbox hb; have n0_ := Aside0.mk (Kd.V_below (Kd.V_elderB (by (with_reducible repeat (first | apply Kd.V_alloc | apply Kd.V_drewN | apply Kd.V_drew)); exact HO0_7.out) gb120 (Nat.le_of_eq hg.symm)) hb); have n1_ := Aside0.mk (blk_below (g := gb119) (o := .cells #[.int .u16 a0_0, .int .i64 a0_1, .int .u16 a0_2, .int .i64 a0_3, .int .i64 a0_4, .int .u32 a0_5, .int .u32 a0_6, .slice A0_7 l0_7.length c0_7] 33 (0, 0)) (by (with_reducible repeat (first | refine blk_drewN ?_ _ | refine blk_drew ?_ | refine blk_alloc ?_ _)); exact BK119.out) hb); have n2_ := Aside0.mk (below_step (by repeat (first | (with_reducible first | exact HB.out | apply below_alloc | apply pw_below_drewN | apply below_drew1 | refine below_set ?_ GE119.out) | exact HB.out)) hb); have n3_ := Aside0.mk (hbox); have n4_ := Aside0.mk ((by rw [hg]; exact (below_size (by repeat (first | (with_reducible first | exact HB.out | apply below_alloc | apply pw_below_drewN | apply below_drew1 | refine below_set ?_ GE119.out) | exact HB.out))) : w.heap.size ≤ gb120)); have n5_ := Aside0.mk ((by rw [hg]; exact (below_size (by repeat (first | (with_reducible first | exact HB.out | apply below_alloc | apply pw_below_drewN | apply below_drew1 | refine below_set ?_ GE119.out) | exact HB.out))) : w.heap.size ≤ gb120)); have n6_ := Aside0.mk ((by rw [hg]; exact Nat.ne_of_lt (blk_lt (g := gb119) (o := .cells #[.int .u16 a0_0, .int .i64 a0_1, .int .u16 a0_2, .int .i64 a0_3, .int .i64 a0_4, .int .u32 a0_5, .int .u32 a0_6, .slice A0_7 l0_7.length c0_7] 33 (0, 0)) (by (with_reducible repeat (first | refine blk_drewN ?_ _ | refine blk_drew ?_ | refine blk_alloc ?_ _)); exact BK119.out)) : gb119 ≠ gb120)); have n7_ := Aside0.mk ((by rw [hg]; exact Nat.ne_of_gt (blk_lt (g := gb119) (o := .cells #[.int .u16 a0_0, .int .i64 a0_1, .int .u16 a0_2, .int .i64 a0_3, .int .i64 a0_4, .int .u32 a0_5, .int .u32 a0_6, .slice A0_7 l0_7.length c0_7] 33 (0, 0)) (by (with_reducible repeat (first | refine blk_drewN ?_ _ | refine blk_drew ?_ | refine blk_alloc ?_ _)); exact BK119.out)) : gb120 ≠ gb119)); clear HO0_7; clear BK119; clear HB; have HO0_7 := n0_; have BK119 := n1_; have HB := n2_; have BK120 := n3_; have GW120 := n4_; have GE120 := n5_; have NB119_120 := n6_; have NB120_119 := n7_; clear n0_ n1_ n2_ n3_ n4_ n5_ n6_ n7_; clear hb hbox hg) | ((with_reducible refine gate_callee (f := 25) rfl ?_); refine goesL_ (some 13) rfl rfl Try.func25 (by kernel_rfl) rfl #[.int .u16 a1, .int .u16 a2] rfl (by (try simp only [List.map_toArray, List.map_cons, List.map_nil]); first | done | rfl | (simp only [List.length_drop, List.length_take]; rfl)) ?_; (with_reducible refine (vers_Best.calls a1 a2 t121 _ A5.out).mono ?_); rintro e w' ⟨rfl, ⟨nd, rfl⟩⟩; refine ⟨_, rfl, ?_⟩; (try (rw [drewN_self w8]; generalize hq_ : World.drewN w8 _ = w8; have n0_ := Aside0.mk (V_atq hq_ HO0_7.out); have n1_ := Aside0.mk (blk_at hq_ BK119.out); have n2_ := Aside0.mk (blk_at hq_ BK120.out); have n3_ := Aside0.mk (below_at hq_ HB.out); clear hq_ HO0_7 BK119 BK120 HB; have HO0_7 := n0_; have BK119 := n1_; have BK120 := n2_; have HB := n3_; clear n0_ n1_ n2_ n3_)); have hnb9 := NB119_120.out; have hnc9 := NB120_119.out; have hcz10_0 : w8.cell? ⟨gb119, 0, none⟩ = some (.int .u16 a0_0) := (blk_cell BK119.out 0).trans rfl; have hcz10_1 : w8.cell? ⟨gb119, 1, none⟩ = some (.int .i64 a0_1) := (blk_cell BK119.out 1).trans rfl; have hcz10_2 : w8.cell? ⟨gb119, 2, none⟩ = some (.int .u16 a0_2) := (blk_cell BK119.out 2).trans rfl; have hcz10_3 : w8.cell? ⟨gb119, 3, none⟩ = some (.int .i64 a0_3) := (blk_cell BK119.out 3).trans rfl; have hcz10_4 : w8.cell? ⟨gb119, 4, none⟩ = some (.int .i64 a0_4) := (blk_cell BK119.out 4).trans rfl; have hcz10_5 : w8.cell? ⟨gb119, 5, none⟩ = some (.int .u32 a0_5) := (blk_cell BK119.out 5).trans rfl; have hcz10_6 : w8.cell? ⟨gb119, 6, none⟩ = some (.int .u32 a0_6) := (blk_cell BK119.out 6).trans rfl; have hcz10_7 : w8.cell? ⟨gb119, 7, none⟩ = some (.slice A0_7 l0_7.length c0_7) := (blk_cell BK119.out 7).trans rfl; have hfz10_0 := blk_frozen BK119.out 0; have hfz10_1 := blk_frozen BK119.out 1; have hfz10_2 := blk_frozen BK119.out 2; have hfz10_3 := blk_frozen BK119.out 3; have hfz10_4 := blk_frozen BK119.out 4; have hfz10_5 := blk_frozen BK119.out 5; have hfz10_6 := blk_frozen BK119.out 6; have hfz10_7 := blk_frozen BK119.out 7; have hcz11_0 : w8.cell? ⟨gb120, 0, none⟩ = some (.int .u16 0) := (blk_cell BK120.out 0).trans rfl; have hcz11_1 : w8.cell? ⟨gb120, 1, none⟩ = some (.int .i64 0) := (blk_cell BK120.out 1).trans rfl; have hcz11_2 : w8.cell? ⟨gb120, 2, none⟩ = some (.int .u16 0) := (blk_cell BK120.out 2).trans rfl; have hcz11_3 : w8.cell? ⟨gb120, 3, none⟩ = some (.int .i64 0) := (blk_cell BK120.out 3).trans rfl; have hcz11_4 : w8.cell? ⟨gb120, 4, none⟩ = some (.int .i64 0) := (blk_cell BK120.out 4).trans rfl; have hcz11_5 : w8.cell? ⟨gb120, 5, none⟩ = some (.int .u32 0) := (blk_cell BK120.out 5).trans rfl; have hcz11_6 : w8.cell? ⟨gb120, 6, none⟩ = some (.int .u32 0) := (blk_cell BK120.out 6).trans rfl; have hcz11_7 : w8.cell? ⟨gb120, 7, none⟩ = some (.slice none 0 0) := (blk_cell BK120.out 7).trans rfl; have hfz11_0 := blk_frozen BK120.out 0; have hfz11_1 := blk_frozen BK120.out 1; have hfz11_2 := blk_frozen BK120.out 2; have hfz11_3 := blk_frozen BK120.out 3; have hfz11_4 := blk_frozen BK120.out 4; have hfz11_5 := blk_frozen BK120.out 5; have hfz11_6 := blk_frozen BK120.out 6; have hfz11_7 := blk_frozen BK120.out 7) | ((first | (with_reducible refine gate_dst (N := 22) rfl ?_)); refine wpList_load_row rfl 33 (.tmp 4) rfl gb119 rfl 33 #[.int .u16 a0_0, .int .i64 3, .int .u16 a2, .int .i64 t121, .int .i64 0, .int .u32 a0_5, .int .u32 a0_6, .slice A0_7 l0_7.length c0_7] (0, 0) _ (Eq.trans (by with_reducible first | exact (blk_set (blk_set (blk_set (BK119.out) _ _) _ _) _ _) | exact (blk_set (blk_set (blk_set (blk_set (BK119.out) _ _) _ _) _ _) _ _) | exact (blk_set (blk_set (blk_set (blk_set (blk_set (BK119.out) _ _) _ _) _ _) _ _) _ _) | exact (blk_set (blk_set (blk_set (blk_set (blk_set (blk_set (BK119.out) _ _) _ _) _ _) _ _) _ _) _ _) | exact (blk_set (blk_set (blk_set (blk_set (blk_set (blk_set (blk_set (BK119.out) _ _) _ _) _ _) _ _) _ _) _ _) _ _) | exact (blk_set (blk_set (blk_set (blk_set (blk_set (blk_set (blk_set (blk_set (BK119.out) _ _) _ _) _ _) _ _) _ _) _ _) _ _) _ _)) (by rfl)) Try.underlying33 rfl (by kernel_rfl) ?_))
    refine bodyPost_ret (results_ct rfl _ _ gb120 33 #[.int .u16 a0_0, .int .i64 3, .int .u16 a2, .int .i64 t121, .int .i64 0, .int .u32 a0_5, .int .u32 a0_6, .slice A0_7 l0_7.length c0_7] (0, 0) _ rfl (by (with_reducible repeat (first | refine blk_drewN ?_ _ | refine blk_drew ?_ | refine blk_alloc ?_ _)); refine blk_put (cs := #[.int .u16 a0_0, .int .i64 3, .int .u16 a2, .int .i64 t121, .int .i64 0, .int .u32 a0_5, .int .u32 a0_6, .slice none 0 0]) ?_ 7 _ rfl; (with_reducible repeat (first | refine blk_drewN ?_ _ | refine blk_drew ?_ | refine blk_alloc ?_ _)); refine blk_put (cs := #[.int .u16 a0_0, .int .i64 3, .int .u16 a2, .int .i64 t121, .int .i64 0, .int .u32 a0_5, .int .u32 0, .slice none 0 0]) ?_ 6 _ rfl; (with_reducible repeat (first | refine blk_drewN ?_ _ | refine blk_drew ?_ | refine blk_alloc ?_ _)); refine blk_put (cs := #[.int .u16 a0_0, .int .i64 3, .int .u16 a2, .int .i64 t121, .int .i64 0, .int .u32 0, .int .u32 0, .slice none 0 0]) ?_ 5 _ rfl; (with_reducible repeat (first | refine blk_drewN ?_ _ | refine blk_drew ?_ | refine blk_alloc ?_ _)); refine blk_put (cs := #[.int .u16 a0_0, .int .i64 3, .int .u16 a2, .int .i64 t121, .int .i64 0, .int .u32 0, .int .u32 0, .slice none 0 0]) ?_ 4 _ rfl; (with_reducible repeat (first | refine blk_drewN ?_ _ | refine blk_drew ?_ | refine blk_alloc ?_ _)); refine blk_put (cs := #[.int .u16 a0_0, .int .i64 3, .int .u16 a2, .int .i64 0, .int .i64 0, .int .u32 0, .int .u32 0, .slice none 0 0]) ?_ 3 _ rfl; (with_reducible repeat (first | refine blk_drewN ?_ _ | refine blk_drew ?_ | refine blk_alloc ?_ _)); refine blk_put (cs := #[.int .u16 a0_0, .int .i64 3, .int .u16 0, .int .i64 0, .int .i64 0, .int .u32 0, .int .u32 0, .slice none 0 0]) ?_ 2 _ rfl; (with_reducible repeat (first | refine blk_drewN ?_ _ | refine blk_drew ?_ | refine blk_alloc ?_ _)); refine blk_put (cs := #[.int .u16 a0_0, .int .i64 0, .int .u16 0, .int .i64 0, .int .i64 0, .int .u32 0, .int .u32 0, .slice none 0 0]) ?_ 1 _ rfl; (with_reducible repeat (first | refine blk_drewN ?_ _ | refine blk_drew ?_ | refine blk_alloc ?_ _)); refine blk_put (cs := #[.int .u16 0, .int .i64 0, .int .u16 0, .int .i64 0, .int .i64 0, .int .u32 0, .int .u32 0, .slice none 0 0]) ?_ 0 _ rfl; (with_reducible repeat (first | refine blk_drewN ?_ _ | refine blk_drew ?_ | refine blk_alloc ?_ _)); refine blk_far ?_ NB120_119.out _; (with_reducible repeat (first | refine blk_drewN ?_ _ | refine blk_drew ?_ | refine blk_alloc ?_ _)); refine blk_far ?_ NB120_119.out _; (with_reducible repeat (first | refine blk_drewN ?_ _ | refine blk_drew ?_ | refine blk_alloc ?_ _)); refine blk_far ?_ NB120_119.out _; (with_reducible repeat (first | refine blk_drewN ?_ _ | refine blk_drew ?_ | refine blk_alloc ?_ _)); refine blk_far ?_ NB120_119.out _; (with_reducible repeat (first | refine blk_drewN ?_ _ | refine blk_drew ?_ | refine blk_alloc ?_ _)); refine blk_far ?_ NB120_119.out _; (with_reducible repeat (first | refine blk_drewN ?_ _ | refine blk_drew ?_ | refine blk_alloc ?_ _)); exact BK120.out) Try.underlying33 rfl (by kernel_rfl)) rfl ?_
    exact ⟨_, by first | rfl | (simp [errW_none, errW_some] <;> rfl) | (simp [*, errW_none, errW_some] <;> rfl), by (with_reducible repeat (first | apply Kd.V_alloc | apply Kd.V_drewN | apply Kd.V_drew)); exact Kd.V_mono (Kd.V_far (p := ⟨gb120, 7, none⟩) (Kd.V_far (p := ⟨gb120, 6, none⟩) (Kd.V_far (p := ⟨gb120, 5, none⟩) (Kd.V_far (p := ⟨gb120, 4, none⟩) (Kd.V_far (p := ⟨gb120, 3, none⟩) (Kd.V_far (p := ⟨gb120, 2, none⟩) (Kd.V_far (p := ⟨gb120, 1, none⟩) (Kd.V_far (p := ⟨gb120, 0, none⟩) (Kd.V_far (p := ⟨gb119, 1, none⟩) (Kd.V_far (p := ⟨gb119, 1, none⟩) (Kd.V_far (p := ⟨gb119, 4, none⟩) (Kd.V_far (p := ⟨gb119, 3, none⟩) (Kd.V_far (p := ⟨gb119, 2, none⟩) (Kd.V_mono (Kd.V_mono HO0_7.out (fun k_ hk => (⟨hk, hk.1.2⟩ : _ ∧ k_ ≠ gb119))) (fun k_ hk => (⟨hk, hk.1.2⟩ : _ ∧ k_ ≠ gb120))) (fun _ hk => hk.1.2) (.int .u16 a2)) (fun _ hk => hk.1.2) (.int .i64 t121)) (fun _ hk => hk.1.2) (.int .i64 0)) (fun _ hk => hk.1.2) (.int .i64 2)) (fun _ hk => hk.1.2) (.int .i64 3)) (fun _ hk => hk.2) (.int .u16 a0_0)) (fun _ hk => hk.2) (.int .i64 3)) (fun _ hk => hk.2) (.int .u16 a2)) (fun _ hk => hk.2) (.int .i64 t121)) (fun _ hk => hk.2) (.int .i64 0)) (fun _ hk => hk.2) (.int .u32 a0_5)) (fun _ hk => hk.2) (.int .u32 a0_6)) (fun _ hk => hk.2) (.slice A0_7 l0_7.length c0_7)) (fun _ hk => hk.1.1.1.1), by repeat (first | (with_reducible first | exact HB.out | apply below_alloc | apply pw_below_drewN | apply below_drew1 | refine below_set ?_ GE119.out | refine below_set ?_ GE120.out) | exact HB.out)⟩
  · rw [if_neg c6] at H
    have c6b0 : (t121 == 0) = false := beq_eq_false_iff_ne.mpr c6
    have c6b1 : (t121 != 0) = true := bne_iff_ne.mpr c6
    simp only [Option.some.injEq, Prod.mk.injEq] at H
    obtain ⟨rfl, rfl, rfl, rfl, rfl, rfl, rfl, rfl, rfl⟩ := H
    go_enter Try.func15, Try.ntmps15
    go_wp2_with (first | ((with_reducible refine gate_dst (N := 4) rfl ?_); refine box_event ?hg (N := 4) ?hd (cs := #[.int .u16 a0_0, .int .i64 a0_1, .int .u16 a0_2, .int .i64 a0_3, .int .i64 a0_4, .int .u32 a0_5, .int .u32 a0_6, .slice A0_7 l0_7.length c0_7]) (t := 33) ?hr ?_; (case hd => rfl); (case hg => rfl); (case hr => first | (go_simp; done) | (go_simp; rfl)); intro gb119 hg w12 hbox hb; have n0_ := Aside0.mk (Kd.V_below (Kd.V_elderB (by (with_reducible repeat (first | apply Kd.V_alloc | apply Kd.V_drewN | apply Kd.V_drew)); exact HO0_7.out) gb119 (Nat.le_of_eq hg.symm)) hb); have n1_ := Aside0.mk (below_step (by repeat (first | (with_reducible first | exact HB.out | apply below_alloc | apply pw_below_drewN | apply below_drew1) | exact HB.out)) hb); have n2_ := Aside0.mk (hbox); have n3_ := Aside0.mk ((by rw [hg]; exact (below_size (by repeat (first | (with_reducible first | exact HB.out | apply below_alloc | apply pw_below_drewN | apply below_drew1) | exact HB.out))) : w.heap.size ≤ gb119)); have n4_ := Aside0.mk ((by rw [hg]; exact (below_size (by repeat (first | (with_reducible first | exact HB.out | apply below_alloc | apply pw_below_drewN | apply below_drew1) | exact HB.out))) : w.heap.size ≤ gb119)); clear HO0_7; clear HB; have HO0_7 := n0_; have HB := n1_; have BK119 := n2_; have GW119 := n3_; have GE119 := n4_; clear n0_ n1_ n2_ n3_ n4_; clear hb hbox hg) | ((with_reducible refine gate_dst (N := 8) rfl ?_); refine box_event ?hg (N := 8) ?hd (cs := #[.int .u16 0, .int .i64 0, .int .u16 0, .int .i64 0, .int .i64 0, .int .u32 0, .int .u32 0, .slice none 0 0]) (t := 33) ?hr ?_; (case hd => rfl); (case hg => rfl); (case hr => first | (go_simp; done) | (go_simp; rfl)); intro gb120 hg w13 hbox hb; have n0_ := Aside0.mk (Kd.V_below (Kd.V_elderB (by (with_reducible repeat (first | apply Kd.V_alloc | apply Kd.V_drewN | apply Kd.V_drew)); exact HO0_7.out) gb120 (Nat.le_of_eq hg.symm)) hb); have n1_ := Aside0.mk (blk_below (g := gb119) (o := .cells #[.int .u16 a0_0, .int .i64 a0_1, .int .u16 a0_2, .int .i64 a0_3, .int .i64 a0_4, .int .u32 a0_5, .int .u32 a0_6, .slice A0_7 l0_7.length c0_7] 33 (0, 0)) (by (with_reducible repeat (first | refine blk_drewN ?_ _ | refine blk_drew ?_ | refine blk_alloc ?_ _)); exact BK119.out) hb); have n2_ := Aside0.mk (below_step (by repeat (first | (with_reducible first | exact HB.out | apply below_alloc | apply pw_below_drewN | apply below_drew1 | refine below_set ?_ GE119.out) | exact HB.out)) hb); have n3_ := Aside0.mk (hbox); have n4_ := Aside0.mk ((by rw [hg]; exact (below_size (by repeat (first | (with_reducible first | exact HB.out | apply below_alloc | apply pw_below_drewN | apply below_drew1 | refine below_set ?_ GE119.out) | exact HB.out))) : w.heap.size ≤ gb120)); have n5_ := Aside0.mk ((by rw [hg]; exact (below_size (by repeat (first | (with_reducible first | exact HB.out | apply below_alloc | apply pw_below_drewN | apply below_drew1 | refine below_set ?_ GE119.out) | exact HB.out))) : w.heap.size ≤ gb120)); have n6_ := Aside0.mk ((by rw [hg]; exact Nat.ne_of_lt (blk_lt (g := gb119) (o := .cells #[.int .u16 a0_0, .int .i64 a0_1, .int .u16 a0_2, .int .i64 a0_3, .int .i64 a0_4, .int .u32 a0_5, .int .u32 a0_6, .slice A0_7 l0_7.length c0_7] 33 (0, 0)) (by (with_reducible repeat (first | refine blk_drewN ?_ _ | refine blk_drew ?_ | refine blk_alloc ?_ _)); exact BK119.out)) : gb119 ≠ gb120)); have n7_ := Aside0.mk ((by rw [hg]; exact Nat.ne_of_gt (blk_lt (g := gb119) (o := .cells #[.int .u16 a0_0, .int .i64 a0_1, .int .u16 a0_2, .int .i64 a0_3, .int .i64 a0_4, .int .u32 a0_5, .int .u32 a0_6, .slice A0_7 l0_7.length c0_7] 33 (0, 0)) (by (with_reducible repeat (first | refine blk_drewN ?_ _ | refine blk_drew ?_ | refine blk_alloc ?_ _)); exact BK119.out)) : gb120 ≠ gb119)); clear HO0_7; clear BK119; clear HB; have HO0_7 := n0_; have BK119 := n1_; have HB := n2_; have BK120 := n3_; have GW120 := n4_; have GE120 := n5_; have NB119_120 := n6_; have NB120_119 := n7_; clear n0_ n1_ n2_ n3_ n4_ n5_ n6_ n7_; clear hb hbox hg) | ((with_reducible refine gate_callee (f := 25) rfl ?_); refine goesL_ (some 13) rfl rfl Try.func25 (by kernel_rfl) rfl #[.int .u16 a1, .int .u16 a2] rfl (by (try simp only [List.map_toArray, List.map_cons, List.map_nil]); first | done | rfl | (simp only [List.length_drop, List.length_take]; rfl)) ?_; (with_reducible refine (vers_Best.calls a1 a2 t121 _ A5.out).mono ?_); rintro e w' ⟨rfl, ⟨nd, rfl⟩⟩; refine ⟨_, rfl, ?_⟩; (try (rw [drewN_self w13]; generalize hq_ : World.drewN w13 _ = w13; have n0_ := Aside0.mk (V_atq hq_ HO0_7.out); have n1_ := Aside0.mk (blk_at hq_ BK119.out); have n2_ := Aside0.mk (blk_at hq_ BK120.out); have n3_ := Aside0.mk (below_at hq_ HB.out); clear hq_ HO0_7 BK119 BK120 HB; have HO0_7 := n0_; have BK119 := n1_; have BK120 := n2_; have HB := n3_; clear n0_ n1_ n2_ n3_)); have hnb14 := NB119_120.out; have hnc14 := NB120_119.out; have hcz15_0 : w13.cell? ⟨gb119, 0, none⟩ = some (.int .u16 a0_0) := (blk_cell BK119.out 0).trans rfl; have hcz15_1 : w13.cell? ⟨gb119, 1, none⟩ = some (.int .i64 a0_1) := (blk_cell BK119.out 1).trans rfl; have hcz15_2 : w13.cell? ⟨gb119, 2, none⟩ = some (.int .u16 a0_2) := (blk_cell BK119.out 2).trans rfl; have hcz15_3 : w13.cell? ⟨gb119, 3, none⟩ = some (.int .i64 a0_3) := (blk_cell BK119.out 3).trans rfl; have hcz15_4 : w13.cell? ⟨gb119, 4, none⟩ = some (.int .i64 a0_4) := (blk_cell BK119.out 4).trans rfl; have hcz15_5 : w13.cell? ⟨gb119, 5, none⟩ = some (.int .u32 a0_5) := (blk_cell BK119.out 5).trans rfl; have hcz15_6 : w13.cell? ⟨gb119, 6, none⟩ = some (.int .u32 a0_6) := (blk_cell BK119.out 6).trans rfl; have hcz15_7 : w13.cell? ⟨gb119, 7, none⟩ = some (.slice A0_7 l0_7.length c0_7) := (blk_cell BK119.out 7).trans rfl; have hfz15_0 := blk_frozen BK119.out 0; have hfz15_1 := blk_frozen BK119.out 1; have hfz15_2 := blk_frozen BK119.out 2; have hfz15_3 := blk_frozen BK119.out 3; have hfz15_4 := blk_frozen BK119.out 4; have hfz15_5 := blk_frozen BK119.out 5; have hfz15_6 := blk_frozen BK119.out 6; have hfz15_7 := blk_frozen BK119.out 7; have hcz16_0 : w13.cell? ⟨gb120, 0, none⟩ = some (.int .u16 0) := (blk_cell BK120.out 0).trans rfl; have hcz16_1 : w13.cell? ⟨gb120, 1, none⟩ = some (.int .i64 0) := (blk_cell BK120.out 1).trans rfl; have hcz16_2 : w13.cell? ⟨gb120, 2, none⟩ = some (.int .u16 0) := (blk_cell BK120.out 2).trans rfl; have hcz16_3 : w13.cell? ⟨gb120, 3, none⟩ = some (.int .i64 0) := (blk_cell BK120.out 3).trans rfl; have hcz16_4 : w13.cell? ⟨gb120, 4, none⟩ = some (.int .i64 0) := (blk_cell BK120.out 4).trans rfl; have hcz16_5 : w13.cell? ⟨gb120, 5, none⟩ = some (.int .u32 0) := (blk_cell BK120.out 5).trans rfl; have hcz16_6 : w13.cell? ⟨gb120, 6, none⟩ = some (.int .u32 0) := (blk_cell BK120.out 6).trans rfl; have hcz16_7 : w13.cell? ⟨gb120, 7, none⟩ = some (.slice none 0 0) := (blk_cell BK120.out 7).trans rfl; have hfz16_0 := blk_frozen BK120.out 0; have hfz16_1 := blk_frozen BK120.out 1; have hfz16_2 := blk_frozen BK120.out 2; have hfz16_3 := blk_frozen BK120.out 3; have hfz16_4 := blk_frozen BK120.out 4; have hfz16_5 := blk_frozen BK120.out 5; have hfz16_6 := blk_frozen BK120.out 6; have hfz16_7 := blk_frozen BK120.out 7) | ((first | (with_reducible refine gate_dst (N := 22) rfl ?_)); refine wpList_load_row rfl 33 (.tmp 4) rfl gb119 rfl 33 #[.int .u16 a0_0, .int .i64 2, .int .u16 a2, .int .i64 t121, .int .i64 0, .int .u32 a0_5, .int .u32 a0_6, .slice A0_7 l0_7.length c0_7] (0, 0) _ (Eq.trans (by with_reducible first | exact (blk_set (blk_set (blk_set (BK119.out) _ _) _ _) _ _) | exact (blk_set (blk_set (blk_set (blk_set (BK119.out) _ _) _ _) _ _) _ _) | exact (blk_set (blk_set (blk_set (blk_set (blk_set (BK119.out) _ _) _ _) _ _) _ _) _ _) | exact (blk_set (blk_set (blk_set (blk_set (blk_set (blk_set (BK119.out) _ _) _ _) _ _) _ _) _ _) _ _) | exact (blk_set (blk_set (blk_set (blk_set (blk_set (blk_set (blk_set (BK119.out) _ _) _ _) _ _) _ _) _ _) _ _) _ _) | exact (blk_set (blk_set (blk_set (blk_set (blk_set (blk_set (blk_set (blk_set (BK119.out) _ _) _ _) _ _) _ _) _ _) _ _) _ _) _ _)) (by rfl)) Try.underlying33 rfl (by kernel_rfl) ?_))
    refine bodyPost_ret (results_ct rfl _ _ gb120 33 #[.int .u16 a0_0, .int .i64 2, .int .u16 a2, .int .i64 t121, .int .i64 0, .int .u32 a0_5, .int .u32 a0_6, .slice A0_7 l0_7.length c0_7] (0, 0) _ rfl (by (with_reducible repeat (first | refine blk_drewN ?_ _ | refine blk_drew ?_ | refine blk_alloc ?_ _)); refine blk_put (cs := #[.int .u16 a0_0, .int .i64 2, .int .u16 a2, .int .i64 t121, .int .i64 0, .int .u32 a0_5, .int .u32 a0_6, .slice none 0 0]) ?_ 7 _ rfl; (with_reducible repeat (first | refine blk_drewN ?_ _ | refine blk_drew ?_ | refine blk_alloc ?_ _)); refine blk_put (cs := #[.int .u16 a0_0, .int .i64 2, .int .u16 a2, .int .i64 t121, .int .i64 0, .int .u32 a0_5, .int .u32 0, .slice none 0 0]) ?_ 6 _ rfl; (with_reducible repeat (first | refine blk_drewN ?_ _ | refine blk_drew ?_ | refine blk_alloc ?_ _)); refine blk_put (cs := #[.int .u16 a0_0, .int .i64 2, .int .u16 a2, .int .i64 t121, .int .i64 0, .int .u32 0, .int .u32 0, .slice none 0 0]) ?_ 5 _ rfl; (with_reducible repeat (first | refine blk_drewN ?_ _ | refine blk_drew ?_ | refine blk_alloc ?_ _)); refine blk_put (cs := #[.int .u16 a0_0, .int .i64 2, .int .u16 a2, .int .i64 t121, .int .i64 0, .int .u32 0, .int .u32 0, .slice none 0 0]) ?_ 4 _ rfl; (with_reducible repeat (first | refine blk_drewN ?_ _ | refine blk_drew ?_ | refine blk_alloc ?_ _)); refine blk_put (cs := #[.int .u16 a0_0, .int .i64 2, .int .u16 a2, .int .i64 0, .int .i64 0, .int .u32 0, .int .u32 0, .slice none 0 0]) ?_ 3 _ rfl; (with_reducible repeat (first | refine blk_drewN ?_ _ | refine blk_drew ?_ | refine blk_alloc ?_ _)); refine blk_put (cs := #[.int .u16 a0_0, .int .i64 2, .int .u16 0, .int .i64 0, .int .i64 0, .int .u32 0, .int .u32 0, .slice none 0 0]) ?_ 2 _ rfl; (with_reducible repeat (first | refine blk_drewN ?_ _ | refine blk_drew ?_ | refine blk_alloc ?_ _)); refine blk_put (cs := #[.int .u16 a0_0, .int .i64 0, .int .u16 0, .int .i64 0, .int .i64 0, .int .u32 0, .int .u32 0, .slice none 0 0]) ?_ 1 _ rfl; (with_reducible repeat (first | refine blk_drewN ?_ _ | refine blk_drew ?_ | refine blk_alloc ?_ _)); refine blk_put (cs := #[.int .u16 0, .int .i64 0, .int .u16 0, .int .i64 0, .int .i64 0, .int .u32 0, .int .u32 0, .slice none 0 0]) ?_ 0 _ rfl; (with_reducible repeat (first | refine blk_drewN ?_ _ | refine blk_drew ?_ | refine blk_alloc ?_ _)); refine blk_far ?_ NB120_119.out _; (with_reducible repeat (first | refine blk_drewN ?_ _ | refine blk_drew ?_ | refine blk_alloc ?_ _)); refine blk_far ?_ NB120_119.out _; (with_reducible repeat (first | refine blk_drewN ?_ _ | refine blk_drew ?_ | refine blk_alloc ?_ _)); refine blk_far ?_ NB120_119.out _; (with_reducible repeat (first | refine blk_drewN ?_ _ | refine blk_drew ?_ | refine blk_alloc ?_ _)); refine blk_far ?_ NB120_119.out _; (with_reducible repeat (first | refine blk_drewN ?_ _ | refine blk_drew ?_ | refine blk_alloc ?_ _)); exact BK120.out) Try.underlying33 rfl (by kernel_rfl)) rfl ?_
    exact ⟨_, by first | rfl | (simp [errW_none, errW_some] <;> rfl) | (simp [*, errW_none, errW_some] <;> rfl), by (with_reducible repeat (first | apply Kd.V_alloc | apply Kd.V_drewN | apply Kd.V_drew)); exact Kd.V_mono (Kd.V_far (p := ⟨gb120, 7, none⟩) (Kd.V_far (p := ⟨gb120, 6, none⟩) (Kd.V_far (p := ⟨gb120, 5, none⟩) (Kd.V_far (p := ⟨gb120, 4, none⟩) (Kd.V_far (p := ⟨gb120, 3, none⟩) (Kd.V_far (p := ⟨gb120, 2, none⟩) (Kd.V_far (p := ⟨gb120, 1, none⟩) (Kd.V_far (p := ⟨gb120, 0, none⟩) (Kd.V_far (p := ⟨gb119, 1, none⟩) (Kd.V_far (p := ⟨gb119, 4, none⟩) (Kd.V_far (p := ⟨gb119, 3, none⟩) (Kd.V_far (p := ⟨gb119, 2, none⟩) (Kd.V_mono (Kd.V_mono HO0_7.out (fun k_ hk => (⟨hk, hk.1.2⟩ : _ ∧ k_ ≠ gb119))) (fun k_ hk => (⟨hk, hk.1.2⟩ : _ ∧ k_ ≠ gb120))) (fun _ hk => hk.1.2) (.int .u16 a2)) (fun _ hk => hk.1.2) (.int .i64 t121)) (fun _ hk => hk.1.2) (.int .i64 0)) (fun _ hk => hk.1.2) (.int .i64 2)) (fun _ hk => hk.2) (.int .u16 a0_0)) (fun _ hk => hk.2) (.int .i64 2)) (fun _ hk => hk.2) (.int .u16 a2)) (fun _ hk => hk.2) (.int .i64 t121)) (fun _ hk => hk.2) (.int .i64 0)) (fun _ hk => hk.2) (.int .u32 a0_5)) (fun _ hk => hk.2) (.int .u32 a0_6)) (fun _ hk => hk.2) (.slice A0_7 l0_7.length c0_7)) (fun _ hk => hk.1.1.1.1), by repeat (first | (with_reducible first | exact HB.out | apply below_alloc | apply pw_below_drewN | apply below_drew1 | refine below_set ?_ GE119.out | refine below_set ?_ GE120.out) | exact HB.out)⟩

end Go.Proofs.Ytpopljbpbobgfaa.PNegoAgrees
