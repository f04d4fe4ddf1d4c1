/- Written by a program of this session (a turned copy of the kit's print): functions of the program, each with the Lean function that it comes to, and the row of one law. No condition. -/
import Derived.Test.YtekcnfngcgchcaaPBenPrintsx0
import Derived.Test.YtekcnfngcgchcaaPBenPrintsx3
import Derived.Test.YtekcnfngcgchcaaPBenPrintsx4
namespace Go.Proofs.Ytekcnfngcgchcaa.PBenPrints
open Go.RowKit Go.Proofs.YtekcnfngcgchcaaW.PrintWords Go.Proofs.YtekcnfngcgchcaaW.PrintLast Go.Proofs.YtekcnfngcgchcaaW.PrintMore
attribute [local go_sem] max2_int min2_int max_two min_two max_three min_three max_four min_four   -- for this text's walks alone
set_option linter.unusedVariables false
set_option linter.unusedSimpArgs false


/-! ### ben_Parse: function 11 -/
theorem infoU5 : (Try.prog.info? 5).map (fun i => (i.zero, i.size, i.bytes)) = some (some (.int .u8 0), 1, 1) := by kernel_rfl
/-! ### interface values: what a test of the type tells -/
theorem ta_hit56 (v : Value) (W : World) : (Instr.typeAssert (.iface 56 v) 20 56 true).run Try.prog W = .ok (.tuple #[v, .bool true]) W := by kernel_rfl
theorem ta_hit57 (v : Value) (W : World) : (Instr.typeAssert (.iface 57 v) 20 57 true).run Try.prog W = .ok (.tuple #[v, .bool true]) W := by kernel_rfl
theorem ta_hit9 (v : Value) (W : World) : (Instr.typeAssert (.iface 9 v) 20 9 true).run Try.prog W = .ok (.tuple #[v, .bool true]) W := by kernel_rfl
theorem ta_hit60 (v : Value) (W : World) : (Instr.typeAssert (.iface 60 v) 20 60 true).run Try.prog W = .ok (.tuple #[v, .bool true]) W := by kernel_rfl
theorem ta_57_56 (v : Value) (W : World) : (Instr.typeAssert (.iface 57 v) 20 56 true).run Try.prog W = .ok (.tuple #[.agg #[.int .i64 0], .bool false]) W := by kernel_rfl
theorem ta_9_56 (v : Value) (W : World) : (Instr.typeAssert (.iface 9 v) 20 56 true).run Try.prog W = .ok (.tuple #[.agg #[.int .i64 0], .bool false]) W := by kernel_rfl
theorem ta_60_56 (v : Value) (W : World) : (Instr.typeAssert (.iface 60 v) 20 56 true).run Try.prog W = .ok (.tuple #[.agg #[.int .i64 0], .bool false]) W := by kernel_rfl
theorem ta_56_57 (v : Value) (W : World) : (Instr.typeAssert (.iface 56 v) 20 57 true).run Try.prog W = .ok (.tuple #[.int .i64 0, .bool false]) W := by kernel_rfl
theorem ta_9_57 (v : Value) (W : World) : (Instr.typeAssert (.iface 9 v) 20 57 true).run Try.prog W = .ok (.tuple #[.int .i64 0, .bool false]) W := by kernel_rfl
theorem ta_60_57 (v : Value) (W : World) : (Instr.typeAssert (.iface 60 v) 20 57 true).run Try.prog W = .ok (.tuple #[.int .i64 0, .bool false]) W := by kernel_rfl
theorem ta_56_9 (v : Value) (W : World) : (Instr.typeAssert (.iface 56 v) 20 9 true).run Try.prog W = .ok (.tuple #[.string ⟨#[]⟩, .bool false]) W := by kernel_rfl
theorem ta_57_9 (v : Value) (W : World) : (Instr.typeAssert (.iface 57 v) 20 9 true).run Try.prog W = .ok (.tuple #[.string ⟨#[]⟩, .bool false]) W := by kernel_rfl
theorem ta_60_9 (v : Value) (W : World) : (Instr.typeAssert (.iface 60 v) 20 9 true).run Try.prog W = .ok (.tuple #[.string ⟨#[]⟩, .bool false]) W := by kernel_rfl
theorem ta_56_60 (v : Value) (W : World) : (Instr.typeAssert (.iface 56 v) 20 60 true).run Try.prog W = .ok (.tuple #[.int .u8 0, .bool false]) W := by kernel_rfl
theorem ta_57_60 (v : Value) (W : World) : (Instr.typeAssert (.iface 57 v) 20 60 true).run Try.prog W = .ok (.tuple #[.int .u8 0, .bool false]) W := by kernel_rfl
theorem ta_9_60 (v : Value) (W : World) : (Instr.typeAssert (.iface 9 v) 20 60 true).run Try.prog W = .ok (.tuple #[.int .u8 0, .bool false]) W := by kernel_rfl
attribute [local go_sem] ta_hit56 ta_hit57 ta_hit9 ta_hit60 ta_57_56 ta_9_56 ta_60_56 ta_56_57 ta_9_57 ta_60_57 ta_56_9 ta_57_9 ta_60_9 ta_56_60 ta_57_60 ta_9_60
/-! ### ben.reader: what is left of bytes that are read -/
/-- a reader's struct at block g of W: what is left lay there by w0 -/
structure RbS (w0 W : World) (g : Nat) (rest : List Int) : Prop where
  ex : ∃ A c, W.heap[g]? = some (.cells #[.slice A rest.length c] 45 (0, 0)) ∧ rest.length ≤ c ∧ (Kd.int .u8).C w0 A rest.length rest
  ge : w0.heap.size ≤ g
  small : rest.length < 140737488355328
  bel : Below w0.heap.size w0 W
theorem RbS.later {w0 W W1 : World} {g : Nat} {rest : List Int} (h : RbS w0 W g rest) (hb : Below W.heap.size W W1) : RbS w0 W1 g rest := by
  obtain ⟨A, c, hg, hc, hC⟩ := h.ex
  exact ⟨⟨A, c, blk_below hg hb, hc, hC⟩, h.ge, h.small, below_step h.bel hb⟩
theorem RbS.drawnN {w0 W : World} {g : Nat} {rest : List Int} (h : RbS w0 W g rest) (n : Nat) : RbS w0 (W.drewN n) g rest :=
  ⟨h.ex, h.ge, h.small, pw_below_drewN h.bel n⟩
theorem RbS.put {w0 W : World} {g : Nat} {rest rest' : List Int} (h : RbS w0 W g rest) {A : Option Addr} {c : Nat} (hc : rest'.length ≤ c) (hC : (Kd.int .u8).C w0 A rest'.length rest') (hs : rest'.length < 140737488355328) : RbS w0 (W.setCell ⟨g, 0, none⟩ (.slice A rest'.length c)) g rest' := by
  obtain ⟨B, d, hg, hd, hD⟩ := h.ex
  exact ⟨⟨A, c, by simpa using blk_set hg 0 (.slice A rest'.length c), hc, hC⟩, h.ge, hs, h.bel.setCell h.ge _⟩
theorem below_self' {W W1 : World} (h : Below W.heap.size W W1) (g : Nat) : KeepBut W W1 g none := KeepBut.of_below h g none
/-- a part, as the reader tells it -/
inductive Pt where
  | wrong (e : Int)
  | num (n : Int)
  | text (s : ByteArray)
  | opn (c : Int)
def Pt.v : Pt → Value
  | .wrong e => .iface 56 (.agg #[.int .i64 e])
  | .num n => .iface 57 (.int .i64 n)
  | .text s => .iface 9 (.string s)
  | .opn c => .iface 60 (.int .u8 c)
def idxB (rest : List Int) (c : Int) : Int := Lib.indexByte (Lib.bytesOf rest) c.toNat.toUInt8
set_option maxHeartbeats 400000 in
set_option maxRecDepth 100000 in
theorem idx_nil (c : Nat) (cv : Int) (w : World) : Calls Try.prog 50 #[.slice none 0 c, .int .u8 cv] w fun e w' => e = .returned (.int .i64 (-1)) ∧ w' = w := by
  have L := Try.lays187
  have t3 := L.t3; have t5 := L.t5; have t37 := L.t37
  have a3 := L.a3; have a5 := L.a5; have a37 := L.a37
  have mixed := L.mixed; have z3 := L.z3; have v3 := L.v3; have z5 := L.z5; have v5 := L.v5; have z37 := L.z37; have v37 := L.v37
  go_enter Try.func50, Try.ntmps50
  go_wp2
  rw [run_callFunc_extern (f := 53) L.f255 (by kernel_rfl) (by kernel_rfl) (by kernel_rfl) (e := Extern.BytealgIndexByte.indexByte) (by kernel_rfl), Lib.run_indexByteNil w 0 c cv]
  simp only [Result.andThen]
  rw [Oper.upon_value]
  go_wp2
  go_ret
  exact ⟨rfl, rfl⟩
theorem ben_index (A : Option Addr) (c : Nat) (rest : List Int) (cv : Int) (w : World) (hC : (Kd.int .u8).C w A rest.length rest) : Calls Try.prog 50 #[.slice A rest.length c, .int .u8 cv] w fun e w' => e = .returned (.int .i64 (idxB rest cv)) ∧ w' = w := by
  have hr : ReadsInt w .u8 A rest.length rest := Kd.reads_of_C (enc := Value.int .u8) (d := (0 : Int)) (h1 := fun _ => rfl) hC
  cases A with
  | none =>
    have h0 : rest.length = 0 := by
      rcases Nat.eq_zero_or_pos rest.length with h | h
      · exact h
      · obtain ⟨ad, e, _⟩ := hr.2.2 h
        cases e
    obtain rfl : rest = [] := List.length_eq_zero_iff.1 h0
    exact idx_nil c cv w
  | some a =>
    refine Try.bytes_IndexByte_at a rest.length c rest cv w rfl (fun i hi => ?_)
    obtain ⟨ad, e, hc⟩ := hr.2.2 (by omega)
    cases e
    exact hc i hi
def ben_upTo.f (k : Nat) (rest : List Int) (c : Int) : Option (Pt × List Int) :=
  if idxB rest c < 0 then some (.wrong 2, rest) else if idxB rest c < (rest.length : Int) then ((num_Get.f k (strOfNums (rest.take (idxB rest c).toNat))).bind fun t => if t.2 = 0 then some (.num t.1, rest.drop ((idxB rest c).toNat + 1)) else some (.wrong 3, rest)) else none
set_option maxHeartbeats 1000000 in
set_option maxRecDepth 100000 in
theorem ben_upTo.calls (k g : Nat) (c : Int) (rest rest' : List Int) (p : Pt) (w0 w : World) (hI : RbS w0 w g rest) (h : ben_upTo.f k rest c = some (p, rest')) :
    Calls Try.prog 42 #[.pointer (some ⟨g, 0, none⟩), .int .u8 c] w fun e w' => e = .returned p.v ∧ RbS w0 w' g rest' ∧ KeepBut w w' g none := by
  have HI := Aside0.mk hI
  obtain ⟨A, cc, HG, hc, HS⟩ := hI.ex
  have h0 : w.cell? ⟨g, 0, none⟩ = some (.slice A rest.length cc) := (blk_cell HG 0).trans rfl
  have f0 := blk_frozen HG 0
  have hX := ben_index A cc rest c w (Kd.C_below HS hI.bel)
  have hu56 := Try.underlying56
  have hu57 := Try.underlying57
  obtain ⟨i, hi⟩ : ∃ i, idxB rest c = i := ⟨_, rfl⟩
  unfold ben_upTo.f at h
  rw [hi] at h hX
  have HX := Aside0.mk hX
  clear hX hi
  by_cases c1 : i < 0
  · rw [if_pos c1] at h
    cases h
    have d1 : decide (i < 0) = true := decide_eq_true c1
    clear c1 hc HS HG hI
    go_enter Try.func42, Try.ntmps42
    go_wp2_with (go_at_call 50; (with_reducible refine (HX.out).mono ?_); rintro e w1 ⟨rfl, rfl⟩)
    go_ret
    exact ⟨rfl, HI.out, KeepBut.refl _ _ _⟩
  rw [if_neg c1] at h
  by_cases c2 : i < rest.length
  case neg => rw [if_neg c2] at h; cases h
  rw [if_pos c2] at h
  obtain ⟨⟨n, e0⟩, hn, h⟩ := Option.bind_eq_some_iff.mp h
  have HN := Aside0.mk hn
  have d1 : decide (i < 0) = false := decide_eq_false c1
  obtain ⟨i5, hi5, he5⟩ := Option.map_eq_some_iff.1 infoU5
  have hz5 : i5.size = 1 := congrArg (fun p => p.2.1) he5
  have hs1 := cut_to (P := Try.prog) 28 5 .i64 Try.underlying28 hi5 A rest.length cc i (by omega) (by omega) hc
  have hst := Kd.C_string (P := Try.prog) (c := cc) Try.underlying28 Try.underlying5 Try.underlying9 (Kd.C_take (Kd.C_below HS hI.bel) (show i.toNat ≤ rest.length by omega))
  rw [List.length_take, Nat.min_eq_left (show i.toNat ≤ rest.length by omega)] at hst
  by_cases c3 : e0 = 0
  · rw [if_pos c3] at h
    cases h
    have d3 : (e0 != 0) = false := bne_eq_false_iff_eq.mpr c3
    have hs2 := cut_from (P := Try.prog) 28 5 .i64 Try.underlying28 hi5 1 hz5 A rest.length cc (i + 1) (by omega) (by omega)
    have hw1 : IntKind.i64.wrap (i + 1) = i + 1 := by simp only [IntKind.wrap, IntKind.bits, IntKind.signed]; simp; have := hI.small; omega
    rw [show (i + 1).toNat = i.toNat + 1 by omega] at hs2
    have HD0 := Kd.C_drop HS (show i.toNat + 1 ≤ rest.length by omega) hc
    obtain ⟨A2, hA2⟩ : ∃ A2, A2 = (if cc = i.toNat + 1 then A else A.map (·.add ((i.toNat + 1) * 1))) := ⟨_, rfl⟩
    rw [← hA2] at hs2
    have HD := Aside0.mk (show (Kd.int .u8).C w0 A2 (rest.drop (i.toNat + 1)).length (rest.drop (i.toNat + 1)) by rw [hA2]; exact HD0)
    have HL := Aside0.mk hc
    have HC2 := Aside0.mk c2
    clear c1 c2 c3 hc HS hI hi5 he5 hz5 hA2 HD0 hn
    go_enter Try.func42, Try.ntmps42
    go_wp2_with (first | (go_at_call 50; (with_reducible refine (HX.out).mono ?_); rintro e w1 ⟨rfl, rfl⟩) | (go_at_call 51; (with_reducible refine (num_Get.calls k _ n e0 _ HN.out).mono ?_); rintro e w2 ⟨rfl, ⟨nd, rfl⟩⟩))
    go_ret
    refine ⟨rfl, ?_, ?_⟩
    · have h3 := RbS.put (rest' := rest.drop (i.toNat + 1)) (HI.out.drawnN nd) (A := A2) (c := cc - (i.toNat + 1)) (by rw [List.length_drop]; have := HL.out; omega) HD.out (by rw [List.length_drop]; have := HI.out.small; omega)
      rw [List.length_drop] at h3
      exact h3
    · exact KeepBut.set_ (KeepBut.of_below (pw_below_drewN (Below.refl _ _) nd) g none) _ _
  · rw [if_neg c3] at h
    cases h
    have d3 : (e0 != 0) = true := bne_iff_ne.mpr c3
    clear c1 c2 c3 hc HS HG hI hi5 he5 hz5 hn
    go_enter Try.func42, Try.ntmps42
    go_wp2_with (first | (go_at_call 50; (with_reducible refine (HX.out).mono ?_); rintro e w1 ⟨rfl, rfl⟩) | (go_at_call 51; (with_reducible refine (num_Get.calls k _ n e0 _ HN.out).mono ?_); rintro e w2 ⟨rfl, ⟨nd, rfl⟩⟩))
    go_ret
    exact ⟨rfl, HI.out.drawnN nd, KeepBut.of_below (pw_below_drewN (Below.refl _ _) nd) g none⟩
def rb_text.f (k : Nat) (rest : List Int) : Option (Pt × List Int) :=
  (ben_upTo.f k rest 58).bind fun t => match t.1 with
    | .num n => if n > 1048576 then some (.wrong 5, t.2) else if n > (t.2.length : Int) then some (.wrong 2, t.2) else if 0 ≤ n then some (.text (strOfNums (t.2.take n.toNat)), t.2.drop n.toNat) else none
    | p => some (p, t.2)
set_option maxHeartbeats 1000000 in
set_option maxRecDepth 100000 in
theorem rb_text.calls (k g : Nat) (rest rest' : List Int) (p : Pt) (w0 w : World) (hI : RbS w0 w g rest) (h : rb_text.f k rest = some (p, rest')) :
    Calls Try.prog 41 #[.pointer (some ⟨g, 0, none⟩)] w fun e w' => e = .returned p.v ∧ RbS w0 w' g rest' ∧ KeepBut w w' g none := by
  have HI := Aside0.mk hI
  have hu56 := Try.underlying56
  have hu57 := Try.underlying57
  unfold rb_text.f at h
  obtain ⟨⟨q, r1⟩, hq, h⟩ := Option.bind_eq_some_iff.mp h
  have HQ := Aside0.mk hq
  clear hq hI
  cases q with
  | num n =>
    dsimp only at h
    by_cases c1 : n > 1048576
    · rw [if_pos c1] at h
      cases h
      have d1 : decide (1048576 < n) = true := decide_eq_true c1
      clear c1
      go_enter Try.func41, Try.ntmps41
      go_wp2_with (go_at_call 42; (with_reducible refine (ben_upTo.calls k g 58 rest rest' (.num n) w0 w HI.out HQ.out).mono ?_); rintro e w1 ⟨rfl, hI1, hK⟩; have HI1 := Aside0.mk hI1; have HK := Aside0.mk hK; clear hI1 hK; dsimp only [Pt.v])
      go_ret
      exact ⟨rfl, HI1.out, HK.out⟩
    rw [if_neg c1] at h
    have d1 : decide (1048576 < n) = false := decide_eq_false c1
    by_cases c2 : n > (r1.length : Int)
    · rw [if_pos c2] at h
      cases h
      have d2 : decide ((rest'.length : Int) < n) = true := decide_eq_true c2
      clear c1 c2
      go_enter Try.func41, Try.ntmps41
      go_wp2_with (go_at_call 42; (with_reducible refine (ben_upTo.calls k g 58 rest rest' (.num n) w0 w HI.out HQ.out).mono ?_); rintro e w1 ⟨rfl, hI1, hK⟩; obtain ⟨A1, c1, HG1, hc1, HS1⟩ := hI1.ex; have h1 : w1.cell? ⟨g, 0, none⟩ = some (.slice A1 rest'.length c1) := (blk_cell HG1 0).trans rfl; have HI1 := Aside0.mk hI1; have HK := Aside0.mk hK; clear hI1 hK HG1 hc1 HS1; dsimp only [Pt.v])
      go_ret
      exact ⟨rfl, HI1.out, HK.out⟩
    rw [if_neg c2] at h
    by_cases c3 : 0 ≤ n
    case neg => rw [if_neg c3] at h; cases h
    rw [if_pos c3] at h
    cases h
    have d2 : decide ((r1.length : Int) < n) = false := decide_eq_false c2
    obtain ⟨i5, hi5, he5⟩ := Option.map_eq_some_iff.1 infoU5
    have hz5 : i5.size = 1 := congrArg (fun p => p.2.1) he5
    have C1 := Aside0.mk c1
    have C2 := Aside0.mk (show n ≤ (r1.length : Int) by omega)
    have C3 := Aside0.mk c3
    have H5 := Aside0.mk hi5
    have Z5 := Aside0.mk hz5
    clear c1 c2 c3 hi5 he5 hz5
    go_enter Try.func41, Try.ntmps41
    go_wp2_with (go_at_call 42; (with_reducible refine (ben_upTo.calls k g 58 rest r1 (.num n) w0 w HI.out HQ.out).mono ?_); rintro e w1 ⟨rfl, hI1, hK⟩; obtain ⟨A1, c1, HG1, hc1, HS1⟩ := hI1.ex; have h1 : w1.cell? ⟨g, 0, none⟩ = some (.slice A1 r1.length c1) := (blk_cell HG1 0).trans rfl; have f1 := blk_frozen HG1 0; have hs1 := cut_to (P := Try.prog) 28 5 .i64 Try.underlying28 H5.out A1 r1.length c1 n C3.out C2.out hc1; have hs2 := cut_from (P := Try.prog) 28 5 .i64 Try.underlying28 H5.out 1 Z5.out A1 r1.length c1 n C3.out C2.out; have hst := Kd.C_string (P := Try.prog) (c := c1) Try.underlying28 Try.underlying5 Try.underlying9 (Kd.C_take (Kd.C_below HS1 hI1.bel) (show n.toNat ≤ r1.length by have := C2.out; omega)); rw [List.length_take, Nat.min_eq_left (show n.toNat ≤ r1.length by have := C2.out; omega)] at hst; have HD0 := Kd.C_drop HS1 (show n.toNat ≤ r1.length by have := C2.out; omega) hc1; obtain ⟨A2, hA2⟩ : ∃ A2, A2 = (if c1 = n.toNat then A1 else A1.map (·.add (n.toNat * 1))) := ⟨_, rfl⟩; rw [← hA2] at hs2; have HD := Aside0.mk (show (Kd.int .u8).C w0 A2 (r1.drop n.toNat).length (r1.drop n.toNat) by rw [hA2]; exact HD0); have HL := Aside0.mk hc1; have HI1 := Aside0.mk hI1; have HK := Aside0.mk hK; clear hI1 hK HG1 hc1 HS1 HD0 hA2; dsimp only [Pt.v])
    go_ret
    refine ⟨rfl, ?_, KeepBut.set_ HK.out _ _⟩
    have h3 := RbS.put (rest' := r1.drop n.toNat) HI1.out (A := A2) (c := c1 - n.toNat) (by rw [List.length_drop]; have := HL.out; omega) HD.out (by rw [List.length_drop]; have := HI1.out.small; omega)
    rw [List.length_drop] at h3
    exact h3
  | wrong e0 =>
    cases h
    go_enter Try.func41, Try.ntmps41
    go_wp2_with (go_at_call 42; (with_reducible refine (ben_upTo.calls k g 58 rest _ (.wrong e0) w0 w HI.out HQ.out).mono ?_); rintro e w1 ⟨rfl, hI1, hK⟩; have HI1 := Aside0.mk hI1; have HK := Aside0.mk hK; clear hI1 hK; dsimp only [Pt.v])
    go_ret
    exact ⟨rfl, HI1.out, HK.out⟩
  | text s =>
    cases h
    go_enter Try.func41, Try.ntmps41
    go_wp2_with (go_at_call 42; (with_reducible refine (ben_upTo.calls k g 58 rest _ (.text s) w0 w HI.out HQ.out).mono ?_); rintro e w1 ⟨rfl, hI1, hK⟩; have HI1 := Aside0.mk hI1; have HK := Aside0.mk hK; clear hI1 hK; dsimp only [Pt.v])
    go_ret
    exact ⟨rfl, HI1.out, HK.out⟩
  | opn c =>
    cases h
    go_enter Try.func41, Try.ntmps41
    go_wp2_with (go_at_call 42; (with_reducible refine (ben_upTo.calls k g 58 rest _ (.opn c) w0 w HI.out HQ.out).mono ?_); rintro e w1 ⟨rfl, hI1, hK⟩; have HI1 := Aside0.mk hI1; have HK := Aside0.mk hK; clear hI1 hK; dsimp only [Pt.v])
    go_ret
    exact ⟨rfl, HI1.out, HK.out⟩
def digB (c : Int) : Bool := decide (48 ≤ c) && decide (c ≤ 57)
theorem dig_f (c : Int) : ben_digit.f c = some (digB c) := by
  unfold ben_digit.f digB
  by_cases h : c ≥ 48
  · rw [if_pos h, decide_eq_true (show 48 ≤ c from h)]; rfl
  · rw [if_neg h, decide_eq_false (show ¬ 48 ≤ c from h)]; rfl
def rb_ends.f (rest : List Int) : Bool × List Int := match rest with
  | [] => (false, [])
  | c :: t => if c = 101 then (true, t) else (false, c :: t)
theorem add0 (a : Addr) : a.add 0 = a := by unfold Addr.add; split <;> simp_all
theorem C_cons {w : World} {A : Option Addr} {c : Int} {t : List Int} (h : (Kd.int .u8).C w A (c :: t).length (c :: t)) : ∃ ad, A = some ad ∧ w.cell? ad = some (.int .u8 c) := by
  have hr : ReadsInt w .u8 A (c :: t).length (c :: t) := Kd.reads_of_C (enc := Value.int .u8) (d := (0 : Int)) (h1 := fun _ => rfl) h
  exact hr.2.2 (by simp) |>.imp fun ad h => ⟨h.1, by have := h.2 0 (by simp); rwa [add0] at this⟩
set_option maxHeartbeats 1000000 in
set_option maxRecDepth 100000 in
theorem rb_ends.calls (g : Nat) (rest : List Int) (w0 w : World) (hI : RbS w0 w g rest) :
    Calls Try.prog 43 #[.pointer (some ⟨g, 0, none⟩)] w fun e w' => e = .returned (.bool (rb_ends.f rest).1) ∧ RbS w0 w' g (rb_ends.f rest).2 ∧ KeepBut w w' g none := by
  have HI := Aside0.mk hI
  obtain ⟨A, cc, HG, hc, HS⟩ := hI.ex
  have h0 : w.cell? ⟨g, 0, none⟩ = some (.slice A rest.length cc) := (blk_cell HG 0).trans rfl
  have f0 := blk_frozen HG 0
  have HSS := Kd.C_below HS hI.bel
  cases rest with
  | nil =>
    clear HG hc HS HSS hI
    dsimp only [rb_ends.f, List.length_nil] at h0 ⊢
    go_enter Try.func43, Try.ntmps43
    go_wp2
    go_ret
    exact ⟨rfl, HI.out, KeepBut.refl _ _ _⟩
  | cons c t =>
    obtain ⟨ad, rfl, hx⟩ := C_cons HSS
    have hz : (((c :: t).length : Int) == 0) = false := by simp; omega
    have hz' : ((c :: t).length == 0) = false := by simp
    have hl0 : (0 : Int) < ((c :: t).length : Int) := by simp
    by_cases c1 : c = 101
    · have d1 : (c != 101) = false := bne_eq_false_iff_eq.mpr c1
      obtain ⟨i5, hi5, he5⟩ := Option.map_eq_some_iff.1 infoU5
      have hz5 : i5.size = 1 := congrArg (fun p => p.2.1) he5
      have hs2 := cut_from (P := Try.prog) 28 5 .i64 Try.underlying28 hi5 1 hz5 (some ad) (c :: t).length cc 1 (by omega) (by simp only [List.length_cons]; omega)
      have HD0 := Kd.C_drop HS (show 1 ≤ (c :: t).length by simp) hc
      rw [show ((1 : Int)).toNat = 1 from rfl] at hs2
      obtain ⟨A2, hA2⟩ : ∃ A2, A2 = (if cc = 1 then some ad else (some ad).map (·.add (1 * 1))) := ⟨_, rfl⟩
      rw [← hA2] at hs2
      have HD := Aside0.mk (show (Kd.int .u8).C w0 A2 t.length t by rw [hA2]; exact HD0)
      have HL := Aside0.mk hc
      have hfx : rb_ends.f (c :: t) = (true, t) := if_pos c1
      rw [hfx]
      obtain ⟨n, hn⟩ : ∃ n, n = (c :: t).length := ⟨_, rfl⟩
      have HN := Aside0.mk (show n = t.length + 1 by rw [hn]; rfl)
      rw [← hn] at h0 hz hz' hl0 hs2
      clear c1 hc HS HG HSS hI hi5 he5 hz5 hA2 HD0 hfx hn
      go_enter Try.func43, Try.ntmps43
      go_wp2
      go_ret
      refine ⟨rfl, ?_, KeepBut.set_ (KeepBut.refl _ _ _) _ _⟩
      have h3 := RbS.put (rest' := t) HI.out (A := A2) (c := cc - 1) (by have := HL.out; simp only [List.length_cons] at this; omega) HD.out (by have := HI.out.small; simp only [List.length_cons] at this; omega)
      rw [show t.length = n - 1 by have := HN.out; omega] at h3
      exact h3
    · have d1 : (c != 101) = true := bne_iff_ne.mpr c1
      have hfx : rb_ends.f (c :: t) = (false, c :: t) := if_neg c1
      rw [hfx]
      obtain ⟨n, hn⟩ : ∃ n, n = (c :: t).length := ⟨_, rfl⟩
      rw [← hn] at h0 hz hz' hl0
      clear c1 hc HS HG HSS hI hfx hn
      go_enter Try.func43, Try.ntmps43
      go_wp2
      go_ret
      exact ⟨rfl, HI.out, KeepBut.refl _ _ _⟩
def rb_part.f (k : Nat) (rest : List Int) (level : Int) : Option (Pt × List Int) := match rest with
  | [] => some (.wrong 2, [])
  | c :: t => if c ≠ 105 ∧ c ≠ 108 ∧ c ≠ 100 ∧ digB c = false then some (.wrong 3, c :: t) else if level > 8 then some (.wrong 6, c :: t) else if digB c = true then rb_text.f k (c :: t) else if c = 105 then ben_upTo.f k t 101 else some (.opn c, t)
set_option maxHeartbeats 2000000 in
set_option maxRecDepth 100000 in
theorem rb_part.calls (k g : Nat) (rest rest' : List Int) (level : Int) (p : Pt) (w0 w : World) (hI : RbS w0 w g rest) (h : rb_part.f k rest level = some (p, rest')) :
    Calls Try.prog 28 #[.pointer (some ⟨g, 0, none⟩), .int .i64 level] w fun e w' => e = .returned p.v ∧ RbS w0 w' g rest' ∧ KeepBut w w' g none := by
  have HI := Aside0.mk hI
  have hu56 := Try.underlying56
  have hu57 := Try.underlying57
  have hu60 := Try.underlying60
  obtain ⟨A, cc, HG, hc, HS⟩ := hI.ex
  have h0 : w.cell? ⟨g, 0, none⟩ = some (.slice A rest.length cc) := (blk_cell HG 0).trans rfl
  have f0 := blk_frozen HG 0
  have HSS := Kd.C_below HS hI.bel
  cases rest with
  | nil =>
    cases h
    clear HG hc HS HSS hI
    dsimp only [List.length_nil] at h0
    go_enter Try.func28, Try.ntmps28
    go_wp2
    go_ret
    exact ⟨rfl, HI.out, KeepBut.refl _ _ _⟩
  | cons c t =>
    obtain ⟨ad, rfl, hx⟩ := C_cons HSS
    have hz : (((c :: t).length : Int) == 0) = false := by simp; omega
    have hz' : ((c :: t).length == 0) = false := by simp
    have hl0 : (0 : Int) < ((c :: t).length : Int) := by simp
    have hD := dig_f c
    have ec1 : (c != 105) = !(c == 105) := rfl
    dsimp only [rb_part.f] at h
    have HL := Aside0.mk hc
    have HC := Aside0.mk HS
    obtain ⟨n, hn⟩ : ∃ n, n = (c :: t).length := ⟨_, rfl⟩
    have HN := Aside0.mk (show n = t.length + 1 by rw [hn]; rfl)
    have HN' := Aside0.mk hn
    rw [← hn] at h0 hz hz' hl0
    obtain ⟨i5, hi5, he5⟩ := Option.map_eq_some_iff.1 infoU5
    have hz5 : i5.size = 1 := congrArg (fun p => p.2.1) he5
    have hs2 := cut_from (P := Try.prog) 28 5 .i64 Try.underlying28 hi5 1 hz5 (some ad) n cc 1 (by omega) (by have := HN.out; omega)
    have HD0 := Kd.C_drop HS (show 1 ≤ (c :: t).length by simp) hc
    rw [show ((1 : Int)).toNat = 1 from rfl] at hs2
    obtain ⟨A2, hA2⟩ : ∃ A2, A2 = (if cc = 1 then some ad else (some ad).map (·.add (1 * 1))) := ⟨_, rfl⟩
    rw [← hA2] at hs2
    have HD := Aside0.mk (show (Kd.int .u8).C w0 A2 t.length t by rw [hA2]; exact HD0)
    have HP : ∀ W, RbS w0 W g (c :: t) → Aside0 (RbS w0 (W.setCell ⟨g, 0, none⟩ (.slice A2 (n - 1) (cc - 1))) g t) := fun W hW => ⟨by
      have h3 := RbS.put (rest' := t) hW (A := A2) (c := cc - 1) (by have := HL.out; simp only [List.length_cons] at this; omega) HD.out (by have := HI.out.small; simp only [List.length_cons] at this; omega)
      rw [show t.length = n - 1 by have := HN.out; omega] at h3
      exact h3⟩
    have HPP := Aside0.mk HP
    clear hc HS HG HSS hI hi5 he5 hz5 hA2 HD0 hn HP
    have fin : ∀ {W : World}, KeepBut w W g none → KeepBut w W g none := fun h => h
    have e0 : (c != 105) = decide (c ≠ 105) := by by_cases hh : c = 105 <;> simp [hh]
    by_cases a1 : c = 105
    · subst a1
      rw [if_neg (by simp)] at h
      rw [show digB 105 = false from rfl] at h hD
      by_cases c2 : level > 8
      · rw [if_pos c2] at h
        cases h
        have d2 : decide (8 < level) = true := decide_eq_true c2
        clear c2 ec1 e0
        go_enter Try.func28, Try.ntmps28
        go_wp2
        go_ret
        exact ⟨rfl, HI.out, KeepBut.refl _ _ _⟩
      · rw [if_neg c2, if_neg (by simp), if_pos rfl] at h
        have d2 : decide (8 < level) = false := decide_eq_false c2
        have HH := Aside0.mk h
        clear c2 h ec1 e0
        go_enter Try.func28, Try.ntmps28
        go_wp2_with (first | (go_at_call 40; (with_reducible refine (ben_digit.calls 105 false _ hD).mono ?_); rintro e w1 ⟨rfl, ⟨nd, rfl⟩⟩) | (go_at_call 42; (with_reducible refine (ben_upTo.calls k g 101 t rest' p w0 _ (HPP.out _ (HI.out.drawnN _)).out HH.out).mono ?_); rintro e w1 ⟨rfl, hI1, hK⟩; have HI1 := Aside0.mk hI1; have HK := Aside0.mk hK; clear hI1 hK))
        go_ret
        exact ⟨rfl, HI1.out, (KeepBut.set_ (KeepBut.of_below (pw_below_drewN (Below.refl _ _) nd) g none) _ _).trans HK.out (.inl rfl)⟩
    by_cases a108 : c = 108
    · subst a108
      rw [if_neg (by simp)] at h
      rw [show digB 108 = false from rfl] at h hD
      by_cases c2 : level > 8
      · rw [if_pos c2] at h
        cases h
        have d2 : decide (8 < level) = true := decide_eq_true c2
        clear c2 ec1 e0
        go_enter Try.func28, Try.ntmps28
        go_wp2
        go_ret
        exact ⟨rfl, HI.out, KeepBut.refl _ _ _⟩
      · rw [if_neg c2, if_neg (by simp), if_neg (by decide)] at h
        have d2 : decide (8 < level) = false := decide_eq_false c2
        cases h
        clear c2 ec1 e0
        go_enter Try.func28, Try.ntmps28
        go_wp2_with (first | (go_at_call 40; (with_reducible refine (ben_digit.calls 108 false _ hD).mono ?_); rintro e w1 ⟨rfl, ⟨nd, rfl⟩⟩))
        go_ret
        exact ⟨rfl, (HPP.out _ (HI.out.drawnN _)).out, KeepBut.set_ (KeepBut.of_below (pw_below_drewN (Below.refl _ _) nd) g none) _ _⟩
    by_cases a100 : c = 100
    · subst a100
      rw [if_neg (by simp)] at h
      rw [show digB 100 = false from rfl] at h hD
      by_cases c2 : level > 8
      · rw [if_pos c2] at h
        cases h
        have d2 : decide (8 < level) = true := decide_eq_true c2
        clear c2 ec1 e0
        go_enter Try.func28, Try.ntmps28
        go_wp2
        go_ret
        exact ⟨rfl, HI.out, KeepBut.refl _ _ _⟩
      · rw [if_neg c2, if_neg (by simp), if_neg (by decide)] at h
        have d2 : decide (8 < level) = false := decide_eq_false c2
        cases h
        clear c2 ec1 e0
        go_enter Try.func28, Try.ntmps28
        go_wp2_with (first | (go_at_call 40; (with_reducible refine (ben_digit.calls 100 false _ hD).mono ?_); rintro e w1 ⟨rfl, ⟨nd, rfl⟩⟩))
        go_ret
        exact ⟨rfl, (HPP.out _ (HI.out.drawnN _)).out, KeepBut.set_ (KeepBut.of_below (pw_below_drewN (Below.refl _ _) nd) g none) _ _⟩
    have n1 : (c != 105) = true := bne_iff_ne.mpr a1
    have n2 : (c != 108) = true := bne_iff_ne.mpr a108
    have n3 : (c != 100) = true := bne_iff_ne.mpr a100
    have n4 : (c == 105) = false := beq_eq_false_iff_ne.mpr a1
    by_cases c3 : digB c = true
    case neg =>
      have c3' : digB c = false := by simpa using c3
      rw [if_pos ⟨a1, a108, a100, c3'⟩] at h
      rw [c3'] at hD
      cases h
      clear c3 c3' ec1 e0 a1 a108 a100
      go_enter Try.func28, Try.ntmps28
      go_wp2_with (first | (go_at_call 40; (with_reducible refine (ben_digit.calls c false _ hD).mono ?_); rintro e w1 ⟨rfl, ⟨nd, rfl⟩⟩))
      go_ret
      exact ⟨rfl, HI.out.drawnN nd, KeepBut.of_below (pw_below_drewN (Below.refl _ _) nd) g none⟩
    rw [if_neg (fun hh => by rw [hh.2.2.2] at c3; cases c3)] at h
    rw [c3] at hD h
    by_cases c2 : level > 8
    · rw [if_pos c2] at h
      cases h
      have d2 : decide (8 < level) = true := decide_eq_true c2
      clear c2 ec1 e0 a1 a108 a100 c3
      go_enter Try.func28, Try.ntmps28
      go_wp2_with (first | (go_at_call 40; (with_reducible refine (ben_digit.calls c true _ hD).mono ?_); rintro e w1 ⟨rfl, ⟨nd, rfl⟩⟩))
      go_ret
      exact ⟨rfl, HI.out.drawnN nd, KeepBut.of_below (pw_below_drewN (Below.refl _ _) nd) g none⟩
    · rw [if_neg c2, if_pos rfl] at h
      have d2 : decide (8 < level) = false := decide_eq_false c2
      have HH := Aside0.mk h
      clear c2 h ec1 e0 a1 a108 a100 c3
      go_enter Try.func28, Try.ntmps28
      go_wp2_with (first | (go_at_call 40; (with_reducible refine (ben_digit.calls c true _ hD).mono ?_); rintro e w1 ⟨rfl, ⟨nd, rfl⟩⟩) | (go_at_call 41; (with_reducible refine (rb_text.calls k g (c :: t) rest' p w0 _ (by first | exact HI.out | exact HI.out.drawnN _ | exact (HI.out.drawnN _).drawnN _) HH.out).mono ?_); rintro e w1 ⟨rfl, hI1, hK⟩; have HI1 := Aside0.mk hI1; have HK := Aside0.mk hK; clear hI1 hK))
      go_ret
      exact ⟨rfl, HI1.out, (show KeepBut w _ g none from by first | exact KeepBut.of_below (pw_below_drewN (Below.refl _ _) _) g none | exact KeepBut.of_below (pw_below_drewN (pw_below_drewN (Below.refl _ _) _) _) g none).trans HK.out (.inl rfl)⟩
/-- a key that is above the last one -/
def keyUp (keys : List ByteArray) (x : ByteArray) : Bool := match keys.getLast? with
  | none => true
  | some y => !(Op.bytesLess x.toList y.toList || x.toList == y.toList)
def rb_key.f (k : Nat) (rest : List Int) (keys : List ByteArray) : Option (ByteArray × Int × List Int) := match rest with
  | [] => some (⟨#[]⟩, 2, [])
  | c :: t => if digB c = true then ((rb_text.f k (c :: t)).bind fun p => match p.1 with
      | .wrong e => some (⟨#[]⟩, e, p.2)
      | .text s => if keyUp keys s = true then some (s, 0, p.2) else some (⟨#[]⟩, 3, p.2)
      | _ => some (⟨#[]⟩, 3, p.2)) else some (⟨#[]⟩, 3, c :: t)
theorem R_keepB {α : Type} {d : Kd α} {e base g : Nat} {ok : Nat → Prop} {w w1 : World} {v : Value} {xs : List α} (h : d.R e w base ok v xs) (hk : KeepBut w w1 g none) (hg : g < base) : d.R e w1 base ok v xs :=
  Kd.R_mono (Kd.R_keep (Kd.R_bound h) hk (fun k hk => by have := hk.2.1; omega)) (fun k hk => hk.1)
theorem C_last {w : World} {A : Option Addr} {keys : List ByteArray} (h : Kd.string.C w A keys.length keys) (hp : 0 < keys.length) : ∃ ad y, A = some ad ∧ keys.getLast? = some y ∧ w.cell? (ad.add (keys.length - 1)) = some (.string y) := by
  have hr : ReadsOf Value.string (⟨#[]⟩ : ByteArray) w A keys.length keys := Kd.reads_of_C (h1 := fun _ => rfl) h
  obtain ⟨ad, e, hc⟩ := hr.2.2 hp
  refine ⟨ad, keys[keys.length - 1], e, ?_, ?_⟩
  · rw [List.getLast?_eq_getElem?]
    exact List.getElem?_eq_getElem (by omega)
  · have := hc (keys.length - 1) (by omega)
    simpa [List.getD, show keys.length - 1 < keys.length by omega] using this
set_option maxHeartbeats 2000000 in
set_option maxRecDepth 100000 in
theorem rb_key.calls (k g : Nat) (rest rest' : List Int) (keys : List ByteArray) (x : ByteArray) (e0 : Int) (v : Value) (base : Nat) (ok : Nat → Prop) (w0 w : World) (hI : RbS w0 w g rest) (hR : Kd.string.R 9 w base ok v keys) (hg : g < base) (h : rb_key.f k rest keys = some (x, e0, rest')) :
    Calls Try.prog 44 #[.pointer (some ⟨g, 0, none⟩), v] w fun e w' => e = .returned (.tuple #[.string x, .int .i64 e0]) ∧ RbS w0 w' g rest' ∧ KeepBut w w' g none := by
  obtain ⟨Av, cv, rfl⟩ := Kd.R_slice hR
  have HI := Aside0.mk hI
  have HR := Aside0.mk hR
  have HG2 := Aside0.mk hg
  have hu56 := Try.underlying56
  obtain ⟨A, cc, HG, hc, HS⟩ := hI.ex
  have h0 : w.cell? ⟨g, 0, none⟩ = some (.slice A rest.length cc) := (blk_cell HG 0).trans rfl
  have f0 := blk_frozen HG 0
  have HSS := Kd.C_below HS hI.bel
  cases rest with
  | nil =>
    cases h
    clear HG hc HS HSS hI hR hg
    dsimp only [List.length_nil] at h0
    go_enter Try.func44, Try.ntmps44
    go_wp2
    go_ret2
    exact ⟨rfl, HI.out, KeepBut.refl _ _ _⟩
  | cons c t =>
    obtain ⟨ad, rfl, hx⟩ := C_cons HSS
    have hz : (((c :: t).length : Int) == 0) = false := by simp; omega
    have hz' : ((c :: t).length == 0) = false := by simp
    have hl0 : (0 : Int) < ((c :: t).length : Int) := by simp
    have hD := dig_f c
    dsimp only [rb_key.f] at h
    obtain ⟨n, hn⟩ : ∃ n, n = (c :: t).length := ⟨_, rfl⟩
    rw [← hn] at h0 hz hz' hl0
    clear hc HS HG HSS hI hn hg
    by_cases c3 : digB c = true
    case neg =>
      rw [if_neg c3] at h
      cases h
      rw [show digB c = false by simpa using c3] at hD
      clear c3 hR
      go_enter Try.func44, Try.ntmps44
      go_wp2_with (first | (go_at_call 40; (with_reducible refine (ben_digit.calls c false _ hD).mono ?_); rintro e w1 ⟨rfl, ⟨nd, rfl⟩⟩))
      go_ret2
      exact ⟨rfl, HI.out.drawnN nd, KeepBut.of_below (pw_below_drewN (Below.refl _ _) nd) g none⟩
    rw [if_pos c3] at h
    rw [c3] at hD
    obtain ⟨⟨p, r1⟩, hp, h⟩ := Option.bind_eq_some_iff.mp h
    have HH := Aside0.mk hp
    clear hp c3 hR
    cases p with
    | wrong e1 =>
      cases h
      go_enter Try.func44, Try.ntmps44
      go_wp2_with (first | (go_at_call 40; (with_reducible refine (ben_digit.calls c true _ hD).mono ?_); rintro e w1 ⟨rfl, ⟨nd, rfl⟩⟩) | (go_at_call 41; (with_reducible refine (rb_text.calls k g (c :: t) _ (.wrong e0) w0 _ (by first | exact HI.out | exact HI.out.drawnN _) HH.out).mono ?_); rintro e w1 ⟨rfl, hI1, hK⟩; have HI1 := Aside0.mk hI1; have hK0 := Aside0.mk hK; have HK := Aside0.mk ((KeepBut.of_below (pw_below_drewN (Below.refl _ _) nd) g none).trans hK (.inl rfl)); clear hI1 hK hK0; dsimp only [Pt.v]))
      go_quiet (fail)
      all_goals go_wp2
      all_goals go_ret2
      all_goals exact ⟨rfl, by first | exact (HI1.out.later (below_alloc (Below.refl _ _) _)).drawnN _ | exact HI1.out.later (below_alloc (Below.refl _ _) _) | (exact HI1.out.later (by repeat (first | exact Below.refl _ _ | apply below_alloc | apply pw_below_drewN | apply below_drew1))), HK.out.trans (KeepBut.of_below (by repeat (first | exact Below.refl _ _ | apply below_alloc | apply pw_below_drewN | apply below_drew1)) g none) (.inl rfl)⟩
    | num n1 =>
      cases h
      go_enter Try.func44, Try.ntmps44
      go_wp2_with (first | (go_at_call 40; (with_reducible refine (ben_digit.calls c true _ hD).mono ?_); rintro e w1 ⟨rfl, ⟨nd, rfl⟩⟩) | (go_at_call 41; (with_reducible refine (rb_text.calls k g (c :: t) _ (.num n1) w0 _ (by first | exact HI.out | exact HI.out.drawnN _) HH.out).mono ?_); rintro e w1 ⟨rfl, hI1, hK⟩; have HI1 := Aside0.mk hI1; have hK0 := Aside0.mk hK; have HK := Aside0.mk ((KeepBut.of_below (pw_below_drewN (Below.refl _ _) nd) g none).trans hK (.inl rfl)); clear hI1 hK hK0; dsimp only [Pt.v]))
      go_ret2
      exact ⟨rfl, HI1.out, HK.out⟩
    | opn c1 =>
      cases h
      go_enter Try.func44, Try.ntmps44
      go_wp2_with (first | (go_at_call 40; (with_reducible refine (ben_digit.calls c true _ hD).mono ?_); rintro e w1 ⟨rfl, ⟨nd, rfl⟩⟩) | (go_at_call 41; (with_reducible refine (rb_text.calls k g (c :: t) _ (.opn c1) w0 _ (by first | exact HI.out | exact HI.out.drawnN _) HH.out).mono ?_); rintro e w1 ⟨rfl, hI1, hK⟩; have HI1 := Aside0.mk hI1; have hK0 := Aside0.mk hK; have HK := Aside0.mk ((KeepBut.of_below (pw_below_drewN (Below.refl _ _) nd) g none).trans hK (.inl rfl)); clear hI1 hK hK0; dsimp only [Pt.v]))
      go_ret2
      exact ⟨rfl, HI1.out, HK.out⟩
    | text s =>
      dsimp only at h
      by_cases ck : keys = []
      · subst ck
        rw [if_pos (show keyUp [] s = true from rfl)] at h
        cases h
        have k0 : ((([] : List ByteArray).length : Int) == 0) = true := rfl
        clear HR
        dsimp only [List.length_nil] at *
        go_enter Try.func44, Try.ntmps44
        go_wp2_with (first | (go_at_call 40; (with_reducible refine (ben_digit.calls c true _ hD).mono ?_); rintro e w1 ⟨rfl, ⟨nd, rfl⟩⟩) | (go_at_call 41; (with_reducible refine (rb_text.calls k g (c :: t) _ (.text x) w0 _ (by first | exact HI.out | exact HI.out.drawnN _) HH.out).mono ?_); rintro e w1 ⟨rfl, hI1, hK⟩; have HI1 := Aside0.mk hI1; have hK0 := Aside0.mk hK; have HK := Aside0.mk ((KeepBut.of_below (pw_below_drewN (Below.refl _ _) nd) g none).trans hK (.inl rfl)); clear hI1 hK hK0; dsimp only [Pt.v]))
        go_ret2
        exact ⟨rfl, HI1.out, HK.out⟩
      · have kp : 0 < keys.length := List.length_pos_iff.2 ck
        obtain ⟨m, hm⟩ : ∃ m, keys.length = m + 1 := ⟨keys.length - 1, by omega⟩
        obtain ⟨L, hL⟩ : ∃ L, L = keys.length := ⟨_, rfl⟩
        have k0 : ((L : Int) == 0) = false := by rw [beq_eq_false_iff_ne]; omega
        have k1 : (L == 0) = false := by rw [beq_eq_false_iff_ne]; omega
        have KP := Aside0.mk kp
        have HM := Aside0.mk hm
        have kmax : keys.length ≤ 9223372036854775807 := Kd.C_max (Kd.R_reads' HR.out).2.2
        have kw : wrap64 ((L : Int) - 1) = (m : Int) := by unfold wrap64; omega
        have kl0 : (0 : Int) ≤ (m : Int) := by omega
        have kl1 : (m : Int) < (L : Int) := by omega
        obtain ⟨adk, y, rfl, hy, hyc⟩ := C_last (Kd.R_reads' HR.out).2.2 kp
        have HY := Aside0.mk hy
        rw [← hL]
        clear hy hyc kmax kp ck hm hL
        by_cases cu : keyUp keys s = true
        · rw [if_pos cu] at h
          cases h
          have hu : (!(Op.bytesLess x.toList y.toList || x.toList == y.toList)) = true := by rw [← cu]; unfold keyUp; rw [HY.out]
          clear cu
          go_enter Try.func44, Try.ntmps44
          go_wp2_with (first | (go_at_call 40; (with_reducible refine (ben_digit.calls c true _ hD).mono ?_); rintro e w1 ⟨rfl, ⟨nd, rfl⟩⟩) | (go_at_call 41; (with_reducible refine (rb_text.calls k g (c :: t) _ (.text x) w0 _ (by first | exact HI.out | exact HI.out.drawnN _) HH.out).mono ?_); rintro e w1 ⟨rfl, hI1, hK⟩; have HI1 := Aside0.mk hI1; have hK0 := Aside0.mk hK; have HK := Aside0.mk ((KeepBut.of_below (pw_below_drewN (Below.refl _ _) nd) g none).trans hK (.inl rfl)); clear hI1 hK; have hyc : w1.cell? (adk.add m) = some (.string y) := by { have hRR := R_keepB (Kd.R_drewN HR.out nd) hK0.out HG2.out; obtain ⟨ad2, y2, e2, hy2, hc2⟩ := C_last (Kd.R_reads' hRR).2.2 KP.out; cases e2; rw [HY.out] at hy2; cases hy2; rw [HM.out] at hc2; exact hc2 }; clear hK0; dsimp only [Pt.v]))
          go_ret2
          exact ⟨rfl, HI1.out, HK.out⟩
        · rw [if_neg cu] at h
          cases h
          have hu : (!(Op.bytesLess s.toList y.toList || s.toList == y.toList)) = false := by have e := (show keyUp keys s = false by simpa using cu); unfold keyUp at e; rw [HY.out] at e; exact e
          clear cu
          go_enter Try.func44, Try.ntmps44
          go_wp2_with (first | (go_at_call 40; (with_reducible refine (ben_digit.calls c true _ hD).mono ?_); rintro e w1 ⟨rfl, ⟨nd, rfl⟩⟩) | (go_at_call 41; (with_reducible refine (rb_text.calls k g (c :: t) _ (.text s) w0 _ (by first | exact HI.out | exact HI.out.drawnN _) HH.out).mono ?_); rintro e w1 ⟨rfl, hI1, hK⟩; have HI1 := Aside0.mk hI1; have hK0 := Aside0.mk hK; have HK := Aside0.mk ((KeepBut.of_below (pw_below_drewN (Below.refl _ _) nd) g none).trans hK (.inl rfl)); clear hI1 hK; have hyc : w1.cell? (adk.add m) = some (.string y) := by { have hRR := R_keepB (Kd.R_drewN HR.out nd) hK0.out HG2.out; obtain ⟨ad2, y2, e2, hy2, hc2⟩ := C_last (Kd.R_reads' hRR).2.2 KP.out; cases e2; rw [HY.out] at hy2; cases hy2; rw [HM.out] at hc2; exact hc2 }; clear hK0; dsimp only [Pt.v]))
          go_ret2
          exact ⟨rfl, HI1.out, HK.out⟩
/-! ### value and more: what they read -/
mutual
def bV.f : Nat → List Int → Int → Option (S25 × Int × List Int)
  | 0, _, _ => none
  | k + 1, rest, level => (rb_part.f k rest level).bind fun p => match p.1 with
    | .wrong e => some (z25, e, p.2)
    | .num n => some (⟨1, n, ⟨#[]⟩, [], []⟩, 0, p.2)
    | .text s => some (⟨2, 0, s, [], []⟩, 0, p.2)
    | .opn c => bM.f k p.2 level (c == 100) ⟨if (c == 100) = true then 4 else 3, 0, ⟨#[]⟩, [], []⟩
def bM.f : Nat → List Int → Int → Bool → S25 → Option (S25 × Int × List Int)
  | 0, _, _, _, _ => none
  | k + 1, rest, level, dict, T =>
    if (rb_ends.f rest).1 = true then some (T, 0, (rb_ends.f rest).2)
    else if T.f3.length < 1099511627776 ∧ T.f4.length < 1099511627776 then
      (((if dict = true then (rb_key.f k rest T.f3).map (fun q => (T.f3 ++ [q.1], q.2.1, q.2.2)) else some (T.f3, 0, rest)) : Option (List ByteArray × Int × List Int)).bind fun q =>
        if q.2.1 = 0 then (bV.f k q.2.2 (wrap64 (level + 1))).bind fun r => if r.2.1 = 0 then bM.f k r.2.2 level dict ⟨T.f0, T.f1, T.f2, q.1, T.f4 ++ [r.1]⟩ else some (z25, r.2.1, r.2.2)
        else some (z25, q.2.1, q.2.2))
    else none
end
def ValC (k : Nat) : Prop := ∀ (g : Nat) (rest rest' : List Int) (level : Int) (T : S25) (e0 : Int) (w0 w : World), RbS w0 w g rest → bV.f k rest level = some (T, e0, rest') →
  Calls Try.prog 19 #[.pointer (some ⟨g, 0, none⟩), .int .i64 level] w fun e w' => ∃ v3 v4 : Value, e = .returned (.tuple #[.agg #[.int .i64 T.f0, .int .i64 T.f1, .string T.f2, v3, v4], .int .i64 e0]) ∧ Kd.string.R 9 w' w.heap.size (fun _ => True) v3 T.f3 ∧ k25.R 25 w' w.heap.size (fun k => some k ≠ v3.ownBlock) v4 T.f4 ∧ RbS w0 w' g rest' ∧ KeepBut w w' g none
def MorC (k : Nat) : Prop := ∀ (g : Nat) (rest rest' : List Int) (level : Int) (dict : Bool) (T : S25) (e0 : Int) (w0 w : World), RbS w0 w g rest → bM.f k rest level dict ⟨if dict = true then 4 else 3, 0, ⟨#[]⟩, [], []⟩ = some (T, e0, rest') →
  Calls Try.prog 31 #[.pointer (some ⟨g, 0, none⟩), .int .i64 level, .bool dict] w fun e w' => ∃ v3 v4 : Value, e = .returned (.tuple #[.agg #[.int .i64 T.f0, .int .i64 T.f1, .string T.f2, v3, v4], .int .i64 e0]) ∧ Kd.string.R 9 w' w.heap.size (fun _ => True) v3 T.f3 ∧ k25.R 25 w' w.heap.size (fun k => some k ≠ v3.ownBlock) v4 T.f4 ∧ RbS w0 w' g rest' ∧ KeepBut w w' g none
/-- a struct of five cells -/
def row5 (a b c d e : Value) : Array Value := #[a, b, c, d, e]
theorem put5 {W : World} {b t : Nat} {a0 a1 a2 a3 a4 : Value} (h : W.heap[b]? = some (.cells #[a0, a1, a2, a3, a4] t (0, 0))) (x0 x1 x2 x3 x4 : Value) :
    (((((W.setCell ⟨b, 0, none⟩ x0).setCell ⟨b, 1, none⟩ x1).setCell ⟨b, 2, none⟩ x2).setCell ⟨b, 3, none⟩ x3).setCell ⟨b, 4, none⟩ x4).heap[b]? = some (.cells #[x0, x1, x2, x3, x4] t (0, 0)) := by
  have := blk_set (blk_set (blk_set (blk_set (blk_set h 0 x0) 1 x1) 2 x2) 3 x3) 4 x4
  simpa using this
theorem keep5 {W0 W : World} {b : Nat} (h : KeepBut W0 W b none) (x0 x1 x2 x3 x4 : Value) :
    KeepBut W0 (((((W.setCell ⟨b, 0, none⟩ x0).setCell ⟨b, 1, none⟩ x1).setCell ⟨b, 2, none⟩ x2).setCell ⟨b, 3, none⟩ x3).setCell ⟨b, 4, none⟩ x4) b none :=
  KeepBut.set_ (KeepBut.set_ (KeepBut.set_ (KeepBut.set_ (KeepBut.set_ h 0 x0) 1 x1) 2 x2) 3 x3) 4 x4
theorem RbS.far {w0 W : World} {g : Nat} {rest : List Int} (h : RbS w0 W g rest) {b j : Nat} (hb : ¬ b = g) (hw : w0.heap.size ≤ b) (u : Value) : RbS w0 (W.setCell ⟨b, j, none⟩ u) g rest := by
  obtain ⟨B, d, hg, hd, hD⟩ := h.ex
  exact ⟨⟨B, d, blk_far hg (fun e => hb e.symm) u, hd, hD⟩, h.ge, h.small, h.bel.setCell hw _⟩
theorem RbS.far5 {w0 W : World} {g : Nat} {rest : List Int} (h : RbS w0 W g rest) {b : Nat} (hb : ¬ b = g) (hw : w0.heap.size ≤ b) (x0 x1 x2 x3 x4 : Value) :
    RbS w0 (((((W.setCell ⟨b, 0, none⟩ x0).setCell ⟨b, 1, none⟩ x1).setCell ⟨b, 2, none⟩ x2).setCell ⟨b, 3, none⟩ x3).setCell ⟨b, 4, none⟩ x4) g rest :=
  ((((h.far hb hw x0).far hb hw x1).far hb hw x2).far hb hw x3).far hb hw x4
/-- what is new may change: blocks of w but g are as they were -/
theorem KeepBut.new {w W W1 : World} {g b : Nat} (h : KeepBut w W g none) (k : KeepBut W W1 b none) (hb : w.heap.size ≤ b) : KeepBut w W1 g none :=
  ⟨Nat.le_trans h.1 k.1, fun i hi hg hr => (k.2 i (Nat.lt_of_lt_of_le hi h.1) (by omega) (by simp)).trans (h.2 i hi hg hr)⟩
theorem RbS.lt {w0 W : World} {g : Nat} {rest : List Int} (h : RbS w0 W g rest) : g < W.heap.size := by
  obtain ⟨B, d, hg, _⟩ := h.ex
  exact blk_lt hg
set_option maxHeartbeats 2000000 in
set_option maxRecDepth 100000 in
theorem value_of (k : Nat) (hM : MorC k) : ValC (k + 1) := by
  intro g rest rest' level T e0 w0 w hI h
  unfold MorC at hM
  have HI := Aside0.mk hI
  have HM := Aside0.mk hM
  have hu25 := Try.underlying25
  have hu56 := Try.underlying56
  rw [bV.f] at h
  obtain ⟨⟨p, r1⟩, hp, h⟩ := Option.bind_eq_some_iff.mp h
  have HP := Aside0.mk hp
  have hgb : ¬ w.heap.size = g := by have := hI.lt; omega
  have HGB := Aside0.mk hgb
  have HW0 := Aside0.mk hI.bel.size
  clear hp hI hM hgb
  cases p with
  | num n =>
    cases h
    go_enter Try.func19, Try.ntmps19
    go_wp2_with (first | (go_at_call 28; (with_reducible refine (rb_part.calls k g rest _ level (.num n) w0 _ (HI.out.later (below_alloc (Below.refl _ _) _)) HP.out).mono ?_); rintro e w1 ⟨rfl, hI1, hK⟩; have HI1 := Aside0.mk hI1; have HK := Aside0.mk hK; have HZ := Aside0.mk ((hK.2 w.heap.size (blk_lt (blk_new w _)) HGB.out (by simp)).trans (blk_new w _)); clear hI1 hK; dsimp only [Pt.v]) | (go_at_call 29; (with_reducible refine (tree_Int.calls n _ _ _ _ _ _ rfl).mono ?_); rintro e w2 ⟨v3, v4, rfl, hR3, hR4, hb⟩; obtain ⟨A3, c3, rfl⟩ := Kd.R_slice hR3; obtain ⟨A4, c4, rfl⟩ := Kd.R_slice hR4; have HR3 := Aside0.mk hR3; have HR4 := Aside0.mk hR4; have HB2 := Aside0.mk hb; have HZ2 := Aside0.mk (blk_below HZ.out hb); have hz0 : w2.cell? ⟨w.heap.size, 0, none⟩ = some _ := (blk_cell HZ2.out 0).trans rfl; have hz1 : w2.cell? ⟨w.heap.size, 1, none⟩ = some _ := (blk_cell HZ2.out 1).trans rfl; have hz2 : w2.cell? ⟨w.heap.size, 2, none⟩ = some _ := (blk_cell HZ2.out 2).trans rfl; have hz3 : w2.cell? ⟨w.heap.size, 3, none⟩ = some _ := (blk_cell HZ2.out 3).trans rfl; have hz4 : w2.cell? ⟨w.heap.size, 4, none⟩ = some _ := (blk_cell HZ2.out 4).trans rfl; have fz0 := blk_frozen HZ2.out 0; have fz1 := blk_frozen HZ2.out 1; have fz2 := blk_frozen HZ2.out 2; have fz3 := blk_frozen HZ2.out 3; have fz4 := blk_frozen HZ2.out 4; clear hR3 hR4 hb))
    refine bodyPost_ret (results_ct rfl _ _ w.heap.size 25 #[.int .i64 1, .int .i64 n, .string ⟨#[]⟩, .slice A3 0 c3, .slice A4 0 c4] (0, 0) _ rfl (put5 HZ2.out _ _ _ _ _) Try.underlying25 rfl (by kernel_rfl)) rfl ?_
    have hlt : w.heap.size < w1.heap.size := blk_lt HZ.out
    exact ⟨_, _, rfl, Kd.R_lower (R_keepB HR3.out (keep5 (KeepBut.refl _ _ _) _ _ _ _ _) hlt) (Nat.le_of_lt hlt), Kd.R_lower (R_keepB HR4.out (keep5 (KeepBut.refl _ _ _) _ _ _ _ _) hlt) (Nat.le_of_lt hlt), (HI1.out.later HB2.out).far5 HGB.out HW0.out _ _ _ _ _, KeepBut.new ((KeepBut.of_below (below_alloc (Below.refl _ _) _) g none).trans (HK.out.trans (KeepBut.of_below HB2.out g none) (.inl rfl)) (.inl rfl)) (keep5 (KeepBut.refl _ _ _) _ _ _ _ _) (Nat.le_refl _)⟩
  | text s =>
    cases h
    go_enter Try.func19, Try.ntmps19
    go_wp2_with (first | (go_at_call 28; (with_reducible refine (rb_part.calls k g rest _ level (.text s) w0 _ (HI.out.later (below_alloc (Below.refl _ _) _)) HP.out).mono ?_); rintro e w1 ⟨rfl, hI1, hK⟩; have HI1 := Aside0.mk hI1; have HK := Aside0.mk hK; have HZ := Aside0.mk ((hK.2 w.heap.size (blk_lt (blk_new w _)) HGB.out (by simp)).trans (blk_new w _)); clear hI1 hK; dsimp only [Pt.v]) | (go_at_call 30; (with_reducible refine (tree_Text.calls s _ _ _ _ _ _ rfl).mono ?_); rintro e w2 ⟨v3, v4, rfl, hR3, hR4, hb⟩; obtain ⟨A3, c3, rfl⟩ := Kd.R_slice hR3; obtain ⟨A4, c4, rfl⟩ := Kd.R_slice hR4; have HR3 := Aside0.mk hR3; have HR4 := Aside0.mk hR4; have HB2 := Aside0.mk hb; have HZ2 := Aside0.mk (blk_below HZ.out hb); have hz0 : w2.cell? ⟨w.heap.size, 0, none⟩ = some _ := (blk_cell HZ2.out 0).trans rfl; have hz1 : w2.cell? ⟨w.heap.size, 1, none⟩ = some _ := (blk_cell HZ2.out 1).trans rfl; have hz2 : w2.cell? ⟨w.heap.size, 2, none⟩ = some _ := (blk_cell HZ2.out 2).trans rfl; have hz3 : w2.cell? ⟨w.heap.size, 3, none⟩ = some _ := (blk_cell HZ2.out 3).trans rfl; have hz4 : w2.cell? ⟨w.heap.size, 4, none⟩ = some _ := (blk_cell HZ2.out 4).trans rfl; have fz0 := blk_frozen HZ2.out 0; have fz1 := blk_frozen HZ2.out 1; have fz2 := blk_frozen HZ2.out 2; have fz3 := blk_frozen HZ2.out 3; have fz4 := blk_frozen HZ2.out 4; clear hR3 hR4 hb))
    refine bodyPost_ret (results_ct rfl _ _ w.heap.size 25 #[.int .i64 2, .int .i64 0, .string s, .slice A3 0 c3, .slice A4 0 c4] (0, 0) _ rfl (put5 HZ2.out _ _ _ _ _) Try.underlying25 rfl (by kernel_rfl)) rfl ?_
    have hlt : w.heap.size < w1.heap.size := blk_lt HZ.out
    exact ⟨_, _, rfl, Kd.R_lower (R_keepB HR3.out (keep5 (KeepBut.refl _ _ _) _ _ _ _ _) hlt) (Nat.le_of_lt hlt), Kd.R_lower (R_keepB HR4.out (keep5 (KeepBut.refl _ _ _) _ _ _ _ _) hlt) (Nat.le_of_lt hlt), (HI1.out.later HB2.out).far5 HGB.out HW0.out _ _ _ _ _, KeepBut.new ((KeepBut.of_below (below_alloc (Below.refl _ _) _) g none).trans (HK.out.trans (KeepBut.of_below HB2.out g none) (.inl rfl)) (.inl rfl)) (keep5 (KeepBut.refl _ _ _) _ _ _ _ _) (Nat.le_refl _)⟩
  | wrong e1 =>
    cases h
    go_enter Try.func19, Try.ntmps19
    go_wp2_with (first | (go_at_call 28; (with_reducible refine (rb_part.calls k g rest _ level (.wrong e0) w0 _ (HI.out.later (below_alloc (Below.refl _ _) _)) HP.out).mono ?_); rintro e w1 ⟨rfl, hI1, hK⟩; have HI1 := Aside0.mk hI1; have HK := Aside0.mk hK; have HZ := Aside0.mk ((hK.2 w.heap.size (blk_lt (blk_new w _)) HGB.out (by simp)).trans (blk_new w _)); clear hI1 hK; dsimp only [Pt.v]))
    have HX := Aside0.mk (blk_new w1 (.cells #[.int .i64 e0] 56))
    have HZx := Aside0.mk (blk_alloc HZ.out (.cells #[.int .i64 e0] 56))
    have HBx := Aside0.mk (below_alloc (Below.refl w1.heap.size w1) (.cells #[.int .i64 e0] 56))
    have hlt : w.heap.size < w1.heap.size := blk_lt HZ.out
    have hne : ¬ w1.heap.size = w.heap.size := by omega
    have hne2 : ¬ w.heap.size = w1.heap.size := by omega
    have HLT := Aside0.mk hlt
    generalize w1.alloc (.cells #[.int .i64 e0] 56) = wx at HX HZx HBx ⊢
    have hz0 : wx.cell? ⟨w.heap.size, 0, none⟩ = some _ := (blk_cell HZx.out 0).trans rfl; have hz1 : wx.cell? ⟨w.heap.size, 1, none⟩ = some _ := (blk_cell HZx.out 1).trans rfl; have hz2 : wx.cell? ⟨w.heap.size, 2, none⟩ = some _ := (blk_cell HZx.out 2).trans rfl; have hz3 : wx.cell? ⟨w.heap.size, 3, none⟩ = some _ := (blk_cell HZx.out 3).trans rfl; have hz4 : wx.cell? ⟨w.heap.size, 4, none⟩ = some _ := (blk_cell HZx.out 4).trans rfl; have fz0 := blk_frozen HZx.out 0; have fz1 := blk_frozen HZx.out 1; have fz2 := blk_frozen HZx.out 2; have fz3 := blk_frozen HZx.out 3; have fz4 := blk_frozen HZx.out 4
    have hx0 : wx.cell? ⟨w1.heap.size, 0, none⟩ = some (.int .i64 e0) := (blk_cell HX.out 0).trans rfl
    clear hlt
    go_region_with (fail)
    all_goals go_wp2
    all_goals refine bodyPost_ret (results_ct rfl _ _ w.heap.size 25 #[.int .i64 0, .int .i64 0, .string ⟨#[]⟩, .slice none 0 0, .slice none 0 0] (0, 0) _ rfl (blk_drew (put5 HZx.out _ _ _ _ _)) Try.underlying25 rfl (by kernel_rfl)) rfl ?_
    all_goals exact ⟨_, _, rfl, Kd.R_nil _ _ _ _ _, Kd.R_nil _ _ _ _ _, ((HI1.out.later HBx.out).far5 HGB.out HW0.out _ _ _ _ _).later (below_drew1 (Below.refl _ _)), KeepBut.trans (KeepBut.new ((KeepBut.of_below (below_alloc (Below.refl _ _) _) g none).trans (HK.out.trans (KeepBut.of_below HBx.out g none) (.inl rfl)) (.inl rfl)) (keep5 (KeepBut.refl _ _ _) _ _ _ _ _) (Nat.le_refl _)) (KeepBut.of_below (below_drew1 (Below.refl _ _)) g none) (.inl rfl)⟩
  | opn c =>
    dsimp only at h
    have HH := Aside0.mk h
    have hu60 := Try.underlying60
    clear h
    go_enter Try.func19, Try.ntmps19
    go_wp2_with (first | (go_at_call 28; (with_reducible refine (rb_part.calls k g rest _ level (.opn c) w0 _ (HI.out.later (below_alloc (Below.refl _ _) _)) HP.out).mono ?_); rintro e w1 ⟨rfl, hI1, hK⟩; have HI1 := Aside0.mk hI1; have HK := Aside0.mk hK; have HZ := Aside0.mk ((hK.2 w.heap.size (blk_lt (blk_new w _)) HGB.out (by simp)).trans (blk_new w _)); clear hI1 hK; dsimp only [Pt.v]) | (go_at_call 31; (with_reducible refine (HM.out g r1 rest' level (c == 100) T e0 w0 _ HI1.out HH.out).mono ?_); rintro e w2 ⟨v3, v4, rfl, hR3, hR4, hI2, hK2⟩; obtain ⟨A3, c3, rfl⟩ := Kd.R_slice hR3; obtain ⟨A4, c4, rfl⟩ := Kd.R_slice hR4; have HR3 := Aside0.mk hR3; have HR4 := Aside0.mk hR4; have HI2 := Aside0.mk hI2; have HK2 := Aside0.mk hK2; have HZ2 := Aside0.mk ((hK2.2 w.heap.size (blk_lt HZ.out) HGB.out (by simp)).trans HZ.out); have hz0 : w2.cell? ⟨w.heap.size, 0, none⟩ = some _ := (blk_cell HZ2.out 0).trans rfl; have hz1 : w2.cell? ⟨w.heap.size, 1, none⟩ = some _ := (blk_cell HZ2.out 1).trans rfl; have hz2 : w2.cell? ⟨w.heap.size, 2, none⟩ = some _ := (blk_cell HZ2.out 2).trans rfl; have hz3 : w2.cell? ⟨w.heap.size, 3, none⟩ = some _ := (blk_cell HZ2.out 3).trans rfl; have hz4 : w2.cell? ⟨w.heap.size, 4, none⟩ = some _ := (blk_cell HZ2.out 4).trans rfl; have fz0 := blk_frozen HZ2.out 0; have fz1 := blk_frozen HZ2.out 1; have fz2 := blk_frozen HZ2.out 2; have fz3 := blk_frozen HZ2.out 3; have fz4 := blk_frozen HZ2.out 4; clear hR3 hR4 hI2 hK2))
    refine bodyPost_ret (results_ct rfl _ _ w.heap.size 25 #[.int .i64 T.f0, .int .i64 T.f1, .string T.f2, .slice A3 T.f3.length c3, .slice A4 T.f4.length c4] (0, 0) _ rfl (put5 HZ2.out _ _ _ _ _) Try.underlying25 rfl (by kernel_rfl)) rfl ?_
    have hlt : w.heap.size < w1.heap.size := blk_lt HZ.out
    exact ⟨_, _, rfl, Kd.R_lower (R_keepB HR3.out (keep5 (KeepBut.refl _ _ _) _ _ _ _ _) hlt) (Nat.le_of_lt hlt), Kd.R_lower (R_keepB HR4.out (keep5 (KeepBut.refl _ _ _) _ _ _ _ _) hlt) (Nat.le_of_lt hlt), HI2.out.far5 HGB.out HW0.out _ _ _ _ _, KeepBut.new ((KeepBut.of_below (below_alloc (Below.refl _ _) _) g none).trans (HK.out.trans HK2.out (.inl rfl)) (.inl rfl)) (keep5 (KeepBut.refl _ _ _) _ _ _ _ _) (Nat.le_refl _)⟩
/-! ### more -/
structure MSx (w0 w W : World) (g : Nat) (rest : List Int) (T : S25) (A3 : Option Addr) (c3 : Nat) (A4 : Option Addr) (c4 : Nat) : Prop where
  rb : RbS w0 W g rest
  keep : KeepBut w W g none
  gl : g < w.heap.size
  wl : w0.heap.size ≤ w.heap.size
  lo : w.heap.size + 2 ≤ W.heap.size
  res : W.heap[w.heap.size]? = some (.cells #[.int .i64 0, .int .i64 0, .string ⟨#[]⟩, .slice none 0 0, .slice none 0 0] 25 (0, 0))
  tb : W.heap[w.heap.size + 1]? = some (.cells #[.int .i64 T.f0, .int .i64 T.f1, .string T.f2, .slice A3 T.f3.length c3, .slice A4 T.f4.length c4] 25 (0, 0))
  keys : Kd.string.R 9 W (w.heap.size + 2) (fun _ => True) (.slice A3 T.f3.length c3) T.f3
  kids : k25.R 25 W (w.heap.size + 2) (fun k => some k ≠ (Value.slice A3 T.f3.length c3).ownBlock) (.slice A4 T.f4.length c4) T.f4
theorem MSx.step {w0 w W W1 : World} {g : Nat} {rest r1 : List Int} {T : S25} {A3 A4 : Option Addr} {c3 c4 : Nat} (M : MSx w0 w W g rest T A3 c3 A4 c4) (hI : RbS w0 W1 g r1) (hK : KeepBut W W1 g none) : MSx w0 w W1 g r1 T A3 c3 A4 c4 :=
  ⟨hI, M.keep.trans hK (.inl rfl), M.gl, M.wl, Nat.le_trans M.lo hK.1, (hK.2 _ (blk_lt M.res) (by have := M.gl; omega) (by simp)).trans M.res, (hK.2 _ (blk_lt M.tb) (by have := M.gl; omega) (by simp)).trans M.tb, R_keepB M.keys hK (by have := M.gl; omega), R_keepB M.kids hK (by have := M.gl; omega)⟩
theorem MSx.below {w0 w W W1 : World} {g : Nat} {rest : List Int} {T : S25} {A3 A4 : Option Addr} {c3 c4 : Nat} (M : MSx w0 w W g rest T A3 c3 A4 c4) (hb : Below W.heap.size W W1) : MSx w0 w W1 g rest T A3 c3 A4 c4 :=
  M.step (M.rb.later hb) (KeepBut.of_below hb g none)
theorem RbS.grown {w0 W W1 : World} {g base : Nat} {rest : List Int} {row : Option Nat} (h : RbS w0 W g rest) (hg : W.grownBy W1 row) (hb : Below base W W1) (hw : w0.heap.size ≤ base) (hne : some g ≠ row) : RbS w0 W1 g rest := by
  obtain ⟨B, d, hG, hd, hD⟩ := h.ex
  exact ⟨⟨B, d, blk_grown hG hg hne, hd, hD⟩, h.ge, h.small, h.bel.trans (hb.mono hw)⟩
theorem own_ge {α : Type} {d : Kd α} {e base : Nat} {ok : Nat → Prop} {w : World} {v : Value} {xs : List α} (h : d.R e w base ok v xs) {j : Nat} (hj : j < base) : some j ≠ v.ownBlock := fun e => by
  have := Kd.R_base h j e.symm
  omega
theorem MSx.keysPut {w0 w W W1 : World} {g : Nat} {rest : List Int} {T : S25} {A3 A4 A : Option Addr} {c3 c4 c : Nat} {x : ByteArray} (M : MSx w0 w W g rest T A3 c3 A4 c4) (ho : Kd.string.R 9 W1 (w.heap.size + 2) (fun _ => True) (.slice A (T.f3 ++ [x]).length c) (T.f3 ++ [x])) (hb : Below (w.heap.size + 2) W W1) (hg : W.grownBy W1 (Value.slice A3 T.f3.length c3).ownBlock)
    (hat : (Value.slice A (T.f3 ++ [x]).length c).ownBlock = (Value.slice A3 T.f3.length c3).ownBlock ∨ ∃ b, (Value.slice A (T.f3 ++ [x]).length c).ownBlock = some b ∧ W.heap.size ≤ b) :
    MSx w0 w (W1.setCell ⟨w.heap.size + 1, 3, none⟩ (.slice A (T.f3 ++ [x]).length c)) g rest ⟨T.f0, T.f1, T.f2, T.f3 ++ [x], T.f4⟩ A c A4 c4 := by
  have n0 : some w.heap.size ≠ (Value.slice A3 T.f3.length c3).ownBlock := own_ge M.keys (by omega)
  have n1 : some (w.heap.size + 1) ≠ (Value.slice A3 T.f3.length c3).ownBlock := own_ge M.keys (by omega)
  have ng : some g ≠ (Value.slice A3 T.f3.length c3).ownBlock := own_ge M.keys (by have := M.gl; omega)
  have hK : KeepBut W1 (W1.setCell ⟨w.heap.size + 1, 3, none⟩ (.slice A (T.f3 ++ [x]).length c)) (w.heap.size + 1) none := KeepBut.set_ (KeepBut.refl _ _ _) _ _
  have k4 := Kd.R_after (v1 := Value.slice A (T.f3 ++ [x]).length c) (Kd.R_mono (ok' := fun k => True ∧ some k ≠ (Value.slice A3 T.f3.length c3).ownBlock) M.kids (fun k hk => ⟨trivial, hk⟩)) hg hat
  refine ⟨(M.rb.grown hg hb (by have := M.wl; omega) ng).far (by have := M.gl; omega) (by have := M.wl; omega) _, KeepBut.new (b := w.heap.size + 1) ⟨Nat.le_trans M.keep.1 hg.size, fun i hi hgi hr => (hg.block i (Nat.lt_of_lt_of_le hi M.keep.1) (own_ge M.keys (by omega))).trans (M.keep.2 i hi hgi hr)⟩ hK (by omega), M.gl, M.wl, Nat.le_trans (Nat.le_trans M.lo hg.size) hK.1, blk_far (blk_grown M.res hg n0) (by simp) _, ?_, R_keepB ho hK (by omega), R_keepB (Kd.R_mono k4 (fun k hk => hk.2)) hK (by omega)⟩
  have := blk_set (blk_grown M.tb hg n1) 3 (.slice A (T.f3 ++ [x]).length c)
  simpa using this
theorem MSx.kidsPut {w0 w W W1 : World} {g : Nat} {rest : List Int} {T : S25} {A3 A4 A : Option Addr} {c3 c4 c : Nat} {x : S25} (M : MSx w0 w W g rest T A3 c3 A4 c4) (ho : k25.R 25 W1 (w.heap.size + 2) (fun k => some k ≠ (Value.slice A3 T.f3.length c3).ownBlock) (.slice A (T.f4 ++ [x]).length c) (T.f4 ++ [x])) (hb : Below (w.heap.size + 2) W W1) (hg : W.grownBy W1 (Value.slice A4 T.f4.length c4).ownBlock) :
    MSx w0 w (W1.setCell ⟨w.heap.size + 1, 4, none⟩ (.slice A (T.f4 ++ [x]).length c)) g rest ⟨T.f0, T.f1, T.f2, T.f3, T.f4 ++ [x]⟩ A3 c3 A c := by
  have n0 : some w.heap.size ≠ (Value.slice A4 T.f4.length c4).ownBlock := own_ge M.kids (by omega)
  have n1 : some (w.heap.size + 1) ≠ (Value.slice A4 T.f4.length c4).ownBlock := own_ge M.kids (by omega)
  have ng : some g ≠ (Value.slice A4 T.f4.length c4).ownBlock := own_ge M.kids (by have := M.gl; omega)
  have hK : KeepBut W1 (W1.setCell ⟨w.heap.size + 1, 4, none⟩ (.slice A (T.f4 ++ [x]).length c)) (w.heap.size + 1) none := KeepBut.set_ (KeepBut.refl _ _ _) _ _
  have k3 : Kd.string.R 9 W1 (w.heap.size + 2) (fun _ => True) (.slice A3 T.f3.length c3) T.f3 := Kd.R_over M.keys M.kids (by decide) hg
  refine ⟨(M.rb.grown hg hb (by have := M.wl; omega) ng).far (by have := M.gl; omega) (by have := M.wl; omega) _, KeepBut.new (b := w.heap.size + 1) ⟨Nat.le_trans M.keep.1 hg.size, fun i hi hgi hr => (hg.block i (Nat.lt_of_lt_of_le hi M.keep.1) (own_ge M.kids (by omega))).trans (M.keep.2 i hi hgi hr)⟩ hK (by omega), M.gl, M.wl, Nat.le_trans (Nat.le_trans M.lo hg.size) hK.1, blk_far (blk_grown M.res hg n0) (by simp) _, ?_, R_keepB k3 hK (by omega), R_keepB ho hK (by omega)⟩
  have := blk_set (blk_grown M.tb hg n1) 4 (.slice A (T.f4 ++ [x]).length c)
  simpa using this
theorem infoB9 : (Try.prog.info? 9).map (fun i => (i.zero, i.size, i.bytes)) = some (some (.string ⟨#[]⟩), 1, 16) := by kernel_rfl
theorem infoB25 : (Try.prog.info? 25).map (fun i => (i.zero, i.size, i.bytes)) = some (some (.agg #[.int .i64 0, .int .i64 0, .string ⟨#[]⟩, .slice none 0 0, .slice none 0 0]), 5, 80) := by kernel_rfl
theorem ends_false {ri : List Int} (h : (rb_ends.f ri).1 = false) : (rb_ends.f ri).2 = ri := by
  cases ri with
  | nil => rfl
  | cons c t =>
    unfold rb_ends.f at h ⊢
    by_cases hc : c = 101
    · simp [hc] at h
    · simp [hc]
theorem MSx.ends {w0 w W : World} {g : Nat} {ri : List Int} {T : S25} {A3 A4 : Option Addr} {c3 c4 : Nat} (M : MSx w0 w W g (rb_ends.f ri).2 T A3 c3 A4 c4) (h : (rb_ends.f ri).1 = false) : MSx w0 w W g ri T A3 c3 A4 c4 := by
  rw [ends_false h] at M
  exact M
theorem kid_M {W : World} {base sz : Nat} {X : S25} {v3 v4 : Value} (h3 : Kd.string.R 9 W sz (fun _ => True) v3 X.f3) (h4 : k25.R 25 W sz (fun k => some k ≠ v3.ownBlock) v4 X.f4) (hb : base ≤ sz) : k25.M W base (fun k => sz ≤ k) X [.int .i64 X.f0, .int .i64 X.f1, .string X.f2, v3, v4] :=
  k25_mkM W base _ X (Kd.R_lower (Kd.R_mono (Kd.R_bound h3) (fun k hk => hk.2.1)) hb) (Kd.R_lower (Kd.R_mono (Kd.R_bound h4) (fun k hk => hk.2.1)) hb)
theorem own_lt {α : Type} {d : Kd α} {e base : Nat} {ok : Nat → Prop} {w : World} {v : Value} {xs : List α} (h : d.R e w base ok v xs) {j : Nat} (hj : w.heap.size ≤ j) : some j ≠ v.ownBlock := fun e => by
  have := Kd.R_lt h j e.symm
  omega
set_option maxHeartbeats 4000000 in
set_option maxRecDepth 100000 in
theorem more_list (k : Nat) (hV : ∀ j, j < k → ValC j) (g : Nat) (rest rest2 : List Int) (level : Int) (T : S25) (e0 : Int) (w0 w : World) (hI : RbS w0 w g rest) (h : bM.f k rest level false ⟨3, 0, ⟨#[]⟩, [], []⟩ = some (T, e0, rest2)) :
    Calls Try.prog 31 #[.pointer (some ⟨g, 0, none⟩), .int .i64 level, .bool false] w fun e w2 => ∃ v3 v4 : Value, e = .returned (.tuple #[.agg #[.int .i64 T.f0, .int .i64 T.f1, .string T.f2, v3, v4], .int .i64 e0]) ∧ Kd.string.R 9 w2 w.heap.size (fun _ => True) v3 T.f3 ∧ k25.R 25 w2 w.heap.size (fun k => some k ≠ v3.ownBlock) v4 T.f4 ∧ RbS w0 w2 g rest2 ∧ KeepBut w w2 g none := by
  have hu25 := Try.underlying25
  have HV0 := Aside0.mk hV
  have gl := hI.lt
  have wl := hI.bel.size
  have S0 : Aside0 (MSx w0 w ((w.alloc (.cells #[.int .i64 0, .int .i64 0, .string ⟨#[]⟩, .slice none 0 0, .slice none 0 0] 25)).alloc (.cells #[.int .i64 3, .int .i64 0, .string ⟨#[]⟩, .slice none 0 0, .slice none 0 0] 25)) g rest ⟨3, 0, ⟨#[]⟩, [], []⟩ none 0 none 0) := by
    have hb : Below w.heap.size w ((w.alloc (.cells #[.int .i64 0, .int .i64 0, .string ⟨#[]⟩, .slice none 0 0, .slice none 0 0] 25)).alloc (.cells #[.int .i64 3, .int .i64 0, .string ⟨#[]⟩, .slice none 0 0, .slice none 0 0] 25)) := below_alloc (below_alloc (Below.refl _ _) _) _
    have hn := blk_new (w.alloc (.cells #[.int .i64 0, .int .i64 0, .string ⟨#[]⟩, .slice none 0 0, .slice none 0 0] 25)) (.cells #[.int .i64 3, .int .i64 0, .string ⟨#[]⟩, .slice none 0 0, .slice none 0 0] 25)
    have hs : (w.alloc (.cells #[.int .i64 0, .int .i64 0, .string ⟨#[]⟩, .slice none 0 0, .slice none 0 0] 25)).heap.size = w.heap.size + 1 := by simp
    rw [hs] at hn
    have hn2 := blk_lt hn
    exact ⟨⟨hI.later hb, KeepBut.of_below hb g none, gl, wl, hn2, blk_alloc (blk_new w _) _, hn, Kd.R_nil _ _ _ _ _, Kd.R_nil _ _ _ _ _⟩⟩
  have HH := Aside0.mk h
  clear hV h hI gl wl
  go_enter Try.func31, Try.ntmps31
  go_wp2
  go_loopg [7] k (fun gg v7 wr => v7 = .int .i64 0 ∧ ∃ (ri : List Int) (Ti : S25) (A3 : Option Addr) (c3 : Nat) (A4 : Option Addr) (c4 : Nat) (kk : Nat), kk ≤ gg ∧ kk ≤ k ∧ Aside0 (bM.f kk ri level false Ti = some (T, e0, rest2)) ∧ Aside0 (MSx w0 w wr g ri Ti A3 c3 A4 c4))
  case atStart => exact ⟨rfl, rest, _, none, 0, none, 0, k, Nat.le_refl _, Nat.le_refl _, HH, S0⟩
  case round =>
    obtain ⟨rfl, ri, Ti, A3, c3, A4, c4, kk, hkg, hkk, HB, M0⟩ := hrel
    cases kk with
    | zero => exact absurd HB.out (by simp [bM.f])
    | succ m =>
      have hB := HB.out
      have HKK := Aside0.mk hkk
      have HKG := Aside0.mk hkg
      clear HB hkk hkg
      rw [bM.f] at hB
      cases hE : (rb_ends.f ri).1 with
      | true =>
        rw [if_pos hE] at hB
        have HE := Aside0.mk hE
        cases hB
        clear hE
        go_wp2_with ((go_at_call 43; (with_reducible refine (rb_ends.calls g ri w0 wr M0.out.rb).mono ?_); rintro e w1 ⟨rfl, hI1, hK1⟩; have M1 := Aside0.mk (M0.out.step hI1 hK1); have ht0 : w1.cell? ⟨w.heap.size + 1, 0, none⟩ = some _ := (blk_cell M1.out.tb 0).trans rfl; have ht1 : w1.cell? ⟨w.heap.size + 1, 1, none⟩ = some _ := (blk_cell M1.out.tb 1).trans rfl; have ht2 : w1.cell? ⟨w.heap.size + 1, 2, none⟩ = some _ := (blk_cell M1.out.tb 2).trans rfl; have ht3 : w1.cell? ⟨w.heap.size + 1, 3, none⟩ = some _ := (blk_cell M1.out.tb 3).trans rfl; have ht4 : w1.cell? ⟨w.heap.size + 1, 4, none⟩ = some _ := (blk_cell M1.out.tb 4).trans rfl; have ft0 := blk_frozen M1.out.tb 0; have ft1 := blk_frozen M1.out.tb 1; have ft2 := blk_frozen M1.out.tb 2; have ft3 := blk_frozen M1.out.tb 3; have ft4 := blk_frozen M1.out.tb 4; have hz0 : w1.cell? ⟨w.heap.size, 0, none⟩ = some _ := (blk_cell M1.out.res 0).trans rfl; have hz1 : w1.cell? ⟨w.heap.size, 1, none⟩ = some _ := (blk_cell M1.out.res 1).trans rfl; have hz2 : w1.cell? ⟨w.heap.size, 2, none⟩ = some _ := (blk_cell M1.out.res 2).trans rfl; have hz3 : w1.cell? ⟨w.heap.size, 3, none⟩ = some _ := (blk_cell M1.out.res 3).trans rfl; have hz4 : w1.cell? ⟨w.heap.size, 4, none⟩ = some _ := (blk_cell M1.out.res 4).trans rfl; have fz0 := blk_frozen M1.out.res 0; have fz1 := blk_frozen M1.out.res 1; have fz2 := blk_frozen M1.out.res 2; have fz3 := blk_frozen M1.out.res 3; have fz4 := blk_frozen M1.out.res 4; clear hI1 hK1; rw [HE.out]))
        refine bodyPost_ret (results_ct rfl _ _ w.heap.size 25 #[.int .i64 T.f0, .int .i64 T.f1, .string T.f2, .slice A3 T.f3.length c3, .slice A4 T.f4.length c4] (0, 0) _ rfl (put5 M1.out.res _ _ _ _ _) Try.underlying25 rfl (by kernel_rfl)) rfl ?_
        exact ⟨_, _, rfl, Kd.R_lower (R_keepB M1.out.keys (keep5 (KeepBut.refl _ _ _) _ _ _ _ _) (by omega)) (by omega), Kd.R_lower (R_keepB M1.out.kids (keep5 (KeepBut.refl _ _ _) _ _ _ _ _) (by omega)) (by omega), M1.out.rb.far5 (by have := M1.out.gl; omega) M1.out.wl _ _ _ _ _, KeepBut.new M1.out.keep (keep5 (KeepBut.refl _ _ _) _ _ _ _ _) (Nat.le_refl _)⟩
      | false =>
        rw [if_neg (by rw [hE]; simp)] at hB
        have HE := Aside0.mk hE
        clear hE
        by_cases hL : Ti.f3.length < 1099511627776 ∧ Ti.f4.length < 1099511627776
        case neg => rw [if_neg hL] at hB; cases hB
        rw [if_pos hL] at hB
        have LM := Aside0.mk hL
        clear hL
        rw [if_neg (by simp)] at hB
        simp only [Option.bind_some] at hB
        rw [if_pos trivial] at hB
        obtain ⟨⟨X, e2, r3⟩, hX, hB⟩ := Option.bind_eq_some_iff.mp hB
        have hV := HV0.out m (by have := HKK.out; omega)
        unfold ValC at hV
        have HV := Aside0.mk hV
        have HVV := Aside0.mk hX
        clear hX hV
        by_cases h2 : e2 = 0
        · rw [if_pos h2] at hB
          have d2 : (e2 != 0) = false := bne_eq_false_iff_eq.mpr h2
          have HB2 := Aside0.mk hB
          clear hB h2
          go_upto_region 13 with (first | (go_at_call 43; (with_reducible refine (rb_ends.calls g ri w0 wr M0.out.rb).mono ?_); rintro e w1 ⟨rfl, hI1, hK1⟩; have M1 := Aside0.mk (M0.out.step hI1 hK1); have ht0 : w1.cell? ⟨w.heap.size + 1, 0, none⟩ = some _ := (blk_cell M1.out.tb 0).trans rfl; have ht1 : w1.cell? ⟨w.heap.size + 1, 1, none⟩ = some _ := (blk_cell M1.out.tb 1).trans rfl; have ht2 : w1.cell? ⟨w.heap.size + 1, 2, none⟩ = some _ := (blk_cell M1.out.tb 2).trans rfl; have ht3 : w1.cell? ⟨w.heap.size + 1, 3, none⟩ = some _ := (blk_cell M1.out.tb 3).trans rfl; have ht4 : w1.cell? ⟨w.heap.size + 1, 4, none⟩ = some _ := (blk_cell M1.out.tb 4).trans rfl; have ft0 := blk_frozen M1.out.tb 0; have ft1 := blk_frozen M1.out.tb 1; have ft2 := blk_frozen M1.out.tb 2; have ft3 := blk_frozen M1.out.tb 3; have ft4 := blk_frozen M1.out.tb 4; have hz0 : w1.cell? ⟨w.heap.size, 0, none⟩ = some _ := (blk_cell M1.out.res 0).trans rfl; have hz1 : w1.cell? ⟨w.heap.size, 1, none⟩ = some _ := (blk_cell M1.out.res 1).trans rfl; have hz2 : w1.cell? ⟨w.heap.size, 2, none⟩ = some _ := (blk_cell M1.out.res 2).trans rfl; have hz3 : w1.cell? ⟨w.heap.size, 3, none⟩ = some _ := (blk_cell M1.out.res 3).trans rfl; have hz4 : w1.cell? ⟨w.heap.size, 4, none⟩ = some _ := (blk_cell M1.out.res 4).trans rfl; have fz0 := blk_frozen M1.out.res 0; have fz1 := blk_frozen M1.out.res 1; have fz2 := blk_frozen M1.out.res 2; have fz3 := blk_frozen M1.out.res 3; have fz4 := blk_frozen M1.out.res 4; clear hI1 hK1; rw [HE.out]; have M1 := Aside0.mk (MSx.ends M1.out HE.out)) | (go_at_call 19; (with_reducible refine (HV.out g _ r3 (wrap64 (level + 1)) X e2 w0 _ M1.out.rb HVV.out).mono ?_); rintro e w4 ⟨v3, v4, rfl, hR3, hR4, hI4, hK4⟩; obtain ⟨X3, d3, rfl⟩ := Kd.R_slice hR3; obtain ⟨X4, d4, rfl⟩ := Kd.R_slice hR4; have M4 := Aside0.mk (M1.out.step hI4 hK4); have M5 := Aside0.mk (M4.out.below (below_alloc (Below.refl _ _) (.cells #[.int .i64 X.f0, .int .i64 X.f1, .string X.f2, .slice X3 X.f3.length d3, .slice X4 X.f4.length d4] 25))); have HP := Aside0.mk M1.out; obtain ⟨sz, hsz⟩ : ∃ n, w1.heap.size = n := ⟨_, rfl⟩; rw [hsz] at hR3 hR4; have HSZ := Aside0.mk hsz; have RX3 := Aside0.mk (Kd.R_alloc hR3 (.cells #[.int .i64 X.f0, .int .i64 X.f1, .string X.f2, .slice X3 X.f3.length d3, .slice X4 X.f4.length d4] 25)); have RX4 := Aside0.mk (Kd.R_alloc hR4 (.cells #[.int .i64 X.f0, .int .i64 X.f1, .string X.f2, .slice X3 X.f3.length d3, .slice X4 X.f4.length d4] 25)); have HNB := Aside0.mk (blk_new w4 (.cells #[.int .i64 X.f0, .int .i64 X.f1, .string X.f2, .slice X3 X.f3.length d3, .slice X4 X.f4.length d4] 25)); clear hI4 hK4 hR3 hR4 hsz))
          generalize (w4.alloc (.cells #[.int .i64 X.f0, .int .i64 X.f1, .string X.f2, .slice X3 X.f3.length d3, .slice X4 X.f4.length d4] 25)) = w5 at M5 RX3 RX4 HNB ⊢
          have ht0 : w5.cell? ⟨w.heap.size + 1, 0, none⟩ = some _ := (blk_cell M5.out.tb 0).trans rfl; have ht1 : w5.cell? ⟨w.heap.size + 1, 1, none⟩ = some _ := (blk_cell M5.out.tb 1).trans rfl; have ht2 : w5.cell? ⟨w.heap.size + 1, 2, none⟩ = some _ := (blk_cell M5.out.tb 2).trans rfl; have ht3 : w5.cell? ⟨w.heap.size + 1, 3, none⟩ = some _ := (blk_cell M5.out.tb 3).trans rfl; have ht4 : w5.cell? ⟨w.heap.size + 1, 4, none⟩ = some _ := (blk_cell M5.out.tb 4).trans rfl; have ft0 := blk_frozen M5.out.tb 0; have ft1 := blk_frozen M5.out.tb 1; have ft2 := blk_frozen M5.out.tb 2; have ft3 := blk_frozen M5.out.tb 3; have ft4 := blk_frozen M5.out.tb 4
          have hx0 : w5.cell? ⟨w4.heap.size, 0, none⟩ = some _ := (blk_cell HNB.out 0).trans rfl; have hx1 : w5.cell? ⟨w4.heap.size, 1, none⟩ = some _ := (blk_cell HNB.out 1).trans rfl; have hx2 : w5.cell? ⟨w4.heap.size, 2, none⟩ = some _ := (blk_cell HNB.out 2).trans rfl; have hx3 : w5.cell? ⟨w4.heap.size, 3, none⟩ = some _ := (blk_cell HNB.out 3).trans rfl; have hx4 : w5.cell? ⟨w4.heap.size, 4, none⟩ = some _ := (blk_cell HNB.out 4).trans rfl; have fx0 := blk_frozen HNB.out 0; have fx1 := blk_frozen HNB.out 1; have fx2 := blk_frozen HNB.out 2; have fx3 := blk_frozen HNB.out 3; have fx4 := blk_frozen HNB.out 4
          go_wp2_with (((with_reducible refine gate_builtin (b := .append) (xs := #[.tmp 49, .tmp 51]) rfl ?_); at_builtin; refine Kd.R_append k25 (w0 := w5) (w.heap.size + 2) rfl (.tmp 49) (.tmp 51) 23 25 (.agg #[.int .i64 0, .int .i64 0, .string ⟨#[]⟩, .slice none 0 0, .slice none 0 0]) 80 rfl Try.underlying23 infoB25 rfl (by decide) (by omega) (.slice A4 Ti.f4.length c4) Ti.f4 X [.int .i64 X.f0, .int .i64 X.f1, .string X.f2, .slice X3 X.f3.length d3, .slice X4 X.f4.length d4] (fun k => some k ≠ (Value.slice A3 (Ti.f3).length c3).ownBlock) (fun k => sz ≤ k) rfl rfl ?aP ?aK ?aF ?aO ?aB ?aS ?aL ?_; (case aP => exact kid_M RX3.out RX4.out (by have := HP.out.lo; have := HSZ.out; omega)); (case aK => exact fun j hj => ⟨own_lt HP.out.keys (by have := HSZ.out; omega), own_lt HP.out.kids (by have := HSZ.out; omega)⟩); (case aB => exact Below.refl _ _); (case aF => exact fun j hj => own_lt M5.out.keys hj); (case aO => exact M5.out.kids); (case aS => exact M5.out.lo); (case aL => have := LM.out; omega); intro v1 w9 ho hb hg hat; obtain ⟨B, d, rfl⟩ := Kd.R_slice ho; have MN0 := MSx.kidsPut M5.out ho hb hg; rw [show (Ti.f4 ++ [X]).length = Ti.f4.length + 1 by simp] at MN0; have MN := Aside0.mk MN0; clear MN0; have HT9 := Aside0.mk (blk_grown M5.out.tb hg (own_ge M5.out.kids (by omega))); have ht0 : w9.cell? ⟨w.heap.size + 1, 0, none⟩ = some _ := (blk_cell HT9.out 0).trans rfl; have ht1 : w9.cell? ⟨w.heap.size + 1, 1, none⟩ = some _ := (blk_cell HT9.out 1).trans rfl; have ht2 : w9.cell? ⟨w.heap.size + 1, 2, none⟩ = some _ := (blk_cell HT9.out 2).trans rfl; have ht3 : w9.cell? ⟨w.heap.size + 1, 3, none⟩ = some _ := (blk_cell HT9.out 3).trans rfl; have ht4 : w9.cell? ⟨w.heap.size + 1, 4, none⟩ = some _ := (blk_cell HT9.out 4).trans rfl; have ft0 := blk_frozen HT9.out 0; have ft1 := blk_frozen HT9.out 1; have ft2 := blk_frozen HT9.out 2; have ft3 := blk_frozen HT9.out 3; have ft4 := blk_frozen HT9.out 4; clear ho hb hg hat))
          go_roundg m
          case measure => have := HKG.out; omega
          case rel => exact ⟨rfl, r3, _, A3, c3, B, d, m, Nat.le_refl _, by have := HKK.out; omega, HB2, MN⟩
        · rw [if_neg h2] at hB
          have d2 : (e2 != 0) = true := bne_iff_ne.mpr h2
          cases hB
          go_wp2_with (first | (go_at_call 43; (with_reducible refine (rb_ends.calls g ri w0 wr M0.out.rb).mono ?_); rintro e w1 ⟨rfl, hI1, hK1⟩; have M1 := Aside0.mk (M0.out.step hI1 hK1); have ht0 : w1.cell? ⟨w.heap.size + 1, 0, none⟩ = some _ := (blk_cell M1.out.tb 0).trans rfl; have ht1 : w1.cell? ⟨w.heap.size + 1, 1, none⟩ = some _ := (blk_cell M1.out.tb 1).trans rfl; have ht2 : w1.cell? ⟨w.heap.size + 1, 2, none⟩ = some _ := (blk_cell M1.out.tb 2).trans rfl; have ht3 : w1.cell? ⟨w.heap.size + 1, 3, none⟩ = some _ := (blk_cell M1.out.tb 3).trans rfl; have ht4 : w1.cell? ⟨w.heap.size + 1, 4, none⟩ = some _ := (blk_cell M1.out.tb 4).trans rfl; have ft0 := blk_frozen M1.out.tb 0; have ft1 := blk_frozen M1.out.tb 1; have ft2 := blk_frozen M1.out.tb 2; have ft3 := blk_frozen M1.out.tb 3; have ft4 := blk_frozen M1.out.tb 4; have hz0 : w1.cell? ⟨w.heap.size, 0, none⟩ = some _ := (blk_cell M1.out.res 0).trans rfl; have hz1 : w1.cell? ⟨w.heap.size, 1, none⟩ = some _ := (blk_cell M1.out.res 1).trans rfl; have hz2 : w1.cell? ⟨w.heap.size, 2, none⟩ = some _ := (blk_cell M1.out.res 2).trans rfl; have hz3 : w1.cell? ⟨w.heap.size, 3, none⟩ = some _ := (blk_cell M1.out.res 3).trans rfl; have hz4 : w1.cell? ⟨w.heap.size, 4, none⟩ = some _ := (blk_cell M1.out.res 4).trans rfl; have fz0 := blk_frozen M1.out.res 0; have fz1 := blk_frozen M1.out.res 1; have fz2 := blk_frozen M1.out.res 2; have fz3 := blk_frozen M1.out.res 3; have fz4 := blk_frozen M1.out.res 4; clear hI1 hK1; rw [HE.out]; have M1 := Aside0.mk (MSx.ends M1.out HE.out)) | (go_at_call 19; (with_reducible refine (HV.out g _ _ (wrap64 (level + 1)) X _ w0 _ M1.out.rb HVV.out).mono ?_); rintro e w4 ⟨v3, v4, rfl, hR3, hR4, hI4, hK4⟩; obtain ⟨X3, d3, rfl⟩ := Kd.R_slice hR3; obtain ⟨X4, d4, rfl⟩ := Kd.R_slice hR4; have M4 := Aside0.mk (M1.out.step hI4 hK4); have M5 := Aside0.mk (M4.out.below (below_alloc (Below.refl _ _) (.cells #[.int .i64 X.f0, .int .i64 X.f1, .string X.f2, .slice X3 X.f3.length d3, .slice X4 X.f4.length d4] 25))); have HP := Aside0.mk M1.out; obtain ⟨sz, hsz⟩ : ∃ n, w1.heap.size = n := ⟨_, rfl⟩; rw [hsz] at hR3 hR4; have HSZ := Aside0.mk hsz; have RX3 := Aside0.mk (Kd.R_alloc hR3 (.cells #[.int .i64 X.f0, .int .i64 X.f1, .string X.f2, .slice X3 X.f3.length d3, .slice X4 X.f4.length d4] 25)); have RX4 := Aside0.mk (Kd.R_alloc hR4 (.cells #[.int .i64 X.f0, .int .i64 X.f1, .string X.f2, .slice X3 X.f3.length d3, .slice X4 X.f4.length d4] 25)); have HNB := Aside0.mk (blk_new w4 (.cells #[.int .i64 X.f0, .int .i64 X.f1, .string X.f2, .slice X3 X.f3.length d3, .slice X4 X.f4.length d4] 25)); have ht0 : (w4.alloc (.cells #[.int .i64 X.f0, .int .i64 X.f1, .string X.f2, .slice X3 X.f3.length d3, .slice X4 X.f4.length d4] 25)).cell? ⟨w.heap.size + 1, 0, none⟩ = some _ := (blk_cell M5.out.tb 0).trans rfl; have ht1 : (w4.alloc (.cells #[.int .i64 X.f0, .int .i64 X.f1, .string X.f2, .slice X3 X.f3.length d3, .slice X4 X.f4.length d4] 25)).cell? ⟨w.heap.size + 1, 1, none⟩ = some _ := (blk_cell M5.out.tb 1).trans rfl; have ht2 : (w4.alloc (.cells #[.int .i64 X.f0, .int .i64 X.f1, .string X.f2, .slice X3 X.f3.length d3, .slice X4 X.f4.length d4] 25)).cell? ⟨w.heap.size + 1, 2, none⟩ = some _ := (blk_cell M5.out.tb 2).trans rfl; have ht3 : (w4.alloc (.cells #[.int .i64 X.f0, .int .i64 X.f1, .string X.f2, .slice X3 X.f3.length d3, .slice X4 X.f4.length d4] 25)).cell? ⟨w.heap.size + 1, 3, none⟩ = some _ := (blk_cell M5.out.tb 3).trans rfl; have ht4 : (w4.alloc (.cells #[.int .i64 X.f0, .int .i64 X.f1, .string X.f2, .slice X3 X.f3.length d3, .slice X4 X.f4.length d4] 25)).cell? ⟨w.heap.size + 1, 4, none⟩ = some _ := (blk_cell M5.out.tb 4).trans rfl; have ft0 := blk_frozen M5.out.tb 0; have ft1 := blk_frozen M5.out.tb 1; have ft2 := blk_frozen M5.out.tb 2; have ft3 := blk_frozen M5.out.tb 3; have ft4 := blk_frozen M5.out.tb 4; have hz0 : (w4.alloc (.cells #[.int .i64 X.f0, .int .i64 X.f1, .string X.f2, .slice X3 X.f3.length d3, .slice X4 X.f4.length d4] 25)).cell? ⟨w.heap.size, 0, none⟩ = some _ := (blk_cell M5.out.res 0).trans rfl; have hz1 : (w4.alloc (.cells #[.int .i64 X.f0, .int .i64 X.f1, .string X.f2, .slice X3 X.f3.length d3, .slice X4 X.f4.length d4] 25)).cell? ⟨w.heap.size, 1, none⟩ = some _ := (blk_cell M5.out.res 1).trans rfl; have hz2 : (w4.alloc (.cells #[.int .i64 X.f0, .int .i64 X.f1, .string X.f2, .slice X3 X.f3.length d3, .slice X4 X.f4.length d4] 25)).cell? ⟨w.heap.size, 2, none⟩ = some _ := (blk_cell M5.out.res 2).trans rfl; have hz3 : (w4.alloc (.cells #[.int .i64 X.f0, .int .i64 X.f1, .string X.f2, .slice X3 X.f3.length d3, .slice X4 X.f4.length d4] 25)).cell? ⟨w.heap.size, 3, none⟩ = some _ := (blk_cell M5.out.res 3).trans rfl; have hz4 : (w4.alloc (.cells #[.int .i64 X.f0, .int .i64 X.f1, .string X.f2, .slice X3 X.f3.length d3, .slice X4 X.f4.length d4] 25)).cell? ⟨w.heap.size, 4, none⟩ = some _ := (blk_cell M5.out.res 4).trans rfl; have fz0 := blk_frozen M5.out.res 0; have fz1 := blk_frozen M5.out.res 1; have fz2 := blk_frozen M5.out.res 2; have fz3 := blk_frozen M5.out.res 3; have fz4 := blk_frozen M5.out.res 4; have hx0 : (w4.alloc (.cells #[.int .i64 X.f0, .int .i64 X.f1, .string X.f2, .slice X3 X.f3.length d3, .slice X4 X.f4.length d4] 25)).cell? ⟨w4.heap.size, 0, none⟩ = some _ := (blk_cell HNB.out 0).trans rfl; have hx1 : (w4.alloc (.cells #[.int .i64 X.f0, .int .i64 X.f1, .string X.f2, .slice X3 X.f3.length d3, .slice X4 X.f4.length d4] 25)).cell? ⟨w4.heap.size, 1, none⟩ = some _ := (blk_cell HNB.out 1).trans rfl; have hx2 : (w4.alloc (.cells #[.int .i64 X.f0, .int .i64 X.f1, .string X.f2, .slice X3 X.f3.length d3, .slice X4 X.f4.length d4] 25)).cell? ⟨w4.heap.size, 2, none⟩ = some _ := (blk_cell HNB.out 2).trans rfl; have hx3 : (w4.alloc (.cells #[.int .i64 X.f0, .int .i64 X.f1, .string X.f2, .slice X3 X.f3.length d3, .slice X4 X.f4.length d4] 25)).cell? ⟨w4.heap.size, 3, none⟩ = some _ := (blk_cell HNB.out 3).trans rfl; have hx4 : (w4.alloc (.cells #[.int .i64 X.f0, .int .i64 X.f1, .string X.f2, .slice X3 X.f3.length d3, .slice X4 X.f4.length d4] 25)).cell? ⟨w4.heap.size, 4, none⟩ = some _ := (blk_cell HNB.out 4).trans rfl; have fx0 := blk_frozen HNB.out 0; have fx1 := blk_frozen HNB.out 1; have fx2 := blk_frozen HNB.out 2; have fx3 := blk_frozen HNB.out 3; have fx4 := blk_frozen HNB.out 4; clear hI4 hK4 hR3 hR4 hsz))
          refine bodyPost_ret (results_ct rfl _ _ w.heap.size 25 #[.int .i64 0, .int .i64 0, .string ⟨#[]⟩, .slice none 0 0, .slice none 0 0] (0, 0) _ rfl (put5 M5.out.res _ _ _ _ _) Try.underlying25 rfl (by kernel_rfl)) rfl ?_
          exact ⟨_, _, rfl, Kd.R_nil _ _ _ _ _, Kd.R_nil _ _ _ _ _, M5.out.rb.far5 (by have := M5.out.gl; omega) M5.out.wl _ _ _ _ _, KeepBut.new M5.out.keep (keep5 (KeepBut.refl _ _ _) _ _ _ _ _) (Nat.le_refl _)⟩
set_option maxHeartbeats 4000000 in
set_option maxRecDepth 100000 in
theorem more_dict (k : Nat) (hV : ∀ j, j < k → ValC j) (g : Nat) (rest rest2 : List Int) (level : Int) (T : S25) (e0 : Int) (w0 w : World) (hI : RbS w0 w g rest) (h : bM.f k rest level true ⟨4, 0, ⟨#[]⟩, [], []⟩ = some (T, e0, rest2)) :
    Calls Try.prog 31 #[.pointer (some ⟨g, 0, none⟩), .int .i64 level, .bool true] w fun e w2 => ∃ v3 v4 : Value, e = .returned (.tuple #[.agg #[.int .i64 T.f0, .int .i64 T.f1, .string T.f2, v3, v4], .int .i64 e0]) ∧ Kd.string.R 9 w2 w.heap.size (fun _ => True) v3 T.f3 ∧ k25.R 25 w2 w.heap.size (fun k => some k ≠ v3.ownBlock) v4 T.f4 ∧ RbS w0 w2 g rest2 ∧ KeepBut w w2 g none := by
  have hu25 := Try.underlying25
  have HV0 := Aside0.mk hV
  have gl := hI.lt
  have wl := hI.bel.size
  have S0 : Aside0 (MSx w0 w ((w.alloc (.cells #[.int .i64 0, .int .i64 0, .string ⟨#[]⟩, .slice none 0 0, .slice none 0 0] 25)).alloc (.cells #[.int .i64 4, .int .i64 0, .string ⟨#[]⟩, .slice none 0 0, .slice none 0 0] 25)) g rest ⟨4, 0, ⟨#[]⟩, [], []⟩ none 0 none 0) := by
    have hb : Below w.heap.size w ((w.alloc (.cells #[.int .i64 0, .int .i64 0, .string ⟨#[]⟩, .slice none 0 0, .slice none 0 0] 25)).alloc (.cells #[.int .i64 4, .int .i64 0, .string ⟨#[]⟩, .slice none 0 0, .slice none 0 0] 25)) := below_alloc (below_alloc (Below.refl _ _) _) _
    have hn := blk_new (w.alloc (.cells #[.int .i64 0, .int .i64 0, .string ⟨#[]⟩, .slice none 0 0, .slice none 0 0] 25)) (.cells #[.int .i64 4, .int .i64 0, .string ⟨#[]⟩, .slice none 0 0, .slice none 0 0] 25)
    have hs : (w.alloc (.cells #[.int .i64 0, .int .i64 0, .string ⟨#[]⟩, .slice none 0 0, .slice none 0 0] 25)).heap.size = w.heap.size + 1 := by simp
    rw [hs] at hn
    have hn2 := blk_lt hn
    exact ⟨⟨hI.later hb, KeepBut.of_below hb g none, gl, wl, hn2, blk_alloc (blk_new w _) _, hn, Kd.R_nil _ _ _ _ _, Kd.R_nil _ _ _ _ _⟩⟩
  have HH := Aside0.mk h
  clear hV h hI gl wl
  go_enter Try.func31, Try.ntmps31
  go_wp2
  go_loopg [7] k (fun gg v7 wr => v7 = .int .i64 0 ∧ ∃ (ri : List Int) (Ti : S25) (A3 : Option Addr) (c3 : Nat) (A4 : Option Addr) (c4 : Nat) (kk : Nat), kk ≤ gg ∧ kk ≤ k ∧ Aside0 (bM.f kk ri level true Ti = some (T, e0, rest2)) ∧ Aside0 (MSx w0 w wr g ri Ti A3 c3 A4 c4))
  case atStart => exact ⟨rfl, rest, _, none, 0, none, 0, k, Nat.le_refl _, Nat.le_refl _, HH, S0⟩
  case round =>
    obtain ⟨rfl, ri, Ti, A3, c3, A4, c4, kk, hkg, hkk, HB, M0⟩ := hrel
    cases kk with
    | zero => exact absurd HB.out (by simp [bM.f])
    | succ m =>
      have hB := HB.out
      have HKK := Aside0.mk hkk
      have HKG := Aside0.mk hkg
      clear HB hkk hkg
      rw [bM.f] at hB
      cases hE : (rb_ends.f ri).1 with
      | true =>
        rw [if_pos hE] at hB
        have HE := Aside0.mk hE
        cases hB
        clear hE
        go_wp2_with ((go_at_call 43; (with_reducible refine (rb_ends.calls g ri w0 wr M0.out.rb).mono ?_); rintro e w1 ⟨rfl, hI1, hK1⟩; have M1 := Aside0.mk (M0.out.step hI1 hK1); have ht0 : w1.cell? ⟨w.heap.size + 1, 0, none⟩ = some _ := (blk_cell M1.out.tb 0).trans rfl; have ht1 : w1.cell? ⟨w.heap.size + 1, 1, none⟩ = some _ := (blk_cell M1.out.tb 1).trans rfl; have ht2 : w1.cell? ⟨w.heap.size + 1, 2, none⟩ = some _ := (blk_cell M1.out.tb 2).trans rfl; have ht3 : w1.cell? ⟨w.heap.size + 1, 3, none⟩ = some _ := (blk_cell M1.out.tb 3).trans rfl; have ht4 : w1.cell? ⟨w.heap.size + 1, 4, none⟩ = some _ := (blk_cell M1.out.tb 4).trans rfl; have ft0 := blk_frozen M1.out.tb 0; have ft1 := blk_frozen M1.out.tb 1; have ft2 := blk_frozen M1.out.tb 2; have ft3 := blk_frozen M1.out.tb 3; have ft4 := blk_frozen M1.out.tb 4; have hz0 : w1.cell? ⟨w.heap.size, 0, none⟩ = some _ := (blk_cell M1.out.res 0).trans rfl; have hz1 : w1.cell? ⟨w.heap.size, 1, none⟩ = some _ := (blk_cell M1.out.res 1).trans rfl; have hz2 : w1.cell? ⟨w.heap.size, 2, none⟩ = some _ := (blk_cell M1.out.res 2).trans rfl; have hz3 : w1.cell? ⟨w.heap.size, 3, none⟩ = some _ := (blk_cell M1.out.res 3).trans rfl; have hz4 : w1.cell? ⟨w.heap.size, 4, none⟩ = some _ := (blk_cell M1.out.res 4).trans rfl; have fz0 := blk_frozen M1.out.res 0; have fz1 := blk_frozen M1.out.res 1; have fz2 := blk_frozen M1.out.res 2; have fz3 := blk_frozen M1.out.res 3; have fz4 := blk_frozen M1.out.res 4; clear hI1 hK1; rw [HE.out]))
        refine bodyPost_ret (results_ct rfl _ _ w.heap.size 25 #[.int .i64 T.f0, .int .i64 T.f1, .string T.f2, .slice A3 T.f3.length c3, .slice A4 T.f4.length c4] (0, 0) _ rfl (put5 M1.out.res _ _ _ _ _) Try.underlying25 rfl (by kernel_rfl)) rfl ?_
        exact ⟨_, _, rfl, Kd.R_lower (R_keepB M1.out.keys (keep5 (KeepBut.refl _ _ _) _ _ _ _ _) (by omega)) (by omega), Kd.R_lower (R_keepB M1.out.kids (keep5 (KeepBut.refl _ _ _) _ _ _ _ _) (by omega)) (by omega), M1.out.rb.far5 (by have := M1.out.gl; omega) M1.out.wl _ _ _ _ _, KeepBut.new M1.out.keep (keep5 (KeepBut.refl _ _ _) _ _ _ _ _) (Nat.le_refl _)⟩
      | false =>
        rw [if_neg (by rw [hE]; simp)] at hB
        have HE := Aside0.mk hE
        clear hE
        by_cases hL : Ti.f3.length < 1099511627776 ∧ Ti.f4.length < 1099511627776
        case neg => rw [if_neg hL] at hB; cases hB
        rw [if_pos hL] at hB
        have LM := Aside0.mk hL
        clear hL
        rw [if_pos rfl] at hB
        obtain ⟨⟨ks, e1x, r1x⟩, hq, hB⟩ := Option.bind_eq_some_iff.mp hB
        obtain ⟨⟨x, e1, r1⟩, hk, hq⟩ := Option.map_eq_some_iff.mp hq
        cases hq
        have HKY := Aside0.mk hk
        clear hk
        dsimp only at hB
        by_cases h1 : e1 = 0
        · rw [if_pos h1] at hB
          have d1 : (e1 != 0) = false := bne_eq_false_iff_eq.mpr h1
          clear h1
          obtain ⟨⟨X, e2, r3⟩, hX, hB⟩ := Option.bind_eq_some_iff.mp hB
          have hV := HV0.out m (by have := HKK.out; omega)
          unfold ValC at hV
          have HV := Aside0.mk hV
          have HVV := Aside0.mk hX
          clear hX hV
          by_cases h2 : e2 = 0
          · rw [if_pos h2] at hB
            have d2 : (e2 != 0) = false := bne_eq_false_iff_eq.mpr h2
            have HB2 := Aside0.mk hB
            clear hB h2
            go_upto_region 13 with (first | (go_at_call 43; (with_reducible refine (rb_ends.calls g ri w0 wr M0.out.rb).mono ?_); rintro e w1 ⟨rfl, hI1, hK1⟩; have M1 := Aside0.mk (M0.out.step hI1 hK1); have ht0 : w1.cell? ⟨w.heap.size + 1, 0, none⟩ = some _ := (blk_cell M1.out.tb 0).trans rfl; have ht1 : w1.cell? ⟨w.heap.size + 1, 1, none⟩ = some _ := (blk_cell M1.out.tb 1).trans rfl; have ht2 : w1.cell? ⟨w.heap.size + 1, 2, none⟩ = some _ := (blk_cell M1.out.tb 2).trans rfl; have ht3 : w1.cell? ⟨w.heap.size + 1, 3, none⟩ = some _ := (blk_cell M1.out.tb 3).trans rfl; have ht4 : w1.cell? ⟨w.heap.size + 1, 4, none⟩ = some _ := (blk_cell M1.out.tb 4).trans rfl; have ft0 := blk_frozen M1.out.tb 0; have ft1 := blk_frozen M1.out.tb 1; have ft2 := blk_frozen M1.out.tb 2; have ft3 := blk_frozen M1.out.tb 3; have ft4 := blk_frozen M1.out.tb 4; have hz0 : w1.cell? ⟨w.heap.size, 0, none⟩ = some _ := (blk_cell M1.out.res 0).trans rfl; have hz1 : w1.cell? ⟨w.heap.size, 1, none⟩ = some _ := (blk_cell M1.out.res 1).trans rfl; have hz2 : w1.cell? ⟨w.heap.size, 2, none⟩ = some _ := (blk_cell M1.out.res 2).trans rfl; have hz3 : w1.cell? ⟨w.heap.size, 3, none⟩ = some _ := (blk_cell M1.out.res 3).trans rfl; have hz4 : w1.cell? ⟨w.heap.size, 4, none⟩ = some _ := (blk_cell M1.out.res 4).trans rfl; have fz0 := blk_frozen M1.out.res 0; have fz1 := blk_frozen M1.out.res 1; have fz2 := blk_frozen M1.out.res 2; have fz3 := blk_frozen M1.out.res 3; have fz4 := blk_frozen M1.out.res 4; clear hI1 hK1; rw [HE.out]; have M1 := Aside0.mk (MSx.ends M1.out HE.out)) | (go_at_call 44; (with_reducible refine (rb_key.calls m g _ r1 Ti.f3 x e1 _ (w.heap.size + 2) (fun _ => True) w0 w1 M1.out.rb M1.out.keys (by have := M1.out.gl; omega) HKY.out).mono ?_); rintro e w2 ⟨rfl, hI2, hK2⟩; have M2 := Aside0.mk (M1.out.step hI2 hK2); have ht0 : w2.cell? ⟨w.heap.size + 1, 0, none⟩ = some _ := (blk_cell M2.out.tb 0).trans rfl; have ht1 : w2.cell? ⟨w.heap.size + 1, 1, none⟩ = some _ := (blk_cell M2.out.tb 1).trans rfl; have ht2 : w2.cell? ⟨w.heap.size + 1, 2, none⟩ = some _ := (blk_cell M2.out.tb 2).trans rfl; have ht3 : w2.cell? ⟨w.heap.size + 1, 3, none⟩ = some _ := (blk_cell M2.out.tb 3).trans rfl; have ht4 : w2.cell? ⟨w.heap.size + 1, 4, none⟩ = some _ := (blk_cell M2.out.tb 4).trans rfl; have ft0 := blk_frozen M2.out.tb 0; have ft1 := blk_frozen M2.out.tb 1; have ft2 := blk_frozen M2.out.tb 2; have ft3 := blk_frozen M2.out.tb 3; have ft4 := blk_frozen M2.out.tb 4; have hz0 : w2.cell? ⟨w.heap.size, 0, none⟩ = some _ := (blk_cell M2.out.res 0).trans rfl; have hz1 : w2.cell? ⟨w.heap.size, 1, none⟩ = some _ := (blk_cell M2.out.res 1).trans rfl; have hz2 : w2.cell? ⟨w.heap.size, 2, none⟩ = some _ := (blk_cell M2.out.res 2).trans rfl; have hz3 : w2.cell? ⟨w.heap.size, 3, none⟩ = some _ := (blk_cell M2.out.res 3).trans rfl; have hz4 : w2.cell? ⟨w.heap.size, 4, none⟩ = some _ := (blk_cell M2.out.res 4).trans rfl; have fz0 := blk_frozen M2.out.res 0; have fz1 := blk_frozen M2.out.res 1; have fz2 := blk_frozen M2.out.res 2; have fz3 := blk_frozen M2.out.res 3; have fz4 := blk_frozen M2.out.res 4; clear hI2 hK2) | ((with_reducible refine gate_builtin (b := .append) (xs := #[.tmp 32, .tmp 34]) rfl ?_); at_builtin; refine Kd.R_append Kd.string (w0 := w2) (w.heap.size + 2) rfl (.tmp 32) (.tmp 34) 22 9 (.string ⟨#[]⟩) 16 rfl Try.underlying22 infoB9 rfl (by decide) (by omega) (.slice A3 Ti.f3.length c3) Ti.f3 x [.string x] (fun _ => True) (fun _ => False) rfl rfl ?aP (fun _ hk => hk.elim) ?aF ?aO ?aB ?aS ?aL ?_; (case aP => exact rfl); (case aB => exact Below.refl _ _); (case aF => exact (fun _ _ => trivial)); (case aO => exact M2.out.keys); (case aS => exact M2.out.lo); (case aL => have := LM.out; omega); intro v1 w8 ho hb hg hat; obtain ⟨A, c, rfl⟩ := Kd.R_slice ho; have MK0 := MSx.keysPut M2.out ho hb hg hat; rw [show (Ti.f3 ++ [x]).length = Ti.f3.length + 1 by simp] at MK0; have MK := Aside0.mk MK0; clear MK0; have HT8 := Aside0.mk (blk_grown M2.out.tb hg (own_ge M2.out.keys (by omega))); have ht0 : w8.cell? ⟨w.heap.size + 1, 0, none⟩ = some _ := (blk_cell HT8.out 0).trans rfl; have ht1 : w8.cell? ⟨w.heap.size + 1, 1, none⟩ = some _ := (blk_cell HT8.out 1).trans rfl; have ht2 : w8.cell? ⟨w.heap.size + 1, 2, none⟩ = some _ := (blk_cell HT8.out 2).trans rfl; have ht3 : w8.cell? ⟨w.heap.size + 1, 3, none⟩ = some _ := (blk_cell HT8.out 3).trans rfl; have ht4 : w8.cell? ⟨w.heap.size + 1, 4, none⟩ = some _ := (blk_cell HT8.out 4).trans rfl; have ft0 := blk_frozen HT8.out 0; have ft1 := blk_frozen HT8.out 1; have ft2 := blk_frozen HT8.out 2; have ft3 := blk_frozen HT8.out 3; have ft4 := blk_frozen HT8.out 4; clear ho hb hg hat) | (go_at_call 19; (with_reducible refine (HV.out g _ r3 (wrap64 (level + 1)) X e2 w0 _ MK.out.rb HVV.out).mono ?_); rintro e w4 ⟨v3, v4, rfl, hR3, hR4, hI4, hK4⟩; obtain ⟨X3, d3, rfl⟩ := Kd.R_slice hR3; obtain ⟨X4, d4, rfl⟩ := Kd.R_slice hR4; have M4 := Aside0.mk (MK.out.step hI4 hK4); have M5 := Aside0.mk (M4.out.below (below_alloc (Below.refl _ _) (.cells #[.int .i64 X.f0, .int .i64 X.f1, .string X.f2, .slice X3 X.f3.length d3, .slice X4 X.f4.length d4] 25))); have HP := Aside0.mk MK.out; obtain ⟨sz, hsz⟩ : ∃ n, (w8.setCell ⟨w.heap.size + 1, 3, none⟩ (.slice A (Ti.f3.length + 1) c)).heap.size = n := ⟨_, rfl⟩; rw [hsz] at hR3 hR4; have HSZ := Aside0.mk hsz; have RX3 := Aside0.mk (Kd.R_alloc hR3 (.cells #[.int .i64 X.f0, .int .i64 X.f1, .string X.f2, .slice X3 X.f3.length d3, .slice X4 X.f4.length d4] 25)); have RX4 := Aside0.mk (Kd.R_alloc hR4 (.cells #[.int .i64 X.f0, .int .i64 X.f1, .string X.f2, .slice X3 X.f3.length d3, .slice X4 X.f4.length d4] 25)); have HNB := Aside0.mk (blk_new w4 (.cells #[.int .i64 X.f0, .int .i64 X.f1, .string X.f2, .slice X3 X.f3.length d3, .slice X4 X.f4.length d4] 25)); clear hI4 hK4 hR3 hR4 hsz))
            generalize (w4.alloc (.cells #[.int .i64 X.f0, .int .i64 X.f1, .string X.f2, .slice X3 X.f3.length d3, .slice X4 X.f4.length d4] 25)) = w5 at M5 RX3 RX4 HNB ⊢
            have ht0 : w5.cell? ⟨w.heap.size + 1, 0, none⟩ = some _ := (blk_cell M5.out.tb 0).trans rfl; have ht1 : w5.cell? ⟨w.heap.size + 1, 1, none⟩ = some _ := (blk_cell M5.out.tb 1).trans rfl; have ht2 : w5.cell? ⟨w.heap.size + 1, 2, none⟩ = some _ := (blk_cell M5.out.tb 2).trans rfl; have ht3 : w5.cell? ⟨w.heap.size + 1, 3, none⟩ = some _ := (blk_cell M5.out.tb 3).trans rfl; have ht4 : w5.cell? ⟨w.heap.size + 1, 4, none⟩ = some _ := (blk_cell M5.out.tb 4).trans rfl; have ft0 := blk_frozen M5.out.tb 0; have ft1 := blk_frozen M5.out.tb 1; have ft2 := blk_frozen M5.out.tb 2; have ft3 := blk_frozen M5.out.tb 3; have ft4 := blk_frozen M5.out.tb 4
            have hx0 : w5.cell? ⟨w4.heap.size, 0, none⟩ = some _ := (blk_cell HNB.out 0).trans rfl; have hx1 : w5.cell? ⟨w4.heap.size, 1, none⟩ = some _ := (blk_cell HNB.out 1).trans rfl; have hx2 : w5.cell? ⟨w4.heap.size, 2, none⟩ = some _ := (blk_cell HNB.out 2).trans rfl; have hx3 : w5.cell? ⟨w4.heap.size, 3, none⟩ = some _ := (blk_cell HNB.out 3).trans rfl; have hx4 : w5.cell? ⟨w4.heap.size, 4, none⟩ = some _ := (blk_cell HNB.out 4).trans rfl; have fx0 := blk_frozen HNB.out 0; have fx1 := blk_frozen HNB.out 1; have fx2 := blk_frozen HNB.out 2; have fx3 := blk_frozen HNB.out 3; have fx4 := blk_frozen HNB.out 4
            go_wp2_with (((with_reducible refine gate_builtin (b := .append) (xs := #[.tmp 49, .tmp 51]) rfl ?_); at_builtin; refine Kd.R_append k25 (w0 := w5) (w.heap.size + 2) rfl (.tmp 49) (.tmp 51) 23 25 (.agg #[.int .i64 0, .int .i64 0, .string ⟨#[]⟩, .slice none 0 0, .slice none 0 0]) 80 rfl Try.underlying23 infoB25 rfl (by decide) (by omega) (.slice A4 Ti.f4.length c4) Ti.f4 X [.int .i64 X.f0, .int .i64 X.f1, .string X.f2, .slice X3 X.f3.length d3, .slice X4 X.f4.length d4] (fun k => some k ≠ (Value.slice A (Ti.f3 ++ [x]).length c).ownBlock) (fun k => sz ≤ k) rfl rfl ?aP ?aK ?aF ?aO ?aB ?aS ?aL ?_; (case aP => exact kid_M RX3.out RX4.out (by have := HP.out.lo; have := HSZ.out; omega)); (case aK => exact fun j hj => ⟨own_lt HP.out.keys (by have := HSZ.out; omega), own_lt HP.out.kids (by have := HSZ.out; omega)⟩); (case aB => exact Below.refl _ _); (case aF => exact fun j hj => own_lt M5.out.keys hj); (case aO => exact M5.out.kids); (case aS => exact M5.out.lo); (case aL => have := LM.out; omega); intro v1 w9 ho hb hg hat; obtain ⟨B, d, rfl⟩ := Kd.R_slice ho; have MN0 := MSx.kidsPut M5.out ho hb hg; rw [show (Ti.f4 ++ [X]).length = Ti.f4.length + 1 by simp] at MN0; have MN := Aside0.mk MN0; clear MN0; have HT9 := Aside0.mk (blk_grown M5.out.tb hg (own_ge M5.out.kids (by omega))); have ht0 : w9.cell? ⟨w.heap.size + 1, 0, none⟩ = some _ := (blk_cell HT9.out 0).trans rfl; have ht1 : w9.cell? ⟨w.heap.size + 1, 1, none⟩ = some _ := (blk_cell HT9.out 1).trans rfl; have ht2 : w9.cell? ⟨w.heap.size + 1, 2, none⟩ = some _ := (blk_cell HT9.out 2).trans rfl; have ht3 : w9.cell? ⟨w.heap.size + 1, 3, none⟩ = some _ := (blk_cell HT9.out 3).trans rfl; have ht4 : w9.cell? ⟨w.heap.size + 1, 4, none⟩ = some _ := (blk_cell HT9.out 4).trans rfl; have ft0 := blk_frozen HT9.out 0; have ft1 := blk_frozen HT9.out 1; have ft2 := blk_frozen HT9.out 2; have ft3 := blk_frozen HT9.out 3; have ft4 := blk_frozen HT9.out 4; clear ho hb hg hat))
            go_roundg m
            case measure => have := HKG.out; omega
            case rel => exact ⟨rfl, r3, _, A, c, B, d, m, Nat.le_refl _, by have := HKK.out; omega, HB2, MN⟩
          · rw [if_neg h2] at hB
            have d2 : (e2 != 0) = true := bne_iff_ne.mpr h2
            cases hB
            go_wp2_with (first | (go_at_call 43; (with_reducible refine (rb_ends.calls g ri w0 wr M0.out.rb).mono ?_); rintro e w1 ⟨rfl, hI1, hK1⟩; have M1 := Aside0.mk (M0.out.step hI1 hK1); have ht0 : w1.cell? ⟨w.heap.size + 1, 0, none⟩ = some _ := (blk_cell M1.out.tb 0).trans rfl; have ht1 : w1.cell? ⟨w.heap.size + 1, 1, none⟩ = some _ := (blk_cell M1.out.tb 1).trans rfl; have ht2 : w1.cell? ⟨w.heap.size + 1, 2, none⟩ = some _ := (blk_cell M1.out.tb 2).trans rfl; have ht3 : w1.cell? ⟨w.heap.size + 1, 3, none⟩ = some _ := (blk_cell M1.out.tb 3).trans rfl; have ht4 : w1.cell? ⟨w.heap.size + 1, 4, none⟩ = some _ := (blk_cell M1.out.tb 4).trans rfl; have ft0 := blk_frozen M1.out.tb 0; have ft1 := blk_frozen M1.out.tb 1; have ft2 := blk_frozen M1.out.tb 2; have ft3 := blk_frozen M1.out.tb 3; have ft4 := blk_frozen M1.out.tb 4; have hz0 : w1.cell? ⟨w.heap.size, 0, none⟩ = some _ := (blk_cell M1.out.res 0).trans rfl; have hz1 : w1.cell? ⟨w.heap.size, 1, none⟩ = some _ := (blk_cell M1.out.res 1).trans rfl; have hz2 : w1.cell? ⟨w.heap.size, 2, none⟩ = some _ := (blk_cell M1.out.res 2).trans rfl; have hz3 : w1.cell? ⟨w.heap.size, 3, none⟩ = some _ := (blk_cell M1.out.res 3).trans rfl; have hz4 : w1.cell? ⟨w.heap.size, 4, none⟩ = some _ := (blk_cell M1.out.res 4).trans rfl; have fz0 := blk_frozen M1.out.res 0; have fz1 := blk_frozen M1.out.res 1; have fz2 := blk_frozen M1.out.res 2; have fz3 := blk_frozen M1.out.res 3; have fz4 := blk_frozen M1.out.res 4; clear hI1 hK1; rw [HE.out]; have M1 := Aside0.mk (MSx.ends M1.out HE.out)) | (go_at_call 44; (with_reducible refine (rb_key.calls m g _ r1 Ti.f3 x e1 _ (w.heap.size + 2) (fun _ => True) w0 w1 M1.out.rb M1.out.keys (by have := M1.out.gl; omega) HKY.out).mono ?_); rintro e w2 ⟨rfl, hI2, hK2⟩; have M2 := Aside0.mk (M1.out.step hI2 hK2); have ht0 : w2.cell? ⟨w.heap.size + 1, 0, none⟩ = some _ := (blk_cell M2.out.tb 0).trans rfl; have ht1 : w2.cell? ⟨w.heap.size + 1, 1, none⟩ = some _ := (blk_cell M2.out.tb 1).trans rfl; have ht2 : w2.cell? ⟨w.heap.size + 1, 2, none⟩ = some _ := (blk_cell M2.out.tb 2).trans rfl; have ht3 : w2.cell? ⟨w.heap.size + 1, 3, none⟩ = some _ := (blk_cell M2.out.tb 3).trans rfl; have ht4 : w2.cell? ⟨w.heap.size + 1, 4, none⟩ = some _ := (blk_cell M2.out.tb 4).trans rfl; have ft0 := blk_frozen M2.out.tb 0; have ft1 := blk_frozen M2.out.tb 1; have ft2 := blk_frozen M2.out.tb 2; have ft3 := blk_frozen M2.out.tb 3; have ft4 := blk_frozen M2.out.tb 4; have hz0 : w2.cell? ⟨w.heap.size, 0, none⟩ = some _ := (blk_cell M2.out.res 0).trans rfl; have hz1 : w2.cell? ⟨w.heap.size, 1, none⟩ = some _ := (blk_cell M2.out.res 1).trans rfl; have hz2 : w2.cell? ⟨w.heap.size, 2, none⟩ = some _ := (blk_cell M2.out.res 2).trans rfl; have hz3 : w2.cell? ⟨w.heap.size, 3, none⟩ = some _ := (blk_cell M2.out.res 3).trans rfl; have hz4 : w2.cell? ⟨w.heap.size, 4, none⟩ = some _ := (blk_cell M2.out.res 4).trans rfl; have fz0 := blk_frozen M2.out.res 0; have fz1 := blk_frozen M2.out.res 1; have fz2 := blk_frozen M2.out.res 2; have fz3 := blk_frozen M2.out.res 3; have fz4 := blk_frozen M2.out.res 4; clear hI2 hK2) | ((with_reducible refine gate_builtin (b := .append) (xs := #[.tmp 32, .tmp 34]) rfl ?_); at_builtin; refine Kd.R_append Kd.string (w0 := w2) (w.heap.size + 2) rfl (.tmp 32) (.tmp 34) 22 9 (.string ⟨#[]⟩) 16 rfl Try.underlying22 infoB9 rfl (by decide) (by omega) (.slice A3 Ti.f3.length c3) Ti.f3 x [.string x] (fun _ => True) (fun _ => False) rfl rfl ?aP (fun _ hk => hk.elim) ?aF ?aO ?aB ?aS ?aL ?_; (case aP => exact rfl); (case aB => exact Below.refl _ _); (case aF => exact (fun _ _ => trivial)); (case aO => exact M2.out.keys); (case aS => exact M2.out.lo); (case aL => have := LM.out; omega); intro v1 w8 ho hb hg hat; obtain ⟨A, c, rfl⟩ := Kd.R_slice ho; have MK0 := MSx.keysPut M2.out ho hb hg hat; rw [show (Ti.f3 ++ [x]).length = Ti.f3.length + 1 by simp] at MK0; have MK := Aside0.mk MK0; clear MK0; have HT8 := Aside0.mk (blk_grown M2.out.tb hg (own_ge M2.out.keys (by omega))); have ht0 : w8.cell? ⟨w.heap.size + 1, 0, none⟩ = some _ := (blk_cell HT8.out 0).trans rfl; have ht1 : w8.cell? ⟨w.heap.size + 1, 1, none⟩ = some _ := (blk_cell HT8.out 1).trans rfl; have ht2 : w8.cell? ⟨w.heap.size + 1, 2, none⟩ = some _ := (blk_cell HT8.out 2).trans rfl; have ht3 : w8.cell? ⟨w.heap.size + 1, 3, none⟩ = some _ := (blk_cell HT8.out 3).trans rfl; have ht4 : w8.cell? ⟨w.heap.size + 1, 4, none⟩ = some _ := (blk_cell HT8.out 4).trans rfl; have ft0 := blk_frozen HT8.out 0; have ft1 := blk_frozen HT8.out 1; have ft2 := blk_frozen HT8.out 2; have ft3 := blk_frozen HT8.out 3; have ft4 := blk_frozen HT8.out 4; clear ho hb hg hat) | (go_at_call 19; (with_reducible refine (HV.out g _ _ (wrap64 (level + 1)) X _ w0 _ MK.out.rb HVV.out).mono ?_); rintro e w4 ⟨v3, v4, rfl, hR3, hR4, hI4, hK4⟩; obtain ⟨X3, d3, rfl⟩ := Kd.R_slice hR3; obtain ⟨X4, d4, rfl⟩ := Kd.R_slice hR4; have M4 := Aside0.mk (MK.out.step hI4 hK4); have M5 := Aside0.mk (M4.out.below (below_alloc (Below.refl _ _) (.cells #[.int .i64 X.f0, .int .i64 X.f1, .string X.f2, .slice X3 X.f3.length d3, .slice X4 X.f4.length d4] 25))); have HP := Aside0.mk MK.out; obtain ⟨sz, hsz⟩ : ∃ n, (w8.setCell ⟨w.heap.size + 1, 3, none⟩ (.slice A (Ti.f3.length + 1) c)).heap.size = n := ⟨_, rfl⟩; rw [hsz] at hR3 hR4; have HSZ := Aside0.mk hsz; have RX3 := Aside0.mk (Kd.R_alloc hR3 (.cells #[.int .i64 X.f0, .int .i64 X.f1, .string X.f2, .slice X3 X.f3.length d3, .slice X4 X.f4.length d4] 25)); have RX4 := Aside0.mk (Kd.R_alloc hR4 (.cells #[.int .i64 X.f0, .int .i64 X.f1, .string X.f2, .slice X3 X.f3.length d3, .slice X4 X.f4.length d4] 25)); have HNB := Aside0.mk (blk_new w4 (.cells #[.int .i64 X.f0, .int .i64 X.f1, .string X.f2, .slice X3 X.f3.length d3, .slice X4 X.f4.length d4] 25)); have ht0 : (w4.alloc (.cells #[.int .i64 X.f0, .int .i64 X.f1, .string X.f2, .slice X3 X.f3.length d3, .slice X4 X.f4.length d4] 25)).cell? ⟨w.heap.size + 1, 0, none⟩ = some _ := (blk_cell M5.out.tb 0).trans rfl; have ht1 : (w4.alloc (.cells #[.int .i64 X.f0, .int .i64 X.f1, .string X.f2, .slice X3 X.f3.length d3, .slice X4 X.f4.length d4] 25)).cell? ⟨w.heap.size + 1, 1, none⟩ = some _ := (blk_cell M5.out.tb 1).trans rfl; have ht2 : (w4.alloc (.cells #[.int .i64 X.f0, .int .i64 X.f1, .string X.f2, .slice X3 X.f3.length d3, .slice X4 X.f4.length d4] 25)).cell? ⟨w.heap.size + 1, 2, none⟩ = some _ := (blk_cell M5.out.tb 2).trans rfl; have ht3 : (w4.alloc (.cells #[.int .i64 X.f0, .int .i64 X.f1, .string X.f2, .slice X3 X.f3.length d3, .slice X4 X.f4.length d4] 25)).cell? ⟨w.heap.size + 1, 3, none⟩ = some _ := (blk_cell M5.out.tb 3).trans rfl; have ht4 : (w4.alloc (.cells #[.int .i64 X.f0, .int .i64 X.f1, .string X.f2, .slice X3 X.f3.length d3, .slice X4 X.f4.length d4] 25)).cell? ⟨w.heap.size + 1, 4, none⟩ = some _ := (blk_cell M5.out.tb 4).trans rfl; have ft0 := blk_frozen M5.out.tb 0; have ft1 := blk_frozen M5.out.tb 1; have ft2 := blk_frozen M5.out.tb 2; have ft3 := blk_frozen M5.out.tb 3; have ft4 := blk_frozen M5.out.tb 4; have hz0 : (w4.alloc (.cells #[.int .i64 X.f0, .int .i64 X.f1, .string X.f2, .slice X3 X.f3.length d3, .slice X4 X.f4.length d4] 25)).cell? ⟨w.heap.size, 0, none⟩ = some _ := (blk_cell M5.out.res 0).trans rfl; have hz1 : (w4.alloc (.cells #[.int .i64 X.f0, .int .i64 X.f1, .string X.f2, .slice X3 X.f3.length d3, .slice X4 X.f4.length d4] 25)).cell? ⟨w.heap.size, 1, none⟩ = some _ := (blk_cell M5.out.res 1).trans rfl; have hz2 : (w4.alloc (.cells #[.int .i64 X.f0, .int .i64 X.f1, .string X.f2, .slice X3 X.f3.length d3, .slice X4 X.f4.length d4] 25)).cell? ⟨w.heap.size, 2, none⟩ = some _ := (blk_cell M5.out.res 2).trans rfl; have hz3 : (w4.alloc (.cells #[.int .i64 X.f0, .int .i64 X.f1, .string X.f2, .slice X3 X.f3.length d3, .slice X4 X.f4.length d4] 25)).cell? ⟨w.heap.size, 3, none⟩ = some _ := (blk_cell M5.out.res 3).trans rfl; have hz4 : (w4.alloc (.cells #[.int .i64 X.f0, .int .i64 X.f1, .string X.f2, .slice X3 X.f3.length d3, .slice X4 X.f4.length d4] 25)).cell? ⟨w.heap.size, 4, none⟩ = some _ := (blk_cell M5.out.res 4).trans rfl; have fz0 := blk_frozen M5.out.res 0; have fz1 := blk_frozen M5.out.res 1; have fz2 := blk_frozen M5.out.res 2; have fz3 := blk_frozen M5.out.res 3; have fz4 := blk_frozen M5.out.res 4; have hx0 : (w4.alloc (.cells #[.int .i64 X.f0, .int .i64 X.f1, .string X.f2, .slice X3 X.f3.length d3, .slice X4 X.f4.length d4] 25)).cell? ⟨w4.heap.size, 0, none⟩ = some _ := (blk_cell HNB.out 0).trans rfl; have hx1 : (w4.alloc (.cells #[.int .i64 X.f0, .int .i64 X.f1, .string X.f2, .slice X3 X.f3.length d3, .slice X4 X.f4.length d4] 25)).cell? ⟨w4.heap.size, 1, none⟩ = some _ := (blk_cell HNB.out 1).trans rfl; have hx2 : (w4.alloc (.cells #[.int .i64 X.f0, .int .i64 X.f1, .string X.f2, .slice X3 X.f3.length d3, .slice X4 X.f4.length d4] 25)).cell? ⟨w4.heap.size, 2, none⟩ = some _ := (blk_cell HNB.out 2).trans rfl; have hx3 : (w4.alloc (.cells #[.int .i64 X.f0, .int .i64 X.f1, .string X.f2, .slice X3 X.f3.length d3, .slice X4 X.f4.length d4] 25)).cell? ⟨w4.heap.size, 3, none⟩ = some _ := (blk_cell HNB.out 3).trans rfl; have hx4 : (w4.alloc (.cells #[.int .i64 X.f0, .int .i64 X.f1, .string X.f2, .slice X3 X.f3.length d3, .slice X4 X.f4.length d4] 25)).cell? ⟨w4.heap.size, 4, none⟩ = some _ := (blk_cell HNB.out 4).trans rfl; have fx0 := blk_frozen HNB.out 0; have fx1 := blk_frozen HNB.out 1; have fx2 := blk_frozen HNB.out 2; have fx3 := blk_frozen HNB.out 3; have fx4 := blk_frozen HNB.out 4; clear hI4 hK4 hR3 hR4 hsz))
            refine bodyPost_ret (results_ct rfl _ _ w.heap.size 25 #[.int .i64 0, .int .i64 0, .string ⟨#[]⟩, .slice none 0 0, .slice none 0 0] (0, 0) _ rfl (put5 M5.out.res _ _ _ _ _) Try.underlying25 rfl (by kernel_rfl)) rfl ?_
            exact ⟨_, _, rfl, Kd.R_nil _ _ _ _ _, Kd.R_nil _ _ _ _ _, M5.out.rb.far5 (by have := M5.out.gl; omega) M5.out.wl _ _ _ _ _, KeepBut.new M5.out.keep (keep5 (KeepBut.refl _ _ _) _ _ _ _ _) (Nat.le_refl _)⟩
        · rw [if_neg h1] at hB
          have d1 : (e1 != 0) = true := bne_iff_ne.mpr h1
          cases hB
          go_wp2_with (first | (go_at_call 43; (with_reducible refine (rb_ends.calls g ri w0 wr M0.out.rb).mono ?_); rintro e w1 ⟨rfl, hI1, hK1⟩; have M1 := Aside0.mk (M0.out.step hI1 hK1); have ht0 : w1.cell? ⟨w.heap.size + 1, 0, none⟩ = some _ := (blk_cell M1.out.tb 0).trans rfl; have ht1 : w1.cell? ⟨w.heap.size + 1, 1, none⟩ = some _ := (blk_cell M1.out.tb 1).trans rfl; have ht2 : w1.cell? ⟨w.heap.size + 1, 2, none⟩ = some _ := (blk_cell M1.out.tb 2).trans rfl; have ht3 : w1.cell? ⟨w.heap.size + 1, 3, none⟩ = some _ := (blk_cell M1.out.tb 3).trans rfl; have ht4 : w1.cell? ⟨w.heap.size + 1, 4, none⟩ = some _ := (blk_cell M1.out.tb 4).trans rfl; have ft0 := blk_frozen M1.out.tb 0; have ft1 := blk_frozen M1.out.tb 1; have ft2 := blk_frozen M1.out.tb 2; have ft3 := blk_frozen M1.out.tb 3; have ft4 := blk_frozen M1.out.tb 4; have hz0 : w1.cell? ⟨w.heap.size, 0, none⟩ = some _ := (blk_cell M1.out.res 0).trans rfl; have hz1 : w1.cell? ⟨w.heap.size, 1, none⟩ = some _ := (blk_cell M1.out.res 1).trans rfl; have hz2 : w1.cell? ⟨w.heap.size, 2, none⟩ = some _ := (blk_cell M1.out.res 2).trans rfl; have hz3 : w1.cell? ⟨w.heap.size, 3, none⟩ = some _ := (blk_cell M1.out.res 3).trans rfl; have hz4 : w1.cell? ⟨w.heap.size, 4, none⟩ = some _ := (blk_cell M1.out.res 4).trans rfl; have fz0 := blk_frozen M1.out.res 0; have fz1 := blk_frozen M1.out.res 1; have fz2 := blk_frozen M1.out.res 2; have fz3 := blk_frozen M1.out.res 3; have fz4 := blk_frozen M1.out.res 4; clear hI1 hK1; rw [HE.out]; have M1 := Aside0.mk (MSx.ends M1.out HE.out)) | (go_at_call 44; (with_reducible refine (rb_key.calls m g _ _ Ti.f3 x _ _ (w.heap.size + 2) (fun _ => True) w0 w1 M1.out.rb M1.out.keys (by have := M1.out.gl; omega) HKY.out).mono ?_); rintro e w2 ⟨rfl, hI2, hK2⟩; have M2 := Aside0.mk (M1.out.step hI2 hK2); have ht0 : w2.cell? ⟨w.heap.size + 1, 0, none⟩ = some _ := (blk_cell M2.out.tb 0).trans rfl; have ht1 : w2.cell? ⟨w.heap.size + 1, 1, none⟩ = some _ := (blk_cell M2.out.tb 1).trans rfl; have ht2 : w2.cell? ⟨w.heap.size + 1, 2, none⟩ = some _ := (blk_cell M2.out.tb 2).trans rfl; have ht3 : w2.cell? ⟨w.heap.size + 1, 3, none⟩ = some _ := (blk_cell M2.out.tb 3).trans rfl; have ht4 : w2.cell? ⟨w.heap.size + 1, 4, none⟩ = some _ := (blk_cell M2.out.tb 4).trans rfl; have ft0 := blk_frozen M2.out.tb 0; have ft1 := blk_frozen M2.out.tb 1; have ft2 := blk_frozen M2.out.tb 2; have ft3 := blk_frozen M2.out.tb 3; have ft4 := blk_frozen M2.out.tb 4; have hz0 : w2.cell? ⟨w.heap.size, 0, none⟩ = some _ := (blk_cell M2.out.res 0).trans rfl; have hz1 : w2.cell? ⟨w.heap.size, 1, none⟩ = some _ := (blk_cell M2.out.res 1).trans rfl; have hz2 : w2.cell? ⟨w.heap.size, 2, none⟩ = some _ := (blk_cell M2.out.res 2).trans rfl; have hz3 : w2.cell? ⟨w.heap.size, 3, none⟩ = some _ := (blk_cell M2.out.res 3).trans rfl; have hz4 : w2.cell? ⟨w.heap.size, 4, none⟩ = some _ := (blk_cell M2.out.res 4).trans rfl; have fz0 := blk_frozen M2.out.res 0; have fz1 := blk_frozen M2.out.res 1; have fz2 := blk_frozen M2.out.res 2; have fz3 := blk_frozen M2.out.res 3; have fz4 := blk_frozen M2.out.res 4; clear hI2 hK2))
          refine bodyPost_ret (results_ct rfl _ _ w.heap.size 25 #[.int .i64 0, .int .i64 0, .string ⟨#[]⟩, .slice none 0 0, .slice none 0 0] (0, 0) _ rfl (put5 M2.out.res _ _ _ _ _) Try.underlying25 rfl (by kernel_rfl)) rfl ?_
          exact ⟨_, _, rfl, Kd.R_nil _ _ _ _ _, Kd.R_nil _ _ _ _ _, M2.out.rb.far5 (by have := M2.out.gl; omega) M2.out.wl _ _ _ _ _, KeepBut.new M2.out.keep (keep5 (KeepBut.refl _ _ _) _ _ _ _ _) (Nat.le_refl _)⟩
theorem more_of (k : Nat) (hV : ∀ j, j < k → ValC j) : MorC k := by
  intro g rest rest' level dict T e0 w0 w hI h
  cases dict with
  | false => exact more_list k hV g rest rest' level T e0 w0 w hI (by simpa using h)
  | true => exact more_dict k hV g rest rest' level T e0 w0 w hI (by simpa using h)
theorem valC_all (k : Nat) : ValC k := by
  have key : ∀ n j, j < n → ValC j := by
    intro n
    induction n with
    | zero => intro j hj; omega
    | succ n ih =>
      intro j hj
      cases j with
      | zero => intro g rest rest' level T e0 w0 w hI h; exact absurd h (by simp [bV.f])
      | succ m => exact value_of m (more_of m (fun i hi => ih i (by omega)))
  exact key (k + 1) k (by omega)
def ben_Parse.f (k : Nat) (b : List Int) : Option (S25 × Int) := (bV.f k b 1).bind fun r => if r.2.1 = 0 then (if 0 < r.2.2.length then some (z25, 4) else some (r.1, 0)) else some (z25, r.2.1)
set_option maxHeartbeats 4000000 in
set_option maxRecDepth 100000 in
theorem ben_Parse.calls (k : Nat) (A : Option Addr) (c : Nat) (b : List Int) (T : S25) (e0 : Int) (w : World) (hr : (Kd.int .u8).C w A b.length b) (hc : b.length ≤ c) (hs : b.length < 140737488355328) (h : ben_Parse.f k b = some (T, e0)) :
    Calls Try.prog 11 #[.slice A b.length c] w fun e w2 => ∃ v3 v4 : Value, e = .returned (.tuple #[.agg #[.int .i64 T.f0, .int .i64 T.f1, .string T.f2, v3, v4], .int .i64 e0]) ∧ Kd.string.R 9 w2 w.heap.size (fun _ => True) v3 T.f3 ∧ k25.R 25 w2 w.heap.size (fun k => some k ≠ v3.ownBlock) v4 T.f4 ∧ Below w.heap.size w w2 := by
  have hu25 := Try.underlying25
  have hu45 := Try.underlying45
  have hb : Below w.heap.size w ((w.alloc (.cells #[.int .i64 0, .int .i64 0, .string ⟨#[]⟩, .slice none 0 0, .slice none 0 0] 25)).alloc (.cells #[.slice A b.length c] 45)) := below_alloc (below_alloc (Below.refl _ _) _) _
  have hn := blk_new (w.alloc (.cells #[.int .i64 0, .int .i64 0, .string ⟨#[]⟩, .slice none 0 0, .slice none 0 0] 25)) (.cells #[.slice A b.length c] 45)
  have hsz : (w.alloc (.cells #[.int .i64 0, .int .i64 0, .string ⟨#[]⟩, .slice none 0 0, .slice none 0 0] 25)).heap.size = w.heap.size + 1 := by simp
  rw [hsz] at hn
  have HR0 := Aside0.mk (show RbS w ((w.alloc (.cells #[.int .i64 0, .int .i64 0, .string ⟨#[]⟩, .slice none 0 0, .slice none 0 0] 25)).alloc (.cells #[.slice A b.length c] 45)) (w.heap.size + 1) b from ⟨⟨A, c, hn, hc, hr⟩, by omega, hs, hb⟩)
  have HZ0 := Aside0.mk (show (((w.alloc (.cells #[.int .i64 0, .int .i64 0, .string ⟨#[]⟩, .slice none 0 0, .slice none 0 0] 25)).alloc (.cells #[.slice A b.length c] 45))).heap[w.heap.size]? = some (.cells #[.int .i64 0, .int .i64 0, .string ⟨#[]⟩, .slice none 0 0, .slice none 0 0] 25 (0, 0)) from blk_alloc (blk_new w _) _)
  have HLT := Aside0.mk (blk_lt hn)
  unfold ben_Parse.f at h
  obtain ⟨⟨X, e2, r⟩, hX, h⟩ := Option.bind_eq_some_iff.mp h
  have HV := Aside0.mk (show _ from valC_all k (w.heap.size + 1) b r 1 X e2 w _ HR0.out hX)
  clear hb hn hsz hr hc hs hX
  dsimp only at h
  by_cases h2 : e2 = 0
  · rw [if_pos h2] at h
    have d2 : (e2 == 0) = true := beq_iff_eq.mpr h2
    subst h2
    by_cases h3 : 0 < r.length
    · rw [if_pos h3] at h
      cases h
      have d3 : decide (0 < (r.length : Int)) = true := decide_eq_true (by omega)
      have d4 : decide (0 < r.length) = true := decide_eq_true h3
      clear h3
      go_enter Try.func11, Try.ntmps11
      go_upto_region 3 with ((go_at_call 19; (with_reducible refine HV.out.mono ?_); rintro e w4 ⟨v3, v4, rfl, hR3, hR4, hI4, hK4⟩; obtain ⟨X3, d3, rfl⟩ := Kd.R_slice hR3; obtain ⟨X4, d4, rfl⟩ := Kd.R_slice hR4; have HZ4 := (hK4.2 w.heap.size (by have := HLT.out; omega) (by omega) (by simp)).trans HZ0.out; have HZ5 := Aside0.mk (blk_alloc HZ4 (.cells #[.int .i64 X.f0, .int .i64 X.f1, .string X.f2, .slice X3 X.f3.length d3, .slice X4 X.f4.length d4] 25)); have HI5 := Aside0.mk (hI4.later (below_alloc (Below.refl _ _) (.cells #[.int .i64 X.f0, .int .i64 X.f1, .string X.f2, .slice X3 X.f3.length d3, .slice X4 X.f4.length d4] 25))); have HNB := Aside0.mk (blk_new w4 (.cells #[.int .i64 X.f0, .int .i64 X.f1, .string X.f2, .slice X3 X.f3.length d3, .slice X4 X.f4.length d4] 25)); have RX3 := Aside0.mk (Kd.R_alloc hR3 (.cells #[.int .i64 X.f0, .int .i64 X.f1, .string X.f2, .slice X3 X.f3.length d3, .slice X4 X.f4.length d4] 25)); have RX4 := Aside0.mk (Kd.R_alloc hR4 (.cells #[.int .i64 X.f0, .int .i64 X.f1, .string X.f2, .slice X3 X.f3.length d3, .slice X4 X.f4.length d4] 25)); have HL4 := Aside0.mk (Nat.lt_of_lt_of_le HLT.out hK4.1); clear hI4 hK4 hR3 hR4 HZ4))
      generalize (w4.alloc (.cells #[.int .i64 X.f0, .int .i64 X.f1, .string X.f2, .slice X3 X.f3.length d3, .slice X4 X.f4.length d4] 25)) = w5 at HZ5 HI5 HNB RX3 RX4 ⊢
      obtain ⟨A1, c1, HG1, _, _⟩ := HI5.out.ex
      have hg1 : w5.cell? ⟨w.heap.size + 1, 0, none⟩ = some (.slice A1 _ c1) := (blk_cell HG1 0).trans rfl
      have hz0 : w5.cell? ⟨w.heap.size, 0, none⟩ = some _ := (blk_cell HZ5.out 0).trans rfl; have hz1 : w5.cell? ⟨w.heap.size, 1, none⟩ = some _ := (blk_cell HZ5.out 1).trans rfl; have hz2 : w5.cell? ⟨w.heap.size, 2, none⟩ = some _ := (blk_cell HZ5.out 2).trans rfl; have hz3 : w5.cell? ⟨w.heap.size, 3, none⟩ = some _ := (blk_cell HZ5.out 3).trans rfl; have hz4 : w5.cell? ⟨w.heap.size, 4, none⟩ = some _ := (blk_cell HZ5.out 4).trans rfl; have fz0 := blk_frozen HZ5.out 0; have fz1 := blk_frozen HZ5.out 1; have fz2 := blk_frozen HZ5.out 2; have fz3 := blk_frozen HZ5.out 3; have fz4 := blk_frozen HZ5.out 4
      have hx0 : w5.cell? ⟨w4.heap.size, 0, none⟩ = some _ := (blk_cell HNB.out 0).trans rfl; have hx1 : w5.cell? ⟨w4.heap.size, 1, none⟩ = some _ := (blk_cell HNB.out 1).trans rfl; have hx2 : w5.cell? ⟨w4.heap.size, 2, none⟩ = some _ := (blk_cell HNB.out 2).trans rfl; have hx3 : w5.cell? ⟨w4.heap.size, 3, none⟩ = some _ := (blk_cell HNB.out 3).trans rfl; have hx4 : w5.cell? ⟨w4.heap.size, 4, none⟩ = some _ := (blk_cell HNB.out 4).trans rfl; have fx0 := blk_frozen HNB.out 0; have fx1 := blk_frozen HNB.out 1; have fx2 := blk_frozen HNB.out 2; have fx3 := blk_frozen HNB.out 3; have fx4 := blk_frozen HNB.out 4
      clear HG1
      have hne : ¬ w.heap.size = w4.heap.size := by have := HL4.out; omega
      have hne2 : ¬ w4.heap.size = w.heap.size := by have := HL4.out; omega
      go_wp2
      refine bodyPost_ret (results_ct rfl _ _ w.heap.size 25 #[.int .i64 0, .int .i64 0, .string ⟨#[]⟩, .slice none 0 0, .slice none 0 0] (0, 0) _ rfl (put5 HZ5.out _ _ _ _ _) Try.underlying25 rfl (by kernel_rfl)) rfl ?_
      exact ⟨_, _, rfl, Kd.R_nil _ _ _ _ _, Kd.R_nil _ _ _ _ _, (((((HI5.out.bel.setCell (Nat.le_refl _) _).setCell (Nat.le_refl _) _).setCell (Nat.le_refl _) _).setCell (Nat.le_refl _) _).setCell (Nat.le_refl _) _)⟩
    · rw [if_neg h3] at h
      obtain ⟨h7, h8⟩ : X = T ∧ (0 : Int) = e0 := by simpa using h
      subst h7 h8
      clear h
      have d3 : decide (0 < (r.length : Int)) = false := decide_eq_false (by omega)
      have d4 : decide (0 < r.length) = false := decide_eq_false h3
      clear h3
      go_enter Try.func11, Try.ntmps11
      go_upto_region 3 with ((go_at_call 19; (with_reducible refine HV.out.mono ?_); rintro e w4 ⟨v3, v4, rfl, hR3, hR4, hI4, hK4⟩; obtain ⟨X3, d3, rfl⟩ := Kd.R_slice hR3; obtain ⟨X4, d4, rfl⟩ := Kd.R_slice hR4; have HZ4 := (hK4.2 w.heap.size (by have := HLT.out; omega) (by omega) (by simp)).trans HZ0.out; have HZ5 := Aside0.mk (blk_alloc HZ4 (.cells #[.int .i64 X.f0, .int .i64 X.f1, .string X.f2, .slice X3 X.f3.length d3, .slice X4 X.f4.length d4] 25)); have HI5 := Aside0.mk (hI4.later (below_alloc (Below.refl _ _) (.cells #[.int .i64 X.f0, .int .i64 X.f1, .string X.f2, .slice X3 X.f3.length d3, .slice X4 X.f4.length d4] 25))); have HNB := Aside0.mk (blk_new w4 (.cells #[.int .i64 X.f0, .int .i64 X.f1, .string X.f2, .slice X3 X.f3.length d3, .slice X4 X.f4.length d4] 25)); have RX3 := Aside0.mk (Kd.R_alloc hR3 (.cells #[.int .i64 X.f0, .int .i64 X.f1, .string X.f2, .slice X3 X.f3.length d3, .slice X4 X.f4.length d4] 25)); have RX4 := Aside0.mk (Kd.R_alloc hR4 (.cells #[.int .i64 X.f0, .int .i64 X.f1, .string X.f2, .slice X3 X.f3.length d3, .slice X4 X.f4.length d4] 25)); have HL4 := Aside0.mk (Nat.lt_of_lt_of_le HLT.out hK4.1); clear hI4 hK4 hR3 hR4 HZ4))
      generalize (w4.alloc (.cells #[.int .i64 X.f0, .int .i64 X.f1, .string X.f2, .slice X3 X.f3.length d3, .slice X4 X.f4.length d4] 25)) = w5 at HZ5 HI5 HNB RX3 RX4 ⊢
      obtain ⟨A1, c1, HG1, _, _⟩ := HI5.out.ex
      have hg1 : w5.cell? ⟨w.heap.size + 1, 0, none⟩ = some (.slice A1 _ c1) := (blk_cell HG1 0).trans rfl
      have hz0 : w5.cell? ⟨w.heap.size, 0, none⟩ = some _ := (blk_cell HZ5.out 0).trans rfl; have hz1 : w5.cell? ⟨w.heap.size, 1, none⟩ = some _ := (blk_cell HZ5.out 1).trans rfl; have hz2 : w5.cell? ⟨w.heap.size, 2, none⟩ = some _ := (blk_cell HZ5.out 2).trans rfl; have hz3 : w5.cell? ⟨w.heap.size, 3, none⟩ = some _ := (blk_cell HZ5.out 3).trans rfl; have hz4 : w5.cell? ⟨w.heap.size, 4, none⟩ = some _ := (blk_cell HZ5.out 4).trans rfl; have fz0 := blk_frozen HZ5.out 0; have fz1 := blk_frozen HZ5.out 1; have fz2 := blk_frozen HZ5.out 2; have fz3 := blk_frozen HZ5.out 3; have fz4 := blk_frozen HZ5.out 4
      have hx0 : w5.cell? ⟨w4.heap.size, 0, none⟩ = some _ := (blk_cell HNB.out 0).trans rfl; have hx1 : w5.cell? ⟨w4.heap.size, 1, none⟩ = some _ := (blk_cell HNB.out 1).trans rfl; have hx2 : w5.cell? ⟨w4.heap.size, 2, none⟩ = some _ := (blk_cell HNB.out 2).trans rfl; have hx3 : w5.cell? ⟨w4.heap.size, 3, none⟩ = some _ := (blk_cell HNB.out 3).trans rfl; have hx4 : w5.cell? ⟨w4.heap.size, 4, none⟩ = some _ := (blk_cell HNB.out 4).trans rfl; have fx0 := blk_frozen HNB.out 0; have fx1 := blk_frozen HNB.out 1; have fx2 := blk_frozen HNB.out 2; have fx3 := blk_frozen HNB.out 3; have fx4 := blk_frozen HNB.out 4
      clear HG1
      have hne : ¬ w.heap.size = w4.heap.size := by have := HL4.out; omega
      have hne2 : ¬ w4.heap.size = w.heap.size := by have := HL4.out; omega
      go_wp2
      refine bodyPost_ret (results_ct rfl _ _ w.heap.size 25 #[.int .i64 X.f0, .int .i64 X.f1, .string X.f2, .slice X3 X.f3.length d3, .slice X4 X.f4.length d4] (0, 0) _ rfl (put5 HZ5.out _ _ _ _ _) Try.underlying25 rfl (by kernel_rfl)) rfl ?_
      exact ⟨_, _, rfl, Kd.R_lower (R_keepB RX3.out (keep5 (KeepBut.refl _ _ _) _ _ _ _ _) (by have := HLT.out; omega)) (by have := HLT.out; omega), Kd.R_lower (R_keepB RX4.out (keep5 (KeepBut.refl _ _ _) _ _ _ _ _) (by have := HLT.out; omega)) (by have := HLT.out; omega), (((((HI5.out.bel.setCell (Nat.le_refl _) _).setCell (Nat.le_refl _) _).setCell (Nat.le_refl _) _).setCell (Nat.le_refl _) _).setCell (Nat.le_refl _) _)⟩
  · rw [if_neg h2] at h
    cases h
    have d2 : (e0 == 0) = false := beq_eq_false_iff_ne.mpr h2
    have d3 : (e0 != 0) = true := bne_iff_ne.mpr h2
    clear h2
    go_enter Try.func11, Try.ntmps11
    go_upto_region 3 with ((go_at_call 19; (with_reducible refine HV.out.mono ?_); rintro e w4 ⟨v3, v4, rfl, hR3, hR4, hI4, hK4⟩; obtain ⟨X3, d3, rfl⟩ := Kd.R_slice hR3; obtain ⟨X4, d4, rfl⟩ := Kd.R_slice hR4; have HZ4 := (hK4.2 w.heap.size (by have := HLT.out; omega) (by omega) (by simp)).trans HZ0.out; have HZ5 := Aside0.mk (blk_alloc HZ4 (.cells #[.int .i64 X.f0, .int .i64 X.f1, .string X.f2, .slice X3 X.f3.length d3, .slice X4 X.f4.length d4] 25)); have HI5 := Aside0.mk (hI4.later (below_alloc (Below.refl _ _) (.cells #[.int .i64 X.f0, .int .i64 X.f1, .string X.f2, .slice X3 X.f3.length d3, .slice X4 X.f4.length d4] 25))); have HNB := Aside0.mk (blk_new w4 (.cells #[.int .i64 X.f0, .int .i64 X.f1, .string X.f2, .slice X3 X.f3.length d3, .slice X4 X.f4.length d4] 25)); have RX3 := Aside0.mk (Kd.R_alloc hR3 (.cells #[.int .i64 X.f0, .int .i64 X.f1, .string X.f2, .slice X3 X.f3.length d3, .slice X4 X.f4.length d4] 25)); have RX4 := Aside0.mk (Kd.R_alloc hR4 (.cells #[.int .i64 X.f0, .int .i64 X.f1, .string X.f2, .slice X3 X.f3.length d3, .slice X4 X.f4.length d4] 25)); have HL4 := Aside0.mk (Nat.lt_of_lt_of_le HLT.out hK4.1); clear hI4 hK4 hR3 hR4 HZ4))
    generalize (w4.alloc (.cells #[.int .i64 X.f0, .int .i64 X.f1, .string X.f2, .slice X3 X.f3.length d3, .slice X4 X.f4.length d4] 25)) = w5 at HZ5 HI5 HNB RX3 RX4 ⊢
    obtain ⟨A1, c1, HG1, _, _⟩ := HI5.out.ex
    have hg1 : w5.cell? ⟨w.heap.size + 1, 0, none⟩ = some (.slice A1 _ c1) := (blk_cell HG1 0).trans rfl
    have hz0 : w5.cell? ⟨w.heap.size, 0, none⟩ = some _ := (blk_cell HZ5.out 0).trans rfl; have hz1 : w5.cell? ⟨w.heap.size, 1, none⟩ = some _ := (blk_cell HZ5.out 1).trans rfl; have hz2 : w5.cell? ⟨w.heap.size, 2, none⟩ = some _ := (blk_cell HZ5.out 2).trans rfl; have hz3 : w5.cell? ⟨w.heap.size, 3, none⟩ = some _ := (blk_cell HZ5.out 3).trans rfl; have hz4 : w5.cell? ⟨w.heap.size, 4, none⟩ = some _ := (blk_cell HZ5.out 4).trans rfl; have fz0 := blk_frozen HZ5.out 0; have fz1 := blk_frozen HZ5.out 1; have fz2 := blk_frozen HZ5.out 2; have fz3 := blk_frozen HZ5.out 3; have fz4 := blk_frozen HZ5.out 4
    have hx0 : w5.cell? ⟨w4.heap.size, 0, none⟩ = some _ := (blk_cell HNB.out 0).trans rfl; have hx1 : w5.cell? ⟨w4.heap.size, 1, none⟩ = some _ := (blk_cell HNB.out 1).trans rfl; have hx2 : w5.cell? ⟨w4.heap.size, 2, none⟩ = some _ := (blk_cell HNB.out 2).trans rfl; have hx3 : w5.cell? ⟨w4.heap.size, 3, none⟩ = some _ := (blk_cell HNB.out 3).trans rfl; have hx4 : w5.cell? ⟨w4.heap.size, 4, none⟩ = some _ := (blk_cell HNB.out 4).trans rfl; have fx0 := blk_frozen HNB.out 0; have fx1 := blk_frozen HNB.out 1; have fx2 := blk_frozen HNB.out 2; have fx3 := blk_frozen HNB.out 3; have fx4 := blk_frozen HNB.out 4
    clear HG1
    have hne : ¬ w.heap.size = w4.heap.size := by have := HL4.out; omega
    have hne2 : ¬ w4.heap.size = w.heap.size := by have := HL4.out; omega
    go_wp2
    refine bodyPost_ret (results_ct rfl _ _ w.heap.size 25 #[.int .i64 0, .int .i64 0, .string ⟨#[]⟩, .slice none 0 0, .slice none 0 0] (0, 0) _ rfl (put5 HZ5.out _ _ _ _ _) Try.underlying25 rfl (by kernel_rfl)) rfl ?_
    exact ⟨_, _, rfl, Kd.R_nil _ _ _ _ _, Kd.R_nil _ _ _ _ _, (((((HI5.out.bel.setCell (Nat.le_refl _) _).setCell (Nat.le_refl _) _).setCell (Nat.le_refl _) _).setCell (Nat.le_refl _) _).setCell (Nat.le_refl _) _)⟩

end Go.Proofs.Ytekcnfngcgchcaa.PBenPrints
