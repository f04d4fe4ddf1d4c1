/- Written by a program of this session (a turned copy of the kit's print): functions of the program, each with the Lean function that it comes to, and the row of one law. No condition. -/
import Derived.Test.YtpopljbpbobgfaaPNegoMovesx0
import Derived.Test.YtpopljbpbobgfaaPNegoMovesx1
import Derived.Test.YtpopljbpbobgfaaPNegoMovesx4
namespace Go.Proofs.Ytpopljbpbobgfaa.PNegoMoves
open Go.RowKit Go.Proofs.YtpopljbpbobgfaaW.PrintWords Go.Proofs.YtpopljbpbobgfaaW.PrintLast Go.Proofs.YtpopljbpbobgfaaW.PrintMore
attribute [local go_sem] max2_int min2_int max_two min_two max_three min_three max_four min_four   -- for this text's walks alone
set_option linter.unusedVariables false
set_option linter.unusedSimpArgs false

attribute [local go_sem high] eqA68
/-! ### annuletref08_Same: function 34 -/
def annuletref08_Same.j0 : Nat → Bool → Int → Int → Int → Bool → Int → ByteArray → ByteArray → Int → Int → List (S68) → List (S76) → Int → Int → Int → Bool → Int → ByteArray → ByteArray → Int → Int → List (S68) → List (S76) → Option (Bool)
  | 0, _, _, _, _, _, _, _, _, _, _, _, _, _, _, _, _, _, _, _, _, _, _, _ => none
  | k + 1, x58, x175000, x175001, x175002, x175003, x175004, x175005, x175006, x175007, x175008, x175009, x175010, x176000, x176001, x176002, x176003, x176004, x176005, x176006, x176007, x176008, x176009, x176010 => if x58 = true then (some false) else ((annuletref08_Peers.f k x175009 x176009).bind fun t176 => (if t176 = true then ((annuletref08_Pairs.f k x175010 x176010).bind fun t177 => (some t177)) else (some false)))
def annuletref08_Same.f (k : Nat) (a0_0 : Int) (a0_1 : Int) (a0_2 : Int) (a0_3 : Bool) (a0_4 : Int) (a0_5 : ByteArray) (a0_6 : ByteArray) (a0_7 : Int) (a0_8 : Int) (l0_9 : List (S68)) (l0_10 : List (S76)) (a1_0 : Int) (a1_1 : Int) (a1_2 : Int) (a1_3 : Bool) (a1_4 : Int) (a1_5 : ByteArray) (a1_6 : ByteArray) (a1_7 : Int) (a1_8 : Int) (l1_9 : List (S68)) (l1_10 : List (S76)) : Option (Bool) := if a0_0 = a1_0 then (if a0_1 = a1_1 then (if a0_2 = a1_2 then (if (a0_3 != a1_3) = true then (annuletref08_Same.j0 k true a0_0 a0_1 a0_2 a0_3 a0_4 a0_5 a0_6 a0_7 a0_8 l0_9 l0_10 a1_0 a1_1 a1_2 a1_3 a1_4 a1_5 a1_6 a1_7 a1_8 l1_9 l1_10) else (if a0_4 = a1_4 then (if a0_5.toList = a1_5.toList then (if a0_6.toList = a1_6.toList then (annuletref08_Same.j0 k (!(a0_7 == a1_7) || (!(a0_8 == a1_8))) a0_0 a0_1 a0_2 a0_3 a0_4 a0_5 a0_6 a0_7 a0_8 l0_9 l0_10 a1_0 a1_1 a1_2 a1_3 a1_4 a1_5 a1_6 a1_7 a1_8 l1_9 l1_10) else (annuletref08_Same.j0 k true a0_0 a0_1 a0_2 a0_3 a0_4 a0_5 a0_6 a0_7 a0_8 l0_9 l0_10 a1_0 a1_1 a1_2 a1_3 a1_4 a1_5 a1_6 a1_7 a1_8 l1_9 l1_10)) else (annuletref08_Same.j0 k true a0_0 a0_1 a0_2 a0_3 a0_4 a0_5 a0_6 a0_7 a0_8 l0_9 l0_10 a1_0 a1_1 a1_2 a1_3 a1_4 a1_5 a1_6 a1_7 a1_8 l1_9 l1_10)) else (annuletref08_Same.j0 k true a0_0 a0_1 a0_2 a0_3 a0_4 a0_5 a0_6 a0_7 a0_8 l0_9 l0_10 a1_0 a1_1 a1_2 a1_3 a1_4 a1_5 a1_6 a1_7 a1_8 l1_9 l1_10))) else (annuletref08_Same.j0 k true a0_0 a0_1 a0_2 a0_3 a0_4 a0_5 a0_6 a0_7 a0_8 l0_9 l0_10 a1_0 a1_1 a1_2 a1_3 a1_4 a1_5 a1_6 a1_7 a1_8 l1_9 l1_10)) else (annuletref08_Same.j0 k true a0_0 a0_1 a0_2 a0_3 a0_4 a0_5 a0_6 a0_7 a0_8 l0_9 l0_10 a1_0 a1_1 a1_2 a1_3 a1_4 a1_5 a1_6 a1_7 a1_8 l1_9 l1_10)) else (annuletref08_Same.j0 k true a0_0 a0_1 a0_2 a0_3 a0_4 a0_5 a0_6 a0_7 a0_8 l0_9 l0_10 a1_0 a1_1 a1_2 a1_3 a1_4 a1_5 a1_6 a1_7 a1_8 l1_9 l1_10)
theorem annuletref08_Same.mono_l : ∀ k, (∀ y0 y1 y2 y3 y4 y5 y6 y7 y8 y9 y10 y11 y12 y13 y14 y15 y16 y17 y18 y19 y20 y21 y22, LeO (annuletref08_Same.j0 k y0 y1 y2 y3 y4 y5 y6 y7 y8 y9 y10 y11 y12 y13 y14 y15 y16 y17 y18 y19 y20 y21 y22) (annuletref08_Same.j0 (k + 1) y0 y1 y2 y3 y4 y5 y6 y7 y8 y9 y10 y11 y12 y13 y14 y15 y16 y17 y18 y19 y20 y21 y22))
  | 0 => fun _ _ _ _ _ _ _ _ _ _ _ _ _ _ _ _ _ _ _ _ _ _ _ r h => by simp [annuletref08_Same.j0] at h
  | k + 1 => by
    have ih0 := annuletref08_Same.mono_l k
    · intro y0 y1 y2 y3 y4 y5 y6 y7 y8 y9 y10 y11 y12 y13 y14 y15 y16 y17 y18 y19 y20 y21 y22
      unfold annuletref08_Same.j0
      repeat' first
      | (with_reducible exact ih0 _ _ _ _ _ _ _ _ _ _ _ _ _ _ _ _ _ _ _ _ _ _ _)
      | (with_reducible exact annuletref08_Pairs.mono _ _ _)
      | (with_reducible exact annuletref08_Peers.mono _ _ _)
      | (with_reducible exact LeO.refl _)
      | (with_reducible exact LeO.none _)
      | (with_reducible refine LeO.ite ?_ ?_)
      | (with_reducible refine LeO.bind ?_ (fun _ => ?_))
      | exact ih0 _ _ _ _ _ _ _ _ _ _ _ _ _ _ _ _ _ _ _ _ _ _ _
      | exact annuletref08_Pairs.mono _ _ _
      | exact annuletref08_Peers.mono _ _ _
      | exact LeO.none _
      | refine LeO.ite ?_ ?_
      | refine LeO.bind ?_ (fun _ => ?_)
theorem annuletref08_Same.mono : ∀ a0 a1 a2 a3 a4 a5 a6 a7 a8 a9 a10 a11 a12 a13 a14 a15 a16 a17 a18 a19 a20 a21 k, LeO (annuletref08_Same.f k a0 a1 a2 a3 a4 a5 a6 a7 a8 a9 a10 a11 a12 a13 a14 a15 a16 a17 a18 a19 a20 a21) (annuletref08_Same.f (k + 1) a0 a1 a2 a3 a4 a5 a6 a7 a8 a9 a10 a11 a12 a13 a14 a15 a16 a17 a18 a19 a20 a21) := by
  intro a0 a1 a2 a3 a4 a5 a6 a7 a8 a9 a10 a11 a12 a13 a14 a15 a16 a17 a18 a19 a20 a21 k
  have ih0 := annuletref08_Same.mono_l k
  unfold annuletref08_Same.f
  repeat' first
      | (with_reducible exact ih0 _ _ _ _ _ _ _ _ _ _ _ _ _ _ _ _ _ _ _ _ _ _ _)
      | (with_reducible exact annuletref08_Pairs.mono _ _ _)
      | (with_reducible exact annuletref08_Peers.mono _ _ _)
      | (with_reducible exact LeO.refl _)
      | (with_reducible exact LeO.none _)
      | (with_reducible refine LeO.ite ?_ ?_)
      | (with_reducible refine LeO.bind ?_ (fun _ => ?_))
      | exact ih0 _ _ _ _ _ _ _ _ _ _ _ _ _ _ _ _ _ _ _ _ _ _ _
      | exact annuletref08_Pairs.mono _ _ _
      | exact annuletref08_Peers.mono _ _ _
      | exact LeO.none _
      | refine LeO.ite ?_ ?_
      | refine LeO.bind ?_ (fun _ => ?_)
set_option maxHeartbeats 3000000 in
set_option maxRecDepth 100000 in
theorem annuletref08_Same.calls (k : Nat) (a0_0 : Int) (a0_1 : Int) (a0_2 : Int) (a0_3 : Bool) (a0_4 : Int) (a0_5 : ByteArray) (a0_6 : ByteArray) (a0_7 : Int) (a0_8 : Int) (A0_9 : Option Addr) (c0_9 : Nat) (l0_9 : List (S68)) (A0_10 : Option Addr) (c0_10 : Nat) (l0_10 : List (S76)) (a1_0 : Int) (a1_1 : Int) (a1_2 : Int) (a1_3 : Bool) (a1_4 : Int) (a1_5 : ByteArray) (a1_6 : ByteArray) (a1_7 : Int) (a1_8 : Int) (A1_9 : Option Addr) (c1_9 : Nat) (l1_9 : List (S68)) (A1_10 : Option Addr) (c1_10 : Nat) (l1_10 : List (S76)) (r : Bool) (w : World) (hr0_9 : Kd.C k68 w A0_9 l0_9.length l0_9) (hc0_9 : l0_9.length ≤ c0_9) (hr0_10 : Kd.C k76 w A0_10 l0_10.length l0_10) (hc0_10 : l0_10.length ≤ c0_10) (hr1_9 : Kd.C k68 w A1_9 l1_9.length l1_9) (hc1_9 : l1_9.length ≤ c1_9) (hr1_10 : Kd.C k76 w A1_10 l1_10.length l1_10) (hc1_10 : l1_10.length ≤ c1_10) (h : annuletref08_Same.f k a0_0 a0_1 a0_2 a0_3 a0_4 a0_5 a0_6 a0_7 a0_8 l0_9 l0_10 a1_0 a1_1 a1_2 a1_3 a1_4 a1_5 a1_6 a1_7 a1_8 l1_9 l1_10 = some r) :
    Calls Try.prog 34 #[.agg #[.int .i64 a0_0, .int .u32 a0_1, .int .u8 a0_2, .bool a0_3, .int .u64 a0_4, .string a0_5, .string a0_6, .int .u64 a0_7, .int .u16 a0_8, .slice A0_9 l0_9.length c0_9, .slice A0_10 l0_10.length c0_10], .agg #[.int .i64 a1_0, .int .u32 a1_1, .int .u8 a1_2, .bool a1_3, .int .u64 a1_4, .string a1_5, .string a1_6, .int .u64 a1_7, .int .u16 a1_8, .slice A1_9 l1_9.length c1_9, .slice A1_10 l1_10.length c1_10]] w fun e w' => e = .returned (.bool r) ∧ Below w.heap.size w w' := by
  have hu72 := Try.underlying72
  have hu68 := Try.underlying68
  have HR0_9 := Aside0.mk hr0_9
  have HC0_9 := Aside0.mk hc0_9
  clear hr0_9 hc0_9
  have HR0_10 := Aside0.mk hr0_10
  have HC0_10 := Aside0.mk hc0_10
  clear hr0_10 hc0_10
  have HR1_9 := Aside0.mk hr1_9
  have HC1_9 := Aside0.mk hc1_9
  clear hr1_9 hc1_9
  have HR1_10 := Aside0.mk hr1_10
  have HC1_10 := Aside0.mk hc1_10
  clear hr1_10 hc1_10
  have HB := Aside0.mk (Below.refl w.heap.size w)
  have H : (if a0_0 = a1_0 then (if a0_1 = a1_1 then (if a0_2 = a1_2 then (if (a0_3 != a1_3) = true then (annuletref08_Same.j0 k true a0_0 a0_1 a0_2 a0_3 a0_4 a0_5 a0_6 a0_7 a0_8 l0_9 l0_10 a1_0 a1_1 a1_2 a1_3 a1_4 a1_5 a1_6 a1_7 a1_8 l1_9 l1_10) else (if a0_4 = a1_4 then (if a0_5.toList = a1_5.toList then (if a0_6.toList = a1_6.toList then (annuletref08_Same.j0 k (!(a0_7 == a1_7) || (!(a0_8 == a1_8))) a0_0 a0_1 a0_2 a0_3 a0_4 a0_5 a0_6 a0_7 a0_8 l0_9 l0_10 a1_0 a1_1 a1_2 a1_3 a1_4 a1_5 a1_6 a1_7 a1_8 l1_9 l1_10) else (annuletref08_Same.j0 k true a0_0 a0_1 a0_2 a0_3 a0_4 a0_5 a0_6 a0_7 a0_8 l0_9 l0_10 a1_0 a1_1 a1_2 a1_3 a1_4 a1_5 a1_6 a1_7 a1_8 l1_9 l1_10)) else (annuletref08_Same.j0 k true a0_0 a0_1 a0_2 a0_3 a0_4 a0_5 a0_6 a0_7 a0_8 l0_9 l0_10 a1_0 a1_1 a1_2 a1_3 a1_4 a1_5 a1_6 a1_7 a1_8 l1_9 l1_10)) else (annuletref08_Same.j0 k true a0_0 a0_1 a0_2 a0_3 a0_4 a0_5 a0_6 a0_7 a0_8 l0_9 l0_10 a1_0 a1_1 a1_2 a1_3 a1_4 a1_5 a1_6 a1_7 a1_8 l1_9 l1_10))) else (annuletref08_Same.j0 k true a0_0 a0_1 a0_2 a0_3 a0_4 a0_5 a0_6 a0_7 a0_8 l0_9 l0_10 a1_0 a1_1 a1_2 a1_3 a1_4 a1_5 a1_6 a1_7 a1_8 l1_9 l1_10)) else (annuletref08_Same.j0 k true a0_0 a0_1 a0_2 a0_3 a0_4 a0_5 a0_6 a0_7 a0_8 l0_9 l0_10 a1_0 a1_1 a1_2 a1_3 a1_4 a1_5 a1_6 a1_7 a1_8 l1_9 l1_10)) else (annuletref08_Same.j0 k true a0_0 a0_1 a0_2 a0_3 a0_4 a0_5 a0_6 a0_7 a0_8 l0_9 l0_10 a1_0 a1_1 a1_2 a1_3 a1_4 a1_5 a1_6 a1_7 a1_8 l1_9 l1_10)) = some r := h
  clear h
  have HC3 := Aside0.mk H
  clear H
  go_enter Try.func34, Try.ntmps34
  go_upto_region 1 with (first | ((with_reducible refine gate_dst (N := 2) rfl ?_); refine box_event ?hg (N := 2) ?hd (cs := #[.int .i64 a0_0, .int .u32 a0_1, .int .u8 a0_2, .bool a0_3, .int .u64 a0_4, .string a0_5, .string a0_6, .int .u64 a0_7, .int .u16 a0_8, .slice A0_9 l0_9.length c0_9, .slice A0_10 l0_10.length c0_10]) (t := 72) ?hr ?_; (case hd => rfl); (case hg => rfl); (case hr => first | (go_simp; done) | (go_simp; rfl)); intro gb174 hg w4 hbox hb; have n0_ := Aside0.mk (below_step (by repeat (first | (with_reducible first | exact HB.out | apply below_alloc | apply pw_below_drewN | apply below_drew1) | exact HB.out)) hb); have n1_ := Aside0.mk (hbox); have n2_ := Aside0.mk ((by rw [hg]; exact (below_size (by repeat (first | (with_reducible first | exact HB.out | apply below_alloc | apply pw_below_drewN | apply below_drew1) | exact HB.out))) : w.heap.size ≤ gb174)); have n3_ := Aside0.mk ((by rw [hg]; exact (below_size (by repeat (first | (with_reducible first | exact HB.out | apply below_alloc | apply pw_below_drewN | apply below_drew1) | exact HB.out))) : w.heap.size ≤ gb174)); clear HB; have HB := n0_; have BK174 := n1_; have GW174 := n2_; have GE174 := n3_; clear n0_ n1_ n2_ n3_; clear hb hbox hg) | ((with_reducible refine gate_dst (N := 3) rfl ?_); refine box_event ?hg (N := 3) ?hd (cs := #[.int .i64 a1_0, .int .u32 a1_1, .int .u8 a1_2, .bool a1_3, .int .u64 a1_4, .string a1_5, .string a1_6, .int .u64 a1_7, .int .u16 a1_8, .slice A1_9 l1_9.length c1_9, .slice A1_10 l1_10.length c1_10]) (t := 72) ?hr ?_; (case hd => rfl); (case hg => rfl); (case hr => first | (go_simp; done) | (go_simp; rfl)); intro gb175 hg w5 hbox hb; have n0_ := Aside0.mk (blk_below (g := gb174) (o := .cells #[.int .i64 a0_0, .int .u32 a0_1, .int .u8 a0_2, .bool a0_3, .int .u64 a0_4, .string a0_5, .string a0_6, .int .u64 a0_7, .int .u16 a0_8, .slice A0_9 l0_9.length c0_9, .slice A0_10 l0_10.length c0_10] 72 (0, 0)) (by (with_reducible repeat (first | refine blk_drewN ?_ _ | refine blk_drew ?_ | refine blk_alloc ?_ _)); exact BK174.out) hb); have n1_ := Aside0.mk (below_step (by repeat (first | (with_reducible first | exact HB.out | apply below_alloc | apply pw_below_drewN | apply below_drew1 | refine below_set ?_ GE174.out) | exact HB.out)) hb); have n2_ := Aside0.mk (hbox); have n3_ := Aside0.mk ((by rw [hg]; exact (below_size (by repeat (first | (with_reducible first | exact HB.out | apply below_alloc | apply pw_below_drewN | apply below_drew1 | refine below_set ?_ GE174.out) | exact HB.out))) : w.heap.size ≤ gb175)); have n4_ := Aside0.mk ((by rw [hg]; exact (below_size (by repeat (first | (with_reducible first | exact HB.out | apply below_alloc | apply pw_below_drewN | apply below_drew1 | refine below_set ?_ GE174.out) | exact HB.out))) : w.heap.size ≤ gb175)); have n5_ := Aside0.mk ((by rw [hg]; exact Nat.ne_of_lt (blk_lt (g := gb174) (o := .cells #[.int .i64 a0_0, .int .u32 a0_1, .int .u8 a0_2, .bool a0_3, .int .u64 a0_4, .string a0_5, .string a0_6, .int .u64 a0_7, .int .u16 a0_8, .slice A0_9 l0_9.length c0_9, .slice A0_10 l0_10.length c0_10] 72 (0, 0)) (by (with_reducible repeat (first | refine blk_drewN ?_ _ | refine blk_drew ?_ | refine blk_alloc ?_ _)); exact BK174.out)) : gb174 ≠ gb175)); have n6_ := Aside0.mk ((by rw [hg]; exact Nat.ne_of_gt (blk_lt (g := gb174) (o := .cells #[.int .i64 a0_0, .int .u32 a0_1, .int .u8 a0_2, .bool a0_3, .int .u64 a0_4, .string a0_5, .string a0_6, .int .u64 a0_7, .int .u16 a0_8, .slice A0_9 l0_9.length c0_9, .slice A0_10 l0_10.length c0_10] 72 (0, 0)) (by (with_reducible repeat (first | refine blk_drewN ?_ _ | refine blk_drew ?_ | refine blk_alloc ?_ _)); exact BK174.out)) : gb175 ≠ gb174)); clear BK174; clear HB; have BK174 := n0_; have HB := n1_; have BK175 := n2_; have GW175 := n3_; have GE175 := n4_; have NB174_175 := n5_; have NB175_174 := n6_; clear n0_ n1_ n2_ n3_ n4_ n5_ n6_; clear hb hbox hg))
  (try simp only [Act.put, List.setIfInBounds_toArray, List.set_cons_zero, List.set_cons_succ])
  go_cut [58] (fun v58 wc => ∃ (kq : Nat) (x58_2 : Bool), v58 = .bool x58_2 ∧ Aside0 (annuletref08_Same.j0 kq x58_2 a0_0 a0_1 a0_2 a0_3 a0_4 a0_5 a0_6 a0_7 a0_8 l0_9 l0_10 a1_0 a1_1 a1_2 a1_3 a1_4 a1_5 a1_6 a1_7 a1_8 l1_9 l1_10 = some r) ∧ Aside0 (kq ≤ k) ∧ Aside0 (wc.heap[gb174]? = some (.cells #[.int .i64 a0_0, .int .u32 a0_1, .int .u8 a0_2, .bool a0_3, .int .u64 a0_4, .string a0_5, .string a0_6, .int .u64 a0_7, .int .u16 a0_8, (.slice A0_9 l0_9.length c0_9), (.slice A0_10 l0_10.length c0_10)] 72 (0, 0))) ∧ Aside0 (wc.heap[gb175]? = some (.cells #[.int .i64 a1_0, .int .u32 a1_1, .int .u8 a1_2, .bool a1_3, .int .u64 a1_4, .string a1_5, .string a1_6, .int .u64 a1_7, .int .u16 a1_8, (.slice A1_9 l1_9.length c1_9), (.slice A1_10 l1_10.length c1_10)] 72 (0, 0))) ∧ Aside0 (Below w.heap.size w wc))
  case first =>
    have H := HC3.out
    clear HC3
    by_cases c6 : a0_0 = a1_0
    · rw [if_pos c6] at H
      have c6b0 : (a0_0 == a1_0) = true := beq_iff_eq.mpr c6
      have c6b1 : (a0_0 != a1_0) = false := bne_eq_false_iff_eq.mpr c6
      clear c6
      (first | rw [c6b0] | (simp only [i64_w, i32_w]; rw [c6b0]) | skip)
      by_cases c7 : a0_1 = a1_1
      · rw [if_pos c7] at H
        have c7b0 : (a0_1 == a1_1) = true := beq_iff_eq.mpr c7
        have c7b1 : (a0_1 != a1_1) = false := bne_eq_false_iff_eq.mpr c7
        clear c7
        by_cases c8 : a0_2 = a1_2
        · rw [if_pos c8] at H
          have c8b0 : (a0_2 == a1_2) = true := beq_iff_eq.mpr c8
          have c8b1 : (a0_2 != a1_2) = false := bne_eq_false_iff_eq.mpr c8
          clear c8
          by_cases c9 : (a0_3 != a1_3) = true
          · rw [if_pos c9] at H
            have c9b0 : (a0_3 != a1_3) = true := c9
            (try (have c9b1 : decide (a0_3 = a1_3) = false := by simpa using c9))
            (try (have c9b2 : (a0_3 == a1_3) = false := by simpa using c9))
            (try (have c9b3 : ¬ (a0_3 = a1_3) := by simpa using c9))
            clear c9
            have H' := Aside0.mk H
            clear H
            have hnb10 := NB174_175.out
            have hnc10 := NB175_174.out
            have hcz11_0 : w5.cell? ⟨gb174, 0, none⟩ = some (.int .i64 a0_0) := (blk_cell BK174.out 0).trans rfl
            have hcz11_1 : w5.cell? ⟨gb174, 1, none⟩ = some (.int .u32 a0_1) := (blk_cell BK174.out 1).trans rfl
            have hcz11_2 : w5.cell? ⟨gb174, 2, none⟩ = some (.int .u8 a0_2) := (blk_cell BK174.out 2).trans rfl
            have hcz11_3 : w5.cell? ⟨gb174, 3, none⟩ = some (.bool a0_3) := (blk_cell BK174.out 3).trans rfl
            have hcz11_4 : w5.cell? ⟨gb174, 4, none⟩ = some (.int .u64 a0_4) := (blk_cell BK174.out 4).trans rfl
            have hcz11_5 : w5.cell? ⟨gb174, 5, none⟩ = some (.string a0_5) := (blk_cell BK174.out 5).trans rfl
            have hcz11_6 : w5.cell? ⟨gb174, 6, none⟩ = some (.string a0_6) := (blk_cell BK174.out 6).trans rfl
            have hcz11_7 : w5.cell? ⟨gb174, 7, none⟩ = some (.int .u64 a0_7) := (blk_cell BK174.out 7).trans rfl
            have hcz11_8 : w5.cell? ⟨gb174, 8, none⟩ = some (.int .u16 a0_8) := (blk_cell BK174.out 8).trans rfl
            have hcz11_9 : w5.cell? ⟨gb174, 9, none⟩ = some (.slice A0_9 l0_9.length c0_9) := (blk_cell BK174.out 9).trans rfl
            have hcz11_10 : w5.cell? ⟨gb174, 10, none⟩ = some (.slice A0_10 l0_10.length c0_10) := (blk_cell BK174.out 10).trans rfl
            have hfz11_0 := blk_frozen BK174.out 0
            have hfz11_1 := blk_frozen BK174.out 1
            have hfz11_2 := blk_frozen BK174.out 2
            have hfz11_3 := blk_frozen BK174.out 3
            have hfz11_4 := blk_frozen BK174.out 4
            have hfz11_5 := blk_frozen BK174.out 5
            have hfz11_6 := blk_frozen BK174.out 6
            have hfz11_7 := blk_frozen BK174.out 7
            have hfz11_8 := blk_frozen BK174.out 8
            have hfz11_9 := blk_frozen BK174.out 9
            have hfz11_10 := blk_frozen BK174.out 10
            have hcz12_0 : w5.cell? ⟨gb175, 0, none⟩ = some (.int .i64 a1_0) := (blk_cell BK175.out 0).trans rfl
            have hcz12_1 : w5.cell? ⟨gb175, 1, none⟩ = some (.int .u32 a1_1) := (blk_cell BK175.out 1).trans rfl
            have hcz12_2 : w5.cell? ⟨gb175, 2, none⟩ = some (.int .u8 a1_2) := (blk_cell BK175.out 2).trans rfl
            have hcz12_3 : w5.cell? ⟨gb175, 3, none⟩ = some (.bool a1_3) := (blk_cell BK175.out 3).trans rfl
            have hcz12_4 : w5.cell? ⟨gb175, 4, none⟩ = some (.int .u64 a1_4) := (blk_cell BK175.out 4).trans rfl
            have hcz12_5 : w5.cell? ⟨gb175, 5, none⟩ = some (.string a1_5) := (blk_cell BK175.out 5).trans rfl
            have hcz12_6 : w5.cell? ⟨gb175, 6, none⟩ = some (.string a1_6) := (blk_cell BK175.out 6).trans rfl
            have hcz12_7 : w5.cell? ⟨gb175, 7, none⟩ = some (.int .u64 a1_7) := (blk_cell BK175.out 7).trans rfl
            have hcz12_8 : w5.cell? ⟨gb175, 8, none⟩ = some (.int .u16 a1_8) := (blk_cell BK175.out 8).trans rfl
            have hcz12_9 : w5.cell? ⟨gb175, 9, none⟩ = some (.slice A1_9 l1_9.length c1_9) := (blk_cell BK175.out 9).trans rfl
            have hcz12_10 : w5.cell? ⟨gb175, 10, none⟩ = some (.slice A1_10 l1_10.length c1_10) := (blk_cell BK175.out 10).trans rfl
            have hfz12_0 := blk_frozen BK175.out 0
            have hfz12_1 := blk_frozen BK175.out 1
            have hfz12_2 := blk_frozen BK175.out 2
            have hfz12_3 := blk_frozen BK175.out 3
            have hfz12_4 := blk_frozen BK175.out 4
            have hfz12_5 := blk_frozen BK175.out 5
            have hfz12_6 := blk_frozen BK175.out 6
            have hfz12_7 := blk_frozen BK175.out 7
            have hfz12_8 := blk_frozen BK175.out 8
            have hfz12_9 := blk_frozen BK175.out 9
            have hfz12_10 := blk_frozen BK175.out 10
            go_wp2
            go_meet
            case rel => exact ⟨_, (true), (by first | rfl | (simp; done) | (simp [*]; done)), H', ⟨by first | omega | exact Nat.le_refl _⟩, ⟨by (with_reducible repeat (first | refine blk_drewN ?_ _ | refine blk_drew ?_ | refine blk_alloc ?_ _)); exact BK174.out⟩, ⟨by (with_reducible repeat (first | refine blk_drewN ?_ _ | refine blk_drew ?_ | refine blk_alloc ?_ _)); exact BK175.out⟩, ⟨by repeat (first | (with_reducible first | exact HB.out | apply below_alloc | apply pw_below_drewN | apply below_drew1 | refine below_set ?_ GE174.out | refine below_set ?_ GE175.out) | exact HB.out)⟩⟩
          · rw [if_neg c9] at H
            have c9b0 : (a0_3 != a1_3) = false := by simpa using c9
            (try (have c9b1 : decide (a0_3 = a1_3) = true := by simpa using c9))
            (try (have c9b2 : (a0_3 == a1_3) = true := by simpa using c9))
            clear c9
            by_cases c13 : a0_4 = a1_4
            · rw [if_pos c13] at H
              have c13b0 : (a0_4 == a1_4) = true := beq_iff_eq.mpr c13
              have c13b1 : (a0_4 != a1_4) = false := bne_eq_false_iff_eq.mpr c13
              clear c13
              by_cases c14 : a0_5.toList = a1_5.toList
              · rw [if_pos c14] at H
                have c14b0 : (a0_5.toList == a1_5.toList) = true := beq_iff_eq.mpr c14
                have c14b1 : (a0_5.toList != a1_5.toList) = false := bne_eq_false_iff_eq.mpr c14
                clear c14
                by_cases c15 : a0_6.toList = a1_6.toList
                · rw [if_pos c15] at H
                  have c15b0 : (a0_6.toList == a1_6.toList) = true := beq_iff_eq.mpr c15
                  have c15b1 : (a0_6.toList != a1_6.toList) = false := bne_eq_false_iff_eq.mpr c15
                  clear c15
                  have H' := Aside0.mk H
                  clear H
                  have hnb16 := NB174_175.out
                  have hnc16 := NB175_174.out
                  have hcz17_0 : w5.cell? ⟨gb174, 0, none⟩ = some (.int .i64 a0_0) := (blk_cell BK174.out 0).trans rfl
                  have hcz17_1 : w5.cell? ⟨gb174, 1, none⟩ = some (.int .u32 a0_1) := (blk_cell BK174.out 1).trans rfl
                  have hcz17_2 : w5.cell? ⟨gb174, 2, none⟩ = some (.int .u8 a0_2) := (blk_cell BK174.out 2).trans rfl
                  have hcz17_3 : w5.cell? ⟨gb174, 3, none⟩ = some (.bool a0_3) := (blk_cell BK174.out 3).trans rfl
                  have hcz17_4 : w5.cell? ⟨gb174, 4, none⟩ = some (.int .u64 a0_4) := (blk_cell BK174.out 4).trans rfl
                  have hcz17_5 : w5.cell? ⟨gb174, 5, none⟩ = some (.string a0_5) := (blk_cell BK174.out 5).trans rfl
                  have hcz17_6 : w5.cell? ⟨gb174, 6, none⟩ = some (.string a0_6) := (blk_cell BK174.out 6).trans rfl
                  have hcz17_7 : w5.cell? ⟨gb174, 7, none⟩ = some (.int .u64 a0_7) := (blk_cell BK174.out 7).trans rfl
                  have hcz17_8 : w5.cell? ⟨gb174, 8, none⟩ = some (.int .u16 a0_8) := (blk_cell BK174.out 8).trans rfl
                  have hcz17_9 : w5.cell? ⟨gb174, 9, none⟩ = some (.slice A0_9 l0_9.length c0_9) := (blk_cell BK174.out 9).trans rfl
                  have hcz17_10 : w5.cell? ⟨gb174, 10, none⟩ = some (.slice A0_10 l0_10.length c0_10) := (blk_cell BK174.out 10).trans rfl
                  have hfz17_0 := blk_frozen BK174.out 0
                  have hfz17_1 := blk_frozen BK174.out 1
                  have hfz17_2 := blk_frozen BK174.out 2
                  have hfz17_3 := blk_frozen BK174.out 3
                  have hfz17_4 := blk_frozen BK174.out 4
                  have hfz17_5 := blk_frozen BK174.out 5
                  have hfz17_6 := blk_frozen BK174.out 6
                  have hfz17_7 := blk_frozen BK174.out 7
                  have hfz17_8 := blk_frozen BK174.out 8
                  have hfz17_9 := blk_frozen BK174.out 9
                  have hfz17_10 := blk_frozen BK174.out 10
                  have hcz18_0 : w5.cell? ⟨gb175, 0, none⟩ = some (.int .i64 a1_0) := (blk_cell BK175.out 0).trans rfl
                  have hcz18_1 : w5.cell? ⟨gb175, 1, none⟩ = some (.int .u32 a1_1) := (blk_cell BK175.out 1).trans rfl
                  have hcz18_2 : w5.cell? ⟨gb175, 2, none⟩ = some (.int .u8 a1_2) := (blk_cell BK175.out 2).trans rfl
                  have hcz18_3 : w5.cell? ⟨gb175, 3, none⟩ = some (.bool a1_3) := (blk_cell BK175.out 3).trans rfl
                  have hcz18_4 : w5.cell? ⟨gb175, 4, none⟩ = some (.int .u64 a1_4) := (blk_cell BK175.out 4).trans rfl
                  have hcz18_5 : w5.cell? ⟨gb175, 5, none⟩ = some (.string a1_5) := (blk_cell BK175.out 5).trans rfl
                  have hcz18_6 : w5.cell? ⟨gb175, 6, none⟩ = some (.string a1_6) := (blk_cell BK175.out 6).trans rfl
                  have hcz18_7 : w5.cell? ⟨gb175, 7, none⟩ = some (.int .u64 a1_7) := (blk_cell BK175.out 7).trans rfl
                  have hcz18_8 : w5.cell? ⟨gb175, 8, none⟩ = some (.int .u16 a1_8) := (blk_cell BK175.out 8).trans rfl
                  have hcz18_9 : w5.cell? ⟨gb175, 9, none⟩ = some (.slice A1_9 l1_9.length c1_9) := (blk_cell BK175.out 9).trans rfl
                  have hcz18_10 : w5.cell? ⟨gb175, 10, none⟩ = some (.slice A1_10 l1_10.length c1_10) := (blk_cell BK175.out 10).trans rfl
                  have hfz18_0 := blk_frozen BK175.out 0
                  have hfz18_1 := blk_frozen BK175.out 1
                  have hfz18_2 := blk_frozen BK175.out 2
                  have hfz18_3 := blk_frozen BK175.out 3
                  have hfz18_4 := blk_frozen BK175.out 4
                  have hfz18_5 := blk_frozen BK175.out 5
                  have hfz18_6 := blk_frozen BK175.out 6
                  have hfz18_7 := blk_frozen BK175.out 7
                  have hfz18_8 := blk_frozen BK175.out 8
                  have hfz18_9 := blk_frozen BK175.out 9
                  have hfz18_10 := blk_frozen BK175.out 10
                  go_wp2
                  go_meet
                  case rel => exact ⟨_, ((!(a0_7 == a1_7) || (!(a0_8 == a1_8)))), (by first | rfl | (simp; done) | (simp [*]; done)), H', ⟨by first | omega | exact Nat.le_refl _⟩, ⟨by (with_reducible repeat (first | refine blk_drewN ?_ _ | refine blk_drew ?_ | refine blk_alloc ?_ _)); exact BK174.out⟩, ⟨by (with_reducible repeat (first | refine blk_drewN ?_ _ | refine blk_drew ?_ | refine blk_alloc ?_ _)); exact BK175.out⟩, ⟨by repeat (first | (with_reducible first | exact HB.out | apply below_alloc | apply pw_below_drewN | apply below_drew1 | refine below_set ?_ GE174.out | refine below_set ?_ GE175.out) | exact HB.out)⟩⟩
                · rw [if_neg c15] at H
                  have c15b0 : (a0_6.toList == a1_6.toList) = false := beq_eq_false_iff_ne.mpr c15
                  have c15b1 : (a0_6.toList != a1_6.toList) = true := bne_iff_ne.mpr c15
                  have H' := Aside0.mk H
                  clear H
                  have hnb19 := NB174_175.out
                  have hnc19 := NB175_174.out
                  have hcz20_0 : w5.cell? ⟨gb174, 0, none⟩ = some (.int .i64 a0_0) := (blk_cell BK174.out 0).trans rfl
                  have hcz20_1 : w5.cell? ⟨gb174, 1, none⟩ = some (.int .u32 a0_1) := (blk_cell BK174.out 1).trans rfl
                  have hcz20_2 : w5.cell? ⟨gb174, 2, none⟩ = some (.int .u8 a0_2) := (blk_cell BK174.out 2).trans rfl
                  have hcz20_3 : w5.cell? ⟨gb174, 3, none⟩ = some (.bool a0_3) := (blk_cell BK174.out 3).trans rfl
                  have hcz20_4 : w5.cell? ⟨gb174, 4, none⟩ = some (.int .u64 a0_4) := (blk_cell BK174.out 4).trans rfl
                  have hcz20_5 : w5.cell? ⟨gb174, 5, none⟩ = some (.string a0_5) := (blk_cell BK174.out 5).trans rfl
                  have hcz20_6 : w5.cell? ⟨gb174, 6, none⟩ = some (.string a0_6) := (blk_cell BK174.out 6).trans rfl
                  have hcz20_7 : w5.cell? ⟨gb174, 7, none⟩ = some (.int .u64 a0_7) := (blk_cell BK174.out 7).trans rfl
                  have hcz20_8 : w5.cell? ⟨gb174, 8, none⟩ = some (.int .u16 a0_8) := (blk_cell BK174.out 8).trans rfl
                  have hcz20_9 : w5.cell? ⟨gb174, 9, none⟩ = some (.slice A0_9 l0_9.length c0_9) := (blk_cell BK174.out 9).trans rfl
                  have hcz20_10 : w5.cell? ⟨gb174, 10, none⟩ = some (.slice A0_10 l0_10.length c0_10) := (blk_cell BK174.out 10).trans rfl
                  have hfz20_0 := blk_frozen BK174.out 0
                  have hfz20_1 := blk_frozen BK174.out 1
                  have hfz20_2 := blk_frozen BK174.out 2
                  have hfz20_3 := blk_frozen BK174.out 3
                  have hfz20_4 := blk_frozen BK174.out 4
                  have hfz20_5 := blk_frozen BK174.out 5
                  have hfz20_6 := blk_frozen BK174.out 6
                  have hfz20_7 := blk_frozen BK174.out 7
                  have hfz20_8 := blk_frozen BK174.out 8
                  have hfz20_9 := blk_frozen BK174.out 9
                  have hfz20_10 := blk_frozen BK174.out 10
                  have hcz21_0 : w5.cell? ⟨gb175, 0, none⟩ = some (.int .i64 a1_0) := (blk_cell BK175.out 0).trans rfl
                  have hcz21_1 : w5.cell? ⟨gb175, 1, none⟩ = some (.int .u32 a1_1) := (blk_cell BK175.out 1).trans rfl
                  have hcz21_2 : w5.cell? ⟨gb175, 2, none⟩ = some (.int .u8 a1_2) := (blk_cell BK175.out 2).trans rfl
                  have hcz21_3 : w5.cell? ⟨gb175, 3, none⟩ = some (.bool a1_3) := (blk_cell BK175.out 3).trans rfl
                  have hcz21_4 : w5.cell? ⟨gb175, 4, none⟩ = some (.int .u64 a1_4) := (blk_cell BK175.out 4).trans rfl
                  have hcz21_5 : w5.cell? ⟨gb175, 5, none⟩ = some (.string a1_5) := (blk_cell BK175.out 5).trans rfl
                  have hcz21_6 : w5.cell? ⟨gb175, 6, none⟩ = some (.string a1_6) := (blk_cell BK175.out 6).trans rfl
                  have hcz21_7 : w5.cell? ⟨gb175, 7, none⟩ = some (.int .u64 a1_7) := (blk_cell BK175.out 7).trans rfl
                  have hcz21_8 : w5.cell? ⟨gb175, 8, none⟩ = some (.int .u16 a1_8) := (blk_cell BK175.out 8).trans rfl
                  have hcz21_9 : w5.cell? ⟨gb175, 9, none⟩ = some (.slice A1_9 l1_9.length c1_9) := (blk_cell BK175.out 9).trans rfl
                  have hcz21_10 : w5.cell? ⟨gb175, 10, none⟩ = some (.slice A1_10 l1_10.length c1_10) := (blk_cell BK175.out 10).trans rfl
                  have hfz21_0 := blk_frozen BK175.out 0
                  have hfz21_1 := blk_frozen BK175.out 1
                  have hfz21_2 := blk_frozen BK175.out 2
                  have hfz21_3 := blk_frozen BK175.out 3
                  have hfz21_4 := blk_frozen BK175.out 4
                  have hfz21_5 := blk_frozen BK175.out 5
                  have hfz21_6 := blk_frozen BK175.out 6
                  have hfz21_7 := blk_frozen BK175.out 7
                  have hfz21_8 := blk_frozen BK175.out 8
                  have hfz21_9 := blk_frozen BK175.out 9
                  have hfz21_10 := blk_frozen BK175.out 10
                  go_wp2
                  go_meet
                  case rel => exact ⟨_, (true), (by first | rfl | (simp; done) | (simp [*]; done)), H', ⟨by first | omega | exact Nat.le_refl _⟩, ⟨by (with_reducible repeat (first | refine blk_drewN ?_ _ | refine blk_drew ?_ | refine blk_alloc ?_ _)); exact BK174.out⟩, ⟨by (with_reducible repeat (first | refine blk_drewN ?_ _ | refine blk_drew ?_ | refine blk_alloc ?_ _)); exact BK175.out⟩, ⟨by repeat (first | (with_reducible first | exact HB.out | apply below_alloc | apply pw_below_drewN | apply below_drew1 | refine below_set ?_ GE174.out | refine below_set ?_ GE175.out) | exact HB.out)⟩⟩
              · rw [if_neg c14] at H
                have c14b0 : (a0_5.toList == a1_5.toList) = false := beq_eq_false_iff_ne.mpr c14
                have c14b1 : (a0_5.toList != a1_5.toList) = true := bne_iff_ne.mpr c14
                have H' := Aside0.mk H
                clear H
                have hnb22 := NB174_175.out
                have hnc22 := NB175_174.out
                have hcz23_0 : w5.cell? ⟨gb174, 0, none⟩ = some (.int .i64 a0_0) := (blk_cell BK174.out 0).trans rfl
                have hcz23_1 : w5.cell? ⟨gb174, 1, none⟩ = some (.int .u32 a0_1) := (blk_cell BK174.out 1).trans rfl
                have hcz23_2 : w5.cell? ⟨gb174, 2, none⟩ = some (.int .u8 a0_2) := (blk_cell BK174.out 2).trans rfl
                have hcz23_3 : w5.cell? ⟨gb174, 3, none⟩ = some (.bool a0_3) := (blk_cell BK174.out 3).trans rfl
                have hcz23_4 : w5.cell? ⟨gb174, 4, none⟩ = some (.int .u64 a0_4) := (blk_cell BK174.out 4).trans rfl
                have hcz23_5 : w5.cell? ⟨gb174, 5, none⟩ = some (.string a0_5) := (blk_cell BK174.out 5).trans rfl
                have hcz23_6 : w5.cell? ⟨gb174, 6, none⟩ = some (.string a0_6) := (blk_cell BK174.out 6).trans rfl
                have hcz23_7 : w5.cell? ⟨gb174, 7, none⟩ = some (.int .u64 a0_7) := (blk_cell BK174.out 7).trans rfl
                have hcz23_8 : w5.cell? ⟨gb174, 8, none⟩ = some (.int .u16 a0_8) := (blk_cell BK174.out 8).trans rfl
                have hcz23_9 : w5.cell? ⟨gb174, 9, none⟩ = some (.slice A0_9 l0_9.length c0_9) := (blk_cell BK174.out 9).trans rfl
                have hcz23_10 : w5.cell? ⟨gb174, 10, none⟩ = some (.slice A0_10 l0_10.length c0_10) := (blk_cell BK174.out 10).trans rfl
                have hfz23_0 := blk_frozen BK174.out 0
                have hfz23_1 := blk_frozen BK174.out 1
                have hfz23_2 := blk_frozen BK174.out 2
                have hfz23_3 := blk_frozen BK174.out 3
                have hfz23_4 := blk_frozen BK174.out 4
                have hfz23_5 := blk_frozen BK174.out 5
                have hfz23_6 := blk_frozen BK174.out 6
                have hfz23_7 := blk_frozen BK174.out 7
                have hfz23_8 := blk_frozen BK174.out 8
                have hfz23_9 := blk_frozen BK174.out 9
                have hfz23_10 := blk_frozen BK174.out 10
                have hcz24_0 : w5.cell? ⟨gb175, 0, none⟩ = some (.int .i64 a1_0) := (blk_cell BK175.out 0).trans rfl
                have hcz24_1 : w5.cell? ⟨gb175, 1, none⟩ = some (.int .u32 a1_1) := (blk_cell BK175.out 1).trans rfl
                have hcz24_2 : w5.cell? ⟨gb175, 2, none⟩ = some (.int .u8 a1_2) := (blk_cell BK175.out 2).trans rfl
                have hcz24_3 : w5.cell? ⟨gb175, 3, none⟩ = some (.bool a1_3) := (blk_cell BK175.out 3).trans rfl
                have hcz24_4 : w5.cell? ⟨gb175, 4, none⟩ = some (.int .u64 a1_4) := (blk_cell BK175.out 4).trans rfl
                have hcz24_5 : w5.cell? ⟨gb175, 5, none⟩ = some (.string a1_5) := (blk_cell BK175.out 5).trans rfl
                have hcz24_6 : w5.cell? ⟨gb175, 6, none⟩ = some (.string a1_6) := (blk_cell BK175.out 6).trans rfl
                have hcz24_7 : w5.cell? ⟨gb175, 7, none⟩ = some (.int .u64 a1_7) := (blk_cell BK175.out 7).trans rfl
                have hcz24_8 : w5.cell? ⟨gb175, 8, none⟩ = some (.int .u16 a1_8) := (blk_cell BK175.out 8).trans rfl
                have hcz24_9 : w5.cell? ⟨gb175, 9, none⟩ = some (.slice A1_9 l1_9.length c1_9) := (blk_cell BK175.out 9).trans rfl
                have hcz24_10 : w5.cell? ⟨gb175, 10, none⟩ = some (.slice A1_10 l1_10.length c1_10) := (blk_cell BK175.out 10).trans rfl
                have hfz24_0 := blk_frozen BK175.out 0
                have hfz24_1 := blk_frozen BK175.out 1
                have hfz24_2 := blk_frozen BK175.out 2
                have hfz24_3 := blk_frozen BK175.out 3
                have hfz24_4 := blk_frozen BK175.out 4
                have hfz24_5 := blk_frozen BK175.out 5
                have hfz24_6 := blk_frozen BK175.out 6
                have hfz24_7 := blk_frozen BK175.out 7
                have hfz24_8 := blk_frozen BK175.out 8
                have hfz24_9 := blk_frozen BK175.out 9
                have hfz24_10 := blk_frozen BK175.out 10
                go_wp2
                go_meet
                case rel => exact ⟨_, (true), (by first | rfl | (simp; done) | (simp [*]; done)), H', ⟨by first | omega | exact Nat.le_refl _⟩, ⟨by (with_reducible repeat (first | refine blk_drewN ?_ _ | refine blk_drew ?_ | refine blk_alloc ?_ _)); exact BK174.out⟩, ⟨by (with_reducible repeat (first | refine blk_drewN ?_ _ | refine blk_drew ?_ | refine blk_alloc ?_ _)); exact BK175.out⟩, ⟨by repeat (first | (with_reducible first | exact HB.out | apply below_alloc | apply pw_below_drewN | apply below_drew1 | refine below_set ?_ GE174.out | refine below_set ?_ GE175.out) | exact HB.out)⟩⟩
            · rw [if_neg c13] at H
              have c13b0 : (a0_4 == a1_4) = false := beq_eq_false_iff_ne.mpr c13
              have c13b1 : (a0_4 != a1_4) = true := bne_iff_ne.mpr c13
              have H' := Aside0.mk H
              clear H
              have hnb25 := NB174_175.out
              have hnc25 := NB175_174.out
              have hcz26_0 : w5.cell? ⟨gb174, 0, none⟩ = some (.int .i64 a0_0) := (blk_cell BK174.out 0).trans rfl
              have hcz26_1 : w5.cell? ⟨gb174, 1, none⟩ = some (.int .u32 a0_1) := (blk_cell BK174.out 1).trans rfl
              have hcz26_2 : w5.cell? ⟨gb174, 2, none⟩ = some (.int .u8 a0_2) := (blk_cell BK174.out 2).trans rfl
              have hcz26_3 : w5.cell? ⟨gb174, 3, none⟩ = some (.bool a0_3) := (blk_cell BK174.out 3).trans rfl
              have hcz26_4 : w5.cell? ⟨gb174, 4, none⟩ = some (.int .u64 a0_4) := (blk_cell BK174.out 4).trans rfl
              have hcz26_5 : w5.cell? ⟨gb174, 5, none⟩ = some (.string a0_5) := (blk_cell BK174.out 5).trans rfl
              have hcz26_6 : w5.cell? ⟨gb174, 6, none⟩ = some (.string a0_6) := (blk_cell BK174.out 6).trans rfl
              have hcz26_7 : w5.cell? ⟨gb174, 7, none⟩ = some (.int .u64 a0_7) := (blk_cell BK174.out 7).trans rfl
              have hcz26_8 : w5.cell? ⟨gb174, 8, none⟩ = some (.int .u16 a0_8) := (blk_cell BK174.out 8).trans rfl
              have hcz26_9 : w5.cell? ⟨gb174, 9, none⟩ = some (.slice A0_9 l0_9.length c0_9) := (blk_cell BK174.out 9).trans rfl
              have hcz26_10 : w5.cell? ⟨gb174, 10, none⟩ = some (.slice A0_10 l0_10.length c0_10) := (blk_cell BK174.out 10).trans rfl
              have hfz26_0 := blk_frozen BK174.out 0
              have hfz26_1 := blk_frozen BK174.out 1
              have hfz26_2 := blk_frozen BK174.out 2
              have hfz26_3 := blk_frozen BK174.out 3
              have hfz26_4 := blk_frozen BK174.out 4
              have hfz26_5 := blk_frozen BK174.out 5
              have hfz26_6 := blk_frozen BK174.out 6
              have hfz26_7 := blk_frozen BK174.out 7
              have hfz26_8 := blk_frozen BK174.out 8
              have hfz26_9 := blk_frozen BK174.out 9
              have hfz26_10 := blk_frozen BK174.out 10
              have hcz27_0 : w5.cell? ⟨gb175, 0, none⟩ = some (.int .i64 a1_0) := (blk_cell BK175.out 0).trans rfl
              have hcz27_1 : w5.cell? ⟨gb175, 1, none⟩ = some (.int .u32 a1_1) := (blk_cell BK175.out 1).trans rfl
              have hcz27_2 : w5.cell? ⟨gb175, 2, none⟩ = some (.int .u8 a1_2) := (blk_cell BK175.out 2).trans rfl
              have hcz27_3 : w5.cell? ⟨gb175, 3, none⟩ = some (.bool a1_3) := (blk_cell BK175.out 3).trans rfl
              have hcz27_4 : w5.cell? ⟨gb175, 4, none⟩ = some (.int .u64 a1_4) := (blk_cell BK175.out 4).trans rfl
              have hcz27_5 : w5.cell? ⟨gb175, 5, none⟩ = some (.string a1_5) := (blk_cell BK175.out 5).trans rfl
              have hcz27_6 : w5.cell? ⟨gb175, 6, none⟩ = some (.string a1_6) := (blk_cell BK175.out 6).trans rfl
              have hcz27_7 : w5.cell? ⟨gb175, 7, none⟩ = some (.int .u64 a1_7) := (blk_cell BK175.out 7).trans rfl
              have hcz27_8 : w5.cell? ⟨gb175, 8, none⟩ = some (.int .u16 a1_8) := (blk_cell BK175.out 8).trans rfl
              have hcz27_9 : w5.cell? ⟨gb175, 9, none⟩ = some (.slice A1_9 l1_9.length c1_9) := (blk_cell BK175.out 9).trans rfl
              have hcz27_10 : w5.cell? ⟨gb175, 10, none⟩ = some (.slice A1_10 l1_10.length c1_10) := (blk_cell BK175.out 10).trans rfl
              have hfz27_0 := blk_frozen BK175.out 0
              have hfz27_1 := blk_frozen BK175.out 1
              have hfz27_2 := blk_frozen BK175.out 2
              have hfz27_3 := blk_frozen BK175.out 3
              have hfz27_4 := blk_frozen BK175.out 4
              have hfz27_5 := blk_frozen BK175.out 5
              have hfz27_6 := blk_frozen BK175.out 6
              have hfz27_7 := blk_frozen BK175.out 7
              have hfz27_8 := blk_frozen BK175.out 8
              have hfz27_9 := blk_frozen BK175.out 9
              have hfz27_10 := blk_frozen BK175.out 10
              go_wp2
              go_meet
              case rel => exact ⟨_, (true), (by first | rfl | (simp; done) | (simp [*]; done)), H', ⟨by first | omega | exact Nat.le_refl _⟩, ⟨by (with_reducible repeat (first | refine blk_drewN ?_ _ | refine blk_drew ?_ | refine blk_alloc ?_ _)); exact BK174.out⟩, ⟨by (with_reducible repeat (first | refine blk_drewN ?_ _ | refine blk_drew ?_ | refine blk_alloc ?_ _)); exact BK175.out⟩, ⟨by repeat (first | (with_reducible first | exact HB.out | apply below_alloc | apply pw_below_drewN | apply below_drew1 | refine below_set ?_ GE174.out | refine below_set ?_ GE175.out) | exact HB.out)⟩⟩
        · rw [if_neg c8] at H
          have c8b0 : (a0_2 == a1_2) = false := beq_eq_false_iff_ne.mpr c8
          have c8b1 : (a0_2 != a1_2) = true := bne_iff_ne.mpr c8
          have H' := Aside0.mk H
          clear H
          have hnb28 := NB174_175.out
          have hnc28 := NB175_174.out
          have hcz29_0 : w5.cell? ⟨gb174, 0, none⟩ = some (.int .i64 a0_0) := (blk_cell BK174.out 0).trans rfl
          have hcz29_1 : w5.cell? ⟨gb174, 1, none⟩ = some (.int .u32 a0_1) := (blk_cell BK174.out 1).trans rfl
          have hcz29_2 : w5.cell? ⟨gb174, 2, none⟩ = some (.int .u8 a0_2) := (blk_cell BK174.out 2).trans rfl
          have hcz29_3 : w5.cell? ⟨gb174, 3, none⟩ = some (.bool a0_3) := (blk_cell BK174.out 3).trans rfl
          have hcz29_4 : w5.cell? ⟨gb174, 4, none⟩ = some (.int .u64 a0_4) := (blk_cell BK174.out 4).trans rfl
          have hcz29_5 : w5.cell? ⟨gb174, 5, none⟩ = some (.string a0_5) := (blk_cell BK174.out 5).trans rfl
          have hcz29_6 : w5.cell? ⟨gb174, 6, none⟩ = some (.string a0_6) := (blk_cell BK174.out 6).trans rfl
          have hcz29_7 : w5.cell? ⟨gb174, 7, none⟩ = some (.int .u64 a0_7) := (blk_cell BK174.out 7).trans rfl
          have hcz29_8 : w5.cell? ⟨gb174, 8, none⟩ = some (.int .u16 a0_8) := (blk_cell BK174.out 8).trans rfl
          have hcz29_9 : w5.cell? ⟨gb174, 9, none⟩ = some (.slice A0_9 l0_9.length c0_9) := (blk_cell BK174.out 9).trans rfl
          have hcz29_10 : w5.cell? ⟨gb174, 10, none⟩ = some (.slice A0_10 l0_10.length c0_10) := (blk_cell BK174.out 10).trans rfl
          have hfz29_0 := blk_frozen BK174.out 0
          have hfz29_1 := blk_frozen BK174.out 1
          have hfz29_2 := blk_frozen BK174.out 2
          have hfz29_3 := blk_frozen BK174.out 3
          have hfz29_4 := blk_frozen BK174.out 4
          have hfz29_5 := blk_frozen BK174.out 5
          have hfz29_6 := blk_frozen BK174.out 6
          have hfz29_7 := blk_frozen BK174.out 7
          have hfz29_8 := blk_frozen BK174.out 8
          have hfz29_9 := blk_frozen BK174.out 9
          have hfz29_10 := blk_frozen BK174.out 10
          have hcz30_0 : w5.cell? ⟨gb175, 0, none⟩ = some (.int .i64 a1_0) := (blk_cell BK175.out 0).trans rfl
          have hcz30_1 : w5.cell? ⟨gb175, 1, none⟩ = some (.int .u32 a1_1) := (blk_cell BK175.out 1).trans rfl
          have hcz30_2 : w5.cell? ⟨gb175, 2, none⟩ = some (.int .u8 a1_2) := (blk_cell BK175.out 2).trans rfl
          have hcz30_3 : w5.cell? ⟨gb175, 3, none⟩ = some (.bool a1_3) := (blk_cell BK175.out 3).trans rfl
          have hcz30_4 : w5.cell? ⟨gb175, 4, none⟩ = some (.int .u64 a1_4) := (blk_cell BK175.out 4).trans rfl
          have hcz30_5 : w5.cell? ⟨gb175, 5, none⟩ = some (.string a1_5) := (blk_cell BK175.out 5).trans rfl
          have hcz30_6 : w5.cell? ⟨gb175, 6, none⟩ = some (.string a1_6) := (blk_cell BK175.out 6).trans rfl
          have hcz30_7 : w5.cell? ⟨gb175, 7, none⟩ = some (.int .u64 a1_7) := (blk_cell BK175.out 7).trans rfl
          have hcz30_8 : w5.cell? ⟨gb175, 8, none⟩ = some (.int .u16 a1_8) := (blk_cell BK175.out 8).trans rfl
          have hcz30_9 : w5.cell? ⟨gb175, 9, none⟩ = some (.slice A1_9 l1_9.length c1_9) := (blk_cell BK175.out 9).trans rfl
          have hcz30_10 : w5.cell? ⟨gb175, 10, none⟩ = some (.slice A1_10 l1_10.length c1_10) := (blk_cell BK175.out 10).trans rfl
          have hfz30_0 := blk_frozen BK175.out 0
          have hfz30_1 := blk_frozen BK175.out 1
          have hfz30_2 := blk_frozen BK175.out 2
          have hfz30_3 := blk_frozen BK175.out 3
          have hfz30_4 := blk_frozen BK175.out 4
          have hfz30_5 := blk_frozen BK175.out 5
          have hfz30_6 := blk_frozen BK175.out 6
          have hfz30_7 := blk_frozen BK175.out 7
          have hfz30_8 := blk_frozen BK175.out 8
          have hfz30_9 := blk_frozen BK175.out 9
          have hfz30_10 := blk_frozen BK175.out 10
          go_wp2
          go_meet
          case rel => exact ⟨_, (true), (by first | rfl | (simp; done) | (simp [*]; done)), H', ⟨by first | omega | exact Nat.le_refl _⟩, ⟨by (with_reducible repeat (first | refine blk_drewN ?_ _ | refine blk_drew ?_ | refine blk_alloc ?_ _)); exact BK174.out⟩, ⟨by (with_reducible repeat (first | refine blk_drewN ?_ _ | refine blk_drew ?_ | refine blk_alloc ?_ _)); exact BK175.out⟩, ⟨by repeat (first | (with_reducible first | exact HB.out | apply below_alloc | apply pw_below_drewN | apply below_drew1 | refine below_set ?_ GE174.out | refine below_set ?_ GE175.out) | exact HB.out)⟩⟩
      · rw [if_neg c7] at H
        have c7b0 : (a0_1 == a1_1) = false := beq_eq_false_iff_ne.mpr c7
        have c7b1 : (a0_1 != a1_1) = true := bne_iff_ne.mpr c7
        have H' := Aside0.mk H
        clear H
        have hnb31 := NB174_175.out
        have hnc31 := NB175_174.out
        have hcz32_0 : w5.cell? ⟨gb174, 0, none⟩ = some (.int .i64 a0_0) := (blk_cell BK174.out 0).trans rfl
        have hcz32_1 : w5.cell? ⟨gb174, 1, none⟩ = some (.int .u32 a0_1) := (blk_cell BK174.out 1).trans rfl
        have hcz32_2 : w5.cell? ⟨gb174, 2, none⟩ = some (.int .u8 a0_2) := (blk_cell BK174.out 2).trans rfl
        have hcz32_3 : w5.cell? ⟨gb174, 3, none⟩ = some (.bool a0_3) := (blk_cell BK174.out 3).trans rfl
        have hcz32_4 : w5.cell? ⟨gb174, 4, none⟩ = some (.int .u64 a0_4) := (blk_cell BK174.out 4).trans rfl
        have hcz32_5 : w5.cell? ⟨gb174, 5, none⟩ = some (.string a0_5) := (blk_cell BK174.out 5).trans rfl
        have hcz32_6 : w5.cell? ⟨gb174, 6, none⟩ = some (.string a0_6) := (blk_cell BK174.out 6).trans rfl
        have hcz32_7 : w5.cell? ⟨gb174, 7, none⟩ = some (.int .u64 a0_7) := (blk_cell BK174.out 7).trans rfl
        have hcz32_8 : w5.cell? ⟨gb174, 8, none⟩ = some (.int .u16 a0_8) := (blk_cell BK174.out 8).trans rfl
        have hcz32_9 : w5.cell? ⟨gb174, 9, none⟩ = some (.slice A0_9 l0_9.length c0_9) := (blk_cell BK174.out 9).trans rfl
        have hcz32_10 : w5.cell? ⟨gb174, 10, none⟩ = some (.slice A0_10 l0_10.length c0_10) := (blk_cell BK174.out 10).trans rfl
        have hfz32_0 := blk_frozen BK174.out 0
        have hfz32_1 := blk_frozen BK174.out 1
        have hfz32_2 := blk_frozen BK174.out 2
        have hfz32_3 := blk_frozen BK174.out 3
        have hfz32_4 := blk_frozen BK174.out 4
        have hfz32_5 := blk_frozen BK174.out 5
        have hfz32_6 := blk_frozen BK174.out 6
        have hfz32_7 := blk_frozen BK174.out 7
        have hfz32_8 := blk_frozen BK174.out 8
        have hfz32_9 := blk_frozen BK174.out 9
        have hfz32_10 := blk_frozen BK174.out 10
        have hcz33_0 : w5.cell? ⟨gb175, 0, none⟩ = some (.int .i64 a1_0) := (blk_cell BK175.out 0).trans rfl
        have hcz33_1 : w5.cell? ⟨gb175, 1, none⟩ = some (.int .u32 a1_1) := (blk_cell BK175.out 1).trans rfl
        have hcz33_2 : w5.cell? ⟨gb175, 2, none⟩ = some (.int .u8 a1_2) := (blk_cell BK175.out 2).trans rfl
        have hcz33_3 : w5.cell? ⟨gb175, 3, none⟩ = some (.bool a1_3) := (blk_cell BK175.out 3).trans rfl
        have hcz33_4 : w5.cell? ⟨gb175, 4, none⟩ = some (.int .u64 a1_4) := (blk_cell BK175.out 4).trans rfl
        have hcz33_5 : w5.cell? ⟨gb175, 5, none⟩ = some (.string a1_5) := (blk_cell BK175.out 5).trans rfl
        have hcz33_6 : w5.cell? ⟨gb175, 6, none⟩ = some (.string a1_6) := (blk_cell BK175.out 6).trans rfl
        have hcz33_7 : w5.cell? ⟨gb175, 7, none⟩ = some (.int .u64 a1_7) := (blk_cell BK175.out 7).trans rfl
        have hcz33_8 : w5.cell? ⟨gb175, 8, none⟩ = some (.int .u16 a1_8) := (blk_cell BK175.out 8).trans rfl
        have hcz33_9 : w5.cell? ⟨gb175, 9, none⟩ = some (.slice A1_9 l1_9.length c1_9) := (blk_cell BK175.out 9).trans rfl
        have hcz33_10 : w5.cell? ⟨gb175, 10, none⟩ = some (.slice A1_10 l1_10.length c1_10) := (blk_cell BK175.out 10).trans rfl
        have hfz33_0 := blk_frozen BK175.out 0
        have hfz33_1 := blk_frozen BK175.out 1
        have hfz33_2 := blk_frozen BK175.out 2
        have hfz33_3 := blk_frozen BK175.out 3
        have hfz33_4 := blk_frozen BK175.out 4
        have hfz33_5 := blk_frozen BK175.out 5
        have hfz33_6 := blk_frozen BK175.out 6
        have hfz33_7 := blk_frozen BK175.out 7
        have hfz33_8 := blk_frozen BK175.out 8
        have hfz33_9 := blk_frozen BK175.out 9
        have hfz33_10 := blk_frozen BK175.out 10
        go_wp2
        go_meet
        case rel => exact ⟨_, (true), (by first | rfl | (simp; done) | (simp [*]; done)), H', ⟨by first | omega | exact Nat.le_refl _⟩, ⟨by (with_reducible repeat (first | refine blk_drewN ?_ _ | refine blk_drew ?_ | refine blk_alloc ?_ _)); exact BK174.out⟩, ⟨by (with_reducible repeat (first | refine blk_drewN ?_ _ | refine blk_drew ?_ | refine blk_alloc ?_ _)); exact BK175.out⟩, ⟨by repeat (first | (with_reducible first | exact HB.out | apply below_alloc | apply pw_below_drewN | apply below_drew1 | refine below_set ?_ GE174.out | refine below_set ?_ GE175.out) | exact HB.out)⟩⟩
    · rw [if_neg c6] at H
      have c6b0 : (a0_0 == a1_0) = false := beq_eq_false_iff_ne.mpr c6
      have c6b1 : (a0_0 != a1_0) = true := bne_iff_ne.mpr c6
      (first | rw [c6b0] | (simp only [i64_w, i32_w]; rw [c6b0]) | skip)
      have H' := Aside0.mk H
      clear H
      have hnb34 := NB174_175.out
      have hnc34 := NB175_174.out
      have hcz35_0 : w5.cell? ⟨gb174, 0, none⟩ = some (.int .i64 a0_0) := (blk_cell BK174.out 0).trans rfl
      have hcz35_1 : w5.cell? ⟨gb174, 1, none⟩ = some (.int .u32 a0_1) := (blk_cell BK174.out 1).trans rfl
      have hcz35_2 : w5.cell? ⟨gb174, 2, none⟩ = some (.int .u8 a0_2) := (blk_cell BK174.out 2).trans rfl
      have hcz35_3 : w5.cell? ⟨gb174, 3, none⟩ = some (.bool a0_3) := (blk_cell BK174.out 3).trans rfl
      have hcz35_4 : w5.cell? ⟨gb174, 4, none⟩ = some (.int .u64 a0_4) := (blk_cell BK174.out 4).trans rfl
      have hcz35_5 : w5.cell? ⟨gb174, 5, none⟩ = some (.string a0_5) := (blk_cell BK174.out 5).trans rfl
      have hcz35_6 : w5.cell? ⟨gb174, 6, none⟩ = some (.string a0_6) := (blk_cell BK174.out 6).trans rfl
      have hcz35_7 : w5.cell? ⟨gb174, 7, none⟩ = some (.int .u64 a0_7) := (blk_cell BK174.out 7).trans rfl
      have hcz35_8 : w5.cell? ⟨gb174, 8, none⟩ = some (.int .u16 a0_8) := (blk_cell BK174.out 8).trans rfl
      have hcz35_9 : w5.cell? ⟨gb174, 9, none⟩ = some (.slice A0_9 l0_9.length c0_9) := (blk_cell BK174.out 9).trans rfl
      have hcz35_10 : w5.cell? ⟨gb174, 10, none⟩ = some (.slice A0_10 l0_10.length c0_10) := (blk_cell BK174.out 10).trans rfl
      have hfz35_0 := blk_frozen BK174.out 0
      have hfz35_1 := blk_frozen BK174.out 1
      have hfz35_2 := blk_frozen BK174.out 2
      have hfz35_3 := blk_frozen BK174.out 3
      have hfz35_4 := blk_frozen BK174.out 4
      have hfz35_5 := blk_frozen BK174.out 5
      have hfz35_6 := blk_frozen BK174.out 6
      have hfz35_7 := blk_frozen BK174.out 7
      have hfz35_8 := blk_frozen BK174.out 8
      have hfz35_9 := blk_frozen BK174.out 9
      have hfz35_10 := blk_frozen BK174.out 10
      have hcz36_0 : w5.cell? ⟨gb175, 0, none⟩ = some (.int .i64 a1_0) := (blk_cell BK175.out 0).trans rfl
      have hcz36_1 : w5.cell? ⟨gb175, 1, none⟩ = some (.int .u32 a1_1) := (blk_cell BK175.out 1).trans rfl
      have hcz36_2 : w5.cell? ⟨gb175, 2, none⟩ = some (.int .u8 a1_2) := (blk_cell BK175.out 2).trans rfl
      have hcz36_3 : w5.cell? ⟨gb175, 3, none⟩ = some (.bool a1_3) := (blk_cell BK175.out 3).trans rfl
      have hcz36_4 : w5.cell? ⟨gb175, 4, none⟩ = some (.int .u64 a1_4) := (blk_cell BK175.out 4).trans rfl
      have hcz36_5 : w5.cell? ⟨gb175, 5, none⟩ = some (.string a1_5) := (blk_cell BK175.out 5).trans rfl
      have hcz36_6 : w5.cell? ⟨gb175, 6, none⟩ = some (.string a1_6) := (blk_cell BK175.out 6).trans rfl
      have hcz36_7 : w5.cell? ⟨gb175, 7, none⟩ = some (.int .u64 a1_7) := (blk_cell BK175.out 7).trans rfl
      have hcz36_8 : w5.cell? ⟨gb175, 8, none⟩ = some (.int .u16 a1_8) := (blk_cell BK175.out 8).trans rfl
      have hcz36_9 : w5.cell? ⟨gb175, 9, none⟩ = some (.slice A1_9 l1_9.length c1_9) := (blk_cell BK175.out 9).trans rfl
      have hcz36_10 : w5.cell? ⟨gb175, 10, none⟩ = some (.slice A1_10 l1_10.length c1_10) := (blk_cell BK175.out 10).trans rfl
      have hfz36_0 := blk_frozen BK175.out 0
      have hfz36_1 := blk_frozen BK175.out 1
      have hfz36_2 := blk_frozen BK175.out 2
      have hfz36_3 := blk_frozen BK175.out 3
      have hfz36_4 := blk_frozen BK175.out 4
      have hfz36_5 := blk_frozen BK175.out 5
      have hfz36_6 := blk_frozen BK175.out 6
      have hfz36_7 := blk_frozen BK175.out 7
      have hfz36_8 := blk_frozen BK175.out 8
      have hfz36_9 := blk_frozen BK175.out 9
      have hfz36_10 := blk_frozen BK175.out 10
      go_wp2
      go_meet
      case rel => exact ⟨_, (true), (by first | rfl | (simp; done) | (simp [*]; done)), H', ⟨by first | omega | exact Nat.le_refl _⟩, ⟨by (with_reducible repeat (first | refine blk_drewN ?_ _ | refine blk_drew ?_ | refine blk_alloc ?_ _)); exact BK174.out⟩, ⟨by (with_reducible repeat (first | refine blk_drewN ?_ _ | refine blk_drew ?_ | refine blk_alloc ?_ _)); exact BK175.out⟩, ⟨by repeat (first | (with_reducible first | exact HB.out | apply below_alloc | apply pw_below_drewN | apply below_drew1 | refine below_set ?_ GE174.out | refine below_set ?_ GE175.out) | exact HB.out)⟩⟩
  case rest =>
    clear HC3
    try clear c1
    try clear c2
    try clear p2
    try clear c3
    try clear c6
    try clear c6b0
    try clear c6b1
    try clear c7
    try clear c7b0
    try clear c7b1
    try clear c8
    try clear c8b0
    try clear c8b1
    try clear c9
    try clear c9b0
    try clear c9b1
    try clear c9b2
    try clear c10
    try clear c13
    try clear c13b0
    try clear c13b1
    try clear c14
    try clear c14b0
    try clear c14b1
    try clear c15
    try clear c15b0
    try clear c15b1
    try clear c16
    try clear c19
    try clear c22
    try clear c25
    try clear c28
    try clear c31
    try clear c34
    try clear hcz11_0
    try clear hcz11_1
    try clear hcz11_10
    try clear hcz11_2
    try clear hcz11_3
    try clear hcz11_4
    try clear hcz11_5
    try clear hcz11_6
    try clear hcz11_7
    try clear hcz11_8
    try clear hcz11_9
    try clear hcz12_0
    try clear hcz12_1
    try clear hcz12_10
    try clear hcz12_2
    try clear hcz12_3
    try clear hcz12_4
    try clear hcz12_5
    try clear hcz12_6
    try clear hcz12_7
    try clear hcz12_8
    try clear hcz12_9
    try clear hcz17_0
    try clear hcz17_1
    try clear hcz17_10
    try clear hcz17_2
    try clear hcz17_3
    try clear hcz17_4
    try clear hcz17_5
    try clear hcz17_6
    try clear hcz17_7
    try clear hcz17_8
    try clear hcz17_9
    try clear hcz18_0
    try clear hcz18_1
    try clear hcz18_10
    try clear hcz18_2
    try clear hcz18_3
    try clear hcz18_4
    try clear hcz18_5
    try clear hcz18_6
    try clear hcz18_7
    try clear hcz18_8
    try clear hcz18_9
    try clear hcz20_0
    try clear hcz20_1
    try clear hcz20_10
    try clear hcz20_2
    try clear hcz20_3
    try clear hcz20_4
    try clear hcz20_5
    try clear hcz20_6
    try clear hcz20_7
    try clear hcz20_8
    try clear hcz20_9
    try clear hcz21_0
    try clear hcz21_1
    try clear hcz21_10
    try clear hcz21_2
    try clear hcz21_3
    try clear hcz21_4
    try clear hcz21_5
    try clear hcz21_6
    try clear hcz21_7
    try clear hcz21_8
    try clear hcz21_9
    try clear hcz23_0
    try clear hcz23_1
    try clear hcz23_10
    try clear hcz23_2
    try clear hcz23_3
    try clear hcz23_4
    try clear hcz23_5
    try clear hcz23_6
    try clear hcz23_7
    try clear hcz23_8
    try clear hcz23_9
    try clear hcz24_0
    try clear hcz24_1
    try clear hcz24_10
    try clear hcz24_2
    try clear hcz24_3
    try clear hcz24_4
    try clear hcz24_5
    try clear hcz24_6
    try clear hcz24_7
    try clear hcz24_8
    try clear hcz24_9
    try clear hcz26_0
    try clear hcz26_1
    try clear hcz26_10
    try clear hcz26_2
    try clear hcz26_3
    try clear hcz26_4
    try clear hcz26_5
    try clear hcz26_6
    try clear hcz26_7
    try clear hcz26_8
    try clear hcz26_9
    try clear hcz27_0
    try clear hcz27_1
    try clear hcz27_10
    try clear hcz27_2
    try clear hcz27_3
    try clear hcz27_4
    try clear hcz27_5
    try clear hcz27_6
    try clear hcz27_7
    try clear hcz27_8
    try clear hcz27_9
    try clear hcz29_0
    try clear hcz29_1
    try clear hcz29_10
    try clear hcz29_2
    try clear hcz29_3
    try clear hcz29_4
    try clear hcz29_5
    try clear hcz29_6
    try clear hcz29_7
    try clear hcz29_8
    try clear hcz29_9
    try clear hcz30_0
    try clear hcz30_1
    try clear hcz30_10
    try clear hcz30_2
    try clear hcz30_3
    try clear hcz30_4
    try clear hcz30_5
    try clear hcz30_6
    try clear hcz30_7
    try clear hcz30_8
    try clear hcz30_9
    try clear hcz32_0
    try clear hcz32_1
    try clear hcz32_10
    try clear hcz32_2
    try clear hcz32_3
    try clear hcz32_4
    try clear hcz32_5
    try clear hcz32_6
    try clear hcz32_7
    try clear hcz32_8
    try clear hcz32_9
    try clear hcz33_0
    try clear hcz33_1
    try clear hcz33_10
    try clear hcz33_2
    try clear hcz33_3
    try clear hcz33_4
    try clear hcz33_5
    try clear hcz33_6
    try clear hcz33_7
    try clear hcz33_8
    try clear hcz33_9
    try clear hcz35_0
    try clear hcz35_1
    try clear hcz35_10
    try clear hcz35_2
    try clear hcz35_3
    try clear hcz35_4
    try clear hcz35_5
    try clear hcz35_6
    try clear hcz35_7
    try clear hcz35_8
    try clear hcz35_9
    try clear hcz36_0
    try clear hcz36_1
    try clear hcz36_10
    try clear hcz36_2
    try clear hcz36_3
    try clear hcz36_4
    try clear hcz36_5
    try clear hcz36_6
    try clear hcz36_7
    try clear hcz36_8
    try clear hcz36_9
    try clear hfz11_0
    try clear hfz11_1
    try clear hfz11_10
    try clear hfz11_2
    try clear hfz11_3
    try clear hfz11_4
    try clear hfz11_5
    try clear hfz11_6
    try clear hfz11_7
    try clear hfz11_8
    try clear hfz11_9
    try clear hfz12_0
    try clear hfz12_1
    try clear hfz12_10
    try clear hfz12_2
    try clear hfz12_3
    try clear hfz12_4
    try clear hfz12_5
    try clear hfz12_6
    try clear hfz12_7
    try clear hfz12_8
    try clear hfz12_9
    try clear hfz17_0
    try clear hfz17_1
    try clear hfz17_10
    try clear hfz17_2
    try clear hfz17_3
    try clear hfz17_4
    try clear hfz17_5
    try clear hfz17_6
    try clear hfz17_7
    try clear hfz17_8
    try clear hfz17_9
    try clear hfz18_0
    try clear hfz18_1
    try clear hfz18_10
    try clear hfz18_2
    try clear hfz18_3
    try clear hfz18_4
    try clear hfz18_5
    try clear hfz18_6
    try clear hfz18_7
    try clear hfz18_8
    try clear hfz18_9
    try clear hfz20_0
    try clear hfz20_1
    try clear hfz20_10
    try clear hfz20_2
    try clear hfz20_3
    try clear hfz20_4
    try clear hfz20_5
    try clear hfz20_6
    try clear hfz20_7
    try clear hfz20_8
    try clear hfz20_9
    try clear hfz21_0
    try clear hfz21_1
    try clear hfz21_10
    try clear hfz21_2
    try clear hfz21_3
    try clear hfz21_4
    try clear hfz21_5
    try clear hfz21_6
    try clear hfz21_7
    try clear hfz21_8
    try clear hfz21_9
    try clear hfz23_0
    try clear hfz23_1
    try clear hfz23_10
    try clear hfz23_2
    try clear hfz23_3
    try clear hfz23_4
    try clear hfz23_5
    try clear hfz23_6
    try clear hfz23_7
    try clear hfz23_8
    try clear hfz23_9
    try clear hfz24_0
    try clear hfz24_1
    try clear hfz24_10
    try clear hfz24_2
    try clear hfz24_3
    try clear hfz24_4
    try clear hfz24_5
    try clear hfz24_6
    try clear hfz24_7
    try clear hfz24_8
    try clear hfz24_9
    try clear hfz26_0
    try clear hfz26_1
    try clear hfz26_10
    try clear hfz26_2
    try clear hfz26_3
    try clear hfz26_4
    try clear hfz26_5
    try clear hfz26_6
    try clear hfz26_7
    try clear hfz26_8
    try clear hfz26_9
    try clear hfz27_0
    try clear hfz27_1
    try clear hfz27_10
    try clear hfz27_2
    try clear hfz27_3
    try clear hfz27_4
    try clear hfz27_5
    try clear hfz27_6
    try clear hfz27_7
    try clear hfz27_8
    try clear hfz27_9
    try clear hfz29_0
    try clear hfz29_1
    try clear hfz29_10
    try clear hfz29_2
    try clear hfz29_3
    try clear hfz29_4
    try clear hfz29_5
    try clear hfz29_6
    try clear hfz29_7
    try clear hfz29_8
    try clear hfz29_9
    try clear hfz30_0
    try clear hfz30_1
    try clear hfz30_10
    try clear hfz30_2
    try clear hfz30_3
    try clear hfz30_4
    try clear hfz30_5
    try clear hfz30_6
    try clear hfz30_7
    try clear hfz30_8
    try clear hfz30_9
    try clear hfz32_0
    try clear hfz32_1
    try clear hfz32_10
    try clear hfz32_2
    try clear hfz32_3
    try clear hfz32_4
    try clear hfz32_5
    try clear hfz32_6
    try clear hfz32_7
    try clear hfz32_8
    try clear hfz32_9
    try clear hfz33_0
    try clear hfz33_1
    try clear hfz33_10
    try clear hfz33_2
    try clear hfz33_3
    try clear hfz33_4
    try clear hfz33_5
    try clear hfz33_6
    try clear hfz33_7
    try clear hfz33_8
    try clear hfz33_9
    try clear hfz35_0
    try clear hfz35_1
    try clear hfz35_10
    try clear hfz35_2
    try clear hfz35_3
    try clear hfz35_4
    try clear hfz35_5
    try clear hfz35_6
    try clear hfz35_7
    try clear hfz35_8
    try clear hfz35_9
    try clear hfz36_0
    try clear hfz36_1
    try clear hfz36_10
    try clear hfz36_2
    try clear hfz36_3
    try clear hfz36_4
    try clear hfz36_5
    try clear hfz36_6
    try clear hfz36_7
    try clear hfz36_8
    try clear hfz36_9
    obtain ⟨kq, x58_2, rfl, HA, HJ2, BK174, BK175, HB⟩ := hcut
    cases kq with
    | zero => exact absurd HA.out (by simp [annuletref08_Same.j0])
    | succ kj2 =>
      have H := HA.out
      clear HA
      simp only [annuletref08_Same.j0] at H
      by_cases c37 : x58_2 = true
      · subst c37
        have H1 : (some false) = some r := by rw [if_pos rfl] at H; exact H
        clear H
        have H := H1
        clear H1
        obtain rfl := Option.some.inj H
        go_wp2
        all_goals go_ret
        all_goals first | (exact ⟨by first | rfl | (simp [errW_none, errW_some] <;> rfl) | (simp [*, errW_none, errW_some] <;> rfl), by repeat (first | (with_reducible first | exact HB.out | apply below_alloc | apply pw_below_drewN | apply below_drew1 | refine below_set ?_ GE174.out | refine below_set ?_ GE175.out) | exact HB.out)⟩) | (exfalso; simp_all; done)
      · replace c37 := Bool.eq_false_iff.mpr c37
        subst c37
        have H1 : ((annuletref08_Peers.f kj2 l0_9 l1_9).bind fun t176 => (if t176 = true then ((annuletref08_Pairs.f kj2 l0_10 l1_10).bind fun t177 => (some t177)) else (some false))) = some r := by rw [if_neg (show ¬ (false = true) by decide)] at H; exact H
        clear H
        have H := H1
        clear H1
        replace H := Option.bind_eq_some_iff.mp H
        obtain ⟨t176, A380, H⟩ := H
        replace H : (if t176 = true then ((annuletref08_Pairs.f kj2 l0_10 l1_10).bind fun t177 => (some t177)) else (some false)) = some r := H
        have A38 := Aside0.mk A380
        clear A380
        by_cases c39 : t176 = true
        · subst c39
          have H1 : ((annuletref08_Pairs.f kj2 l0_10 l1_10).bind fun t177 => (some t177)) = some r := by rw [if_pos rfl] at H; exact H
          clear H
          have H := H1
          clear H1
          replace H := Option.bind_eq_some_iff.mp H
          obtain ⟨t177, A400, H⟩ := H
          replace H : (some t177) = some r := H
          have A40 := Aside0.mk A400
          clear A400
          obtain rfl := Option.some.inj H
          have hnb41 := NB174_175.out
          have hnc41 := NB175_174.out
          have hcz42_0 : wc.cell? ⟨gb174, 0, none⟩ = some (.int .i64 a0_0) := (blk_cell BK174.out 0).trans rfl
          have hcz42_1 : wc.cell? ⟨gb174, 1, none⟩ = some (.int .u32 a0_1) := (blk_cell BK174.out 1).trans rfl
          have hcz42_2 : wc.cell? ⟨gb174, 2, none⟩ = some (.int .u8 a0_2) := (blk_cell BK174.out 2).trans rfl
          have hcz42_3 : wc.cell? ⟨gb174, 3, none⟩ = some (.bool a0_3) := (blk_cell BK174.out 3).trans rfl
          have hcz42_4 : wc.cell? ⟨gb174, 4, none⟩ = some (.int .u64 a0_4) := (blk_cell BK174.out 4).trans rfl
          have hcz42_5 : wc.cell? ⟨gb174, 5, none⟩ = some (.string a0_5) := (blk_cell BK174.out 5).trans rfl
          have hcz42_6 : wc.cell? ⟨gb174, 6, none⟩ = some (.string a0_6) := (blk_cell BK174.out 6).trans rfl
          have hcz42_7 : wc.cell? ⟨gb174, 7, none⟩ = some (.int .u64 a0_7) := (blk_cell BK174.out 7).trans rfl
          have hcz42_8 : wc.cell? ⟨gb174, 8, none⟩ = some (.int .u16 a0_8) := (blk_cell BK174.out 8).trans rfl
          have hcz42_9 : wc.cell? ⟨gb174, 9, none⟩ = some (.slice A0_9 l0_9.length c0_9) := (blk_cell BK174.out 9).trans rfl
          have hcz42_10 : wc.cell? ⟨gb174, 10, none⟩ = some (.slice A0_10 l0_10.length c0_10) := (blk_cell BK174.out 10).trans rfl
          have hfz42_0 := blk_frozen BK174.out 0
          have hfz42_1 := blk_frozen BK174.out 1
          have hfz42_2 := blk_frozen BK174.out 2
          have hfz42_3 := blk_frozen BK174.out 3
          have hfz42_4 := blk_frozen BK174.out 4
          have hfz42_5 := blk_frozen BK174.out 5
          have hfz42_6 := blk_frozen BK174.out 6
          have hfz42_7 := blk_frozen BK174.out 7
          have hfz42_8 := blk_frozen BK174.out 8
          have hfz42_9 := blk_frozen BK174.out 9
          have hfz42_10 := blk_frozen BK174.out 10
          have hcz43_0 : wc.cell? ⟨gb175, 0, none⟩ = some (.int .i64 a1_0) := (blk_cell BK175.out 0).trans rfl
          have hcz43_1 : wc.cell? ⟨gb175, 1, none⟩ = some (.int .u32 a1_1) := (blk_cell BK175.out 1).trans rfl
          have hcz43_2 : wc.cell? ⟨gb175, 2, none⟩ = some (.int .u8 a1_2) := (blk_cell BK175.out 2).trans rfl
          have hcz43_3 : wc.cell? ⟨gb175, 3, none⟩ = some (.bool a1_3) := (blk_cell BK175.out 3).trans rfl
          have hcz43_4 : wc.cell? ⟨gb175, 4, none⟩ = some (.int .u64 a1_4) := (blk_cell BK175.out 4).trans rfl
          have hcz43_5 : wc.cell? ⟨gb175, 5, none⟩ = some (.string a1_5) := (blk_cell BK175.out 5).trans rfl
          have hcz43_6 : wc.cell? ⟨gb175, 6, none⟩ = some (.string a1_6) := (blk_cell BK175.out 6).trans rfl
          have hcz43_7 : wc.cell? ⟨gb175, 7, none⟩ = some (.int .u64 a1_7) := (blk_cell BK175.out 7).trans rfl
          have hcz43_8 : wc.cell? ⟨gb175, 8, none⟩ = some (.int .u16 a1_8) := (blk_cell BK175.out 8).trans rfl
          have hcz43_9 : wc.cell? ⟨gb175, 9, none⟩ = some (.slice A1_9 l1_9.length c1_9) := (blk_cell BK175.out 9).trans rfl
          have hcz43_10 : wc.cell? ⟨gb175, 10, none⟩ = some (.slice A1_10 l1_10.length c1_10) := (blk_cell BK175.out 10).trans rfl
          have hfz43_0 := blk_frozen BK175.out 0
          have hfz43_1 := blk_frozen BK175.out 1
          have hfz43_2 := blk_frozen BK175.out 2
          have hfz43_3 := blk_frozen BK175.out 3
          have hfz43_4 := blk_frozen BK175.out 4
          have hfz43_5 := blk_frozen BK175.out 5
          have hfz43_6 := blk_frozen BK175.out 6
          have hfz43_7 := blk_frozen BK175.out 7
          have hfz43_8 := blk_frozen BK175.out 8
          have hfz43_9 := blk_frozen BK175.out 9
          have hfz43_10 := blk_frozen BK175.out 10
          go_wp2_with (first | ((with_reducible refine gate_callee (f := 35) rfl ?_); refine goesL_ (some 63) rfl rfl Try.func35 (by kernel_rfl) rfl #[.slice A0_9 l0_9.length c0_9, .slice A1_9 l1_9.length c1_9] rfl (by (try simp only [List.map_toArray, List.map_cons, List.map_nil]); first | done | rfl | (simp only [List.length_drop, List.length_take]; rfl)) ?_; (with_reducible refine (annuletref08_Peers.calls kj2 _ _ l0_9 _ _ l1_9 true _ ?side1 ?side2 ?side3 ?side4 A38.out).mono ?_); (case side1 => repeat (first | exact (Kd.C_below HR0_9.out HB.out) | (with_reducible refine Kd.C_alloc ?_ _) | (with_reducible refine Kd.C_drewN ?_ _) | (with_reducible refine Kd.C_drew ?_))); (case side2 => exact HC0_9.out); (case side3 => repeat (first | exact (Kd.C_below HR1_9.out HB.out) | (with_reducible refine Kd.C_alloc ?_ _) | (with_reducible refine Kd.C_drewN ?_ _) | (with_reducible refine Kd.C_drew ?_))); (case side4 => exact HC1_9.out); rintro e w' ⟨rfl, ⟨nd, rfl⟩⟩; refine ⟨_, rfl, ?_⟩) | (go_at_call 36; (with_reducible refine (annuletref08_Pairs.calls kj2 _ _ l0_10 _ _ l1_10 t177 _ ?side1 ?side2 ?side3 ?side4 A40.out).mono ?_); (case side1 => repeat (first | exact (Kd.C_below HR0_10.out (by repeat (first | (with_reducible first | exact HB.out | apply below_alloc | apply pw_below_drewN | apply below_drew1 | refine below_set ?_ GE174.out | refine below_set ?_ GE175.out) | exact HB.out))) | (with_reducible refine Kd.C_alloc ?_ _) | (with_reducible refine Kd.C_drewN ?_ _) | (with_reducible refine Kd.C_drew ?_))); (case side2 => exact HC0_10.out); (case side3 => repeat (first | exact (Kd.C_below HR1_10.out (by repeat (first | (with_reducible first | exact HB.out | apply below_alloc | apply pw_below_drewN | apply below_drew1 | refine below_set ?_ GE174.out | refine below_set ?_ GE175.out) | exact HB.out))) | (with_reducible refine Kd.C_alloc ?_ _) | (with_reducible refine Kd.C_drewN ?_ _) | (with_reducible refine Kd.C_drew ?_))); (case side4 => exact HC1_10.out); rintro e w' ⟨rfl, ⟨nd, rfl⟩⟩))
          all_goals go_ret
          all_goals first | (exact ⟨by first | rfl | (simp [errW_none, errW_some] <;> rfl) | (simp [*, errW_none, errW_some] <;> rfl), by repeat (first | (with_reducible first | exact HB.out | apply below_alloc | apply pw_below_drewN | apply below_drew1 | refine below_set ?_ GE174.out | refine below_set ?_ GE175.out) | exact HB.out)⟩) | (exfalso; simp_all; done)
        · replace c39 := Bool.eq_false_iff.mpr c39
          subst c39
          have H1 : (some false) = some r := by rw [if_neg (show ¬ (false = true) by decide)] at H; exact H
          clear H
          have H := H1
          clear H1
          obtain rfl := Option.some.inj H
          have hnb44 := NB174_175.out
          have hnc44 := NB175_174.out
          have hcz45_0 : wc.cell? ⟨gb174, 0, none⟩ = some (.int .i64 a0_0) := (blk_cell BK174.out 0).trans rfl
          have hcz45_1 : wc.cell? ⟨gb174, 1, none⟩ = some (.int .u32 a0_1) := (blk_cell BK174.out 1).trans rfl
          have hcz45_2 : wc.cell? ⟨gb174, 2, none⟩ = some (.int .u8 a0_2) := (blk_cell BK174.out 2).trans rfl
          have hcz45_3 : wc.cell? ⟨gb174, 3, none⟩ = some (.bool a0_3) := (blk_cell BK174.out 3).trans rfl
          have hcz45_4 : wc.cell? ⟨gb174, 4, none⟩ = some (.int .u64 a0_4) := (blk_cell BK174.out 4).trans rfl
          have hcz45_5 : wc.cell? ⟨gb174, 5, none⟩ = some (.string a0_5) := (blk_cell BK174.out 5).trans rfl
          have hcz45_6 : wc.cell? ⟨gb174, 6, none⟩ = some (.string a0_6) := (blk_cell BK174.out 6).trans rfl
          have hcz45_7 : wc.cell? ⟨gb174, 7, none⟩ = some (.int .u64 a0_7) := (blk_cell BK174.out 7).trans rfl
          have hcz45_8 : wc.cell? ⟨gb174, 8, none⟩ = some (.int .u16 a0_8) := (blk_cell BK174.out 8).trans rfl
          have hcz45_9 : wc.cell? ⟨gb174, 9, none⟩ = some (.slice A0_9 l0_9.length c0_9) := (blk_cell BK174.out 9).trans rfl
          have hcz45_10 : wc.cell? ⟨gb174, 10, none⟩ = some (.slice A0_10 l0_10.length c0_10) := (blk_cell BK174.out 10).trans rfl
          have hfz45_0 := blk_frozen BK174.out 0
          have hfz45_1 := blk_frozen BK174.out 1
          have hfz45_2 := blk_frozen BK174.out 2
          have hfz45_3 := blk_frozen BK174.out 3
          have hfz45_4 := blk_frozen BK174.out 4
          have hfz45_5 := blk_frozen BK174.out 5
          have hfz45_6 := blk_frozen BK174.out 6
          have hfz45_7 := blk_frozen BK174.out 7
          have hfz45_8 := blk_frozen BK174.out 8
          have hfz45_9 := blk_frozen BK174.out 9
          have hfz45_10 := blk_frozen BK174.out 10
          have hcz46_0 : wc.cell? ⟨gb175, 0, none⟩ = some (.int .i64 a1_0) := (blk_cell BK175.out 0).trans rfl
          have hcz46_1 : wc.cell? ⟨gb175, 1, none⟩ = some (.int .u32 a1_1) := (blk_cell BK175.out 1).trans rfl
          have hcz46_2 : wc.cell? ⟨gb175, 2, none⟩ = some (.int .u8 a1_2) := (blk_cell BK175.out 2).trans rfl
          have hcz46_3 : wc.cell? ⟨gb175, 3, none⟩ = some (.bool a1_3) := (blk_cell BK175.out 3).trans rfl
          have hcz46_4 : wc.cell? ⟨gb175, 4, none⟩ = some (.int .u64 a1_4) := (blk_cell BK175.out 4).trans rfl
          have hcz46_5 : wc.cell? ⟨gb175, 5, none⟩ = some (.string a1_5) := (blk_cell BK175.out 5).trans rfl
          have hcz46_6 : wc.cell? ⟨gb175, 6, none⟩ = some (.string a1_6) := (blk_cell BK175.out 6).trans rfl
          have hcz46_7 : wc.cell? ⟨gb175, 7, none⟩ = some (.int .u64 a1_7) := (blk_cell BK175.out 7).trans rfl
          have hcz46_8 : wc.cell? ⟨gb175, 8, none⟩ = some (.int .u16 a1_8) := (blk_cell BK175.out 8).trans rfl
          have hcz46_9 : wc.cell? ⟨gb175, 9, none⟩ = some (.slice A1_9 l1_9.length c1_9) := (blk_cell BK175.out 9).trans rfl
          have hcz46_10 : wc.cell? ⟨gb175, 10, none⟩ = some (.slice A1_10 l1_10.length c1_10) := (blk_cell BK175.out 10).trans rfl
          have hfz46_0 := blk_frozen BK175.out 0
          have hfz46_1 := blk_frozen BK175.out 1
          have hfz46_2 := blk_frozen BK175.out 2
          have hfz46_3 := blk_frozen BK175.out 3
          have hfz46_4 := blk_frozen BK175.out 4
          have hfz46_5 := blk_frozen BK175.out 5
          have hfz46_6 := blk_frozen BK175.out 6
          have hfz46_7 := blk_frozen BK175.out 7
          have hfz46_8 := blk_frozen BK175.out 8
          have hfz46_9 := blk_frozen BK175.out 9
          have hfz46_10 := blk_frozen BK175.out 10
          go_wp2_with (first | ((with_reducible refine gate_callee (f := 35) rfl ?_); refine goesL_ (some 63) rfl rfl Try.func35 (by kernel_rfl) rfl #[.slice A0_9 l0_9.length c0_9, .slice A1_9 l1_9.length c1_9] rfl (by (try simp only [List.map_toArray, List.map_cons, List.map_nil]); first | done | rfl | (simp only [List.length_drop, List.length_take]; rfl)) ?_; (with_reducible refine (annuletref08_Peers.calls kj2 _ _ l0_9 _ _ l1_9 false _ ?side1 ?side2 ?side3 ?side4 A38.out).mono ?_); (case side1 => repeat (first | exact (Kd.C_below HR0_9.out HB.out) | (with_reducible refine Kd.C_alloc ?_ _) | (with_reducible refine Kd.C_drewN ?_ _) | (with_reducible refine Kd.C_drew ?_))); (case side2 => exact HC0_9.out); (case side3 => repeat (first | exact (Kd.C_below HR1_9.out HB.out) | (with_reducible refine Kd.C_alloc ?_ _) | (with_reducible refine Kd.C_drewN ?_ _) | (with_reducible refine Kd.C_drew ?_))); (case side4 => exact HC1_9.out); rintro e w' ⟨rfl, ⟨nd, rfl⟩⟩; refine ⟨_, rfl, ?_⟩))
          all_goals go_ret
          all_goals first | (exact ⟨by first | rfl | (simp [errW_none, errW_some] <;> rfl) | (simp [*, errW_none, errW_some] <;> rfl), by repeat (first | (with_reducible first | exact HB.out | apply below_alloc | apply pw_below_drewN | apply below_drew1 | refine below_set ?_ GE174.out | refine below_set ?_ GE175.out) | exact HB.out)⟩) | (exfalso; simp_all; done)

end Go.Proofs.Ytpopljbpbobgfaa.PNegoMoves
