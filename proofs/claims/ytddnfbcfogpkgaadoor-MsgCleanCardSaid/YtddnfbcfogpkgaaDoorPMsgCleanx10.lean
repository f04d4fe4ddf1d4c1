/- Written by a program of this session (a turned copy of the kit's print): functions of the program, each with the Lean function that it comes to, and the row of one law. No condition. -/
import Derived.Test.YtddnfbcfogpkgaaDoorPMsgCleanx0
import Derived.Test.YtddnfbcfogpkgaaDoorPMsgCleanx3
import Derived.Test.YtddnfbcfogpkgaaDoorPMsgCleanx5
import Derived.Test.YtddnfbcfogpkgaaDoorPMsgCleanx6
import Derived.Test.YtddnfbcfogpkgaaDoorPMsgCleanx8
import Derived.Test.YtddnfbcfogpkgaaDoorPMsgCleanx9
namespace Go.Proofs.YtddnfbcfogpkgaaDoor.PMsgClean
open Go.RowKit Go.Proofs.YtddnfbcfogpkgaaDoorW.PrintWords Go.Proofs.YtddnfbcfogpkgaaDoorW.PrintLast Go.Proofs.YtddnfbcfogpkgaaDoorW.PrintMore
attribute [local go_sem] max2_int min2_int max_two min_two max_three min_three max_four min_four   -- for this text's walks alone
set_option linter.unusedVariables false
set_option linter.unusedSimpArgs false

/-! ### annuletlaw08_MsgClean: function 5 -/
def annuletlaw08_MsgClean.j0 : Nat → Bool → Int → Int → Int → Bool → Int → ByteArray → ByteArray → Int → Int → List (S26) → List (S45) → Int → Int → Int → Bool → Int → ByteArray → ByteArray → Int → Int → List (S26) → List (S45) → Option (Bool)
 | 0, _, _, _, _, _, _, _, _, _, _, _, _, _, _, _, _, _, _, _, _, _, _, _ => none
 | k + 1, x18, x224000, x224001, x224002, x224003, x224004, x224005, x224006, x224007, x224008, x224009, x224010, x242000, x242001, x242002, x242003, x242004, x242005, x242006, x242007, x242008, x242009, x242010 => if x18 = true then (none) else ((msg_Right.f k x224000 x224001 x224002 x224003 x224004 x224005 x224006 x224007 x224008 x224009 x224010).bind fun t259 => (if t259 = 0 then ((msg_Same.f k x224000 x224001 x224002 x224003 x224004 x224005 x224006 x224007 x224008 x224009 x224010 x242000 x242001 x242002 x242003 x242004 x242005 x242006 x242007 x242008 x242009 x242010).bind fun t260 => (if t260 = true then ((annuletlaw08_awake.f k).bind fun t261 => (some t261)) else (none))) else ((annuletlaw08_awake.f k).bind fun t262 => (some t262))))
def annuletlaw08_MsgClean.f (k : Nat) (a0_0 : Int) (a0_1 : Int) (a0_2 : Int) (a0_3 : Bool) (a0_4 : Int) (a0_5 : ByteArray) (a0_6 : ByteArray) (a0_7 : Int) (a0_8 : Int) (l0_9 : List (S26)) (l0_10 : List (S45)) : Option (Bool) := (annuletlaw08_Large.f k a0_0 a0_1 a0_2 a0_3 a0_4 a0_5 a0_6 a0_7 a0_8 l0_9 l0_10).bind fun t224 => (if t224 = true then ((annuletlaw08_awake.f k).bind fun t225 => (some t225)) else ((msg_Bare.f k a0_0 a0_1 a0_2 a0_3 a0_4 a0_5 a0_6 a0_7 a0_8 l0_9 l0_10).bind fun bt226 => ((msg_Bare.f k bt226.1 bt226.2.1 bt226.2.2.1 bt226.2.2.2.1 bt226.2.2.2.2.1 bt226.2.2.2.2.2.1 bt226.2.2.2.2.2.2.1 bt226.2.2.2.2.2.2.2.1 bt226.2.2.2.2.2.2.2.2.1 bt226.2.2.2.2.2.2.2.2.2.1 bt226.2.2.2.2.2.2.2.2.2.2).bind fun bt242 => ((msg_Same.f k bt242.1 bt242.2.1 bt242.2.2.1 bt242.2.2.2.1 bt242.2.2.2.2.1 bt242.2.2.2.2.2.1 bt242.2.2.2.2.2.2.1 bt242.2.2.2.2.2.2.2.1 bt242.2.2.2.2.2.2.2.2.1 bt242.2.2.2.2.2.2.2.2.2.1 bt242.2.2.2.2.2.2.2.2.2.2 bt226.1 bt226.2.1 bt226.2.2.1 bt226.2.2.2.1 bt226.2.2.2.2.1 bt226.2.2.2.2.2.1 bt226.2.2.2.2.2.2.1 bt226.2.2.2.2.2.2.2.1 bt226.2.2.2.2.2.2.2.2.1 bt226.2.2.2.2.2.2.2.2.2.1 bt226.2.2.2.2.2.2.2.2.2.2).bind fun t257 => (if t257 = true then ((msg_Right.f k bt226.1 bt226.2.1 bt226.2.2.1 bt226.2.2.2.1 bt226.2.2.2.2.1 bt226.2.2.2.2.2.1 bt226.2.2.2.2.2.2.1 bt226.2.2.2.2.2.2.2.1 bt226.2.2.2.2.2.2.2.2.1 bt226.2.2.2.2.2.2.2.2.2.1 bt226.2.2.2.2.2.2.2.2.2.2).bind fun t258 => (annuletlaw08_MsgClean.j0 k (t258 == 1) a0_0 a0_1 a0_2 a0_3 a0_4 a0_5 a0_6 a0_7 a0_8 l0_9 l0_10 bt226.1 bt226.2.1 bt226.2.2.1 bt226.2.2.2.1 bt226.2.2.2.2.1 bt226.2.2.2.2.2.1 bt226.2.2.2.2.2.2.1 bt226.2.2.2.2.2.2.2.1 bt226.2.2.2.2.2.2.2.2.1 bt226.2.2.2.2.2.2.2.2.2.1 bt226.2.2.2.2.2.2.2.2.2.2)) else (annuletlaw08_MsgClean.j0 k true a0_0 a0_1 a0_2 a0_3 a0_4 a0_5 a0_6 a0_7 a0_8 l0_9 l0_10 bt226.1 bt226.2.1 bt226.2.2.1 bt226.2.2.2.1 bt226.2.2.2.2.1 bt226.2.2.2.2.2.1 bt226.2.2.2.2.2.2.1 bt226.2.2.2.2.2.2.2.1 bt226.2.2.2.2.2.2.2.2.1 bt226.2.2.2.2.2.2.2.2.2.1 bt226.2.2.2.2.2.2.2.2.2.2))))))
theorem annuletlaw08_MsgClean.mono_l : ∀ k, (∀ y0 y1 y2 y3 y4 y5 y6 y7 y8 y9 y10 y11 y12 y13 y14 y15 y16 y17 y18 y19 y20 y21 y22, LeO (annuletlaw08_MsgClean.j0 k y0 y1 y2 y3 y4 y5 y6 y7 y8 y9 y10 y11 y12 y13 y14 y15 y16 y17 y18 y19 y20 y21 y22) (annuletlaw08_MsgClean.j0 (k + 1) y0 y1 y2 y3 y4 y5 y6 y7 y8 y9 y10 y11 y12 y13 y14 y15 y16 y17 y18 y19 y20 y21 y22))
 | 0 => fun _ _ _ _ _ _ _ _ _ _ _ _ _ _ _ _ _ _ _ _ _ _ _ r h => by simp [annuletlaw08_MsgClean.j0] at h
 | k + 1 => by
  have ih0 := annuletlaw08_MsgClean.mono_l k
  ·intro y0 y1 y2 y3 y4 y5 y6 y7 y8 y9 y10 y11 y12 y13 y14 y15 y16 y17 y18 y19 y20 y21 y22
   unfold annuletlaw08_MsgClean.j0
   repeat' first
   | (with_reducible exact ih0 _ _ _ _ _ _ _ _ _ _ _ _ _ _ _ _ _ _ _ _ _ _ _)
   | (with_reducible exact annuletlaw08_Large.mono _ _ _ _ _ _ _ _ _ _ _ _)
   | (with_reducible exact annuletlaw08_awake.mono _)
   | (with_reducible exact msg_Bare.mono _ _ _ _ _ _ _ _ _ _ _ _)
   | (with_reducible exact msg_Right.mono _ _ _ _ _ _ _ _ _ _ _ _)
   | (with_reducible exact msg_Same.mono _ _ _ _ _ _ _ _ _ _ _ _ _ _ _ _ _ _ _ _ _ _ _)
   | (with_reducible exact LeO.refl _)
   | (with_reducible exact LeO.none _)
   | (with_reducible refine LeO.ite ?_ ?_)
   | (with_reducible refine LeO.bind ?_ (fun _ => ?_))
   | exact ih0 _ _ _ _ _ _ _ _ _ _ _ _ _ _ _ _ _ _ _ _ _ _ _
   | exact annuletlaw08_Large.mono _ _ _ _ _ _ _ _ _ _ _ _
   | exact annuletlaw08_awake.mono _
   | exact msg_Bare.mono _ _ _ _ _ _ _ _ _ _ _ _
   | exact msg_Right.mono _ _ _ _ _ _ _ _ _ _ _ _
   | exact msg_Same.mono _ _ _ _ _ _ _ _ _ _ _ _ _ _ _ _ _ _ _ _ _ _ _
   | exact LeO.none _
   | refine LeO.ite ?_ ?_
   | refine LeO.bind ?_ (fun _ => ?_)
theorem annuletlaw08_MsgClean.mono : ∀ a0 a1 a2 a3 a4 a5 a6 a7 a8 a9 a10 k, LeO (annuletlaw08_MsgClean.f k a0 a1 a2 a3 a4 a5 a6 a7 a8 a9 a10) (annuletlaw08_MsgClean.f (k + 1) a0 a1 a2 a3 a4 a5 a6 a7 a8 a9 a10) := by
 intro a0 a1 a2 a3 a4 a5 a6 a7 a8 a9 a10 k
 have ih0 := annuletlaw08_MsgClean.mono_l k
 unfold annuletlaw08_MsgClean.f
 repeat' first
   | (with_reducible exact ih0 _ _ _ _ _ _ _ _ _ _ _ _ _ _ _ _ _ _ _ _ _ _ _)
   | (with_reducible exact annuletlaw08_Large.mono _ _ _ _ _ _ _ _ _ _ _ _)
   | (with_reducible exact annuletlaw08_awake.mono _)
   | (with_reducible exact msg_Bare.mono _ _ _ _ _ _ _ _ _ _ _ _)
   | (with_reducible exact msg_Right.mono _ _ _ _ _ _ _ _ _ _ _ _)
   | (with_reducible exact msg_Same.mono _ _ _ _ _ _ _ _ _ _ _ _ _ _ _ _ _ _ _ _ _ _ _)
   | (with_reducible exact LeO.refl _)
   | (with_reducible exact LeO.none _)
   | (with_reducible refine LeO.ite ?_ ?_)
   | (with_reducible refine LeO.bind ?_ (fun _ => ?_))
   | exact ih0 _ _ _ _ _ _ _ _ _ _ _ _ _ _ _ _ _ _ _ _ _ _ _
   | exact annuletlaw08_Large.mono _ _ _ _ _ _ _ _ _ _ _ _
   | exact annuletlaw08_awake.mono _
   | exact msg_Bare.mono _ _ _ _ _ _ _ _ _ _ _ _
   | exact msg_Right.mono _ _ _ _ _ _ _ _ _ _ _ _
   | exact msg_Same.mono _ _ _ _ _ _ _ _ _ _ _ _ _ _ _ _ _ _ _ _ _ _ _
   | exact LeO.none _
   | refine LeO.ite ?_ ?_
   | refine LeO.bind ?_ (fun _ => ?_)
def annuletlaw08_MsgClean.T4 : Bool × List (List Nat × List Nat) := (true, [([], []), ([0], [0]), ([], []), ([1, 2, 1], [1, 2]), ([3], [3]), ([4, 3], [4]), ([5], [5]), ([6, 5, 5], [5, 6]), ([7, 5], [5, 7]), ([5, 8], [5, 8])])
def annuletlaw08_MsgClean.B4 : List Nat := [0, 1, 0, 7, 15, 31, 63, 127, 255, 511]
theorem annuletlaw08_MsgClean.tab4 : rtab .any (opsOf Tryd.f5 4) = annuletlaw08_MsgClean.T4 := by kernel_rfl
theorem annuletlaw08_MsgClean.bits4 : waitsOk annuletlaw08_MsgClean.T4.2 annuletlaw08_MsgClean.B4 = true := by kernel_rfl
set_option maxHeartbeats 3000000 in
set_option maxRecDepth 100000 in
theorem annuletlaw08_MsgClean.calls (k : Nat) (a0_0 : Int) (a0_1 : Int) (a0_2 : Int) (a0_3 : Bool) (a0_4 : Int) (a0_5 : ByteArray) (a0_6 : ByteArray) (a0_7 : Int) (a0_8 : Int) (A0_9 : Option Addr) (c0_9 : Nat) (l0_9 : List (S26)) (A0_10 : Option Addr) (c0_10 : Nat) (l0_10 : List (S45)) (r : Bool) (w : World) (hr0_9 : Kd.C k26 w A0_9 l0_9.length l0_9) (hc0_9 : l0_9.length ≤ c0_9) (hr0_10 : Kd.C k45 w A0_10 l0_10.length l0_10) (hc0_10 : l0_10.length ≤ c0_10) (ht : Lib.Utf8Tabs 0 1 w) (h : annuletlaw08_MsgClean.f k a0_0 a0_1 a0_2 a0_3 a0_4 a0_5 a0_6 a0_7 a0_8 l0_9 l0_10 = some r) :
  Calls Tryd.prog 5 #[.agg #[.int .i64 a0_0, .int .u32 a0_1, .int .u8 a0_2, .bool a0_3, .int .u64 a0_4, .string a0_5, .string a0_6, .int .u64 a0_7, .int .u16 a0_8, .slice A0_9 l0_9.length c0_9, .slice A0_10 l0_10.length c0_10]] w fun e w' => e = .returned (.bool r) ∧ Below w.heap.size w w' := by
 have hu30 := Tryd.underlying30
 have HR0_9 := Aside0.mk hr0_9
 have HC0_9 := Aside0.mk hc0_9
 clear hr0_9 hc0_9
 have HR0_10 := Aside0.mk hr0_10
 have HC0_10 := Aside0.mk hc0_10
 clear hr0_10 hc0_10
 have HB := Aside0.mk (Below.refl w.heap.size w)
 have HTB := Aside0.mk ht
 clear ht
 have H : ((annuletlaw08_Large.f k a0_0 a0_1 a0_2 a0_3 a0_4 a0_5 a0_6 a0_7 a0_8 l0_9 l0_10).bind fun t224 => (if t224 = true then ((annuletlaw08_awake.f k).bind fun t225 => (some t225)) else ((msg_Bare.f k a0_0 a0_1 a0_2 a0_3 a0_4 a0_5 a0_6 a0_7 a0_8 l0_9 l0_10).bind fun bt226 => ((msg_Bare.f k bt226.1 bt226.2.1 bt226.2.2.1 bt226.2.2.2.1 bt226.2.2.2.2.1 bt226.2.2.2.2.2.1 bt226.2.2.2.2.2.2.1 bt226.2.2.2.2.2.2.2.1 bt226.2.2.2.2.2.2.2.2.1 bt226.2.2.2.2.2.2.2.2.2.1 bt226.2.2.2.2.2.2.2.2.2.2).bind fun bt242 => ((msg_Same.f k bt242.1 bt242.2.1 bt242.2.2.1 bt242.2.2.2.1 bt242.2.2.2.2.1 bt242.2.2.2.2.2.1 bt242.2.2.2.2.2.2.1 bt242.2.2.2.2.2.2.2.1 bt242.2.2.2.2.2.2.2.2.1 bt242.2.2.2.2.2.2.2.2.2.1 bt242.2.2.2.2.2.2.2.2.2.2 bt226.1 bt226.2.1 bt226.2.2.1 bt226.2.2.2.1 bt226.2.2.2.2.1 bt226.2.2.2.2.2.1 bt226.2.2.2.2.2.2.1 bt226.2.2.2.2.2.2.2.1 bt226.2.2.2.2.2.2.2.2.1 bt226.2.2.2.2.2.2.2.2.2.1 bt226.2.2.2.2.2.2.2.2.2.2).bind fun t257 => (if t257 = true then ((msg_Right.f k bt226.1 bt226.2.1 bt226.2.2.1 bt226.2.2.2.1 bt226.2.2.2.2.1 bt226.2.2.2.2.2.1 bt226.2.2.2.2.2.2.1 bt226.2.2.2.2.2.2.2.1 bt226.2.2.2.2.2.2.2.2.1 bt226.2.2.2.2.2.2.2.2.2.1 bt226.2.2.2.2.2.2.2.2.2.2).bind fun t258 => (annuletlaw08_MsgClean.j0 k (t258 == 1) a0_0 a0_1 a0_2 a0_3 a0_4 a0_5 a0_6 a0_7 a0_8 l0_9 l0_10 bt226.1 bt226.2.1 bt226.2.2.1 bt226.2.2.2.1 bt226.2.2.2.2.1 bt226.2.2.2.2.2.1 bt226.2.2.2.2.2.2.1 bt226.2.2.2.2.2.2.2.1 bt226.2.2.2.2.2.2.2.2.1 bt226.2.2.2.2.2.2.2.2.2.1 bt226.2.2.2.2.2.2.2.2.2.2)) else (annuletlaw08_MsgClean.j0 k true a0_0 a0_1 a0_2 a0_3 a0_4 a0_5 a0_6 a0_7 a0_8 l0_9 l0_10 bt226.1 bt226.2.1 bt226.2.2.1 bt226.2.2.2.1 bt226.2.2.2.2.1 bt226.2.2.2.2.2.1 bt226.2.2.2.2.2.2.1 bt226.2.2.2.2.2.2.2.1 bt226.2.2.2.2.2.2.2.2.1 bt226.2.2.2.2.2.2.2.2.2.1 bt226.2.2.2.2.2.2.2.2.2.2))))))) = some r := h
 clear h
 replace H := Option.bind_eq_some_iff.mp H
 obtain ⟨t224, A20, H⟩ := H
 replace H : (if t224 = true then ((annuletlaw08_awake.f k).bind fun t225 => (some t225)) else ((msg_Bare.f k a0_0 a0_1 a0_2 a0_3 a0_4 a0_5 a0_6 a0_7 a0_8 l0_9 l0_10).bind fun bt226 => ((msg_Bare.f k bt226.1 bt226.2.1 bt226.2.2.1 bt226.2.2.2.1 bt226.2.2.2.2.1 bt226.2.2.2.2.2.1 bt226.2.2.2.2.2.2.1 bt226.2.2.2.2.2.2.2.1 bt226.2.2.2.2.2.2.2.2.1 bt226.2.2.2.2.2.2.2.2.2.1 bt226.2.2.2.2.2.2.2.2.2.2).bind fun bt242 => ((msg_Same.f k bt242.1 bt242.2.1 bt242.2.2.1 bt242.2.2.2.1 bt242.2.2.2.2.1 bt242.2.2.2.2.2.1 bt242.2.2.2.2.2.2.1 bt242.2.2.2.2.2.2.2.1 bt242.2.2.2.2.2.2.2.2.1 bt242.2.2.2.2.2.2.2.2.2.1 bt242.2.2.2.2.2.2.2.2.2.2 bt226.1 bt226.2.1 bt226.2.2.1 bt226.2.2.2.1 bt226.2.2.2.2.1 bt226.2.2.2.2.2.1 bt226.2.2.2.2.2.2.1 bt226.2.2.2.2.2.2.2.1 bt226.2.2.2.2.2.2.2.2.1 bt226.2.2.2.2.2.2.2.2.2.1 bt226.2.2.2.2.2.2.2.2.2.2).bind fun t257 => (if t257 = true then ((msg_Right.f k bt226.1 bt226.2.1 bt226.2.2.1 bt226.2.2.2.1 bt226.2.2.2.2.1 bt226.2.2.2.2.2.1 bt226.2.2.2.2.2.2.1 bt226.2.2.2.2.2.2.2.1 bt226.2.2.2.2.2.2.2.2.1 bt226.2.2.2.2.2.2.2.2.2.1 bt226.2.2.2.2.2.2.2.2.2.2).bind fun t258 => (annuletlaw08_MsgClean.j0 k (t258 == 1) a0_0 a0_1 a0_2 a0_3 a0_4 a0_5 a0_6 a0_7 a0_8 l0_9 l0_10 bt226.1 bt226.2.1 bt226.2.2.1 bt226.2.2.2.1 bt226.2.2.2.2.1 bt226.2.2.2.2.2.1 bt226.2.2.2.2.2.2.1 bt226.2.2.2.2.2.2.2.1 bt226.2.2.2.2.2.2.2.2.1 bt226.2.2.2.2.2.2.2.2.2.1 bt226.2.2.2.2.2.2.2.2.2.2)) else (annuletlaw08_MsgClean.j0 k true a0_0 a0_1 a0_2 a0_3 a0_4 a0_5 a0_6 a0_7 a0_8 l0_9 l0_10 bt226.1 bt226.2.1 bt226.2.2.1 bt226.2.2.2.1 bt226.2.2.2.2.1 bt226.2.2.2.2.2.1 bt226.2.2.2.2.2.2.1 bt226.2.2.2.2.2.2.2.1 bt226.2.2.2.2.2.2.2.2.1 bt226.2.2.2.2.2.2.2.2.2.1 bt226.2.2.2.2.2.2.2.2.2.2)))))) = some r := H
 have A2 := Aside0.mk A20
 clear A20
 by_cases c3 : t224 = true
 ·subst c3
  have H1 : ((annuletlaw08_awake.f k).bind fun t225 => (some t225)) = some r := by rw [if_pos rfl] at H; exact H
  clear H
  have H := H1
  clear H1
  replace H := Option.bind_eq_some_iff.mp H
  obtain ⟨t225, A40, H⟩ := H
  replace H : (some t225) = some r := H
  have A4 := Aside0.mk A40
  clear A40
  obtain rfl := Option.some.inj H
  go_enter Tryd.func5, Tryd.ntmps5
  go_wp2_with (first | ((with_reducible refine gate_dst (N := 1) rfl ?_); refine box_event ?hg (N := 1) ?hd (cs := #[.int .i64 a0_0, .int .u32 a0_1, .int .u8 a0_2, .bool a0_3, .int .u64 a0_4, .string a0_5, .string a0_6, .int .u64 a0_7, .int .u16 a0_8, .slice A0_9 l0_9.length c0_9, .slice A0_10 l0_10.length c0_10]) (t := 30) ?hr ?_; (case hd => rfl); (case hg => rfl); (case hr => first | (go_simp; done) | (go_simp; rfl)); intro gb223 hg w5 hbox hb; have n0_ := Aside0.mk (below_step (by repeat (first | (with_reducible first | exact HB.out | apply below_alloc | apply pw_below_drewN | apply below_drew1) | exact HB.out)) hb); have n1_ := Aside0.mk (hbox); have n2_ := Aside0.mk ((by rw [hg]; exact (below_size (by repeat (first | (with_reducible first | exact HB.out | apply below_alloc | apply pw_below_drewN | apply below_drew1) | exact HB.out))) : w.heap.size ≤ gb223)); have n3_ := Aside0.mk ((by rw [hg]; exact (below_size (by repeat (first | (with_reducible first | exact HB.out | apply below_alloc | apply pw_below_drewN | apply below_drew1) | exact HB.out))) : w.heap.size ≤ gb223)); clear HB; have HB := n0_; have BK223 := n1_; have GW223 := n2_; have GE223 := n3_; clear n0_ n1_ n2_ n3_; clear hb hbox hg; have hcz6_0 : w5.cell? ⟨gb223, 0, none⟩ = some (.int .i64 a0_0) := (blk_cell BK223.out 0).trans rfl; have hcz6_1 : w5.cell? ⟨gb223, 1, none⟩ = some (.int .u32 a0_1) := (blk_cell BK223.out 1).trans rfl; have hcz6_2 : w5.cell? ⟨gb223, 2, none⟩ = some (.int .u8 a0_2) := (blk_cell BK223.out 2).trans rfl; have hcz6_3 : w5.cell? ⟨gb223, 3, none⟩ = some (.bool a0_3) := (blk_cell BK223.out 3).trans rfl; have hcz6_4 : w5.cell? ⟨gb223, 4, none⟩ = some (.int .u64 a0_4) := (blk_cell BK223.out 4).trans rfl; have hcz6_5 : w5.cell? ⟨gb223, 5, none⟩ = some (.string a0_5) := (blk_cell BK223.out 5).trans rfl; have hcz6_6 : w5.cell? ⟨gb223, 6, none⟩ = some (.string a0_6) := (blk_cell BK223.out 6).trans rfl; have hcz6_7 : w5.cell? ⟨gb223, 7, none⟩ = some (.int .u64 a0_7) := (blk_cell BK223.out 7).trans rfl; have hcz6_8 : w5.cell? ⟨gb223, 8, none⟩ = some (.int .u16 a0_8) := (blk_cell BK223.out 8).trans rfl; have hcz6_9 : w5.cell? ⟨gb223, 9, none⟩ = some (.slice A0_9 l0_9.length c0_9) := (blk_cell BK223.out 9).trans rfl; have hcz6_10 : w5.cell? ⟨gb223, 10, none⟩ = some (.slice A0_10 l0_10.length c0_10) := (blk_cell BK223.out 10).trans rfl; have hfz6_0 := blk_frozen BK223.out 0; have hfz6_1 := blk_frozen BK223.out 1; have hfz6_2 := blk_frozen BK223.out 2; have hfz6_3 := blk_frozen BK223.out 3; have hfz6_4 := blk_frozen BK223.out 4; have hfz6_5 := blk_frozen BK223.out 5; have hfz6_6 := blk_frozen BK223.out 6; have hfz6_7 := blk_frozen BK223.out 7; have hfz6_8 := blk_frozen BK223.out 8; have hfz6_9 := blk_frozen BK223.out 9; have hfz6_10 := blk_frozen BK223.out 10) | ((with_reducible refine gate_callee (f := 7) rfl ?_); refine goesL_ (some 5) rfl rfl Tryd.func7 (by kernel_rfl) rfl #[.agg #[.int .i64 a0_0, .int .u32 a0_1, .int .u8 a0_2, .bool a0_3, .int .u64 a0_4, .string a0_5, .string a0_6, .int .u64 a0_7, .int .u16 a0_8, .slice A0_9 l0_9.length c0_9, .slice A0_10 l0_10.length c0_10]] rfl (by (try simp only [List.map_toArray, List.map_cons, List.map_nil]); first | done | rfl | (simp only [List.length_drop, List.length_take]; rfl)) ?_; (with_reducible refine (annuletlaw08_Large.calls k a0_0 a0_1 a0_2 a0_3 a0_4 a0_5 a0_6 a0_7 a0_8 _ _ l0_9 _ _ l0_10 true _ ?side1 ?side2 ?side3 ?side4 A2.out).mono ?_); (case side1 => repeat (first | exact (Kd.C_below HR0_9.out HB.out) | (with_reducible refine Kd.C_alloc ?_ _) | (with_reducible refine Kd.C_drewN ?_ _) | (with_reducible refine Kd.C_drew ?_))); (case side2 => exact HC0_9.out); (case side3 => repeat (first | exact (Kd.C_below HR0_10.out HB.out) | (with_reducible refine Kd.C_alloc ?_ _) | (with_reducible refine Kd.C_drewN ?_ _) | (with_reducible refine Kd.C_drew ?_))); (case side4 => exact HC0_10.out); rintro e w7 ⟨rfl, hb⟩; refine ⟨_, rfl, ?_⟩; have n0_ := Aside0.mk (blk_below (g := gb223) (o := .cells #[.int .i64 a0_0, .int .u32 a0_1, .int .u8 a0_2, .bool a0_3, .int .u64 a0_4, .string a0_5, .string a0_6, .int .u64 a0_7, .int .u16 a0_8, .slice A0_9 l0_9.length c0_9, .slice A0_10 l0_10.length c0_10] 30 (0, 0)) (by (with_reducible repeat (first | refine blk_drewN ?_ _ | refine blk_drew ?_ | refine blk_alloc ?_ _)); exact BK223.out) hb); have n1_ := Aside0.mk (below_step (by repeat (first | (with_reducible first | exact HB.out | apply below_alloc | apply pw_below_drewN | apply below_drew1 | refine below_set ?_ GE223.out) | exact HB.out)) hb); clear BK223; clear HB; have BK223 := n0_; have HB := n1_; clear n0_ n1_; (try clear hb); (try clear hb2); (try clear hk); (try clear hi)) | ((with_reducible refine gate_callee (f := 8) rfl ?_); refine goesL_ (some 6) rfl rfl Tryd.func8 (by kernel_rfl) rfl #[] rfl (by (try simp only [List.map_toArray, List.map_cons, List.map_nil]); first | done | rfl | (simp only [List.length_drop, List.length_take]; rfl)) ?_; (with_reducible refine (annuletlaw08_awake.calls k  t225 _ ?side1 A4.out).mono ?_); (case side1 => refine tabs_later HTB.out ?_; repeat (first | (with_reducible first | exact HB.out | apply below_alloc | apply pw_below_drewN | apply below_drew1 | refine below_set ?_ GE223.out) | exact HB.out)); rintro e w8 ⟨rfl, hb⟩; refine ⟨_, rfl, ?_⟩; have n0_ := Aside0.mk (blk_below (g := gb223) (o := .cells #[.int .i64 a0_0, .int .u32 a0_1, .int .u8 a0_2, .bool a0_3, .int .u64 a0_4, .string a0_5, .string a0_6, .int .u64 a0_7, .int .u16 a0_8, .slice A0_9 l0_9.length c0_9, .slice A0_10 l0_10.length c0_10] 30 (0, 0)) (by (with_reducible repeat (first | refine blk_drewN ?_ _ | refine blk_drew ?_ | refine blk_alloc ?_ _)); exact BK223.out) hb); have n1_ := Aside0.mk (below_step (by repeat (first | (with_reducible first | exact HB.out | apply below_alloc | apply pw_below_drewN | apply below_drew1 | refine below_set ?_ GE223.out) | exact HB.out)) hb); clear BK223; clear HB; have BK223 := n0_; have HB := n1_; clear n0_ n1_; (try clear hb); (try clear hb2); (try clear hk); (try clear hi)))
  all_goals go_ret
  all_goals first | (exact ⟨by first | rfl | (simp [errW_none, errW_some] <;> rfl) | (simp [*, errW_none, errW_some] <;> rfl), by repeat (first | (with_reducible first | exact HB.out | apply below_alloc | apply pw_below_drewN | apply below_drew1 | refine below_set ?_ GE223.out) | exact HB.out)⟩) | (exfalso; simp_all; done)
 ·replace c3 := Bool.eq_false_iff.mpr c3
  subst c3
  have H1 : ((msg_Bare.f k a0_0 a0_1 a0_2 a0_3 a0_4 a0_5 a0_6 a0_7 a0_8 l0_9 l0_10).bind fun bt226 => ((msg_Bare.f k bt226.1 bt226.2.1 bt226.2.2.1 bt226.2.2.2.1 bt226.2.2.2.2.1 bt226.2.2.2.2.2.1 bt226.2.2.2.2.2.2.1 bt226.2.2.2.2.2.2.2.1 bt226.2.2.2.2.2.2.2.2.1 bt226.2.2.2.2.2.2.2.2.2.1 bt226.2.2.2.2.2.2.2.2.2.2).bind fun bt242 => ((msg_Same.f k bt242.1 bt242.2.1 bt242.2.2.1 bt242.2.2.2.1 bt242.2.2.2.2.1 bt242.2.2.2.2.2.1 bt242.2.2.2.2.2.2.1 bt242.2.2.2.2.2.2.2.1 bt242.2.2.2.2.2.2.2.2.1 bt242.2.2.2.2.2.2.2.2.2.1 bt242.2.2.2.2.2.2.2.2.2.2 bt226.1 bt226.2.1 bt226.2.2.1 bt226.2.2.2.1 bt226.2.2.2.2.1 bt226.2.2.2.2.2.1 bt226.2.2.2.2.2.2.1 bt226.2.2.2.2.2.2.2.1 bt226.2.2.2.2.2.2.2.2.1 bt226.2.2.2.2.2.2.2.2.2.1 bt226.2.2.2.2.2.2.2.2.2.2).bind fun t257 => (if t257 = true then ((msg_Right.f k bt226.1 bt226.2.1 bt226.2.2.1 bt226.2.2.2.1 bt226.2.2.2.2.1 bt226.2.2.2.2.2.1 bt226.2.2.2.2.2.2.1 bt226.2.2.2.2.2.2.2.1 bt226.2.2.2.2.2.2.2.2.1 bt226.2.2.2.2.2.2.2.2.2.1 bt226.2.2.2.2.2.2.2.2.2.2).bind fun t258 => (annuletlaw08_MsgClean.j0 k (t258 == 1) a0_0 a0_1 a0_2 a0_3 a0_4 a0_5 a0_6 a0_7 a0_8 l0_9 l0_10 bt226.1 bt226.2.1 bt226.2.2.1 bt226.2.2.2.1 bt226.2.2.2.2.1 bt226.2.2.2.2.2.1 bt226.2.2.2.2.2.2.1 bt226.2.2.2.2.2.2.2.1 bt226.2.2.2.2.2.2.2.2.1 bt226.2.2.2.2.2.2.2.2.2.1 bt226.2.2.2.2.2.2.2.2.2.2)) else (annuletlaw08_MsgClean.j0 k true a0_0 a0_1 a0_2 a0_3 a0_4 a0_5 a0_6 a0_7 a0_8 l0_9 l0_10 bt226.1 bt226.2.1 bt226.2.2.1 bt226.2.2.2.1 bt226.2.2.2.2.1 bt226.2.2.2.2.2.1 bt226.2.2.2.2.2.2.1 bt226.2.2.2.2.2.2.2.1 bt226.2.2.2.2.2.2.2.2.1 bt226.2.2.2.2.2.2.2.2.2.1 bt226.2.2.2.2.2.2.2.2.2.2))))) = some r := by rw [if_neg (show ¬ (false = true) by decide)] at H; exact H
  clear H
  have H := H1
  clear H1
  replace H := Option.bind_eq_some_iff.mp H
  obtain ⟨⟨t226, t227, t228, t229, t230, t231, t232, t233, t234, t235, t238⟩, A90, H⟩ := H
  replace H : ((msg_Bare.f k t226 t227 t228 t229 t230 t231 t232 t233 t234 t235 t238).bind fun bt242 => ((msg_Same.f k bt242.1 bt242.2.1 bt242.2.2.1 bt242.2.2.2.1 bt242.2.2.2.2.1 bt242.2.2.2.2.2.1 bt242.2.2.2.2.2.2.1 bt242.2.2.2.2.2.2.2.1 bt242.2.2.2.2.2.2.2.2.1 bt242.2.2.2.2.2.2.2.2.2.1 bt242.2.2.2.2.2.2.2.2.2.2 t226 t227 t228 t229 t230 t231 t232 t233 t234 t235 t238).bind fun t257 => (if t257 = true then ((msg_Right.f k t226 t227 t228 t229 t230 t231 t232 t233 t234 t235 t238).bind fun t258 => (annuletlaw08_MsgClean.j0 k (t258 == 1) a0_0 a0_1 a0_2 a0_3 a0_4 a0_5 a0_6 a0_7 a0_8 l0_9 l0_10 t226 t227 t228 t229 t230 t231 t232 t233 t234 t235 t238)) else (annuletlaw08_MsgClean.j0 k true a0_0 a0_1 a0_2 a0_3 a0_4 a0_5 a0_6 a0_7 a0_8 l0_9 l0_10 t226 t227 t228 t229 t230 t231 t232 t233 t234 t235 t238)))) = some r := H
  have A9 := Aside0.mk A90
  clear A90
  have HC10 := Aside0.mk H
  clear H
  go_enter Tryd.func5, Tryd.ntmps5
  go_upto_region 4 with (first | ((with_reducible refine gate_dst (N := 1) rfl ?_); refine box_event ?hg (N := 1) ?hd (cs := #[.int .i64 a0_0, .int .u32 a0_1, .int .u8 a0_2, .bool a0_3, .int .u64 a0_4, .string a0_5, .string a0_6, .int .u64 a0_7, .int .u16 a0_8, .slice A0_9 l0_9.length c0_9, .slice A0_10 l0_10.length c0_10]) (t := 30) ?hr ?_; (case hd => rfl); (case hg => rfl); (case hr => first | (go_simp; done) | (go_simp; rfl)); intro gb223 hg w11 hbox hb; have n0_ := Aside0.mk (below_step (by repeat (first | (with_reducible first | exact HB.out | apply below_alloc | apply pw_below_drewN | apply below_drew1) | exact HB.out)) hb); have n1_ := Aside0.mk (hbox); have n2_ := Aside0.mk ((by rw [hg]; exact (below_size (by repeat (first | (with_reducible first | exact HB.out | apply below_alloc | apply pw_below_drewN | apply below_drew1) | exact HB.out))) : w.heap.size ≤ gb223)); have n3_ := Aside0.mk ((by rw [hg]; exact (below_size (by repeat (first | (with_reducible first | exact HB.out | apply below_alloc | apply pw_below_drewN | apply below_drew1) | exact HB.out))) : w.heap.size ≤ gb223)); clear HB; have HB := n0_; have BK223 := n1_; have GW223 := n2_; have GE223 := n3_; clear n0_ n1_ n2_ n3_; clear hb hbox hg; have hcz12_0 : w11.cell? ⟨gb223, 0, none⟩ = some (.int .i64 a0_0) := (blk_cell BK223.out 0).trans rfl; have hcz12_1 : w11.cell? ⟨gb223, 1, none⟩ = some (.int .u32 a0_1) := (blk_cell BK223.out 1).trans rfl; have hcz12_2 : w11.cell? ⟨gb223, 2, none⟩ = some (.int .u8 a0_2) := (blk_cell BK223.out 2).trans rfl; have hcz12_3 : w11.cell? ⟨gb223, 3, none⟩ = some (.bool a0_3) := (blk_cell BK223.out 3).trans rfl; have hcz12_4 : w11.cell? ⟨gb223, 4, none⟩ = some (.int .u64 a0_4) := (blk_cell BK223.out 4).trans rfl; have hcz12_5 : w11.cell? ⟨gb223, 5, none⟩ = some (.string a0_5) := (blk_cell BK223.out 5).trans rfl; have hcz12_6 : w11.cell? ⟨gb223, 6, none⟩ = some (.string a0_6) := (blk_cell BK223.out 6).trans rfl; have hcz12_7 : w11.cell? ⟨gb223, 7, none⟩ = some (.int .u64 a0_7) := (blk_cell BK223.out 7).trans rfl; have hcz12_8 : w11.cell? ⟨gb223, 8, none⟩ = some (.int .u16 a0_8) := (blk_cell BK223.out 8).trans rfl; have hcz12_9 : w11.cell? ⟨gb223, 9, none⟩ = some (.slice A0_9 l0_9.length c0_9) := (blk_cell BK223.out 9).trans rfl; have hcz12_10 : w11.cell? ⟨gb223, 10, none⟩ = some (.slice A0_10 l0_10.length c0_10) := (blk_cell BK223.out 10).trans rfl; have hfz12_0 := blk_frozen BK223.out 0; have hfz12_1 := blk_frozen BK223.out 1; have hfz12_2 := blk_frozen BK223.out 2; have hfz12_3 := blk_frozen BK223.out 3; have hfz12_4 := blk_frozen BK223.out 4; have hfz12_5 := blk_frozen BK223.out 5; have hfz12_6 := blk_frozen BK223.out 6; have hfz12_7 := blk_frozen BK223.out 7; have hfz12_8 := blk_frozen BK223.out 8; have hfz12_9 := blk_frozen BK223.out 9; have hfz12_10 := blk_frozen BK223.out 10) | ((with_reducible refine gate_callee (f := 7) rfl ?_); refine goesL_ (some 5) rfl rfl Tryd.func7 (by kernel_rfl) rfl #[.agg #[.int .i64 a0_0, .int .u32 a0_1, .int .u8 a0_2, .bool a0_3, .int .u64 a0_4, .string a0_5, .string a0_6, .int .u64 a0_7, .int .u16 a0_8, .slice A0_9 l0_9.length c0_9, .slice A0_10 l0_10.length c0_10]] rfl (by (try simp only [List.map_toArray, List.map_cons, List.map_nil]); first | done | rfl | (simp only [List.length_drop, List.length_take]; rfl)) ?_; (with_reducible refine (annuletlaw08_Large.calls k a0_0 a0_1 a0_2 a0_3 a0_4 a0_5 a0_6 a0_7 a0_8 _ _ l0_9 _ _ l0_10 false _ ?side1 ?side2 ?side3 ?side4 A2.out).mono ?_); (case side1 => repeat (first | exact (Kd.C_below HR0_9.out HB.out) | (with_reducible refine Kd.C_alloc ?_ _) | (with_reducible refine Kd.C_drewN ?_ _) | (with_reducible refine Kd.C_drew ?_))); (case side2 => exact HC0_9.out); (case side3 => repeat (first | exact (Kd.C_below HR0_10.out HB.out) | (with_reducible refine Kd.C_alloc ?_ _) | (with_reducible refine Kd.C_drewN ?_ _) | (with_reducible refine Kd.C_drew ?_))); (case side4 => exact HC0_10.out); rintro e w13 ⟨rfl, hb⟩; refine ⟨_, rfl, ?_⟩; have n0_ := Aside0.mk (blk_below (g := gb223) (o := .cells #[.int .i64 a0_0, .int .u32 a0_1, .int .u8 a0_2, .bool a0_3, .int .u64 a0_4, .string a0_5, .string a0_6, .int .u64 a0_7, .int .u16 a0_8, .slice A0_9 l0_9.length c0_9, .slice A0_10 l0_10.length c0_10] 30 (0, 0)) (by (with_reducible repeat (first | refine blk_drewN ?_ _ | refine blk_drew ?_ | refine blk_alloc ?_ _)); exact BK223.out) hb); have n1_ := Aside0.mk (below_step (by repeat (first | (with_reducible first | exact HB.out | apply below_alloc | apply pw_below_drewN | apply below_drew1 | refine below_set ?_ GE223.out) | exact HB.out)) hb); clear BK223; clear HB; have BK223 := n0_; have HB := n1_; clear n0_ n1_; (try clear hb); (try clear hb2); (try clear hk); (try clear hi); have hcz14_0 : w13.cell? ⟨gb223, 0, none⟩ = some (.int .i64 a0_0) := (blk_cell BK223.out 0).trans rfl; have hcz14_1 : w13.cell? ⟨gb223, 1, none⟩ = some (.int .u32 a0_1) := (blk_cell BK223.out 1).trans rfl; have hcz14_2 : w13.cell? ⟨gb223, 2, none⟩ = some (.int .u8 a0_2) := (blk_cell BK223.out 2).trans rfl; have hcz14_3 : w13.cell? ⟨gb223, 3, none⟩ = some (.bool a0_3) := (blk_cell BK223.out 3).trans rfl; have hcz14_4 : w13.cell? ⟨gb223, 4, none⟩ = some (.int .u64 a0_4) := (blk_cell BK223.out 4).trans rfl; have hcz14_5 : w13.cell? ⟨gb223, 5, none⟩ = some (.string a0_5) := (blk_cell BK223.out 5).trans rfl; have hcz14_6 : w13.cell? ⟨gb223, 6, none⟩ = some (.string a0_6) := (blk_cell BK223.out 6).trans rfl; have hcz14_7 : w13.cell? ⟨gb223, 7, none⟩ = some (.int .u64 a0_7) := (blk_cell BK223.out 7).trans rfl; have hcz14_8 : w13.cell? ⟨gb223, 8, none⟩ = some (.int .u16 a0_8) := (blk_cell BK223.out 8).trans rfl; have hcz14_9 : w13.cell? ⟨gb223, 9, none⟩ = some (.slice A0_9 l0_9.length c0_9) := (blk_cell BK223.out 9).trans rfl; have hcz14_10 : w13.cell? ⟨gb223, 10, none⟩ = some (.slice A0_10 l0_10.length c0_10) := (blk_cell BK223.out 10).trans rfl; have hfz14_0 := blk_frozen BK223.out 0; have hfz14_1 := blk_frozen BK223.out 1; have hfz14_2 := blk_frozen BK223.out 2; have hfz14_3 := blk_frozen BK223.out 3; have hfz14_4 := blk_frozen BK223.out 4; have hfz14_5 := blk_frozen BK223.out 5; have hfz14_6 := blk_frozen BK223.out 6; have hfz14_7 := blk_frozen BK223.out 7; have hfz14_8 := blk_frozen BK223.out 8; have hfz14_9 := blk_frozen BK223.out 9; have hfz14_10 := blk_frozen BK223.out 10) | ((with_reducible refine gate_callee (f := 21) rfl ?_); refine goesL_ (some 8) rfl rfl Tryd.func21 (by kernel_rfl) rfl #[.agg #[.int .i64 a0_0, .int .u32 a0_1, .int .u8 a0_2, .bool a0_3, .int .u64 a0_4, .string a0_5, .string a0_6, .int .u64 a0_7, .int .u16 a0_8, .slice A0_9 l0_9.length c0_9, .slice A0_10 l0_10.length c0_10]] rfl (by (try simp only [List.map_toArray, List.map_cons, List.map_nil]); first | done | rfl | (simp only [List.length_drop, List.length_take]; rfl)) ?_; (with_reducible refine (msg_Bare.calls k a0_0 a0_1 a0_2 a0_3 a0_4 a0_5 a0_6 a0_7 a0_8 _ _ l0_9 _ _ l0_10 t226 t227 t228 t229 t230 t231 t232 t233 t234 t235 t238 _ ?side1 ?side2 ?side3 ?side4 A9.out).mono ?_); (case side1 => repeat (first | exact (Kd.C_below HR0_9.out HB.out) | (with_reducible refine Kd.C_alloc ?_ _) | (with_reducible refine Kd.C_drewN ?_ _) | (with_reducible refine Kd.C_drew ?_))); (case side2 => exact HC0_9.out); (case side3 => repeat (first | exact (Kd.C_below HR0_10.out HB.out) | (with_reducible refine Kd.C_alloc ?_ _) | (with_reducible refine Kd.C_drewN ?_ _) | (with_reducible refine Kd.C_drew ?_))); (case side4 => exact HC0_10.out); rintro e w15 ⟨v236, v239, rfl, ho0, ho1, hb⟩; refine ⟨_, rfl, ?_⟩; have n0_ := Aside0.mk (Kd.R_lower ho0 (below_size (by repeat (first | (with_reducible first | exact HB.out | apply below_alloc | apply pw_below_drewN | apply below_drew1 | refine below_set ?_ GE223.out) | exact HB.out)))); have n1_ := Aside0.mk (Kd.R_lower ho1 (below_size (by repeat (first | (with_reducible first | exact HB.out | apply below_alloc | apply pw_below_drewN | apply below_drew1 | refine below_set ?_ GE223.out) | exact HB.out)))); have n2_ := Aside0.mk (blk_below (g := gb223) (o := .cells #[.int .i64 a0_0, .int .u32 a0_1, .int .u8 a0_2, .bool a0_3, .int .u64 a0_4, .string a0_5, .string a0_6, .int .u64 a0_7, .int .u16 a0_8, .slice A0_9 l0_9.length c0_9, .slice A0_10 l0_10.length c0_10] 30 (0, 0)) (by (with_reducible repeat (first | refine blk_drewN ?_ _ | refine blk_drew ?_ | refine blk_alloc ?_ _)); exact BK223.out) hb); have n3_ := Aside0.mk (below_step (by repeat (first | (with_reducible first | exact HB.out | apply below_alloc | apply pw_below_drewN | apply below_drew1 | refine below_set ?_ GE223.out) | exact HB.out)) hb); clear BK223; clear HB; have HO237 := n0_; have HO240 := n1_; have BK223 := n2_; have HB := n3_; clear n0_ n1_ n2_ n3_; (try clear hb); (try clear hb2); (try clear hk); (try clear hi); (try clear ho0); (try clear ho1)) | ((with_reducible refine gate_dst (N := 3) rfl ?_); refine box_event ?hg (N := 3) ?hd (cs := #[.int .i64 0, .int .u32 0, .int .u8 0, .bool false, .int .u64 0, .string (⟨#[]⟩ : ByteArray), .string (⟨#[]⟩ : ByteArray), .int .u64 0, .int .u16 0, .slice none 0 0, .slice none 0 0]) (t := 30) ?hr ?_; (case hd => rfl); (case hg => rfl); (case hr => first | (go_simp; done) | (go_simp; rfl)); intro gb241 hg w16 hbox hb; have n0_ := Aside0.mk (Kd.R_below (by (with_reducible repeat (first | apply Kd.R_alloc | apply Kd.R_drewN | apply Kd.R_drew)); exact HO237.out) hb); have n1_ := Aside0.mk (Kd.R_below (by (with_reducible repeat (first | apply Kd.R_alloc | apply Kd.R_drewN | apply Kd.R_drew)); exact HO240.out) hb); have n2_ := Aside0.mk (blk_below (g := gb223) (o := .cells #[.int .i64 a0_0, .int .u32 a0_1, .int .u8 a0_2, .bool a0_3, .int .u64 a0_4, .string a0_5, .string a0_6, .int .u64 a0_7, .int .u16 a0_8, .slice A0_9 l0_9.length c0_9, .slice A0_10 l0_10.length c0_10] 30 (0, 0)) (by (with_reducible repeat (first | refine blk_drewN ?_ _ | refine blk_drew ?_ | refine blk_alloc ?_ _)); exact BK223.out) hb); have n3_ := Aside0.mk (below_step (by repeat (first | (with_reducible first | exact HB.out | apply below_alloc | apply pw_below_drewN | apply below_drew1 | refine below_set ?_ GE223.out) | exact HB.out)) hb); have n4_ := Aside0.mk (hbox); have n5_ := Aside0.mk ((by rw [hg]; exact (below_size (by repeat (first | (with_reducible first | exact HB.out | apply below_alloc | apply pw_below_drewN | apply below_drew1 | refine below_set ?_ GE223.out) | exact HB.out))) : w.heap.size ≤ gb241)); have n6_ := Aside0.mk ((by rw [hg]; exact (below_size (by repeat (first | (with_reducible first | exact HB.out | apply below_alloc | apply pw_below_drewN | apply below_drew1 | refine below_set ?_ GE223.out) | exact HB.out))) : w.heap.size ≤ gb241)); have n7_ := Aside0.mk ((by rw [hg]; exact Nat.ne_of_lt (blk_lt (g := gb223) (o := .cells #[.int .i64 a0_0, .int .u32 a0_1, .int .u8 a0_2, .bool a0_3, .int .u64 a0_4, .string a0_5, .string a0_6, .int .u64 a0_7, .int .u16 a0_8, .slice A0_9 l0_9.length c0_9, .slice A0_10 l0_10.length c0_10] 30 (0, 0)) (by (with_reducible repeat (first | refine blk_drewN ?_ _ | refine blk_drew ?_ | refine blk_alloc ?_ _)); exact BK223.out)) : gb223 ≠ gb241)); have n8_ := Aside0.mk ((by rw [hg]; exact Nat.ne_of_gt (blk_lt (g := gb223) (o := .cells #[.int .i64 a0_0, .int .u32 a0_1, .int .u8 a0_2, .bool a0_3, .int .u64 a0_4, .string a0_5, .string a0_6, .int .u64 a0_7, .int .u16 a0_8, .slice A0_9 l0_9.length c0_9, .slice A0_10 l0_10.length c0_10] 30 (0, 0)) (by (with_reducible repeat (first | refine blk_drewN ?_ _ | refine blk_drew ?_ | refine blk_alloc ?_ _)); exact BK223.out)) : gb241 ≠ gb223)); clear HO237; clear HO240; clear BK223; clear HB; have HO237 := n0_; have HO240 := n1_; have BK223 := n2_; have HB := n3_; have BK241 := n4_; have GW241 := n5_; have GE241 := n6_; have NB223_241 := n7_; have NB241_223 := n8_; clear n0_ n1_ n2_ n3_ n4_ n5_ n6_ n7_ n8_; clear hb hbox hg; have hnb17 := NB241_223.out; have hnc17 := NB223_241.out; have hcz18_0 : w16.cell? ⟨gb241, 0, none⟩ = some (.int .i64 0) := (blk_cell BK241.out 0).trans rfl; have hcz18_1 : w16.cell? ⟨gb241, 1, none⟩ = some (.int .u32 0) := (blk_cell BK241.out 1).trans rfl; have hcz18_2 : w16.cell? ⟨gb241, 2, none⟩ = some (.int .u8 0) := (blk_cell BK241.out 2).trans rfl; have hcz18_3 : w16.cell? ⟨gb241, 3, none⟩ = some (.bool false) := (blk_cell BK241.out 3).trans rfl; have hcz18_4 : w16.cell? ⟨gb241, 4, none⟩ = some (.int .u64 0) := (blk_cell BK241.out 4).trans rfl; have hcz18_5 : w16.cell? ⟨gb241, 5, none⟩ = some (.string (⟨#[]⟩ : ByteArray)) := (blk_cell BK241.out 5).trans rfl; have hcz18_6 : w16.cell? ⟨gb241, 6, none⟩ = some (.string (⟨#[]⟩ : ByteArray)) := (blk_cell BK241.out 6).trans rfl; have hcz18_7 : w16.cell? ⟨gb241, 7, none⟩ = some (.int .u64 0) := (blk_cell BK241.out 7).trans rfl; have hcz18_8 : w16.cell? ⟨gb241, 8, none⟩ = some (.int .u16 0) := (blk_cell BK241.out 8).trans rfl; have hcz18_9 : w16.cell? ⟨gb241, 9, none⟩ = some (.slice none 0 0) := (blk_cell BK241.out 9).trans rfl; have hcz18_10 : w16.cell? ⟨gb241, 10, none⟩ = some (.slice none 0 0) := (blk_cell BK241.out 10).trans rfl; have hfz18_0 := blk_frozen BK241.out 0; have hfz18_1 := blk_frozen BK241.out 1; have hfz18_2 := blk_frozen BK241.out 2; have hfz18_3 := blk_frozen BK241.out 3; have hfz18_4 := blk_frozen BK241.out 4; have hfz18_5 := blk_frozen BK241.out 5; have hfz18_6 := blk_frozen BK241.out 6; have hfz18_7 := blk_frozen BK241.out 7; have hfz18_8 := blk_frozen BK241.out 8; have hfz18_9 := blk_frozen BK241.out 9; have hfz18_10 := blk_frozen BK241.out 10; obtain ⟨Ao19, co19, eo19⟩ := Kd.R_slice HO237.out; subst eo19; obtain ⟨Ao20, co20, eo20⟩ := Kd.R_slice HO240.out; subst eo20))
  (try simp only [Act.put, List.setIfInBounds_toArray, List.set_cons_zero, List.set_cons_succ])
  go_cut [18] (fun v18 wc => ∃ (kq : Nat) (x18_9 : Bool), v18 = .bool x18_9 ∧ Aside0 (annuletlaw08_MsgClean.j0 kq x18_9 a0_0 a0_1 a0_2 a0_3 a0_4 a0_5 a0_6 a0_7 a0_8 l0_9 l0_10 t226 t227 t228 t229 t230 t231 t232 t233 t234 t235 t238 = some r) ∧ Aside0 (kq ≤ k) ∧ Aside0 (Kd.R k26 26 wc w.heap.size (fun _ => True) (.slice Ao19 t235.length co19) t235) ∧ Aside0 (Kd.R k45 45 wc w.heap.size (fun _ => True) (.slice Ao20 t238.length co20) t238) ∧ Aside0 (wc.heap[gb223]? = some (.cells #[.int .i64 a0_0, .int .u32 a0_1, .int .u8 a0_2, .bool a0_3, .int .u64 a0_4, .string a0_5, .string a0_6, .int .u64 a0_7, .int .u16 a0_8, (.slice A0_9 l0_9.length c0_9), (.slice A0_10 l0_10.length c0_10)] 30 (0, 0))) ∧ Aside0 (wc.heap[gb241]? = some (.cells #[.int .i64 t226, .int .u32 t227, .int .u8 t228, .bool t229, .int .u64 t230, .string t231, .string t232, .int .u64 t233, .int .u16 t234, (.slice Ao19 t235.length co19), (.slice Ao20 t238.length co20)] 30 (0, 0))) ∧ Aside0 (Below w.heap.size w wc))
  case first =>
   have H := HC10.out
   clear HC10
   replace H := Option.bind_eq_some_iff.mp H
   obtain ⟨⟨t242, t243, t244, t245, t246, t247, t248, t249, t250, t251, t254⟩, A210, H⟩ := H
   replace H : ((msg_Same.f k t242 t243 t244 t245 t246 t247 t248 t249 t250 t251 t254 t226 t227 t228 t229 t230 t231 t232 t233 t234 t235 t238).bind fun t257 => (if t257 = true then ((msg_Right.f k t226 t227 t228 t229 t230 t231 t232 t233 t234 t235 t238).bind fun t258 => (annuletlaw08_MsgClean.j0 k (t258 == 1) a0_0 a0_1 a0_2 a0_3 a0_4 a0_5 a0_6 a0_7 a0_8 l0_9 l0_10 t226 t227 t228 t229 t230 t231 t232 t233 t234 t235 t238)) else (annuletlaw08_MsgClean.j0 k true a0_0 a0_1 a0_2 a0_3 a0_4 a0_5 a0_6 a0_7 a0_8 l0_9 l0_10 t226 t227 t228 t229 t230 t231 t232 t233 t234 t235 t238))) = some r := H
   have A21 := Aside0.mk A210
   clear A210
   replace H := Option.bind_eq_some_iff.mp H
   obtain ⟨t257, A220, H⟩ := H
   replace H : (if t257 = true then ((msg_Right.f k t226 t227 t228 t229 t230 t231 t232 t233 t234 t235 t238).bind fun t258 => (annuletlaw08_MsgClean.j0 k (t258 == 1) a0_0 a0_1 a0_2 a0_3 a0_4 a0_5 a0_6 a0_7 a0_8 l0_9 l0_10 t226 t227 t228 t229 t230 t231 t232 t233 t234 t235 t238)) else (annuletlaw08_MsgClean.j0 k true a0_0 a0_1 a0_2 a0_3 a0_4 a0_5 a0_6 a0_7 a0_8 l0_9 l0_10 t226 t227 t228 t229 t230 t231 t232 t233 t234 t235 t238)) = some r := H
   have A22 := Aside0.mk A220
   clear A220
   by_cases c23 : t257 = true
   ·subst c23
    have H1 : ((msg_Right.f k t226 t227 t228 t229 t230 t231 t232 t233 t234 t235 t238).bind fun t258 => (annuletlaw08_MsgClean.j0 k (t258 == 1) a0_0 a0_1 a0_2 a0_3 a0_4 a0_5 a0_6 a0_7 a0_8 l0_9 l0_10 t226 t227 t228 t229 t230 t231 t232 t233 t234 t235 t238)) = some r := by rw [if_pos rfl] at H; exact H
    clear H
    have H := H1
    clear H1
    replace H := Option.bind_eq_some_iff.mp H
    obtain ⟨t258, A240, H⟩ := H
    replace H : (annuletlaw08_MsgClean.j0 k (t258 == 1) a0_0 a0_1 a0_2 a0_3 a0_4 a0_5 a0_6 a0_7 a0_8 l0_9 l0_10 t226 t227 t228 t229 t230 t231 t232 t233 t234 t235 t238) = some r := H
    have A24 := Aside0.mk A240
    clear A240
    have H' := Aside0.mk H
    clear H
    try go_wp2
    have n0_ : Aside0 (Kd.R k26 26 (((((((((((w16.setCell ⟨gb241, 0, none⟩ (.int .i64 t226)).setCell ⟨gb241, 1, none⟩ (.int .u32 t227)).setCell ⟨gb241, 2, none⟩ (.int .u8 t228)).setCell ⟨gb241, 3, none⟩ (.bool t229)).setCell ⟨gb241, 4, none⟩ (.int .u64 t230)).setCell ⟨gb241, 5, none⟩ (.string t231)).setCell ⟨gb241, 6, none⟩ (.string t232)).setCell ⟨gb241, 7, none⟩ (.int .u64 t233)).setCell ⟨gb241, 8, none⟩ (.int .u16 t234)).setCell ⟨gb241, 9, none⟩ (.slice Ao19 t235.length co19)).setCell ⟨gb241, 10, none⟩ (.slice Ao20 t238.length co20)) w.heap.size (fun _ => True) (.slice Ao19 t235.length co19) t235) := ⟨by (with_reducible repeat (first | apply Kd.R_alloc | apply Kd.R_drewN | apply Kd.R_drew)); exact Kd.R_mono (Kd.R_far (p := ⟨gb241, 10, none⟩) (Kd.R_far (p := ⟨gb241, 9, none⟩) (Kd.R_far (p := ⟨gb241, 8, none⟩) (Kd.R_far (p := ⟨gb241, 7, none⟩) (Kd.R_far (p := ⟨gb241, 6, none⟩) (Kd.R_far (p := ⟨gb241, 5, none⟩) (Kd.R_far (p := ⟨gb241, 4, none⟩) (Kd.R_far (p := ⟨gb241, 3, none⟩) (Kd.R_far (p := ⟨gb241, 2, none⟩) (Kd.R_far (p := ⟨gb241, 1, none⟩) (Kd.R_far (p := ⟨gb241, 0, none⟩) (Kd.R_types HO237.out BK241.out (by decide)) (fun _ hk => hk.2) (.int .i64 t226)) (fun _ hk => hk.2) (.int .u32 t227)) (fun _ hk => hk.2) (.int .u8 t228)) (fun _ hk => hk.2) (.bool t229)) (fun _ hk => hk.2) (.int .u64 t230)) (fun _ hk => hk.2) (.string t231)) (fun _ hk => hk.2) (.string t232)) (fun _ hk => hk.2) (.int .u64 t233)) (fun _ hk => hk.2) (.int .u16 t234)) (fun _ hk => hk.2) (.slice Ao19 t235.length co19)) (fun _ hk => hk.2) (.slice Ao20 t238.length co20)) (fun _ hk => trivial)⟩
    have n1_ : Aside0 (Kd.R k45 45 (((((((((((w16.setCell ⟨gb241, 0, none⟩ (.int .i64 t226)).setCell ⟨gb241, 1, none⟩ (.int .u32 t227)).setCell ⟨gb241, 2, none⟩ (.int .u8 t228)).setCell ⟨gb241, 3, none⟩ (.bool t229)).setCell ⟨gb241, 4, none⟩ (.int .u64 t230)).setCell ⟨gb241, 5, none⟩ (.string t231)).setCell ⟨gb241, 6, none⟩ (.string t232)).setCell ⟨gb241, 7, none⟩ (.int .u64 t233)).setCell ⟨gb241, 8, none⟩ (.int .u16 t234)).setCell ⟨gb241, 9, none⟩ (.slice Ao19 t235.length co19)).setCell ⟨gb241, 10, none⟩ (.slice Ao20 t238.length co20)) w.heap.size (fun _ => True) (.slice Ao20 t238.length co20) t238) := ⟨by (with_reducible repeat (first | apply Kd.R_alloc | apply Kd.R_drewN | apply Kd.R_drew)); exact Kd.R_mono (Kd.R_far (p := ⟨gb241, 10, none⟩) (Kd.R_far (p := ⟨gb241, 9, none⟩) (Kd.R_far (p := ⟨gb241, 8, none⟩) (Kd.R_far (p := ⟨gb241, 7, none⟩) (Kd.R_far (p := ⟨gb241, 6, none⟩) (Kd.R_far (p := ⟨gb241, 5, none⟩) (Kd.R_far (p := ⟨gb241, 4, none⟩) (Kd.R_far (p := ⟨gb241, 3, none⟩) (Kd.R_far (p := ⟨gb241, 2, none⟩) (Kd.R_far (p := ⟨gb241, 1, none⟩) (Kd.R_far (p := ⟨gb241, 0, none⟩) (Kd.R_types HO240.out BK241.out (by decide)) (fun _ hk => hk.2) (.int .i64 t226)) (fun _ hk => hk.2) (.int .u32 t227)) (fun _ hk => hk.2) (.int .u8 t228)) (fun _ hk => hk.2) (.bool t229)) (fun _ hk => hk.2) (.int .u64 t230)) (fun _ hk => hk.2) (.string t231)) (fun _ hk => hk.2) (.string t232)) (fun _ hk => hk.2) (.int .u64 t233)) (fun _ hk => hk.2) (.int .u16 t234)) (fun _ hk => hk.2) (.slice Ao19 t235.length co19)) (fun _ hk => hk.2) (.slice Ao20 t238.length co20)) (fun _ hk => trivial)⟩
    have n2_ : Aside0 ((((((((((((w16.setCell ⟨gb241, 0, none⟩ (.int .i64 t226)).setCell ⟨gb241, 1, none⟩ (.int .u32 t227)).setCell ⟨gb241, 2, none⟩ (.int .u8 t228)).setCell ⟨gb241, 3, none⟩ (.bool t229)).setCell ⟨gb241, 4, none⟩ (.int .u64 t230)).setCell ⟨gb241, 5, none⟩ (.string t231)).setCell ⟨gb241, 6, none⟩ (.string t232)).setCell ⟨gb241, 7, none⟩ (.int .u64 t233)).setCell ⟨gb241, 8, none⟩ (.int .u16 t234)).setCell ⟨gb241, 9, none⟩ (.slice Ao19 t235.length co19)).setCell ⟨gb241, 10, none⟩ (.slice Ao20 t238.length co20)).heap[gb223]? = some (.cells #[.int .i64 a0_0, .int .u32 a0_1, .int .u8 a0_2, .bool a0_3, .int .u64 a0_4, .string a0_5, .string a0_6, .int .u64 a0_7, .int .u16 a0_8, .slice A0_9 l0_9.length c0_9, .slice A0_10 l0_10.length c0_10] 30 (0, 0))) := ⟨by (with_reducible repeat (first | refine blk_drewN ?_ _ | refine blk_drew ?_ | refine blk_alloc ?_ _)); refine blk_far ?_ NB223_241.out _; (with_reducible repeat (first | refine blk_drewN ?_ _ | refine blk_drew ?_ | refine blk_alloc ?_ _)); refine blk_far ?_ NB223_241.out _; (with_reducible repeat (first | refine blk_drewN ?_ _ | refine blk_drew ?_ | refine blk_alloc ?_ _)); refine blk_far ?_ NB223_241.out _; (with_reducible repeat (first | refine blk_drewN ?_ _ | refine blk_drew ?_ | refine blk_alloc ?_ _)); refine blk_far ?_ NB223_241.out _; (with_reducible repeat (first | refine blk_drewN ?_ _ | refine blk_drew ?_ | refine blk_alloc ?_ _)); refine blk_far ?_ NB223_241.out _; (with_reducible repeat (first | refine blk_drewN ?_ _ | refine blk_drew ?_ | refine blk_alloc ?_ _)); refine blk_far ?_ NB223_241.out _; (with_reducible repeat (first | refine blk_drewN ?_ _ | refine blk_drew ?_ | refine blk_alloc ?_ _)); refine blk_far ?_ NB223_241.out _; (with_reducible repeat (first | refine blk_drewN ?_ _ | refine blk_drew ?_ | refine blk_alloc ?_ _)); refine blk_far ?_ NB223_241.out _; (with_reducible repeat (first | refine blk_drewN ?_ _ | refine blk_drew ?_ | refine blk_alloc ?_ _)); refine blk_far ?_ NB223_241.out _; (with_reducible repeat (first | refine blk_drewN ?_ _ | refine blk_drew ?_ | refine blk_alloc ?_ _)); refine blk_far ?_ NB223_241.out _; (with_reducible repeat (first | refine blk_drewN ?_ _ | refine blk_drew ?_ | refine blk_alloc ?_ _)); refine blk_far ?_ NB223_241.out _; (with_reducible repeat (first | refine blk_drewN ?_ _ | refine blk_drew ?_ | refine blk_alloc ?_ _)); exact BK223.out⟩
    have n3_ : Aside0 ((((((((((((w16.setCell ⟨gb241, 0, none⟩ (.int .i64 t226)).setCell ⟨gb241, 1, none⟩ (.int .u32 t227)).setCell ⟨gb241, 2, none⟩ (.int .u8 t228)).setCell ⟨gb241, 3, none⟩ (.bool t229)).setCell ⟨gb241, 4, none⟩ (.int .u64 t230)).setCell ⟨gb241, 5, none⟩ (.string t231)).setCell ⟨gb241, 6, none⟩ (.string t232)).setCell ⟨gb241, 7, none⟩ (.int .u64 t233)).setCell ⟨gb241, 8, none⟩ (.int .u16 t234)).setCell ⟨gb241, 9, none⟩ (.slice Ao19 t235.length co19)).setCell ⟨gb241, 10, none⟩ (.slice Ao20 t238.length co20)).heap[gb241]? = some (.cells #[.int .i64 t226, .int .u32 t227, .int .u8 t228, .bool t229, .int .u64 t230, .string t231, .string t232, .int .u64 t233, .int .u16 t234, .slice Ao19 t235.length co19, .slice Ao20 t238.length co20] 30 (0, 0))) := ⟨by (with_reducible repeat (first | refine blk_drewN ?_ _ | refine blk_drew ?_ | refine blk_alloc ?_ _)); refine blk_put (cs := #[.int .i64 t226, .int .u32 t227, .int .u8 t228, .bool t229, .int .u64 t230, .string t231, .string t232, .int .u64 t233, .int .u16 t234, .slice Ao19 t235.length co19, .slice none 0 0]) ?_ 10 _ rfl; (with_reducible repeat (first | refine blk_drewN ?_ _ | refine blk_drew ?_ | refine blk_alloc ?_ _)); refine blk_put (cs := #[.int .i64 t226, .int .u32 t227, .int .u8 t228, .bool t229, .int .u64 t230, .string t231, .string t232, .int .u64 t233, .int .u16 t234, .slice none 0 0, .slice none 0 0]) ?_ 9 _ rfl; (with_reducible repeat (first | refine blk_drewN ?_ _ | refine blk_drew ?_ | refine blk_alloc ?_ _)); refine blk_put (cs := #[.int .i64 t226, .int .u32 t227, .int .u8 t228, .bool t229, .int .u64 t230, .string t231, .string t232, .int .u64 t233, .int .u16 0, .slice none 0 0, .slice none 0 0]) ?_ 8 _ rfl; (with_reducible repeat (first | refine blk_drewN ?_ _ | refine blk_drew ?_ | refine blk_alloc ?_ _)); refine blk_put (cs := #[.int .i64 t226, .int .u32 t227, .int .u8 t228, .bool t229, .int .u64 t230, .string t231, .string t232, .int .u64 0, .int .u16 0, .slice none 0 0, .slice none 0 0]) ?_ 7 _ rfl; (with_reducible repeat (first | refine blk_drewN ?_ _ | refine blk_drew ?_ | refine blk_alloc ?_ _)); refine blk_put (cs := #[.int .i64 t226, .int .u32 t227, .int .u8 t228, .bool t229, .int .u64 t230, .string t231, .string (⟨#[]⟩ : ByteArray), .int .u64 0, .int .u16 0, .slice none 0 0, .slice none 0 0]) ?_ 6 _ rfl; (with_reducible repeat (first | refine blk_drewN ?_ _ | refine blk_drew ?_ | refine blk_alloc ?_ _)); refine blk_put (cs := #[.int .i64 t226, .int .u32 t227, .int .u8 t228, .bool t229, .int .u64 t230, .string (⟨#[]⟩ : ByteArray), .string (⟨#[]⟩ : ByteArray), .int .u64 0, .int .u16 0, .slice none 0 0, .slice none 0 0]) ?_ 5 _ rfl; (with_reducible repeat (first | refine blk_drewN ?_ _ | refine blk_drew ?_ | refine blk_alloc ?_ _)); refine blk_put (cs := #[.int .i64 t226, .int .u32 t227, .int .u8 t228, .bool t229, .int .u64 0, .string (⟨#[]⟩ : ByteArray), .string (⟨#[]⟩ : ByteArray), .int .u64 0, .int .u16 0, .slice none 0 0, .slice none 0 0]) ?_ 4 _ rfl; (with_reducible repeat (first | refine blk_drewN ?_ _ | refine blk_drew ?_ | refine blk_alloc ?_ _)); refine blk_put (cs := #[.int .i64 t226, .int .u32 t227, .int .u8 t228, .bool false, .int .u64 0, .string (⟨#[]⟩ : ByteArray), .string (⟨#[]⟩ : ByteArray), .int .u64 0, .int .u16 0, .slice none 0 0, .slice none 0 0]) ?_ 3 _ rfl; (with_reducible repeat (first | refine blk_drewN ?_ _ | refine blk_drew ?_ | refine blk_alloc ?_ _)); refine blk_put (cs := #[.int .i64 t226, .int .u32 t227, .int .u8 0, .bool false, .int .u64 0, .string (⟨#[]⟩ : ByteArray), .string (⟨#[]⟩ : ByteArray), .int .u64 0, .int .u16 0, .slice none 0 0, .slice none 0 0]) ?_ 2 _ rfl; (with_reducible repeat (first | refine blk_drewN ?_ _ | refine blk_drew ?_ | refine blk_alloc ?_ _)); refine blk_put (cs := #[.int .i64 t226, .int .u32 0, .int .u8 0, .bool false, .int .u64 0, .string (⟨#[]⟩ : ByteArray), .string (⟨#[]⟩ : ByteArray), .int .u64 0, .int .u16 0, .slice none 0 0, .slice none 0 0]) ?_ 1 _ rfl; (with_reducible repeat (first | refine blk_drewN ?_ _ | refine blk_drew ?_ | refine blk_alloc ?_ _)); refine blk_put (cs := #[.int .i64 0, .int .u32 0, .int .u8 0, .bool false, .int .u64 0, .string (⟨#[]⟩ : ByteArray), .string (⟨#[]⟩ : ByteArray), .int .u64 0, .int .u16 0, .slice none 0 0, .slice none 0 0]) ?_ 0 _ rfl; (with_reducible repeat (first | refine blk_drewN ?_ _ | refine blk_drew ?_ | refine blk_alloc ?_ _)); exact BK241.out⟩
    have n4_ : Aside0 (Below w.heap.size w (((((((((((w16.setCell ⟨gb241, 0, none⟩ (.int .i64 t226)).setCell ⟨gb241, 1, none⟩ (.int .u32 t227)).setCell ⟨gb241, 2, none⟩ (.int .u8 t228)).setCell ⟨gb241, 3, none⟩ (.bool t229)).setCell ⟨gb241, 4, none⟩ (.int .u64 t230)).setCell ⟨gb241, 5, none⟩ (.string t231)).setCell ⟨gb241, 6, none⟩ (.string t232)).setCell ⟨gb241, 7, none⟩ (.int .u64 t233)).setCell ⟨gb241, 8, none⟩ (.int .u16 t234)).setCell ⟨gb241, 9, none⟩ (.slice Ao19 t235.length co19)).setCell ⟨gb241, 10, none⟩ (.slice Ao20 t238.length co20))) := ⟨by repeat (first | (with_reducible first | exact HB.out | apply below_alloc | apply pw_below_drewN | apply below_drew1 | refine below_set ?_ GE223.out | refine below_set ?_ GE241.out) | exact HB.out)⟩
    (try clear HO237)
    (try clear HO240)
    (try clear BK223)
    (try clear BK241)
    (try clear HB)
    generalize (((((((((((w16.setCell ⟨gb241, 0, none⟩ (.int .i64 t226)).setCell ⟨gb241, 1, none⟩ (.int .u32 t227)).setCell ⟨gb241, 2, none⟩ (.int .u8 t228)).setCell ⟨gb241, 3, none⟩ (.bool t229)).setCell ⟨gb241, 4, none⟩ (.int .u64 t230)).setCell ⟨gb241, 5, none⟩ (.string t231)).setCell ⟨gb241, 6, none⟩ (.string t232)).setCell ⟨gb241, 7, none⟩ (.int .u64 t233)).setCell ⟨gb241, 8, none⟩ (.int .u16 t234)).setCell ⟨gb241, 9, none⟩ (.slice Ao19 t235.length co19)).setCell ⟨gb241, 10, none⟩ (.slice Ao20 t238.length co20)) = w25 at n0_ n1_ n2_ n3_ n4_ ⊢
    have HO237 := n0_
    have HO240 := n1_
    have BK223 := n2_
    have BK241 := n3_
    have HB := n4_
    clear n0_ n1_ n2_ n3_ n4_
    have n0_ := Aside0.mk (Kd.R_drew HO237.out)
    have n1_ := Aside0.mk (Kd.R_drew HO240.out)
    have n2_ := Aside0.mk (blk_drew BK223.out)
    have n3_ := Aside0.mk (blk_drew BK241.out)
    have n4_ := Aside0.mk (below_drew1 HB.out)
    clear HO237
    clear HO240
    clear BK223
    clear BK241
    clear HB
    have HO237 := n0_
    have HO240 := n1_
    have BK223 := n2_
    have BK241 := n3_
    have HB := n4_
    clear n0_ n1_ n2_ n3_ n4_
    refine start_ (n := 10) (S := fun w' => w'.cell? ⟨gb241, 0, none⟩ = some (.int .i64 t226) ∧ w'.cell? ⟨gb241, 1, none⟩ = some (.int .u32 t227) ∧ w'.cell? ⟨gb241, 2, none⟩ = some (.int .u8 t228) ∧ w'.cell? ⟨gb241, 3, none⟩ = some (.bool t229) ∧ w'.cell? ⟨gb241, 4, none⟩ = some (.int .u64 t230) ∧ w'.cell? ⟨gb241, 5, none⟩ = some (.string t231) ∧ w'.cell? ⟨gb241, 6, none⟩ = some (.string t232) ∧ w'.cell? ⟨gb241, 7, none⟩ = some (.int .u64 t233) ∧ w'.cell? ⟨gb241, 8, none⟩ = some (.int .u16 t234) ∧ w'.cell? ⟨gb241, 9, none⟩ = some (.slice Ao19 t235.length co19) ∧ w'.cell? ⟨gb241, 10, none⟩ = some (.slice Ao20 t238.length co20)) (ds := []) #[false, false, false, false, false, false, false, false, false, false] (by kernel_rfl) rfl rfl ⟨(blk_cell BK241.out 0).trans rfl, (blk_cell BK241.out 1).trans rfl, (blk_cell BK241.out 2).trans rfl, (blk_cell BK241.out 3).trans rfl, (blk_cell BK241.out 4).trans rfl, (blk_cell BK241.out 5).trans rfl, (blk_cell BK241.out 6).trans rfl, (blk_cell BK241.out 7).trans rfl, (blk_cell BK241.out 8).trans rfl, (blk_cell BK241.out 9).trans rfl, (blk_cell BK241.out 10).trans rfl⟩ (fun hHeld => ?_); refine with_tabW annuletlaw08_MsgClean.tab4 annuletlaw08_MsgClean.bits4 (fun HT_ HW_ => ?_)
    generalize w25.drew = w26 at HO237 HO240 BK223 BK241 HB hHeld ⊢
    refine take_ (i := 0) (N := some 9) (v := ?_) (a' := ?_) #[true, false, false, false, false, false, false, false, false, false] rfl rfl (take_ofW HT_.out HW_.out (by kernel_rfl)) (fun _ _ _ h => h) (Or.inl ⟨by rfl, ?_⟩) hHeld ?_ ?_
    rotate_left
    ·rintro w' ⟨s0, s1, s2, s3, s4, s5, s6, s7, s8, s9, s10⟩
     go_simp
     with_reducible rfl
    rotate_left
    ·simp only [Act.put, List.setIfInBounds_toArray, List.set_cons_zero, List.set_cons_succ, i64_w, i32_w]
     rfl
    refine take_ (i := 2) (N := some 11) (v := ?_) (a' := ?_) #[true, false, true, false, false, false, false, false, false, false] rfl rfl (take_ofW HT_.out HW_.out (by kernel_rfl)) (fun _ _ _ h => h) (Or.inl ⟨by rfl, ?_⟩) hHeld ?_ ?_
    rotate_left
    ·rintro w' ⟨s0, s1, s2, s3, s4, s5, s6, s7, s8, s9, s10⟩
     go_simp
     with_reducible rfl
    rotate_left
    ·simp only [Act.put, List.setIfInBounds_toArray, List.set_cons_zero, List.set_cons_succ, i64_w, i32_w]
     rfl
    refine one_ (i := 1) (N := some 10) #[true, true, true, false, false, false, false, false, false, false] rfl rfl (one_of HT_.out (by kernel_rfl)) (by decide) (fun K hK => ?_)
    refine goes_ Tryd.func21 (by kernel_rfl) rfl #[.agg #[.int .i64 t226, .int .u32 t227, .int .u8 t228, .bool t229, .int .u64 t230, .string t231, .string t232, .int .u64 t233, .int .u16 t234, .slice Ao19 t235.length co19, .slice Ao20 t238.length co20]] (by rfl) rfl rfl (by (try simp only [List.map_toArray, List.map_cons, List.map_nil]); first | done | rfl | (simp only [List.length_drop, List.length_take]; rfl)) ?_
    with_reducible refine (msg_Bare.calls k t226 t227 t228 t229 t230 t231 t232 t233 t234 _ _ t235 _ _ t238 t242 t243 t244 t245 t246 t247 t248 t249 t250 t251 t254 _ ?side1 ?side2 ?side3 ?side4 A21.out).mono ?_
    (case side1 => repeat (first | exact (Kd.R_reads' HO237.out).2.2 | (with_reducible refine Kd.C_alloc ?_ _) | (with_reducible refine Kd.C_drewN ?_ _) | (with_reducible refine Kd.C_drew ?_)))
    (case side2 => exact (Kd.R_reads' HO237.out).2.1)
    (case side3 => repeat (first | exact (Kd.R_reads' HO240.out).2.2 | (with_reducible refine Kd.C_alloc ?_ _) | (with_reducible refine Kd.C_drewN ?_ _) | (with_reducible refine Kd.C_drew ?_)))
    (case side4 => exact (Kd.R_reads' HO240.out).2.1)
    rintro e w27 ⟨v252, v255, rfl, ho0, ho1, hb⟩
    refine ⟨_, rfl, ?_⟩
    have n0_ := Aside0.mk (Kd.R_elder' (by (with_reducible repeat (first | apply Kd.R_alloc | apply Kd.R_drewN | apply Kd.R_drew)); exact HO237.out) (Kd.R_base ho0) hb)
    have n1_ := Aside0.mk (Kd.R_elder' (by (with_reducible repeat (first | apply Kd.R_alloc | apply Kd.R_drewN | apply Kd.R_drew)); exact HO240.out) (Kd.R_base ho1) hb)
    have n2_ := Aside0.mk (Kd.R_lower (Kd.R_new' ho0 (Kd.R_lt (by (with_reducible repeat (first | apply Kd.R_alloc | apply Kd.R_drewN | apply Kd.R_drew)); exact HO237.out))) (below_size (by repeat (first | (with_reducible first | exact HB.out | apply below_alloc | apply pw_below_drewN | apply below_drew1 | refine below_set ?_ GE223.out | refine below_set ?_ GE241.out) | exact HB.out))))
    have n3_ := Aside0.mk (Kd.R_lower (Kd.R_new' ho1 (Kd.R_lt (by (with_reducible repeat (first | apply Kd.R_alloc | apply Kd.R_drewN | apply Kd.R_drew)); exact HO240.out))) (below_size (by repeat (first | (with_reducible first | exact HB.out | apply below_alloc | apply pw_below_drewN | apply below_drew1 | refine below_set ?_ GE223.out | refine below_set ?_ GE241.out) | exact HB.out))))
    have n4_ := Aside0.mk (blk_below (g := gb223) (o := .cells #[.int .i64 a0_0, .int .u32 a0_1, .int .u8 a0_2, .bool a0_3, .int .u64 a0_4, .string a0_5, .string a0_6, .int .u64 a0_7, .int .u16 a0_8, .slice A0_9 l0_9.length c0_9, .slice A0_10 l0_10.length c0_10] 30 (0, 0)) (by (with_reducible repeat (first | refine blk_drewN ?_ _ | refine blk_drew ?_ | refine blk_alloc ?_ _)); exact BK223.out) hb)
    have n5_ := Aside0.mk (blk_below (g := gb241) (o := .cells #[.int .i64 t226, .int .u32 t227, .int .u8 t228, .bool t229, .int .u64 t230, .string t231, .string t232, .int .u64 t233, .int .u16 t234, .slice Ao19 t235.length co19, .slice Ao20 t238.length co20] 30 (0, 0)) (by (with_reducible repeat (first | refine blk_drewN ?_ _ | refine blk_drew ?_ | refine blk_alloc ?_ _)); exact BK241.out) hb)
    have n6_ := Aside0.mk (below_step (by repeat (first | (with_reducible first | exact HB.out | apply below_alloc | apply pw_below_drewN | apply below_drew1 | refine below_set ?_ GE223.out | refine below_set ?_ GE241.out) | exact HB.out)) hb)
    clear HO237
    clear HO240
    clear BK223
    clear BK241
    clear HB
    have HO237 := n0_
    have HO240 := n1_
    have HO253 := n2_
    have HO256 := n3_
    have BK223 := n4_
    have BK241 := n5_
    have HB := n6_
    clear n0_ n1_ n2_ n3_ n4_ n5_ n6_
    (try clear hb)
    (try clear hb2)
    (try clear hk)
    (try clear hi)
    (try clear ho0)
    (try clear ho1)
    obtain ⟨Ao28, co28, eo28⟩ := Kd.R_slice HO253.out
    (first | subst eo28 | (injection eo28 with f1_ f2_ f3_; have f4_ := f1_.symm; have f5_ := f3_.symm; clear f1_ f2_ f3_; subst f4_; subst f5_))
    obtain ⟨Ao29, co29, eo29⟩ := Kd.R_slice HO256.out
    (first | subst eo29 | (injection eo29 with f1_ f2_ f3_; have f4_ := f1_.symm; have f5_ := f3_.symm; clear f1_ f2_ f3_; subst f4_; subst f5_))
    refine hK.out _ _ ⟨(blk_cell BK241.out 0).trans rfl, (blk_cell BK241.out 1).trans rfl, (blk_cell BK241.out 2).trans rfl, (blk_cell BK241.out 3).trans rfl, (blk_cell BK241.out 4).trans rfl, (blk_cell BK241.out 5).trans rfl, (blk_cell BK241.out 6).trans rfl, (blk_cell BK241.out 7).trans rfl, (blk_cell BK241.out 8).trans rfl, (blk_cell BK241.out 9).trans rfl, (blk_cell BK241.out 10).trans rfl⟩ (fun hHeld => ?_)
    clear hK K
    refine norm_ (a' := ?_) ?_ ?_
    rotate_left
    ·show Act.put _ (some 10) _ = _
     simp only [Act.put, List.setIfInBounds_toArray, List.set_cons_zero, List.set_cons_succ, i64_w, i32_w]
     rfl
    refine one_ (i := 3) (N := some 12) #[true, true, true, true, false, false, false, false, false, false] rfl rfl (one_of HT_.out (by kernel_rfl)) (by decide) (fun K hK => ?_)
    refine goes_ Tryd.func22 (by kernel_rfl) rfl #[.agg #[.int .i64 t242, .int .u32 t243, .int .u8 t244, .bool t245, .int .u64 t246, .string t247, .string t248, .int .u64 t249, .int .u16 t250, .slice Ao28 t251.length co28, .slice Ao29 t254.length co29], .agg #[.int .i64 t226, .int .u32 t227, .int .u8 t228, .bool t229, .int .u64 t230, .string t231, .string t232, .int .u64 t233, .int .u16 t234, .slice Ao19 t235.length co19, .slice Ao20 t238.length co20]] (by rfl) rfl rfl (by (try simp only [List.map_toArray, List.map_cons, List.map_nil]); first | done | rfl | (simp only [List.length_drop, List.length_take]; rfl)) ?_
    with_reducible refine (msg_Same.calls k t242 t243 t244 t245 t246 t247 t248 t249 t250 _ _ t251 _ _ t254 t226 t227 t228 t229 t230 t231 t232 t233 t234 _ _ t235 _ _ t238 true _ ?side1 ?side2 ?side3 ?side4 ?side5 ?side6 ?side7 ?side8 A22.out).mono ?_
    (case side1 => repeat (first | exact (Kd.R_reads' HO253.out).2.2 | (with_reducible refine Kd.C_alloc ?_ _) | (with_reducible refine Kd.C_drewN ?_ _) | (with_reducible refine Kd.C_drew ?_)))
    (case side2 => exact (Kd.R_reads' HO253.out).2.1)
    (case side3 => repeat (first | exact (Kd.R_reads' HO256.out).2.2 | (with_reducible refine Kd.C_alloc ?_ _) | (with_reducible refine Kd.C_drewN ?_ _) | (with_reducible refine Kd.C_drew ?_)))
    (case side4 => exact (Kd.R_reads' HO256.out).2.1)
    (case side5 => repeat (first | exact (Kd.R_reads' HO237.out).2.2 | (with_reducible refine Kd.C_alloc ?_ _) | (with_reducible refine Kd.C_drewN ?_ _) | (with_reducible refine Kd.C_drew ?_)))
    (case side6 => exact (Kd.R_reads' HO237.out).2.1)
    (case side7 => repeat (first | exact (Kd.R_reads' HO240.out).2.2 | (with_reducible refine Kd.C_alloc ?_ _) | (with_reducible refine Kd.C_drewN ?_ _) | (with_reducible refine Kd.C_drew ?_)))
    (case side8 => exact (Kd.R_reads' HO240.out).2.1)
    rintro e w30 ⟨rfl, hb⟩
    refine ⟨_, rfl, ?_⟩
    have n0_ := Aside0.mk (Kd.R_below (by (with_reducible repeat (first | apply Kd.R_alloc | apply Kd.R_drewN | apply Kd.R_drew)); exact HO237.out) hb)
    have n1_ := Aside0.mk (Kd.R_below (by (with_reducible repeat (first | apply Kd.R_alloc | apply Kd.R_drewN | apply Kd.R_drew)); exact HO240.out) hb)
    have n2_ := Aside0.mk (Kd.R_below (by (with_reducible repeat (first | apply Kd.R_alloc | apply Kd.R_drewN | apply Kd.R_drew)); exact HO253.out) hb)
    have n3_ := Aside0.mk (Kd.R_below (by (with_reducible repeat (first | apply Kd.R_alloc | apply Kd.R_drewN | apply Kd.R_drew)); exact HO256.out) hb)
    have n4_ := Aside0.mk (blk_below (g := gb223) (o := .cells #[.int .i64 a0_0, .int .u32 a0_1, .int .u8 a0_2, .bool a0_3, .int .u64 a0_4, .string a0_5, .string a0_6, .int .u64 a0_7, .int .u16 a0_8, .slice A0_9 l0_9.length c0_9, .slice A0_10 l0_10.length c0_10] 30 (0, 0)) (by (with_reducible repeat (first | refine blk_drewN ?_ _ | refine blk_drew ?_ | refine blk_alloc ?_ _)); exact BK223.out) hb)
    have n5_ := Aside0.mk (blk_below (g := gb241) (o := .cells #[.int .i64 t226, .int .u32 t227, .int .u8 t228, .bool t229, .int .u64 t230, .string t231, .string t232, .int .u64 t233, .int .u16 t234, .slice Ao19 t235.length co19, .slice Ao20 t238.length co20] 30 (0, 0)) (by (with_reducible repeat (first | refine blk_drewN ?_ _ | refine blk_drew ?_ | refine blk_alloc ?_ _)); exact BK241.out) hb)
    have n6_ := Aside0.mk (below_step (by repeat (first | (with_reducible first | exact HB.out | apply below_alloc | apply pw_below_drewN | apply below_drew1 | refine below_set ?_ GE223.out | refine below_set ?_ GE241.out) | exact HB.out)) hb)
    clear HO237
    clear HO240
    clear HO253
    clear HO256
    clear BK223
    clear BK241
    clear HB
    have HO237 := n0_
    have HO240 := n1_
    have HO253 := n2_
    have HO256 := n3_
    have BK223 := n4_
    have BK241 := n5_
    have HB := n6_
    clear n0_ n1_ n2_ n3_ n4_ n5_ n6_
    (try clear hb)
    (try clear hb2)
    (try clear hk)
    (try clear hi)
    refine hK.out _ _ ⟨(blk_cell BK241.out 0).trans rfl, (blk_cell BK241.out 1).trans rfl, (blk_cell BK241.out 2).trans rfl, (blk_cell BK241.out 3).trans rfl, (blk_cell BK241.out 4).trans rfl, (blk_cell BK241.out 5).trans rfl, (blk_cell BK241.out 6).trans rfl, (blk_cell BK241.out 7).trans rfl, (blk_cell BK241.out 8).trans rfl, (blk_cell BK241.out 9).trans rfl, (blk_cell BK241.out 10).trans rfl⟩ (fun hHeld => ?_)
    clear hK K
    refine norm_ (a' := ?_) ?_ ?_
    rotate_left
    ·show Act.put _ (some 12) _ = _
     simp only [Act.put, List.setIfInBounds_toArray, List.set_cons_zero, List.set_cons_succ, i64_w, i32_w]
     rfl
    refine pure_ (i := 4) (N := some 13) (v := ?_) (a' := ?_) #[true, true, true, true, true, false, false, false, false, false] rfl rfl (any_of HT_.out (by kernel_rfl)) (fun _ _ _ h => h) (Or.inl ⟨by rfl, ?_⟩) ?_ ?_
    rotate_left
    ·intro w'
     go_simp
     with_reducible rfl
    rotate_left
    ·simp only [Act.put, List.setIfInBounds_toArray, List.set_cons_zero, List.set_cons_succ, i64_w, i32_w]
     rfl
    refine pure_ (i := 5) (N := some 14) (v := ?_) (a' := ?_) #[true, true, true, true, true, true, false, false, false, false] rfl rfl (any_of HT_.out (by kernel_rfl)) (fun _ _ _ h => h) (Or.inl ⟨by rfl, ?_⟩) ?_ ?_
    rotate_left
    ·intro w'
     go_simp
     with_reducible rfl
    rotate_left
    ·simp only [Act.put, List.setIfInBounds_toArray, List.set_cons_zero, List.set_cons_succ, i64_w, i32_w]
     rfl
    refine take_ (i := 6) (N := some 15) (v := ?_) (a' := ?_) #[true, true, true, true, true, true, true, false, false, false] rfl rfl (take_ofW HT_.out HW_.out (by kernel_rfl)) (fun _ _ _ h => h) (Or.inl ⟨by rfl, ?_⟩) hHeld ?_ ?_
    rotate_left
    ·rintro w' ⟨s0, s1, s2, s3, s4, s5, s6, s7, s8, s9, s10⟩
     go_simp
     with_reducible rfl
    rotate_left
    ·simp only [Act.put, List.setIfInBounds_toArray, List.set_cons_zero, List.set_cons_succ, i64_w, i32_w]
     rfl
    refine one_ (i := 7) (N := some 16) #[true, true, true, true, true, true, true, true, false, false] rfl rfl (one_of HT_.out (by kernel_rfl)) (by decide) (fun K hK => ?_)
    refine goes_ Tryd.func9 (by kernel_rfl) rfl #[.agg #[.int .i64 t226, .int .u32 t227, .int .u8 t228, .bool t229, .int .u64 t230, .string t231, .string t232, .int .u64 t233, .int .u16 t234, .slice Ao19 t235.length co19, .slice Ao20 t238.length co20]] (by rfl) rfl rfl (by (try simp only [List.map_toArray, List.map_cons, List.map_nil]); first | done | rfl | (simp only [List.length_drop, List.length_take]; rfl)) ?_
    with_reducible refine (msg_Right.calls k t226 t227 t228 t229 t230 t231 t232 t233 t234 _ _ t235 _ _ t238 t258 _ ?side1 ?side2 ?side3 ?side4 ?side5 A24.out).mono ?_
    (case side1 => repeat (first | exact (Kd.R_reads' HO237.out).2.2 | (with_reducible refine Kd.C_alloc ?_ _) | (with_reducible refine Kd.C_drewN ?_ _) | (with_reducible refine Kd.C_drew ?_)))
    (case side2 => exact (Kd.R_reads' HO237.out).2.1)
    (case side3 => repeat (first | exact (Kd.R_reads' HO240.out).2.2 | (with_reducible refine Kd.C_alloc ?_ _) | (with_reducible refine Kd.C_drewN ?_ _) | (with_reducible refine Kd.C_drew ?_)))
    (case side4 => exact (Kd.R_reads' HO240.out).2.1)
    (case side5 => refine tabs_later HTB.out ?_; repeat (first | (with_reducible first | exact HB.out | apply below_alloc | apply pw_below_drewN | apply below_drew1 | refine below_set ?_ GE223.out | refine below_set ?_ GE241.out) | exact HB.out))
    rintro e w31 ⟨rfl, hb⟩
    refine ⟨_, rfl, ?_⟩
    have n0_ := Aside0.mk (Kd.R_below (by (with_reducible repeat (first | apply Kd.R_alloc | apply Kd.R_drewN | apply Kd.R_drew)); exact HO237.out) hb)
    have n1_ := Aside0.mk (Kd.R_below (by (with_reducible repeat (first | apply Kd.R_alloc | apply Kd.R_drewN | apply Kd.R_drew)); exact HO240.out) hb)
    have n2_ := Aside0.mk (Kd.R_below (by (with_reducible repeat (first | apply Kd.R_alloc | apply Kd.R_drewN | apply Kd.R_drew)); exact HO253.out) hb)
    have n3_ := Aside0.mk (Kd.R_below (by (with_reducible repeat (first | apply Kd.R_alloc | apply Kd.R_drewN | apply Kd.R_drew)); exact HO256.out) hb)
    have n4_ := Aside0.mk (blk_below (g := gb223) (o := .cells #[.int .i64 a0_0, .int .u32 a0_1, .int .u8 a0_2, .bool a0_3, .int .u64 a0_4, .string a0_5, .string a0_6, .int .u64 a0_7, .int .u16 a0_8, .slice A0_9 l0_9.length c0_9, .slice A0_10 l0_10.length c0_10] 30 (0, 0)) (by (with_reducible repeat (first | refine blk_drewN ?_ _ | refine blk_drew ?_ | refine blk_alloc ?_ _)); exact BK223.out) hb)
    have n5_ := Aside0.mk (blk_below (g := gb241) (o := .cells #[.int .i64 t226, .int .u32 t227, .int .u8 t228, .bool t229, .int .u64 t230, .string t231, .string t232, .int .u64 t233, .int .u16 t234, .slice Ao19 t235.length co19, .slice Ao20 t238.length co20] 30 (0, 0)) (by (with_reducible repeat (first | refine blk_drewN ?_ _ | refine blk_drew ?_ | refine blk_alloc ?_ _)); exact BK241.out) hb)
    have n6_ := Aside0.mk (below_step (by repeat (first | (with_reducible first | exact HB.out | apply below_alloc | apply pw_below_drewN | apply below_drew1 | refine below_set ?_ GE223.out | refine below_set ?_ GE241.out) | exact HB.out)) hb)
    clear HO237
    clear HO240
    clear HO253
    clear HO256
    clear BK223
    clear BK241
    clear HB
    have HO237 := n0_
    have HO240 := n1_
    have HO253 := n2_
    have HO256 := n3_
    have BK223 := n4_
    have BK241 := n5_
    have HB := n6_
    clear n0_ n1_ n2_ n3_ n4_ n5_ n6_
    (try clear hb)
    (try clear hb2)
    (try clear hk)
    (try clear hi)
    refine hK.out _ _ ⟨(blk_cell BK241.out 0).trans rfl, (blk_cell BK241.out 1).trans rfl, (blk_cell BK241.out 2).trans rfl, (blk_cell BK241.out 3).trans rfl, (blk_cell BK241.out 4).trans rfl, (blk_cell BK241.out 5).trans rfl, (blk_cell BK241.out 6).trans rfl, (blk_cell BK241.out 7).trans rfl, (blk_cell BK241.out 8).trans rfl, (blk_cell BK241.out 9).trans rfl, (blk_cell BK241.out 10).trans rfl⟩ (fun hHeld => ?_)
    clear hK K
    refine norm_ (a' := ?_) ?_ ?_
    rotate_left
    ·show Act.put _ (some 16) _ = _
     simp only [Act.put, List.setIfInBounds_toArray, List.set_cons_zero, List.set_cons_succ, i64_w, i32_w]
     rfl
    refine pure_ (i := 8) (N := some 17) (v := ?_) (a' := ?_) #[true, true, true, true, true, true, true, true, true, false] rfl rfl (any_of HT_.out (by kernel_rfl)) (fun _ _ _ h => h) (Or.inl ⟨by rfl, ?_⟩) ?_ ?_
    rotate_left
    ·intro w'
     go_simp
     with_reducible rfl
    rotate_left
    ·simp only [Act.put, List.setIfInBounds_toArray, List.set_cons_zero, List.set_cons_succ, i64_w, i32_w]
     rfl
    refine pure_ (i := 9) (N := some 18) (v := ?_) (a' := ?_) #[true, true, true, true, true, true, true, true, true, true] rfl rfl (any_of HT_.out (by kernel_rfl)) (fun _ _ _ h => h) (Or.inl ⟨by rfl, ?_⟩) ?_ ?_
    rotate_left
    ·intro w'
     go_simp
     with_reducible rfl
    rotate_left
    ·simp only [Act.put, List.setIfInBounds_toArray, List.set_cons_zero, List.set_cons_succ, i64_w, i32_w]
     rfl
    refine done_ (done_of HT_.out (by kernel_rfl)) ?_
    try go_wp2
    go_meet
    case rel => exact ⟨_, ((t258 == 1)), (by first | rfl | (simp; done) | (simp [*]; done)), H', ⟨by first | omega | exact Nat.le_refl _⟩, ⟨by (with_reducible repeat (first | apply Kd.R_alloc | apply Kd.R_drewN | apply Kd.R_drew)); exact Kd.R_mono HO237.out (fun _ hk => trivial)⟩, ⟨by (with_reducible repeat (first | apply Kd.R_alloc | apply Kd.R_drewN | apply Kd.R_drew)); exact Kd.R_mono HO240.out (fun _ hk => trivial)⟩, ⟨by (with_reducible repeat (first | refine blk_drewN ?_ _ | refine blk_drew ?_ | refine blk_alloc ?_ _)); exact BK223.out⟩, ⟨by (with_reducible repeat (first | refine blk_drewN ?_ _ | refine blk_drew ?_ | refine blk_alloc ?_ _)); exact BK241.out⟩, ⟨by repeat (first | (with_reducible first | exact HB.out | apply below_alloc | apply pw_below_drewN | apply below_drew1 | refine below_set ?_ GE223.out | refine below_set ?_ GE241.out) | exact HB.out)⟩⟩
   ·replace c23 := Bool.eq_false_iff.mpr c23
    subst c23
    have H1 : (annuletlaw08_MsgClean.j0 k true a0_0 a0_1 a0_2 a0_3 a0_4 a0_5 a0_6 a0_7 a0_8 l0_9 l0_10 t226 t227 t228 t229 t230 t231 t232 t233 t234 t235 t238) = some r := by rw [if_neg (show ¬ (false = true) by decide)] at H; exact H
    clear H
    have H := H1
    clear H1
    have H' := Aside0.mk H
    clear H
    try go_wp2
    have n0_ : Aside0 (Kd.R k26 26 (((((((((((w16.setCell ⟨gb241, 0, none⟩ (.int .i64 t226)).setCell ⟨gb241, 1, none⟩ (.int .u32 t227)).setCell ⟨gb241, 2, none⟩ (.int .u8 t228)).setCell ⟨gb241, 3, none⟩ (.bool t229)).setCell ⟨gb241, 4, none⟩ (.int .u64 t230)).setCell ⟨gb241, 5, none⟩ (.string t231)).setCell ⟨gb241, 6, none⟩ (.string t232)).setCell ⟨gb241, 7, none⟩ (.int .u64 t233)).setCell ⟨gb241, 8, none⟩ (.int .u16 t234)).setCell ⟨gb241, 9, none⟩ (.slice Ao19 t235.length co19)).setCell ⟨gb241, 10, none⟩ (.slice Ao20 t238.length co20)) w.heap.size (fun _ => True) (.slice Ao19 t235.length co19) t235) := ⟨by (with_reducible repeat (first | apply Kd.R_alloc | apply Kd.R_drewN | apply Kd.R_drew)); exact Kd.R_mono (Kd.R_far (p := ⟨gb241, 10, none⟩) (Kd.R_far (p := ⟨gb241, 9, none⟩) (Kd.R_far (p := ⟨gb241, 8, none⟩) (Kd.R_far (p := ⟨gb241, 7, none⟩) (Kd.R_far (p := ⟨gb241, 6, none⟩) (Kd.R_far (p := ⟨gb241, 5, none⟩) (Kd.R_far (p := ⟨gb241, 4, none⟩) (Kd.R_far (p := ⟨gb241, 3, none⟩) (Kd.R_far (p := ⟨gb241, 2, none⟩) (Kd.R_far (p := ⟨gb241, 1, none⟩) (Kd.R_far (p := ⟨gb241, 0, none⟩) (Kd.R_types HO237.out BK241.out (by decide)) (fun _ hk => hk.2) (.int .i64 t226)) (fun _ hk => hk.2) (.int .u32 t227)) (fun _ hk => hk.2) (.int .u8 t228)) (fun _ hk => hk.2) (.bool t229)) (fun _ hk => hk.2) (.int .u64 t230)) (fun _ hk => hk.2) (.string t231)) (fun _ hk => hk.2) (.string t232)) (fun _ hk => hk.2) (.int .u64 t233)) (fun _ hk => hk.2) (.int .u16 t234)) (fun _ hk => hk.2) (.slice Ao19 t235.length co19)) (fun _ hk => hk.2) (.slice Ao20 t238.length co20)) (fun _ hk => trivial)⟩
    have n1_ : Aside0 (Kd.R k45 45 (((((((((((w16.setCell ⟨gb241, 0, none⟩ (.int .i64 t226)).setCell ⟨gb241, 1, none⟩ (.int .u32 t227)).setCell ⟨gb241, 2, none⟩ (.int .u8 t228)).setCell ⟨gb241, 3, none⟩ (.bool t229)).setCell ⟨gb241, 4, none⟩ (.int .u64 t230)).setCell ⟨gb241, 5, none⟩ (.string t231)).setCell ⟨gb241, 6, none⟩ (.string t232)).setCell ⟨gb241, 7, none⟩ (.int .u64 t233)).setCell ⟨gb241, 8, none⟩ (.int .u16 t234)).setCell ⟨gb241, 9, none⟩ (.slice Ao19 t235.length co19)).setCell ⟨gb241, 10, none⟩ (.slice Ao20 t238.length co20)) w.heap.size (fun _ => True) (.slice Ao20 t238.length co20) t238) := ⟨by (with_reducible repeat (first | apply Kd.R_alloc | apply Kd.R_drewN | apply Kd.R_drew)); exact Kd.R_mono (Kd.R_far (p := ⟨gb241, 10, none⟩) (Kd.R_far (p := ⟨gb241, 9, none⟩) (Kd.R_far (p := ⟨gb241, 8, none⟩) (Kd.R_far (p := ⟨gb241, 7, none⟩) (Kd.R_far (p := ⟨gb241, 6, none⟩) (Kd.R_far (p := ⟨gb241, 5, none⟩) (Kd.R_far (p := ⟨gb241, 4, none⟩) (Kd.R_far (p := ⟨gb241, 3, none⟩) (Kd.R_far (p := ⟨gb241, 2, none⟩) (Kd.R_far (p := ⟨gb241, 1, none⟩) (Kd.R_far (p := ⟨gb241, 0, none⟩) (Kd.R_types HO240.out BK241.out (by decide)) (fun _ hk => hk.2) (.int .i64 t226)) (fun _ hk => hk.2) (.int .u32 t227)) (fun _ hk => hk.2) (.int .u8 t228)) (fun _ hk => hk.2) (.bool t229)) (fun _ hk => hk.2) (.int .u64 t230)) (fun _ hk => hk.2) (.string t231)) (fun _ hk => hk.2) (.string t232)) (fun _ hk => hk.2) (.int .u64 t233)) (fun _ hk => hk.2) (.int .u16 t234)) (fun _ hk => hk.2) (.slice Ao19 t235.length co19)) (fun _ hk => hk.2) (.slice Ao20 t238.length co20)) (fun _ hk => trivial)⟩
    have n2_ : Aside0 ((((((((((((w16.setCell ⟨gb241, 0, none⟩ (.int .i64 t226)).setCell ⟨gb241, 1, none⟩ (.int .u32 t227)).setCell ⟨gb241, 2, none⟩ (.int .u8 t228)).setCell ⟨gb241, 3, none⟩ (.bool t229)).setCell ⟨gb241, 4, none⟩ (.int .u64 t230)).setCell ⟨gb241, 5, none⟩ (.string t231)).setCell ⟨gb241, 6, none⟩ (.string t232)).setCell ⟨gb241, 7, none⟩ (.int .u64 t233)).setCell ⟨gb241, 8, none⟩ (.int .u16 t234)).setCell ⟨gb241, 9, none⟩ (.slice Ao19 t235.length co19)).setCell ⟨gb241, 10, none⟩ (.slice Ao20 t238.length co20)).heap[gb223]? = some (.cells #[.int .i64 a0_0, .int .u32 a0_1, .int .u8 a0_2, .bool a0_3, .int .u64 a0_4, .string a0_5, .string a0_6, .int .u64 a0_7, .int .u16 a0_8, .slice A0_9 l0_9.length c0_9, .slice A0_10 l0_10.length c0_10] 30 (0, 0))) := ⟨by (with_reducible repeat (first | refine blk_drewN ?_ _ | refine blk_drew ?_ | refine blk_alloc ?_ _)); refine blk_far ?_ NB223_241.out _; (with_reducible repeat (first | refine blk_drewN ?_ _ | refine blk_drew ?_ | refine blk_alloc ?_ _)); refine blk_far ?_ NB223_241.out _; (with_reducible repeat (first | refine blk_drewN ?_ _ | refine blk_drew ?_ | refine blk_alloc ?_ _)); refine blk_far ?_ NB223_241.out _; (with_reducible repeat (first | refine blk_drewN ?_ _ | refine blk_drew ?_ | refine blk_alloc ?_ _)); refine blk_far ?_ NB223_241.out _; (with_reducible repeat (first | refine blk_drewN ?_ _ | refine blk_drew ?_ | refine blk_alloc ?_ _)); refine blk_far ?_ NB223_241.out _; (with_reducible repeat (first | refine blk_drewN ?_ _ | refine blk_drew ?_ | refine blk_alloc ?_ _)); refine blk_far ?_ NB223_241.out _; (with_reducible repeat (first | refine blk_drewN ?_ _ | refine blk_drew ?_ | refine blk_alloc ?_ _)); refine blk_far ?_ NB223_241.out _; (with_reducible repeat (first | refine blk_drewN ?_ _ | refine blk_drew ?_ | refine blk_alloc ?_ _)); refine blk_far ?_ NB223_241.out _; (with_reducible repeat (first | refine blk_drewN ?_ _ | refine blk_drew ?_ | refine blk_alloc ?_ _)); refine blk_far ?_ NB223_241.out _; (with_reducible repeat (first | refine blk_drewN ?_ _ | refine blk_drew ?_ | refine blk_alloc ?_ _)); refine blk_far ?_ NB223_241.out _; (with_reducible repeat (first | refine blk_drewN ?_ _ | refine blk_drew ?_ | refine blk_alloc ?_ _)); refine blk_far ?_ NB223_241.out _; (with_reducible repeat (first | refine blk_drewN ?_ _ | refine blk_drew ?_ | refine blk_alloc ?_ _)); exact BK223.out⟩
    have n3_ : Aside0 ((((((((((((w16.setCell ⟨gb241, 0, none⟩ (.int .i64 t226)).setCell ⟨gb241, 1, none⟩ (.int .u32 t227)).setCell ⟨gb241, 2, none⟩ (.int .u8 t228)).setCell ⟨gb241, 3, none⟩ (.bool t229)).setCell ⟨gb241, 4, none⟩ (.int .u64 t230)).setCell ⟨gb241, 5, none⟩ (.string t231)).setCell ⟨gb241, 6, none⟩ (.string t232)).setCell ⟨gb241, 7, none⟩ (.int .u64 t233)).setCell ⟨gb241, 8, none⟩ (.int .u16 t234)).setCell ⟨gb241, 9, none⟩ (.slice Ao19 t235.length co19)).setCell ⟨gb241, 10, none⟩ (.slice Ao20 t238.length co20)).heap[gb241]? = some (.cells #[.int .i64 t226, .int .u32 t227, .int .u8 t228, .bool t229, .int .u64 t230, .string t231, .string t232, .int .u64 t233, .int .u16 t234, .slice Ao19 t235.length co19, .slice Ao20 t238.length co20] 30 (0, 0))) := ⟨by (with_reducible repeat (first | refine blk_drewN ?_ _ | refine blk_drew ?_ | refine blk_alloc ?_ _)); refine blk_put (cs := #[.int .i64 t226, .int .u32 t227, .int .u8 t228, .bool t229, .int .u64 t230, .string t231, .string t232, .int .u64 t233, .int .u16 t234, .slice Ao19 t235.length co19, .slice none 0 0]) ?_ 10 _ rfl; (with_reducible repeat (first | refine blk_drewN ?_ _ | refine blk_drew ?_ | refine blk_alloc ?_ _)); refine blk_put (cs := #[.int .i64 t226, .int .u32 t227, .int .u8 t228, .bool t229, .int .u64 t230, .string t231, .string t232, .int .u64 t233, .int .u16 t234, .slice none 0 0, .slice none 0 0]) ?_ 9 _ rfl; (with_reducible repeat (first | refine blk_drewN ?_ _ | refine blk_drew ?_ | refine blk_alloc ?_ _)); refine blk_put (cs := #[.int .i64 t226, .int .u32 t227, .int .u8 t228, .bool t229, .int .u64 t230, .string t231, .string t232, .int .u64 t233, .int .u16 0, .slice none 0 0, .slice none 0 0]) ?_ 8 _ rfl; (with_reducible repeat (first | refine blk_drewN ?_ _ | refine blk_drew ?_ | refine blk_alloc ?_ _)); refine blk_put (cs := #[.int .i64 t226, .int .u32 t227, .int .u8 t228, .bool t229, .int .u64 t230, .string t231, .string t232, .int .u64 0, .int .u16 0, .slice none 0 0, .slice none 0 0]) ?_ 7 _ rfl; (with_reducible repeat (first | refine blk_drewN ?_ _ | refine blk_drew ?_ | refine blk_alloc ?_ _)); refine blk_put (cs := #[.int .i64 t226, .int .u32 t227, .int .u8 t228, .bool t229, .int .u64 t230, .string t231, .string (⟨#[]⟩ : ByteArray), .int .u64 0, .int .u16 0, .slice none 0 0, .slice none 0 0]) ?_ 6 _ rfl; (with_reducible repeat (first | refine blk_drewN ?_ _ | refine blk_drew ?_ | refine blk_alloc ?_ _)); refine blk_put (cs := #[.int .i64 t226, .int .u32 t227, .int .u8 t228, .bool t229, .int .u64 t230, .string (⟨#[]⟩ : ByteArray), .string (⟨#[]⟩ : ByteArray), .int .u64 0, .int .u16 0, .slice none 0 0, .slice none 0 0]) ?_ 5 _ rfl; (with_reducible repeat (first | refine blk_drewN ?_ _ | refine blk_drew ?_ | refine blk_alloc ?_ _)); refine blk_put (cs := #[.int .i64 t226, .int .u32 t227, .int .u8 t228, .bool t229, .int .u64 0, .string (⟨#[]⟩ : ByteArray), .string (⟨#[]⟩ : ByteArray), .int .u64 0, .int .u16 0, .slice none 0 0, .slice none 0 0]) ?_ 4 _ rfl; (with_reducible repeat (first | refine blk_drewN ?_ _ | refine blk_drew ?_ | refine blk_alloc ?_ _)); refine blk_put (cs := #[.int .i64 t226, .int .u32 t227, .int .u8 t228, .bool false, .int .u64 0, .string (⟨#[]⟩ : ByteArray), .string (⟨#[]⟩ : ByteArray), .int .u64 0, .int .u16 0, .slice none 0 0, .slice none 0 0]) ?_ 3 _ rfl; (with_reducible repeat (first | refine blk_drewN ?_ _ | refine blk_drew ?_ | refine blk_alloc ?_ _)); refine blk_put (cs := #[.int .i64 t226, .int .u32 t227, .int .u8 0, .bool false, .int .u64 0, .string (⟨#[]⟩ : ByteArray), .string (⟨#[]⟩ : ByteArray), .int .u64 0, .int .u16 0, .slice none 0 0, .slice none 0 0]) ?_ 2 _ rfl; (with_reducible repeat (first | refine blk_drewN ?_ _ | refine blk_drew ?_ | refine blk_alloc ?_ _)); refine blk_put (cs := #[.int .i64 t226, .int .u32 0, .int .u8 0, .bool false, .int .u64 0, .string (⟨#[]⟩ : ByteArray), .string (⟨#[]⟩ : ByteArray), .int .u64 0, .int .u16 0, .slice none 0 0, .slice none 0 0]) ?_ 1 _ rfl; (with_reducible repeat (first | refine blk_drewN ?_ _ | refine blk_drew ?_ | refine blk_alloc ?_ _)); refine blk_put (cs := #[.int .i64 0, .int .u32 0, .int .u8 0, .bool false, .int .u64 0, .string (⟨#[]⟩ : ByteArray), .string (⟨#[]⟩ : ByteArray), .int .u64 0, .int .u16 0, .slice none 0 0, .slice none 0 0]) ?_ 0 _ rfl; (with_reducible repeat (first | refine blk_drewN ?_ _ | refine blk_drew ?_ | refine blk_alloc ?_ _)); exact BK241.out⟩
    have n4_ : Aside0 (Below w.heap.size w (((((((((((w16.setCell ⟨gb241, 0, none⟩ (.int .i64 t226)).setCell ⟨gb241, 1, none⟩ (.int .u32 t227)).setCell ⟨gb241, 2, none⟩ (.int .u8 t228)).setCell ⟨gb241, 3, none⟩ (.bool t229)).setCell ⟨gb241, 4, none⟩ (.int .u64 t230)).setCell ⟨gb241, 5, none⟩ (.string t231)).setCell ⟨gb241, 6, none⟩ (.string t232)).setCell ⟨gb241, 7, none⟩ (.int .u64 t233)).setCell ⟨gb241, 8, none⟩ (.int .u16 t234)).setCell ⟨gb241, 9, none⟩ (.slice Ao19 t235.length co19)).setCell ⟨gb241, 10, none⟩ (.slice Ao20 t238.length co20))) := ⟨by repeat (first | (with_reducible first | exact HB.out | apply below_alloc | apply pw_below_drewN | apply below_drew1 | refine below_set ?_ GE223.out | refine below_set ?_ GE241.out) | exact HB.out)⟩
    (try clear HO237)
    (try clear HO240)
    (try clear BK223)
    (try clear BK241)
    (try clear HB)
    generalize (((((((((((w16.setCell ⟨gb241, 0, none⟩ (.int .i64 t226)).setCell ⟨gb241, 1, none⟩ (.int .u32 t227)).setCell ⟨gb241, 2, none⟩ (.int .u8 t228)).setCell ⟨gb241, 3, none⟩ (.bool t229)).setCell ⟨gb241, 4, none⟩ (.int .u64 t230)).setCell ⟨gb241, 5, none⟩ (.string t231)).setCell ⟨gb241, 6, none⟩ (.string t232)).setCell ⟨gb241, 7, none⟩ (.int .u64 t233)).setCell ⟨gb241, 8, none⟩ (.int .u16 t234)).setCell ⟨gb241, 9, none⟩ (.slice Ao19 t235.length co19)).setCell ⟨gb241, 10, none⟩ (.slice Ao20 t238.length co20)) = w32 at n0_ n1_ n2_ n3_ n4_ ⊢
    have HO237 := n0_
    have HO240 := n1_
    have BK223 := n2_
    have BK241 := n3_
    have HB := n4_
    clear n0_ n1_ n2_ n3_ n4_
    have n0_ := Aside0.mk (Kd.R_drew HO237.out)
    have n1_ := Aside0.mk (Kd.R_drew HO240.out)
    have n2_ := Aside0.mk (blk_drew BK223.out)
    have n3_ := Aside0.mk (blk_drew BK241.out)
    have n4_ := Aside0.mk (below_drew1 HB.out)
    clear HO237
    clear HO240
    clear BK223
    clear BK241
    clear HB
    have HO237 := n0_
    have HO240 := n1_
    have BK223 := n2_
    have BK241 := n3_
    have HB := n4_
    clear n0_ n1_ n2_ n3_ n4_
    refine start_ (n := 10) (S := fun w' => w'.cell? ⟨gb241, 0, none⟩ = some (.int .i64 t226) ∧ w'.cell? ⟨gb241, 1, none⟩ = some (.int .u32 t227) ∧ w'.cell? ⟨gb241, 2, none⟩ = some (.int .u8 t228) ∧ w'.cell? ⟨gb241, 3, none⟩ = some (.bool t229) ∧ w'.cell? ⟨gb241, 4, none⟩ = some (.int .u64 t230) ∧ w'.cell? ⟨gb241, 5, none⟩ = some (.string t231) ∧ w'.cell? ⟨gb241, 6, none⟩ = some (.string t232) ∧ w'.cell? ⟨gb241, 7, none⟩ = some (.int .u64 t233) ∧ w'.cell? ⟨gb241, 8, none⟩ = some (.int .u16 t234) ∧ w'.cell? ⟨gb241, 9, none⟩ = some (.slice Ao19 t235.length co19) ∧ w'.cell? ⟨gb241, 10, none⟩ = some (.slice Ao20 t238.length co20)) (ds := []) #[false, false, false, false, false, false, false, false, false, false] (by kernel_rfl) rfl rfl ⟨(blk_cell BK241.out 0).trans rfl, (blk_cell BK241.out 1).trans rfl, (blk_cell BK241.out 2).trans rfl, (blk_cell BK241.out 3).trans rfl, (blk_cell BK241.out 4).trans rfl, (blk_cell BK241.out 5).trans rfl, (blk_cell BK241.out 6).trans rfl, (blk_cell BK241.out 7).trans rfl, (blk_cell BK241.out 8).trans rfl, (blk_cell BK241.out 9).trans rfl, (blk_cell BK241.out 10).trans rfl⟩ (fun hHeld => ?_); refine with_tabW annuletlaw08_MsgClean.tab4 annuletlaw08_MsgClean.bits4 (fun HT_ HW_ => ?_)
    generalize w32.drew = w33 at HO237 HO240 BK223 BK241 HB hHeld ⊢
    refine take_ (i := 0) (N := some 9) (v := ?_) (a' := ?_) #[true, false, false, false, false, false, false, false, false, false] rfl rfl (take_ofW HT_.out HW_.out (by kernel_rfl)) (fun _ _ _ h => h) (Or.inl ⟨by rfl, ?_⟩) hHeld ?_ ?_
    rotate_left
    ·rintro w' ⟨s0, s1, s2, s3, s4, s5, s6, s7, s8, s9, s10⟩
     go_simp
     with_reducible rfl
    rotate_left
    ·simp only [Act.put, List.setIfInBounds_toArray, List.set_cons_zero, List.set_cons_succ, i64_w, i32_w]
     rfl
    refine take_ (i := 2) (N := some 11) (v := ?_) (a' := ?_) #[true, false, true, false, false, false, false, false, false, false] rfl rfl (take_ofW HT_.out HW_.out (by kernel_rfl)) (fun _ _ _ h => h) (Or.inl ⟨by rfl, ?_⟩) hHeld ?_ ?_
    rotate_left
    ·rintro w' ⟨s0, s1, s2, s3, s4, s5, s6, s7, s8, s9, s10⟩
     go_simp
     with_reducible rfl
    rotate_left
    ·simp only [Act.put, List.setIfInBounds_toArray, List.set_cons_zero, List.set_cons_succ, i64_w, i32_w]
     rfl
    refine one_ (i := 1) (N := some 10) #[true, true, true, false, false, false, false, false, false, false] rfl rfl (one_of HT_.out (by kernel_rfl)) (by decide) (fun K hK => ?_)
    refine goes_ Tryd.func21 (by kernel_rfl) rfl #[.agg #[.int .i64 t226, .int .u32 t227, .int .u8 t228, .bool t229, .int .u64 t230, .string t231, .string t232, .int .u64 t233, .int .u16 t234, .slice Ao19 t235.length co19, .slice Ao20 t238.length co20]] (by rfl) rfl rfl (by (try simp only [List.map_toArray, List.map_cons, List.map_nil]); first | done | rfl | (simp only [List.length_drop, List.length_take]; rfl)) ?_
    with_reducible refine (msg_Bare.calls k t226 t227 t228 t229 t230 t231 t232 t233 t234 _ _ t235 _ _ t238 t242 t243 t244 t245 t246 t247 t248 t249 t250 t251 t254 _ ?side1 ?side2 ?side3 ?side4 A21.out).mono ?_
    (case side1 => repeat (first | exact (Kd.R_reads' HO237.out).2.2 | (with_reducible refine Kd.C_alloc ?_ _) | (with_reducible refine Kd.C_drewN ?_ _) | (with_reducible refine Kd.C_drew ?_)))
    (case side2 => exact (Kd.R_reads' HO237.out).2.1)
    (case side3 => repeat (first | exact (Kd.R_reads' HO240.out).2.2 | (with_reducible refine Kd.C_alloc ?_ _) | (with_reducible refine Kd.C_drewN ?_ _) | (with_reducible refine Kd.C_drew ?_)))
    (case side4 => exact (Kd.R_reads' HO240.out).2.1)
    rintro e w34 ⟨v252, v255, rfl, ho0, ho1, hb⟩
    refine ⟨_, rfl, ?_⟩
    have n0_ := Aside0.mk (Kd.R_elder' (by (with_reducible repeat (first | apply Kd.R_alloc | apply Kd.R_drewN | apply Kd.R_drew)); exact HO237.out) (Kd.R_base ho0) hb)
    have n1_ := Aside0.mk (Kd.R_elder' (by (with_reducible repeat (first | apply Kd.R_alloc | apply Kd.R_drewN | apply Kd.R_drew)); exact HO240.out) (Kd.R_base ho1) hb)
    have n2_ := Aside0.mk (Kd.R_lower (Kd.R_new' ho0 (Kd.R_lt (by (with_reducible repeat (first | apply Kd.R_alloc | apply Kd.R_drewN | apply Kd.R_drew)); exact HO237.out))) (below_size (by repeat (first | (with_reducible first | exact HB.out | apply below_alloc | apply pw_below_drewN | apply below_drew1 | refine below_set ?_ GE223.out | refine below_set ?_ GE241.out) | exact HB.out))))
    have n3_ := Aside0.mk (Kd.R_lower (Kd.R_new' ho1 (Kd.R_lt (by (with_reducible repeat (first | apply Kd.R_alloc | apply Kd.R_drewN | apply Kd.R_drew)); exact HO240.out))) (below_size (by repeat (first | (with_reducible first | exact HB.out | apply below_alloc | apply pw_below_drewN | apply below_drew1 | refine below_set ?_ GE223.out | refine below_set ?_ GE241.out) | exact HB.out))))
    have n4_ := Aside0.mk (blk_below (g := gb223) (o := .cells #[.int .i64 a0_0, .int .u32 a0_1, .int .u8 a0_2, .bool a0_3, .int .u64 a0_4, .string a0_5, .string a0_6, .int .u64 a0_7, .int .u16 a0_8, .slice A0_9 l0_9.length c0_9, .slice A0_10 l0_10.length c0_10] 30 (0, 0)) (by (with_reducible repeat (first | refine blk_drewN ?_ _ | refine blk_drew ?_ | refine blk_alloc ?_ _)); exact BK223.out) hb)
    have n5_ := Aside0.mk (blk_below (g := gb241) (o := .cells #[.int .i64 t226, .int .u32 t227, .int .u8 t228, .bool t229, .int .u64 t230, .string t231, .string t232, .int .u64 t233, .int .u16 t234, .slice Ao19 t235.length co19, .slice Ao20 t238.length co20] 30 (0, 0)) (by (with_reducible repeat (first | refine blk_drewN ?_ _ | refine blk_drew ?_ | refine blk_alloc ?_ _)); exact BK241.out) hb)
    have n6_ := Aside0.mk (below_step (by repeat (first | (with_reducible first | exact HB.out | apply below_alloc | apply pw_below_drewN | apply below_drew1 | refine below_set ?_ GE223.out | refine below_set ?_ GE241.out) | exact HB.out)) hb)
    clear HO237
    clear HO240
    clear BK223
    clear BK241
    clear HB
    have HO237 := n0_
    have HO240 := n1_
    have HO253 := n2_
    have HO256 := n3_
    have BK223 := n4_
    have BK241 := n5_
    have HB := n6_
    clear n0_ n1_ n2_ n3_ n4_ n5_ n6_
    (try clear hb)
    (try clear hb2)
    (try clear hk)
    (try clear hi)
    (try clear ho0)
    (try clear ho1)
    obtain ⟨Ao35, co35, eo35⟩ := Kd.R_slice HO253.out
    (first | subst eo35 | (injection eo35 with f1_ f2_ f3_; have f4_ := f1_.symm; have f5_ := f3_.symm; clear f1_ f2_ f3_; subst f4_; subst f5_))
    obtain ⟨Ao36, co36, eo36⟩ := Kd.R_slice HO256.out
    (first | subst eo36 | (injection eo36 with f1_ f2_ f3_; have f4_ := f1_.symm; have f5_ := f3_.symm; clear f1_ f2_ f3_; subst f4_; subst f5_))
    refine hK.out _ _ ⟨(blk_cell BK241.out 0).trans rfl, (blk_cell BK241.out 1).trans rfl, (blk_cell BK241.out 2).trans rfl, (blk_cell BK241.out 3).trans rfl, (blk_cell BK241.out 4).trans rfl, (blk_cell BK241.out 5).trans rfl, (blk_cell BK241.out 6).trans rfl, (blk_cell BK241.out 7).trans rfl, (blk_cell BK241.out 8).trans rfl, (blk_cell BK241.out 9).trans rfl, (blk_cell BK241.out 10).trans rfl⟩ (fun hHeld => ?_)
    clear hK K
    refine norm_ (a' := ?_) ?_ ?_
    rotate_left
    ·show Act.put _ (some 10) _ = _
     simp only [Act.put, List.setIfInBounds_toArray, List.set_cons_zero, List.set_cons_succ, i64_w, i32_w]
     rfl
    refine one_ (i := 3) (N := some 12) #[true, true, true, true, false, false, false, false, false, false] rfl rfl (one_of HT_.out (by kernel_rfl)) (by decide) (fun K hK => ?_)
    refine goes_ Tryd.func22 (by kernel_rfl) rfl #[.agg #[.int .i64 t242, .int .u32 t243, .int .u8 t244, .bool t245, .int .u64 t246, .string t247, .string t248, .int .u64 t249, .int .u16 t250, .slice Ao35 t251.length co35, .slice Ao36 t254.length co36], .agg #[.int .i64 t226, .int .u32 t227, .int .u8 t228, .bool t229, .int .u64 t230, .string t231, .string t232, .int .u64 t233, .int .u16 t234, .slice Ao19 t235.length co19, .slice Ao20 t238.length co20]] (by rfl) rfl rfl (by (try simp only [List.map_toArray, List.map_cons, List.map_nil]); first | done | rfl | (simp only [List.length_drop, List.length_take]; rfl)) ?_
    with_reducible refine (msg_Same.calls k t242 t243 t244 t245 t246 t247 t248 t249 t250 _ _ t251 _ _ t254 t226 t227 t228 t229 t230 t231 t232 t233 t234 _ _ t235 _ _ t238 false _ ?side1 ?side2 ?side3 ?side4 ?side5 ?side6 ?side7 ?side8 A22.out).mono ?_
    (case side1 => repeat (first | exact (Kd.R_reads' HO253.out).2.2 | (with_reducible refine Kd.C_alloc ?_ _) | (with_reducible refine Kd.C_drewN ?_ _) | (with_reducible refine Kd.C_drew ?_)))
    (case side2 => exact (Kd.R_reads' HO253.out).2.1)
    (case side3 => repeat (first | exact (Kd.R_reads' HO256.out).2.2 | (with_reducible refine Kd.C_alloc ?_ _) | (with_reducible refine Kd.C_drewN ?_ _) | (with_reducible refine Kd.C_drew ?_)))
    (case side4 => exact (Kd.R_reads' HO256.out).2.1)
    (case side5 => repeat (first | exact (Kd.R_reads' HO237.out).2.2 | (with_reducible refine Kd.C_alloc ?_ _) | (with_reducible refine Kd.C_drewN ?_ _) | (with_reducible refine Kd.C_drew ?_)))
    (case side6 => exact (Kd.R_reads' HO237.out).2.1)
    (case side7 => repeat (first | exact (Kd.R_reads' HO240.out).2.2 | (with_reducible refine Kd.C_alloc ?_ _) | (with_reducible refine Kd.C_drewN ?_ _) | (with_reducible refine Kd.C_drew ?_)))
    (case side8 => exact (Kd.R_reads' HO240.out).2.1)
    rintro e w37 ⟨rfl, hb⟩
    refine ⟨_, rfl, ?_⟩
    have n0_ := Aside0.mk (Kd.R_below (by (with_reducible repeat (first | apply Kd.R_alloc | apply Kd.R_drewN | apply Kd.R_drew)); exact HO237.out) hb)
    have n1_ := Aside0.mk (Kd.R_below (by (with_reducible repeat (first | apply Kd.R_alloc | apply Kd.R_drewN | apply Kd.R_drew)); exact HO240.out) hb)
    have n2_ := Aside0.mk (Kd.R_below (by (with_reducible repeat (first | apply Kd.R_alloc | apply Kd.R_drewN | apply Kd.R_drew)); exact HO253.out) hb)
    have n3_ := Aside0.mk (Kd.R_below (by (with_reducible repeat (first | apply Kd.R_alloc | apply Kd.R_drewN | apply Kd.R_drew)); exact HO256.out) hb)
    have n4_ := Aside0.mk (blk_below (g := gb223) (o := .cells #[.int .i64 a0_0, .int .u32 a0_1, .int .u8 a0_2, .bool a0_3, .int .u64 a0_4, .string a0_5, .string a0_6, .int .u64 a0_7, .int .u16 a0_8, .slice A0_9 l0_9.length c0_9, .slice A0_10 l0_10.length c0_10] 30 (0, 0)) (by (with_reducible repeat (first | refine blk_drewN ?_ _ | refine blk_drew ?_ | refine blk_alloc ?_ _)); exact BK223.out) hb)
    have n5_ := Aside0.mk (blk_below (g := gb241) (o := .cells #[.int .i64 t226, .int .u32 t227, .int .u8 t228, .bool t229, .int .u64 t230, .string t231, .string t232, .int .u64 t233, .int .u16 t234, .slice Ao19 t235.length co19, .slice Ao20 t238.length co20] 30 (0, 0)) (by (with_reducible repeat (first | refine blk_drewN ?_ _ | refine blk_drew ?_ | refine blk_alloc ?_ _)); exact BK241.out) hb)
    have n6_ := Aside0.mk (below_step (by repeat (first | (with_reducible first | exact HB.out | apply below_alloc | apply pw_below_drewN | apply below_drew1 | refine below_set ?_ GE223.out | refine below_set ?_ GE241.out) | exact HB.out)) hb)
    clear HO237
    clear HO240
    clear HO253
    clear HO256
    clear BK223
    clear BK241
    clear HB
    have HO237 := n0_
    have HO240 := n1_
    have HO253 := n2_
    have HO256 := n3_
    have BK223 := n4_
    have BK241 := n5_
    have HB := n6_
    clear n0_ n1_ n2_ n3_ n4_ n5_ n6_
    (try clear hb)
    (try clear hb2)
    (try clear hk)
    (try clear hi)
    refine hK.out _ _ ⟨(blk_cell BK241.out 0).trans rfl, (blk_cell BK241.out 1).trans rfl, (blk_cell BK241.out 2).trans rfl, (blk_cell BK241.out 3).trans rfl, (blk_cell BK241.out 4).trans rfl, (blk_cell BK241.out 5).trans rfl, (blk_cell BK241.out 6).trans rfl, (blk_cell BK241.out 7).trans rfl, (blk_cell BK241.out 8).trans rfl, (blk_cell BK241.out 9).trans rfl, (blk_cell BK241.out 10).trans rfl⟩ (fun hHeld => ?_)
    clear hK K
    refine norm_ (a' := ?_) ?_ ?_
    rotate_left
    ·show Act.put _ (some 12) _ = _
     simp only [Act.put, List.setIfInBounds_toArray, List.set_cons_zero, List.set_cons_succ, i64_w, i32_w]
     rfl
    refine pure_ (i := 4) (N := some 13) (v := ?_) (a' := ?_) #[true, true, true, true, true, false, false, false, false, false] rfl rfl (any_of HT_.out (by kernel_rfl)) (fun _ _ _ h => h) (Or.inl ⟨by rfl, ?_⟩) ?_ ?_
    rotate_left
    ·intro w'
     go_simp
     with_reducible rfl
    rotate_left
    ·simp only [Act.put, List.setIfInBounds_toArray, List.set_cons_zero, List.set_cons_succ, i64_w, i32_w]
     rfl
    refine pure_ (i := 5) (N := some 14) (v := ?_) (a' := ?_) #[true, true, true, true, true, true, false, false, false, false] rfl rfl (any_of HT_.out (by kernel_rfl)) (fun _ _ _ h => h) (Or.inl ⟨by rfl, ?_⟩) ?_ ?_
    rotate_left
    ·intro w'
     go_simp
     with_reducible rfl
    rotate_left
    ·simp only [Act.put, List.setIfInBounds_toArray, List.set_cons_zero, List.set_cons_succ, i64_w, i32_w]
     rfl
    refine pure_ (i := 6) (N := some 15) (v := undef) (a' := ?_) #[true, true, true, true, true, true, true, false, false, false] rfl rfl (any_of HT_.out (by kernel_rfl)) (fun _ _ _ h => h) (Or.inr ⟨by rfl, rfl⟩) ?_ ?_
    rotate_left
    ·simp only [Act.put, List.setIfInBounds_toArray, List.set_cons_zero, List.set_cons_succ, i64_w, i32_w]
     rfl
    refine pure_ (i := 7) (N := some 16) (v := undef) (a' := ?_) #[true, true, true, true, true, true, true, true, false, false] rfl rfl (any_of HT_.out (by kernel_rfl)) (fun _ _ _ h => h) (Or.inr ⟨by rfl, rfl⟩) ?_ ?_
    rotate_left
    ·simp only [Act.put, List.setIfInBounds_toArray, List.set_cons_zero, List.set_cons_succ, i64_w, i32_w]
     rfl
    refine pure_ (i := 8) (N := some 17) (v := undef) (a' := ?_) #[true, true, true, true, true, true, true, true, true, false] rfl rfl (any_of HT_.out (by kernel_rfl)) (fun _ _ _ h => h) (Or.inr ⟨by rfl, rfl⟩) ?_ ?_
    rotate_left
    ·simp only [Act.put, List.setIfInBounds_toArray, List.set_cons_zero, List.set_cons_succ, i64_w, i32_w]
     rfl
    refine pure_ (i := 9) (N := some 18) (v := ?_) (a' := ?_) #[true, true, true, true, true, true, true, true, true, true] rfl rfl (any_of HT_.out (by kernel_rfl)) (fun _ _ _ h => h) (Or.inl ⟨by rfl, ?_⟩) ?_ ?_
    rotate_left
    ·intro w'
     go_simp
     with_reducible rfl
    rotate_left
    ·simp only [Act.put, List.setIfInBounds_toArray, List.set_cons_zero, List.set_cons_succ, i64_w, i32_w]
     rfl
    refine done_ (done_of HT_.out (by kernel_rfl)) ?_
    try go_wp2
    go_meet
    case rel => exact ⟨_, (true), (by first | rfl | (simp; done) | (simp [*]; done)), H', ⟨by first | omega | exact Nat.le_refl _⟩, ⟨by (with_reducible repeat (first | apply Kd.R_alloc | apply Kd.R_drewN | apply Kd.R_drew)); exact Kd.R_mono HO237.out (fun _ hk => trivial)⟩, ⟨by (with_reducible repeat (first | apply Kd.R_alloc | apply Kd.R_drewN | apply Kd.R_drew)); exact Kd.R_mono HO240.out (fun _ hk => trivial)⟩, ⟨by (with_reducible repeat (first | refine blk_drewN ?_ _ | refine blk_drew ?_ | refine blk_alloc ?_ _)); exact BK223.out⟩, ⟨by (with_reducible repeat (first | refine blk_drewN ?_ _ | refine blk_drew ?_ | refine blk_alloc ?_ _)); exact BK241.out⟩, ⟨by repeat (first | (with_reducible first | exact HB.out | apply below_alloc | apply pw_below_drewN | apply below_drew1 | refine below_set ?_ GE223.out | refine below_set ?_ GE241.out) | exact HB.out)⟩⟩
  case rest =>
   clear HC10
   try clear c1
   try clear c2
   try clear p2
   try clear c3
   try clear c5
   try clear c7
   try clear c8
   try clear c9
   try clear c17
   try clear c21
   try clear c22
   try clear c23
   try clear hcz12_0
   try clear hcz12_1
   try clear hcz12_10
   try clear hcz12_2
   try clear hcz12_3
   try clear hcz12_4
   try clear hcz12_5
   try clear hcz12_6
   try clear hcz12_7
   try clear hcz12_8
   try clear hcz12_9
   try clear hcz14_0
   try clear hcz14_1
   try clear hcz14_10
   try clear hcz14_2
   try clear hcz14_3
   try clear hcz14_4
   try clear hcz14_5
   try clear hcz14_6
   try clear hcz14_7
   try clear hcz14_8
   try clear hcz14_9
   try clear hcz18_0
   try clear hcz18_1
   try clear hcz18_10
   try clear hcz18_2
   try clear hcz18_3
   try clear hcz18_4
   try clear hcz18_5
   try clear hcz18_6
   try clear hcz18_7
   try clear hcz18_8
   try clear hcz18_9
   try clear hcz6_0
   try clear hcz6_1
   try clear hcz6_10
   try clear hcz6_2
   try clear hcz6_3
   try clear hcz6_4
   try clear hcz6_5
   try clear hcz6_6
   try clear hcz6_7
   try clear hcz6_8
   try clear hcz6_9
   try clear hfz12_0
   try clear hfz12_1
   try clear hfz12_10
   try clear hfz12_2
   try clear hfz12_3
   try clear hfz12_4
   try clear hfz12_5
   try clear hfz12_6
   try clear hfz12_7
   try clear hfz12_8
   try clear hfz12_9
   try clear hfz14_0
   try clear hfz14_1
   try clear hfz14_10
   try clear hfz14_2
   try clear hfz14_3
   try clear hfz14_4
   try clear hfz14_5
   try clear hfz14_6
   try clear hfz14_7
   try clear hfz14_8
   try clear hfz14_9
   try clear hfz18_0
   try clear hfz18_1
   try clear hfz18_10
   try clear hfz18_2
   try clear hfz18_3
   try clear hfz18_4
   try clear hfz18_5
   try clear hfz18_6
   try clear hfz18_7
   try clear hfz18_8
   try clear hfz18_9
   try clear hfz6_0
   try clear hfz6_1
   try clear hfz6_10
   try clear hfz6_2
   try clear hfz6_3
   try clear hfz6_4
   try clear hfz6_5
   try clear hfz6_6
   try clear hfz6_7
   try clear hfz6_8
   try clear hfz6_9
   obtain ⟨kq, x18_9, rfl, HA, HJ9, HO_242009, HO_242010, BK223, BK241, HB⟩ := hcut
   cases kq with
   | zero => exact absurd HA.out (by simp [annuletlaw08_MsgClean.j0])
   | succ kj9 =>
    have H := HA.out
    clear HA
    simp only [annuletlaw08_MsgClean.j0] at H
    by_cases c38 : x18_9 = true
    ·subst c38
     have H1 : (none) = some r := by rw [if_pos rfl] at H; exact H
     clear H
     have H := H1
     clear H1
     exact absurd H (by simp)
    ·replace c38 := Bool.eq_false_iff.mpr c38
     subst c38
     have H1 : ((msg_Right.f kj9 a0_0 a0_1 a0_2 a0_3 a0_4 a0_5 a0_6 a0_7 a0_8 l0_9 l0_10).bind fun t259 => (if t259 = 0 then ((msg_Same.f kj9 a0_0 a0_1 a0_2 a0_3 a0_4 a0_5 a0_6 a0_7 a0_8 l0_9 l0_10 t226 t227 t228 t229 t230 t231 t232 t233 t234 t235 t238).bind fun t260 => (if t260 = true then ((annuletlaw08_awake.f kj9).bind fun t261 => (some t261)) else (none))) else ((annuletlaw08_awake.f kj9).bind fun t262 => (some t262)))) = some r := by rw [if_neg (show ¬ (false = true) by decide)] at H; exact H
     clear H
     have H := H1
     clear H1
     replace H := Option.bind_eq_some_iff.mp H
     obtain ⟨t259, A390, H⟩ := H
     replace H : (if t259 = 0 then ((msg_Same.f kj9 a0_0 a0_1 a0_2 a0_3 a0_4 a0_5 a0_6 a0_7 a0_8 l0_9 l0_10 t226 t227 t228 t229 t230 t231 t232 t233 t234 t235 t238).bind fun t260 => (if t260 = true then ((annuletlaw08_awake.f kj9).bind fun t261 => (some t261)) else (none))) else ((annuletlaw08_awake.f kj9).bind fun t262 => (some t262))) = some r := H
     have A39 := Aside0.mk A390
     clear A390
     by_cases c40 : t259 = 0
     ·rw [if_pos c40] at H
      have c40b0 : (t259 == 0) = true := beq_iff_eq.mpr c40
      have c40b1 : (t259 != 0) = false := bne_eq_false_iff_eq.mpr c40
      clear c40
      replace H := Option.bind_eq_some_iff.mp H
      obtain ⟨t260, A410, H⟩ := H
      replace H : (if t260 = true then ((annuletlaw08_awake.f kj9).bind fun t261 => (some t261)) else (none)) = some r := H
      have A41 := Aside0.mk A410
      clear A410
      by_cases c42 : t260 = true
      ·subst c42
       have H1 : ((annuletlaw08_awake.f kj9).bind fun t261 => (some t261)) = some r := by rw [if_pos rfl] at H; exact H
       clear H
       have H := H1
       clear H1
       replace H := Option.bind_eq_some_iff.mp H
       obtain ⟨t261, A430, H⟩ := H
       replace H : (some t261) = some r := H
       have A43 := Aside0.mk A430
       clear A430
       obtain rfl := Option.some.inj H
       have hnb44 := NB223_241.out
       have hnc44 := NB241_223.out
       have hcz45_0 : wc.cell? ⟨gb223, 0, none⟩ = some (.int .i64 a0_0) := (blk_cell BK223.out 0).trans rfl
       have hcz45_1 : wc.cell? ⟨gb223, 1, none⟩ = some (.int .u32 a0_1) := (blk_cell BK223.out 1).trans rfl
       have hcz45_2 : wc.cell? ⟨gb223, 2, none⟩ = some (.int .u8 a0_2) := (blk_cell BK223.out 2).trans rfl
       have hcz45_3 : wc.cell? ⟨gb223, 3, none⟩ = some (.bool a0_3) := (blk_cell BK223.out 3).trans rfl
       have hcz45_4 : wc.cell? ⟨gb223, 4, none⟩ = some (.int .u64 a0_4) := (blk_cell BK223.out 4).trans rfl
       have hcz45_5 : wc.cell? ⟨gb223, 5, none⟩ = some (.string a0_5) := (blk_cell BK223.out 5).trans rfl
       have hcz45_6 : wc.cell? ⟨gb223, 6, none⟩ = some (.string a0_6) := (blk_cell BK223.out 6).trans rfl
       have hcz45_7 : wc.cell? ⟨gb223, 7, none⟩ = some (.int .u64 a0_7) := (blk_cell BK223.out 7).trans rfl
       have hcz45_8 : wc.cell? ⟨gb223, 8, none⟩ = some (.int .u16 a0_8) := (blk_cell BK223.out 8).trans rfl
       have hcz45_9 : wc.cell? ⟨gb223, 9, none⟩ = some (.slice A0_9 l0_9.length c0_9) := (blk_cell BK223.out 9).trans rfl
       have hcz45_10 : wc.cell? ⟨gb223, 10, none⟩ = some (.slice A0_10 l0_10.length c0_10) := (blk_cell BK223.out 10).trans rfl
       have hfz45_0 := blk_frozen BK223.out 0
       have hfz45_1 := blk_frozen BK223.out 1
       have hfz45_2 := blk_frozen BK223.out 2
       have hfz45_3 := blk_frozen BK223.out 3
       have hfz45_4 := blk_frozen BK223.out 4
       have hfz45_5 := blk_frozen BK223.out 5
       have hfz45_6 := blk_frozen BK223.out 6
       have hfz45_7 := blk_frozen BK223.out 7
       have hfz45_8 := blk_frozen BK223.out 8
       have hfz45_9 := blk_frozen BK223.out 9
       have hfz45_10 := blk_frozen BK223.out 10
       go_wp2_with (first | ((with_reducible refine gate_callee (f := 9) rfl ?_); refine goesL_ (some 20) rfl rfl Tryd.func9 (by kernel_rfl) rfl #[.agg #[.int .i64 a0_0, .int .u32 a0_1, .int .u8 a0_2, .bool a0_3, .int .u64 a0_4, .string a0_5, .string a0_6, .int .u64 a0_7, .int .u16 a0_8, .slice A0_9 l0_9.length c0_9, .slice A0_10 l0_10.length c0_10]] rfl (by (try simp only [List.map_toArray, List.map_cons, List.map_nil]); first | done | rfl | (simp only [List.length_drop, List.length_take]; rfl)) ?_; (with_reducible refine (msg_Right.calls kj9 a0_0 a0_1 a0_2 a0_3 a0_4 a0_5 a0_6 a0_7 a0_8 _ _ l0_9 _ _ l0_10 t259 _ ?side1 ?side2 ?side3 ?side4 ?side5 A39.out).mono ?_); (case side1 => repeat (first | exact (Kd.C_below HR0_9.out HB.out) | (with_reducible refine Kd.C_alloc ?_ _) | (with_reducible refine Kd.C_drewN ?_ _) | (with_reducible refine Kd.C_drew ?_))); (case side2 => exact HC0_9.out); (case side3 => repeat (first | exact (Kd.C_below HR0_10.out HB.out) | (with_reducible refine Kd.C_alloc ?_ _) | (with_reducible refine Kd.C_drewN ?_ _) | (with_reducible refine Kd.C_drew ?_))); (case side4 => exact HC0_10.out); (case side5 => refine tabs_later HTB.out ?_; repeat (first | (with_reducible first | exact HB.out | apply below_alloc | apply pw_below_drewN | apply below_drew1 | refine below_set ?_ GE223.out | refine below_set ?_ GE241.out) | exact HB.out)); rintro e w46 ⟨rfl, hb⟩; refine ⟨_, rfl, ?_⟩; have n0_ := Aside0.mk (Kd.R_below (by (with_reducible repeat (first | apply Kd.R_alloc | apply Kd.R_drewN | apply Kd.R_drew)); exact HO_242009.out) hb); have n1_ := Aside0.mk (Kd.R_below (by (with_reducible repeat (first | apply Kd.R_alloc | apply Kd.R_drewN | apply Kd.R_drew)); exact HO_242010.out) hb); have n2_ := Aside0.mk (blk_below (g := gb223) (o := .cells #[.int .i64 a0_0, .int .u32 a0_1, .int .u8 a0_2, .bool a0_3, .int .u64 a0_4, .string a0_5, .string a0_6, .int .u64 a0_7, .int .u16 a0_8, .slice A0_9 l0_9.length c0_9, .slice A0_10 l0_10.length c0_10] 30 (0, 0)) (by (with_reducible repeat (first | refine blk_drewN ?_ _ | refine blk_drew ?_ | refine blk_alloc ?_ _)); exact BK223.out) hb); have n3_ := Aside0.mk (blk_below (g := gb241) (o := .cells #[.int .i64 t226, .int .u32 t227, .int .u8 t228, .bool t229, .int .u64 t230, .string t231, .string t232, .int .u64 t233, .int .u16 t234, .slice Ao19 t235.length co19, .slice Ao20 t238.length co20] 30 (0, 0)) (by (with_reducible repeat (first | refine blk_drewN ?_ _ | refine blk_drew ?_ | refine blk_alloc ?_ _)); exact BK241.out) hb); have n4_ := Aside0.mk (below_step (by repeat (first | (with_reducible first | exact HB.out | apply below_alloc | apply pw_below_drewN | apply below_drew1 | refine below_set ?_ GE223.out | refine below_set ?_ GE241.out) | exact HB.out)) hb); clear HO_242009; clear HO_242010; clear BK223; clear BK241; clear HB; have HO_242009 := n0_; have HO_242010 := n1_; have BK223 := n2_; have BK241 := n3_; have HB := n4_; clear n0_ n1_ n2_ n3_ n4_; (try clear hb); (try clear hb2); (try clear hk); (try clear hi); have hcz47_0 : w46.cell? ⟨gb223, 0, none⟩ = some (.int .i64 a0_0) := (blk_cell BK223.out 0).trans rfl; have hcz47_1 : w46.cell? ⟨gb223, 1, none⟩ = some (.int .u32 a0_1) := (blk_cell BK223.out 1).trans rfl; have hcz47_2 : w46.cell? ⟨gb223, 2, none⟩ = some (.int .u8 a0_2) := (blk_cell BK223.out 2).trans rfl; have hcz47_3 : w46.cell? ⟨gb223, 3, none⟩ = some (.bool a0_3) := (blk_cell BK223.out 3).trans rfl; have hcz47_4 : w46.cell? ⟨gb223, 4, none⟩ = some (.int .u64 a0_4) := (blk_cell BK223.out 4).trans rfl; have hcz47_5 : w46.cell? ⟨gb223, 5, none⟩ = some (.string a0_5) := (blk_cell BK223.out 5).trans rfl; have hcz47_6 : w46.cell? ⟨gb223, 6, none⟩ = some (.string a0_6) := (blk_cell BK223.out 6).trans rfl; have hcz47_7 : w46.cell? ⟨gb223, 7, none⟩ = some (.int .u64 a0_7) := (blk_cell BK223.out 7).trans rfl; have hcz47_8 : w46.cell? ⟨gb223, 8, none⟩ = some (.int .u16 a0_8) := (blk_cell BK223.out 8).trans rfl; have hcz47_9 : w46.cell? ⟨gb223, 9, none⟩ = some (.slice A0_9 l0_9.length c0_9) := (blk_cell BK223.out 9).trans rfl; have hcz47_10 : w46.cell? ⟨gb223, 10, none⟩ = some (.slice A0_10 l0_10.length c0_10) := (blk_cell BK223.out 10).trans rfl; have hfz47_0 := blk_frozen BK223.out 0; have hfz47_1 := blk_frozen BK223.out 1; have hfz47_2 := blk_frozen BK223.out 2; have hfz47_3 := blk_frozen BK223.out 3; have hfz47_4 := blk_frozen BK223.out 4; have hfz47_5 := blk_frozen BK223.out 5; have hfz47_6 := blk_frozen BK223.out 6; have hfz47_7 := blk_frozen BK223.out 7; have hfz47_8 := blk_frozen BK223.out 8; have hfz47_9 := blk_frozen BK223.out 9; have hfz47_10 := blk_frozen BK223.out 10; have hcz48_0 : w46.cell? ⟨gb241, 0, none⟩ = some (.int .i64 t226) := (blk_cell BK241.out 0).trans rfl; have hcz48_1 : w46.cell? ⟨gb241, 1, none⟩ = some (.int .u32 t227) := (blk_cell BK241.out 1).trans rfl; have hcz48_2 : w46.cell? ⟨gb241, 2, none⟩ = some (.int .u8 t228) := (blk_cell BK241.out 2).trans rfl; have hcz48_3 : w46.cell? ⟨gb241, 3, none⟩ = some (.bool t229) := (blk_cell BK241.out 3).trans rfl; have hcz48_4 : w46.cell? ⟨gb241, 4, none⟩ = some (.int .u64 t230) := (blk_cell BK241.out 4).trans rfl; have hcz48_5 : w46.cell? ⟨gb241, 5, none⟩ = some (.string t231) := (blk_cell BK241.out 5).trans rfl; have hcz48_6 : w46.cell? ⟨gb241, 6, none⟩ = some (.string t232) := (blk_cell BK241.out 6).trans rfl; have hcz48_7 : w46.cell? ⟨gb241, 7, none⟩ = some (.int .u64 t233) := (blk_cell BK241.out 7).trans rfl; have hcz48_8 : w46.cell? ⟨gb241, 8, none⟩ = some (.int .u16 t234) := (blk_cell BK241.out 8).trans rfl; have hcz48_9 : w46.cell? ⟨gb241, 9, none⟩ = some (.slice Ao19 t235.length co19) := (blk_cell BK241.out 9).trans rfl; have hcz48_10 : w46.cell? ⟨gb241, 10, none⟩ = some (.slice Ao20 t238.length co20) := (blk_cell BK241.out 10).trans rfl; have hfz48_0 := blk_frozen BK241.out 0; have hfz48_1 := blk_frozen BK241.out 1; have hfz48_2 := blk_frozen BK241.out 2; have hfz48_3 := blk_frozen BK241.out 3; have hfz48_4 := blk_frozen BK241.out 4; have hfz48_5 := blk_frozen BK241.out 5; have hfz48_6 := blk_frozen BK241.out 6; have hfz48_7 := blk_frozen BK241.out 7; have hfz48_8 := blk_frozen BK241.out 8; have hfz48_9 := blk_frozen BK241.out 9; have hfz48_10 := blk_frozen BK241.out 10) | (go_at_call 22; (with_reducible refine (msg_Same.calls kj9 a0_0 a0_1 a0_2 a0_3 a0_4 a0_5 a0_6 a0_7 a0_8 _ _ l0_9 _ _ l0_10 t226 t227 t228 t229 t230 t231 t232 t233 t234 _ _ t235 _ _ t238 true _ ?side1 ?side2 ?side3 ?side4 ?side5 ?side6 ?side7 ?side8 A41.out).mono ?_); (case side1 => repeat (first | exact (Kd.C_below HR0_9.out HB.out) | (with_reducible refine Kd.C_alloc ?_ _) | (with_reducible refine Kd.C_drewN ?_ _) | (with_reducible refine Kd.C_drew ?_))); (case side2 => exact HC0_9.out); (case side3 => repeat (first | exact (Kd.C_below HR0_10.out HB.out) | (with_reducible refine Kd.C_alloc ?_ _) | (with_reducible refine Kd.C_drewN ?_ _) | (with_reducible refine Kd.C_drew ?_))); (case side4 => exact HC0_10.out); (case side5 => repeat (first | exact (Kd.R_reads' HO_242009.out).2.2 | (with_reducible refine Kd.C_alloc ?_ _) | (with_reducible refine Kd.C_drewN ?_ _) | (with_reducible refine Kd.C_drew ?_))); (case side6 => exact (Kd.R_reads' HO_242009.out).2.1); (case side7 => repeat (first | exact (Kd.R_reads' HO_242010.out).2.2 | (with_reducible refine Kd.C_alloc ?_ _) | (with_reducible refine Kd.C_drewN ?_ _) | (with_reducible refine Kd.C_drew ?_))); (case side8 => exact (Kd.R_reads' HO_242010.out).2.1); rintro e w49 ⟨rfl, hb⟩; have n0_ := Aside0.mk (Kd.R_below (by (with_reducible repeat (first | apply Kd.R_alloc | apply Kd.R_drewN | apply Kd.R_drew)); exact HO_242009.out) hb); have n1_ := Aside0.mk (Kd.R_below (by (with_reducible repeat (first | apply Kd.R_alloc | apply Kd.R_drewN | apply Kd.R_drew)); exact HO_242010.out) hb); have n2_ := Aside0.mk (blk_below (g := gb223) (o := .cells #[.int .i64 a0_0, .int .u32 a0_1, .int .u8 a0_2, .bool a0_3, .int .u64 a0_4, .string a0_5, .string a0_6, .int .u64 a0_7, .int .u16 a0_8, .slice A0_9 l0_9.length c0_9, .slice A0_10 l0_10.length c0_10] 30 (0, 0)) (by (with_reducible repeat (first | refine blk_drewN ?_ _ | refine blk_drew ?_ | refine blk_alloc ?_ _)); exact BK223.out) hb); have n3_ := Aside0.mk (blk_below (g := gb241) (o := .cells #[.int .i64 t226, .int .u32 t227, .int .u8 t228, .bool t229, .int .u64 t230, .string t231, .string t232, .int .u64 t233, .int .u16 t234, .slice Ao19 t235.length co19, .slice Ao20 t238.length co20] 30 (0, 0)) (by (with_reducible repeat (first | refine blk_drewN ?_ _ | refine blk_drew ?_ | refine blk_alloc ?_ _)); exact BK241.out) hb); have n4_ := Aside0.mk (below_step (by repeat (first | (with_reducible first | exact HB.out | apply below_alloc | apply pw_below_drewN | apply below_drew1 | refine below_set ?_ GE223.out | refine below_set ?_ GE241.out) | exact HB.out)) hb); clear HO_242009; clear HO_242010; clear BK223; clear BK241; clear HB; have HO_242009 := n0_; have HO_242010 := n1_; have BK223 := n2_; have BK241 := n3_; have HB := n4_; clear n0_ n1_ n2_ n3_ n4_; (try clear hb); (try clear hb2); (try clear hk); (try clear hi)) | (go_at_call 8; (with_reducible refine (annuletlaw08_awake.calls kj9  t261 _ ?side1 A43.out).mono ?_); (case side1 => refine tabs_later HTB.out ?_; repeat (first | (with_reducible first | exact HB.out | apply below_alloc | apply pw_below_drewN | apply below_drew1 | refine below_set ?_ GE223.out | refine below_set ?_ GE241.out) | exact HB.out)); rintro e w50 ⟨rfl, hb⟩; have n0_ := Aside0.mk (Kd.R_below (by (with_reducible repeat (first | apply Kd.R_alloc | apply Kd.R_drewN | apply Kd.R_drew)); exact HO_242009.out) hb); have n1_ := Aside0.mk (Kd.R_below (by (with_reducible repeat (first | apply Kd.R_alloc | apply Kd.R_drewN | apply Kd.R_drew)); exact HO_242010.out) hb); have n2_ := Aside0.mk (blk_below (g := gb223) (o := .cells #[.int .i64 a0_0, .int .u32 a0_1, .int .u8 a0_2, .bool a0_3, .int .u64 a0_4, .string a0_5, .string a0_6, .int .u64 a0_7, .int .u16 a0_8, .slice A0_9 l0_9.length c0_9, .slice A0_10 l0_10.length c0_10] 30 (0, 0)) (by (with_reducible repeat (first | refine blk_drewN ?_ _ | refine blk_drew ?_ | refine blk_alloc ?_ _)); exact BK223.out) hb); have n3_ := Aside0.mk (blk_below (g := gb241) (o := .cells #[.int .i64 t226, .int .u32 t227, .int .u8 t228, .bool t229, .int .u64 t230, .string t231, .string t232, .int .u64 t233, .int .u16 t234, .slice Ao19 t235.length co19, .slice Ao20 t238.length co20] 30 (0, 0)) (by (with_reducible repeat (first | refine blk_drewN ?_ _ | refine blk_drew ?_ | refine blk_alloc ?_ _)); exact BK241.out) hb); have n4_ := Aside0.mk (below_step (by repeat (first | (with_reducible first | exact HB.out | apply below_alloc | apply pw_below_drewN | apply below_drew1 | refine below_set ?_ GE223.out | refine below_set ?_ GE241.out) | exact HB.out)) hb); clear HO_242009; clear HO_242010; clear BK223; clear BK241; clear HB; have HO_242009 := n0_; have HO_242010 := n1_; have BK223 := n2_; have BK241 := n3_; have HB := n4_; clear n0_ n1_ n2_ n3_ n4_; (try clear hb); (try clear hb2); (try clear hk); (try clear hi)))
       all_goals go_ret
       all_goals first | (exact ⟨by first | rfl | (simp [errW_none, errW_some] <;> rfl) | (simp [*, errW_none, errW_some] <;> rfl), by repeat (first | (with_reducible first | exact HB.out | apply below_alloc | apply pw_below_drewN | apply below_drew1 | refine below_set ?_ GE223.out | refine below_set ?_ GE241.out) | exact HB.out)⟩) | (exfalso; simp_all; done)
      ·replace c42 := Bool.eq_false_iff.mpr c42
       subst c42
       have H1 : (none) = some r := by rw [if_neg (show ¬ (false = true) by decide)] at H; exact H
       clear H
       have H := H1
       clear H1
       exact absurd H (by simp)
     ·rw [if_neg c40] at H
      have c40b0 : (t259 == 0) = false := beq_eq_false_iff_ne.mpr c40
      have c40b1 : (t259 != 0) = true := bne_iff_ne.mpr c40
      replace H := Option.bind_eq_some_iff.mp H
      obtain ⟨t262, A510, H⟩ := H
      replace H : (some t262) = some r := H
      have A51 := Aside0.mk A510
      clear A510
      obtain rfl := Option.some.inj H
      have hnb52 := NB223_241.out
      have hnc52 := NB241_223.out
      have hcz53_0 : wc.cell? ⟨gb223, 0, none⟩ = some (.int .i64 a0_0) := (blk_cell BK223.out 0).trans rfl
      have hcz53_1 : wc.cell? ⟨gb223, 1, none⟩ = some (.int .u32 a0_1) := (blk_cell BK223.out 1).trans rfl
      have hcz53_2 : wc.cell? ⟨gb223, 2, none⟩ = some (.int .u8 a0_2) := (blk_cell BK223.out 2).trans rfl
      have hcz53_3 : wc.cell? ⟨gb223, 3, none⟩ = some (.bool a0_3) := (blk_cell BK223.out 3).trans rfl
      have hcz53_4 : wc.cell? ⟨gb223, 4, none⟩ = some (.int .u64 a0_4) := (blk_cell BK223.out 4).trans rfl
      have hcz53_5 : wc.cell? ⟨gb223, 5, none⟩ = some (.string a0_5) := (blk_cell BK223.out 5).trans rfl
      have hcz53_6 : wc.cell? ⟨gb223, 6, none⟩ = some (.string a0_6) := (blk_cell BK223.out 6).trans rfl
      have hcz53_7 : wc.cell? ⟨gb223, 7, none⟩ = some (.int .u64 a0_7) := (blk_cell BK223.out 7).trans rfl
      have hcz53_8 : wc.cell? ⟨gb223, 8, none⟩ = some (.int .u16 a0_8) := (blk_cell BK223.out 8).trans rfl
      have hcz53_9 : wc.cell? ⟨gb223, 9, none⟩ = some (.slice A0_9 l0_9.length c0_9) := (blk_cell BK223.out 9).trans rfl
      have hcz53_10 : wc.cell? ⟨gb223, 10, none⟩ = some (.slice A0_10 l0_10.length c0_10) := (blk_cell BK223.out 10).trans rfl
      have hfz53_0 := blk_frozen BK223.out 0
      have hfz53_1 := blk_frozen BK223.out 1
      have hfz53_2 := blk_frozen BK223.out 2
      have hfz53_3 := blk_frozen BK223.out 3
      have hfz53_4 := blk_frozen BK223.out 4
      have hfz53_5 := blk_frozen BK223.out 5
      have hfz53_6 := blk_frozen BK223.out 6
      have hfz53_7 := blk_frozen BK223.out 7
      have hfz53_8 := blk_frozen BK223.out 8
      have hfz53_9 := blk_frozen BK223.out 9
      have hfz53_10 := blk_frozen BK223.out 10
      go_wp2_with (first | ((with_reducible refine gate_callee (f := 9) rfl ?_); refine goesL_ (some 20) rfl rfl Tryd.func9 (by kernel_rfl) rfl #[.agg #[.int .i64 a0_0, .int .u32 a0_1, .int .u8 a0_2, .bool a0_3, .int .u64 a0_4, .string a0_5, .string a0_6, .int .u64 a0_7, .int .u16 a0_8, .slice A0_9 l0_9.length c0_9, .slice A0_10 l0_10.length c0_10]] rfl (by (try simp only [List.map_toArray, List.map_cons, List.map_nil]); first | done | rfl | (simp only [List.length_drop, List.length_take]; rfl)) ?_; (with_reducible refine (msg_Right.calls kj9 a0_0 a0_1 a0_2 a0_3 a0_4 a0_5 a0_6 a0_7 a0_8 _ _ l0_9 _ _ l0_10 t259 _ ?side1 ?side2 ?side3 ?side4 ?side5 A39.out).mono ?_); (case side1 => repeat (first | exact (Kd.C_below HR0_9.out HB.out) | (with_reducible refine Kd.C_alloc ?_ _) | (with_reducible refine Kd.C_drewN ?_ _) | (with_reducible refine Kd.C_drew ?_))); (case side2 => exact HC0_9.out); (case side3 => repeat (first | exact (Kd.C_below HR0_10.out HB.out) | (with_reducible refine Kd.C_alloc ?_ _) | (with_reducible refine Kd.C_drewN ?_ _) | (with_reducible refine Kd.C_drew ?_))); (case side4 => exact HC0_10.out); (case side5 => refine tabs_later HTB.out ?_; repeat (first | (with_reducible first | exact HB.out | apply below_alloc | apply pw_below_drewN | apply below_drew1 | refine below_set ?_ GE223.out | refine below_set ?_ GE241.out) | exact HB.out)); rintro e w54 ⟨rfl, hb⟩; refine ⟨_, rfl, ?_⟩; have n0_ := Aside0.mk (Kd.R_below (by (with_reducible repeat (first | apply Kd.R_alloc | apply Kd.R_drewN | apply Kd.R_drew)); exact HO_242009.out) hb); have n1_ := Aside0.mk (Kd.R_below (by (with_reducible repeat (first | apply Kd.R_alloc | apply Kd.R_drewN | apply Kd.R_drew)); exact HO_242010.out) hb); have n2_ := Aside0.mk (blk_below (g := gb223) (o := .cells #[.int .i64 a0_0, .int .u32 a0_1, .int .u8 a0_2, .bool a0_3, .int .u64 a0_4, .string a0_5, .string a0_6, .int .u64 a0_7, .int .u16 a0_8, .slice A0_9 l0_9.length c0_9, .slice A0_10 l0_10.length c0_10] 30 (0, 0)) (by (with_reducible repeat (first | refine blk_drewN ?_ _ | refine blk_drew ?_ | refine blk_alloc ?_ _)); exact BK223.out) hb); have n3_ := Aside0.mk (blk_below (g := gb241) (o := .cells #[.int .i64 t226, .int .u32 t227, .int .u8 t228, .bool t229, .int .u64 t230, .string t231, .string t232, .int .u64 t233, .int .u16 t234, .slice Ao19 t235.length co19, .slice Ao20 t238.length co20] 30 (0, 0)) (by (with_reducible repeat (first | refine blk_drewN ?_ _ | refine blk_drew ?_ | refine blk_alloc ?_ _)); exact BK241.out) hb); have n4_ := Aside0.mk (below_step (by repeat (first | (with_reducible first | exact HB.out | apply below_alloc | apply pw_below_drewN | apply below_drew1 | refine below_set ?_ GE223.out | refine below_set ?_ GE241.out) | exact HB.out)) hb); clear HO_242009; clear HO_242010; clear BK223; clear BK241; clear HB; have HO_242009 := n0_; have HO_242010 := n1_; have BK223 := n2_; have BK241 := n3_; have HB := n4_; clear n0_ n1_ n2_ n3_ n4_; (try clear hb); (try clear hb2); (try clear hk); (try clear hi)) | (go_at_call 8; (with_reducible refine (annuletlaw08_awake.calls kj9  t262 _ ?side1 A51.out).mono ?_); (case side1 => refine tabs_later HTB.out ?_; repeat (first | (with_reducible first | exact HB.out | apply below_alloc | apply pw_below_drewN | apply below_drew1 | refine below_set ?_ GE223.out | refine below_set ?_ GE241.out) | exact HB.out)); rintro e w55 ⟨rfl, hb⟩; have n0_ := Aside0.mk (Kd.R_below (by (with_reducible repeat (first | apply Kd.R_alloc | apply Kd.R_drewN | apply Kd.R_drew)); exact HO_242009.out) hb); have n1_ := Aside0.mk (Kd.R_below (by (with_reducible repeat (first | apply Kd.R_alloc | apply Kd.R_drewN | apply Kd.R_drew)); exact HO_242010.out) hb); have n2_ := Aside0.mk (blk_below (g := gb223) (o := .cells #[.int .i64 a0_0, .int .u32 a0_1, .int .u8 a0_2, .bool a0_3, .int .u64 a0_4, .string a0_5, .string a0_6, .int .u64 a0_7, .int .u16 a0_8, .slice A0_9 l0_9.length c0_9, .slice A0_10 l0_10.length c0_10] 30 (0, 0)) (by (with_reducible repeat (first | refine blk_drewN ?_ _ | refine blk_drew ?_ | refine blk_alloc ?_ _)); exact BK223.out) hb); have n3_ := Aside0.mk (blk_below (g := gb241) (o := .cells #[.int .i64 t226, .int .u32 t227, .int .u8 t228, .bool t229, .int .u64 t230, .string t231, .string t232, .int .u64 t233, .int .u16 t234, .slice Ao19 t235.length co19, .slice Ao20 t238.length co20] 30 (0, 0)) (by (with_reducible repeat (first | refine blk_drewN ?_ _ | refine blk_drew ?_ | refine blk_alloc ?_ _)); exact BK241.out) hb); have n4_ := Aside0.mk (below_step (by repeat (first | (with_reducible first | exact HB.out | apply below_alloc | apply pw_below_drewN | apply below_drew1 | refine below_set ?_ GE223.out | refine below_set ?_ GE241.out) | exact HB.out)) hb); clear HO_242009; clear HO_242010; clear BK223; clear BK241; clear HB; have HO_242009 := n0_; have HO_242010 := n1_; have BK223 := n2_; have BK241 := n3_; have HB := n4_; clear n0_ n1_ n2_ n3_ n4_; (try clear hb); (try clear hb2); (try clear hk); (try clear hi)))
      all_goals go_ret
      all_goals first | (exact ⟨by first | rfl | (simp [errW_none, errW_some] <;> rfl) | (simp [*, errW_none, errW_some] <;> rfl), by repeat (first | (with_reducible first | exact HB.out | apply below_alloc | apply pw_below_drewN | apply below_drew1 | refine below_set ?_ GE223.out | refine below_set ?_ GE241.out) | exact HB.out)⟩) | (exfalso; simp_all; done)

def annuletlaw08_MsgClean.Pure : Prop := ∀ (a0_0 : Int) (a0_1 : Int) (a0_2 : Int) (a0_3 : Bool) (a0_4 : Int) (a0_5 : ByteArray) (a0_6 : ByteArray) (a0_7 : Int) (a0_8 : Int) (l0_9 : List (S26)) (l0_10 : List (S45)), (Lit.int .i64 a0_0).wf = true → (Lit.int .u32 a0_1).wf = true → (Lit.int .u8 a0_2).wf = true → (Lit.int .u64 a0_4).wf = true → a0_5.size ≤ maxLen → a0_6.size ≤ maxLen → (Lit.int .u64 a0_7).wf = true → (Lit.int .u16 a0_8).wf = true → (l0_9.length ≤ maxLen ∧ ∀ z0 ∈ l0_9, ((Lit.int .u64 z0.f0).wf = true ∧ (Lit.int .u16 z0.f1).wf = true)) → (l0_10.length ≤ maxLen ∧ ∀ z0 ∈ l0_10, (z0.f0.size ≤ maxLen ∧ z0.f1.size ≤ maxLen)) → ∃ k, annuletlaw08_MsgClean.f k a0_0 a0_1 a0_2 a0_3 a0_4 a0_5 a0_6 a0_7 a0_8 l0_9 l0_10 = some true

end Go.Proofs.YtddnfbcfogpkgaaDoor.PMsgClean
