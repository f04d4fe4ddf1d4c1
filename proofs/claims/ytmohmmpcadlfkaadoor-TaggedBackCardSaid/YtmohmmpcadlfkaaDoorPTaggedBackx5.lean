/- Written by a program of this session (a turned copy of the kit's print): functions of the program, each with the Lean function that it comes to, and the row of one law. No condition. -/
import Derived.Test.YtmohmmpcadlfkaaDoorPTaggedBackx0
import Derived.Test.YtmohmmpcadlfkaaDoorPTaggedBackx3
import Derived.Test.YtmohmmpcadlfkaaDoorPTaggedBackx4
namespace Go.Proofs.YtmohmmpcadlfkaaDoor.PTaggedBack
open Go.RowKit Go.Proofs.YtmohmmpcadlfkaaDoorW.PrintWords Go.Proofs.YtmohmmpcadlfkaaDoorW.PrintLast Go.Proofs.YtmohmmpcadlfkaaDoorW.PrintMore
attribute [local go_sem] max2_int min2_int max_two min_two max_three min_three max_four min_four   -- for this text's walks alone
set_option linter.unusedVariables false
set_option linter.unusedSimpArgs false

/-! ### msg_text_1: function 68 -/
def msg_text_1.f (a0_0 : ByteArray) (a0_1 : ByteArray) : Option (Bool) := (msg_Key.f a0_0).bind fun t153 => (some (!t153))
set_option maxHeartbeats 3000000 in
set_option maxRecDepth 100000 in
theorem msg_text_1.calls (a0_0 : ByteArray) (a0_1 : ByteArray) (r : Bool) (w : World) (ht : Lib.Utf8Tabs 0 1 w) (h : msg_text_1.f a0_0 a0_1 = some r) :
    Calls Tryd.prog 68 #[.agg #[.string a0_0, .string a0_1]] w fun e w' => e = .returned (.bool r) ∧ Below w.heap.size w w' := by
  have hu43 := Tryd.underlying43
  have HB := Aside0.mk (Below.refl w.heap.size w)
  have HTB := Aside0.mk ht
  clear ht
  have H : ((msg_Key.f a0_0).bind fun t153 => (some (!t153))) = some r := h
  clear h
  replace H := Option.bind_eq_some_iff.mp H
  obtain ⟨t153, A20, H⟩ := H
  replace H : (some (!t153)) = some r := H
  have A2 := Aside0.mk A20
  clear A20
  obtain rfl := Option.some.inj H
  go_enter Tryd.func68, Tryd.ntmps68
  go_wp2_with (first | ((with_reducible refine gate_dst (N := 1) rfl ?_); refine box_event ?hg (N := 1) ?hd (cs := #[.string a0_0, .string a0_1]) (t := 43) ?hr ?_; (case hd => rfl); (case hg => rfl); (case hr => first | (go_simp; done) | (go_simp; rfl)); intro gb152 hg w3 hbox hb; have n0_ := Aside0.mk (below_step (by repeat (first | (with_reducible first | exact HB.out | apply below_alloc | apply pw_below_drewN | apply below_drew1) | exact HB.out)) hb); have n1_ := Aside0.mk (hbox); have n2_ := Aside0.mk ((by rw [hg]; exact (below_size (by repeat (first | (with_reducible first | exact HB.out | apply below_alloc | apply pw_below_drewN | apply below_drew1) | exact HB.out))) : w.heap.size ≤ gb152)); have n3_ := Aside0.mk ((by rw [hg]; exact (below_size (by repeat (first | (with_reducible first | exact HB.out | apply below_alloc | apply pw_below_drewN | apply below_drew1) | exact HB.out))) : w.heap.size ≤ gb152)); clear HB; have HB := n0_; have BK152 := n1_; have GW152 := n2_; have GE152 := n3_; clear n0_ n1_ n2_ n3_; clear hb hbox hg; have hcz4_0 : w3.cell? ⟨gb152, 0, none⟩ = some (.string a0_0) := (blk_cell BK152.out 0).trans rfl; have hcz4_1 : w3.cell? ⟨gb152, 1, none⟩ = some (.string a0_1) := (blk_cell BK152.out 1).trans rfl; have hfz4_0 := blk_frozen BK152.out 0; have hfz4_1 := blk_frozen BK152.out 1) | ((with_reducible refine gate_callee (f := 66) rfl ?_); refine goesL_ (some 5) rfl rfl Tryd.func66 (by kernel_rfl) rfl #[.string a0_0] rfl (by (try simp only [List.map_toArray, List.map_cons, List.map_nil]); first | done | rfl | (simp only [List.length_drop, List.length_take]; rfl)) ?_; (with_reducible refine (msg_Key.calls a0_0 t153 _ ?side1 A2.out).mono ?_); (case side1 => refine tabs_later HTB.out ?_; repeat (first | (with_reducible first | exact HB.out | apply below_alloc | apply pw_below_drewN | apply below_drew1 | refine below_set ?_ GE152.out) | exact HB.out)); rintro e w5 ⟨rfl, hb⟩; refine ⟨_, rfl, ?_⟩; have n0_ := Aside0.mk (blk_below (g := gb152) (o := .cells #[.string a0_0, .string a0_1] 43 (0, 0)) (by (with_reducible repeat (first | refine blk_drewN ?_ _ | refine blk_drew ?_ | refine blk_alloc ?_ _)); exact BK152.out) hb); have n1_ := Aside0.mk (below_step (by repeat (first | (with_reducible first | exact HB.out | apply below_alloc | apply pw_below_drewN | apply below_drew1 | refine below_set ?_ GE152.out) | exact HB.out)) hb); clear BK152; clear HB; have BK152 := n0_; have HB := n1_; clear n0_ n1_; (try clear hb); (try clear hb2); (try clear hk); (try clear hi)))
  all_goals go_ret
  all_goals first | (exact ⟨by first | rfl | (simp [errW_none, errW_some] <;> rfl) | (simp [*, errW_none, errW_some] <;> rfl), by repeat (first | (with_reducible first | exact HB.out | apply below_alloc | apply pw_below_drewN | apply below_drew1 | refine below_set ?_ GE152.out) | exact HB.out)⟩) | (exfalso; simp_all; done)

/-! ### msg_long_1: function 69 -/
def msg_long_1.f (a0_0 : ByteArray) (a0_1 : ByteArray) : Option (Bool) := some (decide ((a0_1.size : Int) > 512))
set_option maxHeartbeats 3000000 in
set_option maxRecDepth 100000 in
theorem msg_long_1.calls (a0_0 : ByteArray) (a0_1 : ByteArray) (r : Bool) (w : World) (h : msg_long_1.f a0_0 a0_1 = some r) :
    Calls Tryd.prog 69 #[.agg #[.string a0_0, .string a0_1]] w fun e w' => e = .returned (.bool r) ∧ Below w.heap.size w w' := by
  have hu43 := Tryd.underlying43
  have HB := Aside0.mk (Below.refl w.heap.size w)
  have H : (some (decide ((a0_1.size : Int) > 512))) = some r := h
  clear h
  obtain rfl := Option.some.inj H
  go_enter Tryd.func69, Tryd.ntmps69
  go_wp2_with (first | ((with_reducible refine gate_dst (N := 1) rfl ?_); refine box_event ?hg (N := 1) ?hd (cs := #[.string a0_0, .string a0_1]) (t := 43) ?hr ?_; (case hd => rfl); (case hg => rfl); (case hr => first | (go_simp; done) | (go_simp; rfl)); intro gb154 hg w2 hbox hb; have n0_ := Aside0.mk (below_step (by repeat (first | (with_reducible first | exact HB.out | apply below_alloc | apply pw_below_drewN | apply below_drew1) | exact HB.out)) hb); have n1_ := Aside0.mk (hbox); have n2_ := Aside0.mk ((by rw [hg]; exact (below_size (by repeat (first | (with_reducible first | exact HB.out | apply below_alloc | apply pw_below_drewN | apply below_drew1) | exact HB.out))) : w.heap.size ≤ gb154)); have n3_ := Aside0.mk ((by rw [hg]; exact (below_size (by repeat (first | (with_reducible first | exact HB.out | apply below_alloc | apply pw_below_drewN | apply below_drew1) | exact HB.out))) : w.heap.size ≤ gb154)); clear HB; have HB := n0_; have BK154 := n1_; have GW154 := n2_; have GE154 := n3_; clear n0_ n1_ n2_ n3_; clear hb hbox hg; have hcz3_0 : w2.cell? ⟨gb154, 0, none⟩ = some (.string a0_0) := (blk_cell BK154.out 0).trans rfl; have hcz3_1 : w2.cell? ⟨gb154, 1, none⟩ = some (.string a0_1) := (blk_cell BK154.out 1).trans rfl; have hfz3_0 := blk_frozen BK154.out 0; have hfz3_1 := blk_frozen BK154.out 1))
  all_goals go_ret
  all_goals first | (exact ⟨by first | rfl | (simp [errW_none, errW_some] <;> rfl) | (simp [*, errW_none, errW_some] <;> rfl), by repeat (first | (with_reducible first | exact HB.out | apply below_alloc | apply pw_below_drewN | apply below_drew1 | refine below_set ?_ GE154.out) | exact HB.out)⟩) | (exfalso; simp_all; done)


/-! ### api_Pair_67: function 67 -/
set_option maxHeartbeats 3000000 in
set_option maxRecDepth 100000 in
theorem api_Pair_67.walk (p : S43 → Option Bool) (g : Nat) (lb : Array Value) (A0 : Option Addr) (c0 : Nat) (l0 : List S43) (r : Int) (w : World) (hr0 : Kd.C k43 w A0 l0.length l0) (hc0 : l0.length ≤ c0)
    (eg : ∀ args w, (callFunc g args).run Tryd.prog w = .ok (.enter g args) w)
    (hp : ∀ (W : World) (x : S43) (b : Bool), Below w.heap.size w W → p x = some b → Calls Tryd.prog g (#[.agg #[.string x.f0, .string x.f1]] ++ lb) W fun e w' => e = .returned (.bool b) ∧ Below W.heap.size W w')
    (h : idxO p l0 0 = some r) :
    Calls Tryd.prog 78 #[.slice A0 l0.length c0, .func (.func g) #[] lb] w fun e w' => e = .returned (.int .i64 r) ∧ Below w.heap.size w w' := by
  have HR0 := Aside0.mk hr0
  have HH := Aside0.mk h
  have hbig := hr0.2.1
  clear hr0 hc0 h
  go_enter Tryd.func78, Tryd.ntmps78
  go_wp2
  go_loopg [5, 8] l0.length (fun gg _ s8 wr => ∃ kk : Nat, kk ≤ l0.length ∧ l0.length - kk ≤ gg ∧ s8 = .int .i64 kk ∧ Aside0 (Below w.heap.size w wr) ∧ Aside0 (idxO p (l0.drop kk) kk = some r))
  case atStart => exact ⟨0, Nat.zero_le _, by omega, rfl, ⟨Below.refl _ w⟩, HH⟩
  case round =>
    obtain ⟨kk, hkk, hg, rfl, BW, A⟩ := hrel
    by_cases hlt : kk < l0.length
    · have hltz : (kk : Int) < (l0.length : Int) := by omega
      have hA := A.out
      clear A HH
      rw [List.drop_eq_getElem_cons hlt, idxO] at hA
      obtain ⟨b, hb, hA⟩ := Option.bind_eq_some_iff.1 hA
      have hC := Kd.C_below HR0.out BW.out
      obtain ⟨ad, e1, hx0, hx1⟩ := at_T43 hC (kk : Int) (by omega) hltz
      cases e1
      have he : rd_T43 l0 (kk : Int) = l0[kk] := by simp [rd_T43, List.getD, hlt]
      simp only [he, Int.toNat_natCast] at hx0 hx1
      have hcall := hp wr l0[kk] b BW.out hb
      clear hC he
      generalize l0[kk] = y at *
      have Hb := Aside0.mk hb
      clear hb
      cases b with
      | true =>
        rw [if_pos rfl] at hA
        obtain rfl := Option.some.inj hA
        go_wp2_with (go_at_fn g; refine hcall.mono ?_; rintro e w' ⟨rfl, hb'⟩)
        go_ret
        exact ⟨rfl, BW.out.trans (hb'.mono BW.out.size)⟩
      | false =>
        rw [if_neg (by simp)] at hA
        have HA := Aside0.mk hA
        clear hA
        go_wp2_with (go_at_fn g; refine hcall.mono ?_; rintro e w' ⟨rfl, hb'⟩)
        go_roundg (l0.length - (kk + 1))
        case measure => omega
        case rel => exact ⟨kk + 1, by omega, by omega, by go_num, ⟨BW.out.trans (hb'.mono BW.out.size)⟩, by rw [show ((kk + 1 : Nat) : Int) = (kk : Int) + 1 by omega]; exact HA⟩
    · have hltz : ¬ (kk : Int) < (l0.length : Int) := by omega
      have : kk = l0.length := by omega
      subst this
      have hA := A.out
      rw [List.drop_eq_nil_of_le (Nat.le_refl _), idxO] at hA
      obtain rfl := Option.some.inj hA
      go_wp2
      go_ret
      exact ⟨rfl, BW.out⟩
theorem api_Pair_67.in1 : ∀ args w, (callFunc 68 args).run Tryd.prog w = .ok (.enter 68 args) w := enters_of Tryd.func68 (by kernel_rfl) rfl
theorem api_Pair_67.in2 : ∀ args w, (callFunc 69 args).run Tryd.prog w = .ok (.enter 69 args) w := enters_of Tryd.func69 (by kernel_rfl) rfl
set_option maxHeartbeats 3000000 in
set_option maxRecDepth 100000 in
theorem api_Pair_67.has (p : S43 → Option Bool) (g : Nat) (lb : Array Value) (A0 : Option Addr) (c0 : Nat) (l0 : List S43) (i : Int) (w : World) (hr0 : Kd.C k43 w A0 l0.length l0) (hc0 : l0.length ≤ c0)
    (eg : ∀ args w, (callFunc g args).run Tryd.prog w = .ok (.enter g args) w)
    (hp : ∀ (W : World) (x : S43) (b : Bool), Below w.heap.size w W → p x = some b → Calls Tryd.prog g (#[.agg #[.string x.f0, .string x.f1]] ++ lb) W fun e w' => e = .returned (.bool b) ∧ Below W.heap.size W w')
    (h : idxO p l0 0 = some i) :
    Calls Tryd.prog 67 #[.slice A0 l0.length c0, .func (.func g) #[] lb] w fun e w' => e = .returned (.bool (decide (0 ≤ i))) ∧ Below w.heap.size w w' := by
  have hcon := api_Pair_67.walk p g lb A0 c0 l0 i w hr0 hc0 eg hp h
  clear hr0 hc0 hp h eg
  go_enter Tryd.func67, Tryd.ntmps67
  go_wp2_with (go_at_call 78; refine hcon.mono ?_; rintro e w' ⟨rfl, hb'⟩)
  go_ret
  exact ⟨by first | rfl | simp, hb'⟩
def api_Pair_67.f (l0 : List S43) (a1 : Nat) : Option (Bool) := if a1 = 68 then ((idxO (fun x : S43 => msg_text_1.f x.f0 x.f1) l0 0).bind fun i => (some (decide (0 ≤ i)))) else (if a1 = 69 then ((idxO (fun x : S43 => msg_long_1.f x.f0 x.f1) l0 0).bind fun i => (some (decide (0 ≤ i)))) else (none))
theorem api_Pair_67.calls (A0 : Option Addr) (c0 : Nat) (l0 : List S43) (a1 : Nat) (r : Bool) (w : World) (hr0 : Kd.C k43 w A0 l0.length l0) (hc0 : l0.length ≤ c0) (ht : Lib.Utf8Tabs 0 1 w) (h : api_Pair_67.f l0 a1 = some r) :
    Calls Tryd.prog 67 #[.slice A0 l0.length c0, .func (.func a1) #[] #[]] w fun e w' => e = .returned (.bool r) ∧ Below w.heap.size w w' := by
  unfold api_Pair_67.f at h
  by_cases ha : a1 = 68
  · subst ha
    rw [if_pos rfl] at h
    obtain ⟨i, hi, h⟩ := Option.bind_eq_some_iff.1 h
    obtain rfl := Option.some.inj h
    exact api_Pair_67.has _ 68 #[] A0 c0 l0 i w hr0 hc0 api_Pair_67.in1 (fun W x b hb hx => (msg_text_1.calls x.f0 x.f1 b W (tabs_later ht hb) hx).mono fun e w' ⟨he, hw⟩ => ⟨he, hw⟩) hi
  · rw [if_neg ha] at h
    by_cases hb : a1 = 69
    · subst hb
      rw [if_pos rfl] at h
      obtain ⟨i, hi, h⟩ := Option.bind_eq_some_iff.1 h
      obtain rfl := Option.some.inj h
      exact api_Pair_67.has _ 69 #[] A0 c0 l0 i w hr0 hc0 api_Pair_67.in2 (fun W x b hb hx => (msg_long_1.calls x.f0 x.f1 b W hx).mono fun e w' ⟨he, hw⟩ => ⟨he, hw⟩) hi
    · rw [if_neg hb] at h
      exact absurd h (by simp)

/-! ### msg_text: function 38 -/
def msg_text.f (a0_0 : Int) (a0_1 : Int) (a0_2 : Int) (a0_3 : Bool) (a0_4 : Int) (a0_5 : ByteArray) (a0_6 : ByteArray) (a0_7 : Int) (a0_8 : Int) (l0_9 : List (S26)) (l0_10 : List (S43)) (a1 : Int) : Option (Bool) := if (Go.bits .and .i64 a1 32) = 0 then ((api_Pair_67.f l0_10 68).bind fun t156 => (some (!t156))) else ((msg_Key.f a0_5).bind fun t157 => (if t157 = true then ((api_Pair_67.f l0_10 68).bind fun t158 => (some (!t158))) else (some false)))
set_option maxHeartbeats 3000000 in
set_option maxRecDepth 100000 in
theorem msg_text.calls (a0_0 : Int) (a0_1 : Int) (a0_2 : Int) (a0_3 : Bool) (a0_4 : Int) (a0_5 : ByteArray) (a0_6 : ByteArray) (a0_7 : Int) (a0_8 : Int) (A0_9 : Option Addr) (c0_9 : Nat) (l0_9 : List (S26)) (A0_10 : Option Addr) (c0_10 : Nat) (l0_10 : List (S43)) (a1 : Int) (r : Bool) (w : World) (hr0_9 : Kd.C k26 w A0_9 l0_9.length l0_9) (hc0_9 : l0_9.length ≤ c0_9) (hr0_10 : Kd.C k43 w A0_10 l0_10.length l0_10) (hc0_10 : l0_10.length ≤ c0_10) (ht : Lib.Utf8Tabs 0 1 w) (h : msg_text.f a0_0 a0_1 a0_2 a0_3 a0_4 a0_5 a0_6 a0_7 a0_8 l0_9 l0_10 a1 = some r) :
    Calls Tryd.prog 38 #[.agg #[.int .i64 a0_0, .int .u32 a0_1, .int .u8 a0_2, .bool a0_3, .int .u64 a0_4, .string a0_5, .string a0_6, .int .u64 a0_7, .int .u16 a0_8, .slice A0_9 l0_9.length c0_9, .slice A0_10 l0_10.length c0_10], .int .i64 a1] w fun e w' => e = .returned (.bool r) ∧ Below w.heap.size w w' := by
  have hu30 := Tryd.underlying30
  have HR0_9 := Aside0.mk hr0_9
  have HC0_9 := Aside0.mk hc0_9
  clear hr0_9 hc0_9
  have HR0_10 := Aside0.mk hr0_10
  have HC0_10 := Aside0.mk hc0_10
  clear hr0_10 hc0_10
  have HB := Aside0.mk (Below.refl w.heap.size w)
  have HTB := Aside0.mk ht
  clear ht
  have H : (if (Go.bits .and .i64 a1 32) = 0 then ((api_Pair_67.f l0_10 68).bind fun t156 => (some (!t156))) else ((msg_Key.f a0_5).bind fun t157 => (if t157 = true then ((api_Pair_67.f l0_10 68).bind fun t158 => (some (!t158))) else (some false)))) = some r := h
  clear h
  by_cases c3 : (Go.bits .and .i64 a1 32) = 0
  · rw [if_pos c3] at H
    have c3b0 : ((Go.bits .and .i64 a1 32) == 0) = true := beq_iff_eq.mpr c3
    have c3b1 : ((Go.bits .and .i64 a1 32) != 0) = false := bne_eq_false_iff_eq.mpr c3
    clear c3
    replace H := Option.bind_eq_some_iff.mp H
    obtain ⟨t156, A40, H⟩ := H
    replace H : (some (!t156)) = some r := H
    have A4 := Aside0.mk A40
    clear A40
    obtain rfl := Option.some.inj H
    go_enter Tryd.func38, Tryd.ntmps38
    go_wp2_with (first | ((with_reducible refine gate_dst (N := 2) rfl ?_); refine box_event ?hg (N := 2) ?hd (cs := #[.int .i64 a0_0, .int .u32 a0_1, .int .u8 a0_2, .bool a0_3, .int .u64 a0_4, .string a0_5, .string a0_6, .int .u64 a0_7, .int .u16 a0_8, .slice A0_9 l0_9.length c0_9, .slice A0_10 l0_10.length c0_10]) (t := 30) ?hr ?_; (case hd => rfl); (case hg => rfl); (case hr => first | (go_simp; done) | (go_simp; rfl)); intro gb155 hg w5 hbox hb; have n0_ := Aside0.mk (below_step (by repeat (first | (with_reducible first | exact HB.out | apply below_alloc | apply pw_below_drewN | apply below_drew1) | exact HB.out)) hb); have n1_ := Aside0.mk (hbox); have n2_ := Aside0.mk ((by rw [hg]; exact (below_size (by repeat (first | (with_reducible first | exact HB.out | apply below_alloc | apply pw_below_drewN | apply below_drew1) | exact HB.out))) : w.heap.size ≤ gb155)); have n3_ := Aside0.mk ((by rw [hg]; exact (below_size (by repeat (first | (with_reducible first | exact HB.out | apply below_alloc | apply pw_below_drewN | apply below_drew1) | exact HB.out))) : w.heap.size ≤ gb155)); clear HB; have HB := n0_; have BK155 := n1_; have GW155 := n2_; have GE155 := n3_; clear n0_ n1_ n2_ n3_; clear hb hbox hg; have hcz6_0 : w5.cell? ⟨gb155, 0, none⟩ = some (.int .i64 a0_0) := (blk_cell BK155.out 0).trans rfl; have hcz6_1 : w5.cell? ⟨gb155, 1, none⟩ = some (.int .u32 a0_1) := (blk_cell BK155.out 1).trans rfl; have hcz6_2 : w5.cell? ⟨gb155, 2, none⟩ = some (.int .u8 a0_2) := (blk_cell BK155.out 2).trans rfl; have hcz6_3 : w5.cell? ⟨gb155, 3, none⟩ = some (.bool a0_3) := (blk_cell BK155.out 3).trans rfl; have hcz6_4 : w5.cell? ⟨gb155, 4, none⟩ = some (.int .u64 a0_4) := (blk_cell BK155.out 4).trans rfl; have hcz6_5 : w5.cell? ⟨gb155, 5, none⟩ = some (.string a0_5) := (blk_cell BK155.out 5).trans rfl; have hcz6_6 : w5.cell? ⟨gb155, 6, none⟩ = some (.string a0_6) := (blk_cell BK155.out 6).trans rfl; have hcz6_7 : w5.cell? ⟨gb155, 7, none⟩ = some (.int .u64 a0_7) := (blk_cell BK155.out 7).trans rfl; have hcz6_8 : w5.cell? ⟨gb155, 8, none⟩ = some (.int .u16 a0_8) := (blk_cell BK155.out 8).trans rfl; have hcz6_9 : w5.cell? ⟨gb155, 9, none⟩ = some (.slice A0_9 l0_9.length c0_9) := (blk_cell BK155.out 9).trans rfl; have hcz6_10 : w5.cell? ⟨gb155, 10, none⟩ = some (.slice A0_10 l0_10.length c0_10) := (blk_cell BK155.out 10).trans rfl; have hfz6_0 := blk_frozen BK155.out 0; have hfz6_1 := blk_frozen BK155.out 1; have hfz6_2 := blk_frozen BK155.out 2; have hfz6_3 := blk_frozen BK155.out 3; have hfz6_4 := blk_frozen BK155.out 4; have hfz6_5 := blk_frozen BK155.out 5; have hfz6_6 := blk_frozen BK155.out 6; have hfz6_7 := blk_frozen BK155.out 7; have hfz6_8 := blk_frozen BK155.out 8; have hfz6_9 := blk_frozen BK155.out 9; have hfz6_10 := blk_frozen BK155.out 10) | (go_at_call 67; (with_reducible refine (api_Pair_67.calls _ _ l0_10 68 t156 _ ?side1 ?side2 ?side3 A4.out).mono ?_); (case side1 => repeat (first | exact (Kd.C_below HR0_10.out HB.out) | (with_reducible refine Kd.C_alloc ?_ _) | (with_reducible refine Kd.C_drewN ?_ _) | (with_reducible refine Kd.C_drew ?_))); (case side2 => exact HC0_10.out); (case side3 => refine tabs_later HTB.out ?_; repeat (first | (with_reducible first | exact HB.out | apply below_alloc | apply pw_below_drewN | apply below_drew1 | refine below_set ?_ GE155.out) | exact HB.out)); rintro e w7 ⟨rfl, hb⟩; have n0_ := Aside0.mk (blk_below (g := gb155) (o := .cells #[.int .i64 a0_0, .int .u32 a0_1, .int .u8 a0_2, .bool a0_3, .int .u64 a0_4, .string a0_5, .string a0_6, .int .u64 a0_7, .int .u16 a0_8, .slice A0_9 l0_9.length c0_9, .slice A0_10 l0_10.length c0_10] 30 (0, 0)) (by (with_reducible repeat (first | refine blk_drewN ?_ _ | refine blk_drew ?_ | refine blk_alloc ?_ _)); exact BK155.out) hb); have n1_ := Aside0.mk (below_step (by repeat (first | (with_reducible first | exact HB.out | apply below_alloc | apply pw_below_drewN | apply below_drew1 | refine below_set ?_ GE155.out) | exact HB.out)) hb); clear BK155; clear HB; have BK155 := n0_; have HB := n1_; clear n0_ n1_; (try clear hb); (try clear hb2); (try clear hk); (try clear hi)))
    all_goals go_ret
    all_goals first | (exact ⟨by first | rfl | (simp [errW_none, errW_some] <;> rfl) | (simp [*, errW_none, errW_some] <;> rfl), by repeat (first | (with_reducible first | exact HB.out | apply below_alloc | apply pw_below_drewN | apply below_drew1 | refine below_set ?_ GE155.out) | exact HB.out)⟩) | (exfalso; simp_all; done)
  · rw [if_neg c3] at H
    have c3b0 : ((Go.bits .and .i64 a1 32) == 0) = false := beq_eq_false_iff_ne.mpr c3
    have c3b1 : ((Go.bits .and .i64 a1 32) != 0) = true := bne_iff_ne.mpr c3
    replace H := Option.bind_eq_some_iff.mp H
    obtain ⟨t157, A80, H⟩ := H
    replace H : (if t157 = true then ((api_Pair_67.f l0_10 68).bind fun t158 => (some (!t158))) else (some false)) = some r := H
    have A8 := Aside0.mk A80
    clear A80
    by_cases c9 : t157 = true
    · subst c9
      have H1 : ((api_Pair_67.f l0_10 68).bind fun t158 => (some (!t158))) = some r := by rw [if_pos rfl] at H; exact H
      clear H
      have H := H1
      clear H1
      replace H := Option.bind_eq_some_iff.mp H
      obtain ⟨t158, A100, H⟩ := H
      replace H : (some (!t158)) = some r := H
      have A10 := Aside0.mk A100
      clear A100
      obtain rfl := Option.some.inj H
      go_enter Tryd.func38, Tryd.ntmps38
      go_wp2_with (first | ((with_reducible refine gate_dst (N := 2) rfl ?_); refine box_event ?hg (N := 2) ?hd (cs := #[.int .i64 a0_0, .int .u32 a0_1, .int .u8 a0_2, .bool a0_3, .int .u64 a0_4, .string a0_5, .string a0_6, .int .u64 a0_7, .int .u16 a0_8, .slice A0_9 l0_9.length c0_9, .slice A0_10 l0_10.length c0_10]) (t := 30) ?hr ?_; (case hd => rfl); (case hg => rfl); (case hr => first | (go_simp; done) | (go_simp; rfl)); intro gb155 hg w11 hbox hb; have n0_ := Aside0.mk (below_step (by repeat (first | (with_reducible first | exact HB.out | apply below_alloc | apply pw_below_drewN | apply below_drew1) | exact HB.out)) hb); have n1_ := Aside0.mk (hbox); have n2_ := Aside0.mk ((by rw [hg]; exact (below_size (by repeat (first | (with_reducible first | exact HB.out | apply below_alloc | apply pw_below_drewN | apply below_drew1) | exact HB.out))) : w.heap.size ≤ gb155)); have n3_ := Aside0.mk ((by rw [hg]; exact (below_size (by repeat (first | (with_reducible first | exact HB.out | apply below_alloc | apply pw_below_drewN | apply below_drew1) | exact HB.out))) : w.heap.size ≤ gb155)); clear HB; have HB := n0_; have BK155 := n1_; have GW155 := n2_; have GE155 := n3_; clear n0_ n1_ n2_ n3_; clear hb hbox hg; have hcz12_0 : w11.cell? ⟨gb155, 0, none⟩ = some (.int .i64 a0_0) := (blk_cell BK155.out 0).trans rfl; have hcz12_1 : w11.cell? ⟨gb155, 1, none⟩ = some (.int .u32 a0_1) := (blk_cell BK155.out 1).trans rfl; have hcz12_2 : w11.cell? ⟨gb155, 2, none⟩ = some (.int .u8 a0_2) := (blk_cell BK155.out 2).trans rfl; have hcz12_3 : w11.cell? ⟨gb155, 3, none⟩ = some (.bool a0_3) := (blk_cell BK155.out 3).trans rfl; have hcz12_4 : w11.cell? ⟨gb155, 4, none⟩ = some (.int .u64 a0_4) := (blk_cell BK155.out 4).trans rfl; have hcz12_5 : w11.cell? ⟨gb155, 5, none⟩ = some (.string a0_5) := (blk_cell BK155.out 5).trans rfl; have hcz12_6 : w11.cell? ⟨gb155, 6, none⟩ = some (.string a0_6) := (blk_cell BK155.out 6).trans rfl; have hcz12_7 : w11.cell? ⟨gb155, 7, none⟩ = some (.int .u64 a0_7) := (blk_cell BK155.out 7).trans rfl; have hcz12_8 : w11.cell? ⟨gb155, 8, none⟩ = some (.int .u16 a0_8) := (blk_cell BK155.out 8).trans rfl; have hcz12_9 : w11.cell? ⟨gb155, 9, none⟩ = some (.slice A0_9 l0_9.length c0_9) := (blk_cell BK155.out 9).trans rfl; have hcz12_10 : w11.cell? ⟨gb155, 10, none⟩ = some (.slice A0_10 l0_10.length c0_10) := (blk_cell BK155.out 10).trans rfl; have hfz12_0 := blk_frozen BK155.out 0; have hfz12_1 := blk_frozen BK155.out 1; have hfz12_2 := blk_frozen BK155.out 2; have hfz12_3 := blk_frozen BK155.out 3; have hfz12_4 := blk_frozen BK155.out 4; have hfz12_5 := blk_frozen BK155.out 5; have hfz12_6 := blk_frozen BK155.out 6; have hfz12_7 := blk_frozen BK155.out 7; have hfz12_8 := blk_frozen BK155.out 8; have hfz12_9 := blk_frozen BK155.out 9; have hfz12_10 := blk_frozen BK155.out 10) | (go_at_call 66; (with_reducible refine (msg_Key.calls a0_5 true _ ?side1 A8.out).mono ?_); (case side1 => refine tabs_later HTB.out ?_; repeat (first | (with_reducible first | exact HB.out | apply below_alloc | apply pw_below_drewN | apply below_drew1 | refine below_set ?_ GE155.out) | exact HB.out)); rintro e w13 ⟨rfl, hb⟩; have n0_ := Aside0.mk (blk_below (g := gb155) (o := .cells #[.int .i64 a0_0, .int .u32 a0_1, .int .u8 a0_2, .bool a0_3, .int .u64 a0_4, .string a0_5, .string a0_6, .int .u64 a0_7, .int .u16 a0_8, .slice A0_9 l0_9.length c0_9, .slice A0_10 l0_10.length c0_10] 30 (0, 0)) (by (with_reducible repeat (first | refine blk_drewN ?_ _ | refine blk_drew ?_ | refine blk_alloc ?_ _)); exact BK155.out) hb); have n1_ := Aside0.mk (below_step (by repeat (first | (with_reducible first | exact HB.out | apply below_alloc | apply pw_below_drewN | apply below_drew1 | refine below_set ?_ GE155.out) | exact HB.out)) hb); clear BK155; clear HB; have BK155 := n0_; have HB := n1_; clear n0_ n1_; (try clear hb); (try clear hb2); (try clear hk); (try clear hi); have hcz14_0 : w13.cell? ⟨gb155, 0, none⟩ = some (.int .i64 a0_0) := (blk_cell BK155.out 0).trans rfl; have hcz14_1 : w13.cell? ⟨gb155, 1, none⟩ = some (.int .u32 a0_1) := (blk_cell BK155.out 1).trans rfl; have hcz14_2 : w13.cell? ⟨gb155, 2, none⟩ = some (.int .u8 a0_2) := (blk_cell BK155.out 2).trans rfl; have hcz14_3 : w13.cell? ⟨gb155, 3, none⟩ = some (.bool a0_3) := (blk_cell BK155.out 3).trans rfl; have hcz14_4 : w13.cell? ⟨gb155, 4, none⟩ = some (.int .u64 a0_4) := (blk_cell BK155.out 4).trans rfl; have hcz14_5 : w13.cell? ⟨gb155, 5, none⟩ = some (.string a0_5) := (blk_cell BK155.out 5).trans rfl; have hcz14_6 : w13.cell? ⟨gb155, 6, none⟩ = some (.string a0_6) := (blk_cell BK155.out 6).trans rfl; have hcz14_7 : w13.cell? ⟨gb155, 7, none⟩ = some (.int .u64 a0_7) := (blk_cell BK155.out 7).trans rfl; have hcz14_8 : w13.cell? ⟨gb155, 8, none⟩ = some (.int .u16 a0_8) := (blk_cell BK155.out 8).trans rfl; have hcz14_9 : w13.cell? ⟨gb155, 9, none⟩ = some (.slice A0_9 l0_9.length c0_9) := (blk_cell BK155.out 9).trans rfl; have hcz14_10 : w13.cell? ⟨gb155, 10, none⟩ = some (.slice A0_10 l0_10.length c0_10) := (blk_cell BK155.out 10).trans rfl; have hfz14_0 := blk_frozen BK155.out 0; have hfz14_1 := blk_frozen BK155.out 1; have hfz14_2 := blk_frozen BK155.out 2; have hfz14_3 := blk_frozen BK155.out 3; have hfz14_4 := blk_frozen BK155.out 4; have hfz14_5 := blk_frozen BK155.out 5; have hfz14_6 := blk_frozen BK155.out 6; have hfz14_7 := blk_frozen BK155.out 7; have hfz14_8 := blk_frozen BK155.out 8; have hfz14_9 := blk_frozen BK155.out 9; have hfz14_10 := blk_frozen BK155.out 10) | (go_at_call 67; (with_reducible refine (api_Pair_67.calls _ _ l0_10 68 t158 _ ?side1 ?side2 ?side3 A10.out).mono ?_); (case side1 => repeat (first | exact (Kd.C_below HR0_10.out HB.out) | (with_reducible refine Kd.C_alloc ?_ _) | (with_reducible refine Kd.C_drewN ?_ _) | (with_reducible refine Kd.C_drew ?_))); (case side2 => exact HC0_10.out); (case side3 => refine tabs_later HTB.out ?_; repeat (first | (with_reducible first | exact HB.out | apply below_alloc | apply pw_below_drewN | apply below_drew1 | refine below_set ?_ GE155.out) | exact HB.out)); rintro e w15 ⟨rfl, hb⟩; have n0_ := Aside0.mk (blk_below (g := gb155) (o := .cells #[.int .i64 a0_0, .int .u32 a0_1, .int .u8 a0_2, .bool a0_3, .int .u64 a0_4, .string a0_5, .string a0_6, .int .u64 a0_7, .int .u16 a0_8, .slice A0_9 l0_9.length c0_9, .slice A0_10 l0_10.length c0_10] 30 (0, 0)) (by (with_reducible repeat (first | refine blk_drewN ?_ _ | refine blk_drew ?_ | refine blk_alloc ?_ _)); exact BK155.out) hb); have n1_ := Aside0.mk (below_step (by repeat (first | (with_reducible first | exact HB.out | apply below_alloc | apply pw_below_drewN | apply below_drew1 | refine below_set ?_ GE155.out) | exact HB.out)) hb); clear BK155; clear HB; have BK155 := n0_; have HB := n1_; clear n0_ n1_; (try clear hb); (try clear hb2); (try clear hk); (try clear hi)))
      all_goals go_ret
      all_goals first | (exact ⟨by first | rfl | (simp [errW_none, errW_some] <;> rfl) | (simp [*, errW_none, errW_some] <;> rfl), by repeat (first | (with_reducible first | exact HB.out | apply below_alloc | apply pw_below_drewN | apply below_drew1 | refine below_set ?_ GE155.out) | exact HB.out)⟩) | (exfalso; simp_all; done)
    · replace c9 := Bool.eq_false_iff.mpr c9
      subst c9
      have H1 : (some false) = some r := by rw [if_neg (show ¬ (false = true) by decide)] at H; exact H
      clear H
      have H := H1
      clear H1
      obtain rfl := Option.some.inj H
      go_enter Tryd.func38, Tryd.ntmps38
      go_wp2_with (first | ((with_reducible refine gate_dst (N := 2) rfl ?_); refine box_event ?hg (N := 2) ?hd (cs := #[.int .i64 a0_0, .int .u32 a0_1, .int .u8 a0_2, .bool a0_3, .int .u64 a0_4, .string a0_5, .string a0_6, .int .u64 a0_7, .int .u16 a0_8, .slice A0_9 l0_9.length c0_9, .slice A0_10 l0_10.length c0_10]) (t := 30) ?hr ?_; (case hd => rfl); (case hg => rfl); (case hr => first | (go_simp; done) | (go_simp; rfl)); intro gb155 hg w16 hbox hb; have n0_ := Aside0.mk (below_step (by repeat (first | (with_reducible first | exact HB.out | apply below_alloc | apply pw_below_drewN | apply below_drew1) | exact HB.out)) hb); have n1_ := Aside0.mk (hbox); have n2_ := Aside0.mk ((by rw [hg]; exact (below_size (by repeat (first | (with_reducible first | exact HB.out | apply below_alloc | apply pw_below_drewN | apply below_drew1) | exact HB.out))) : w.heap.size ≤ gb155)); have n3_ := Aside0.mk ((by rw [hg]; exact (below_size (by repeat (first | (with_reducible first | exact HB.out | apply below_alloc | apply pw_below_drewN | apply below_drew1) | exact HB.out))) : w.heap.size ≤ gb155)); clear HB; have HB := n0_; have BK155 := n1_; have GW155 := n2_; have GE155 := n3_; clear n0_ n1_ n2_ n3_; clear hb hbox hg; have hcz17_0 : w16.cell? ⟨gb155, 0, none⟩ = some (.int .i64 a0_0) := (blk_cell BK155.out 0).trans rfl; have hcz17_1 : w16.cell? ⟨gb155, 1, none⟩ = some (.int .u32 a0_1) := (blk_cell BK155.out 1).trans rfl; have hcz17_2 : w16.cell? ⟨gb155, 2, none⟩ = some (.int .u8 a0_2) := (blk_cell BK155.out 2).trans rfl; have hcz17_3 : w16.cell? ⟨gb155, 3, none⟩ = some (.bool a0_3) := (blk_cell BK155.out 3).trans rfl; have hcz17_4 : w16.cell? ⟨gb155, 4, none⟩ = some (.int .u64 a0_4) := (blk_cell BK155.out 4).trans rfl; have hcz17_5 : w16.cell? ⟨gb155, 5, none⟩ = some (.string a0_5) := (blk_cell BK155.out 5).trans rfl; have hcz17_6 : w16.cell? ⟨gb155, 6, none⟩ = some (.string a0_6) := (blk_cell BK155.out 6).trans rfl; have hcz17_7 : w16.cell? ⟨gb155, 7, none⟩ = some (.int .u64 a0_7) := (blk_cell BK155.out 7).trans rfl; have hcz17_8 : w16.cell? ⟨gb155, 8, none⟩ = some (.int .u16 a0_8) := (blk_cell BK155.out 8).trans rfl; have hcz17_9 : w16.cell? ⟨gb155, 9, none⟩ = some (.slice A0_9 l0_9.length c0_9) := (blk_cell BK155.out 9).trans rfl; have hcz17_10 : w16.cell? ⟨gb155, 10, none⟩ = some (.slice A0_10 l0_10.length c0_10) := (blk_cell BK155.out 10).trans rfl; have hfz17_0 := blk_frozen BK155.out 0; have hfz17_1 := blk_frozen BK155.out 1; have hfz17_2 := blk_frozen BK155.out 2; have hfz17_3 := blk_frozen BK155.out 3; have hfz17_4 := blk_frozen BK155.out 4; have hfz17_5 := blk_frozen BK155.out 5; have hfz17_6 := blk_frozen BK155.out 6; have hfz17_7 := blk_frozen BK155.out 7; have hfz17_8 := blk_frozen BK155.out 8; have hfz17_9 := blk_frozen BK155.out 9; have hfz17_10 := blk_frozen BK155.out 10) | (go_at_call 66; (with_reducible refine (msg_Key.calls a0_5 false _ ?side1 A8.out).mono ?_); (case side1 => refine tabs_later HTB.out ?_; repeat (first | (with_reducible first | exact HB.out | apply below_alloc | apply pw_below_drewN | apply below_drew1 | refine below_set ?_ GE155.out) | exact HB.out)); rintro e w18 ⟨rfl, hb⟩; have n0_ := Aside0.mk (blk_below (g := gb155) (o := .cells #[.int .i64 a0_0, .int .u32 a0_1, .int .u8 a0_2, .bool a0_3, .int .u64 a0_4, .string a0_5, .string a0_6, .int .u64 a0_7, .int .u16 a0_8, .slice A0_9 l0_9.length c0_9, .slice A0_10 l0_10.length c0_10] 30 (0, 0)) (by (with_reducible repeat (first | refine blk_drewN ?_ _ | refine blk_drew ?_ | refine blk_alloc ?_ _)); exact BK155.out) hb); have n1_ := Aside0.mk (below_step (by repeat (first | (with_reducible first | exact HB.out | apply below_alloc | apply pw_below_drewN | apply below_drew1 | refine below_set ?_ GE155.out) | exact HB.out)) hb); clear BK155; clear HB; have BK155 := n0_; have HB := n1_; clear n0_ n1_; (try clear hb); (try clear hb2); (try clear hk); (try clear hi)))
      all_goals go_ret
      all_goals first | (exact ⟨by first | rfl | (simp [errW_none, errW_some] <;> rfl) | (simp [*, errW_none, errW_some] <;> rfl), by repeat (first | (with_reducible first | exact HB.out | apply below_alloc | apply pw_below_drewN | apply below_drew1 | refine below_set ?_ GE155.out) | exact HB.out)⟩) | (exfalso; simp_all; done)

/-! ### msg_long: function 39 -/
def msg_long.f (a0_0 : Int) (a0_1 : Int) (a0_2 : Int) (a0_3 : Bool) (a0_4 : Int) (a0_5 : ByteArray) (a0_6 : ByteArray) (a0_7 : Int) (a0_8 : Int) (l0_9 : List (S26)) (l0_10 : List (S43)) : Option (Bool) := if (a0_6.size : Int) > 512 then (some true) else (if (l0_9.length : Int) > 16 then (some true) else (if (l0_10.length : Int) > 8 then (some true) else ((api_Pair_67.f l0_10 69).bind fun t160 => (some t160))))
set_option maxHeartbeats 3000000 in
set_option maxRecDepth 100000 in
theorem msg_long.calls (a0_0 : Int) (a0_1 : Int) (a0_2 : Int) (a0_3 : Bool) (a0_4 : Int) (a0_5 : ByteArray) (a0_6 : ByteArray) (a0_7 : Int) (a0_8 : Int) (A0_9 : Option Addr) (c0_9 : Nat) (l0_9 : List (S26)) (A0_10 : Option Addr) (c0_10 : Nat) (l0_10 : List (S43)) (r : Bool) (w : World) (hr0_9 : Kd.C k26 w A0_9 l0_9.length l0_9) (hc0_9 : l0_9.length ≤ c0_9) (hr0_10 : Kd.C k43 w A0_10 l0_10.length l0_10) (hc0_10 : l0_10.length ≤ c0_10) (ht : Lib.Utf8Tabs 0 1 w) (h : msg_long.f a0_0 a0_1 a0_2 a0_3 a0_4 a0_5 a0_6 a0_7 a0_8 l0_9 l0_10 = some r) :
    Calls Tryd.prog 39 #[.agg #[.int .i64 a0_0, .int .u32 a0_1, .int .u8 a0_2, .bool a0_3, .int .u64 a0_4, .string a0_5, .string a0_6, .int .u64 a0_7, .int .u16 a0_8, .slice A0_9 l0_9.length c0_9, .slice A0_10 l0_10.length c0_10]] w fun e w' => e = .returned (.bool r) ∧ Below w.heap.size w w' := by
  have hu30 := Tryd.underlying30
  have HR0_9 := Aside0.mk hr0_9
  have HC0_9 := Aside0.mk hc0_9
  clear hr0_9 hc0_9
  have HR0_10 := Aside0.mk hr0_10
  have HC0_10 := Aside0.mk hc0_10
  clear hr0_10 hc0_10
  have HB := Aside0.mk (Below.refl w.heap.size w)
  have HTB := Aside0.mk ht
  clear ht
  have H : (if (a0_6.size : Int) > 512 then (some true) else (if (l0_9.length : Int) > 16 then (some true) else (if (l0_10.length : Int) > 8 then (some true) else ((api_Pair_67.f l0_10 69).bind fun t160 => (some t160))))) = some r := h
  clear h
  by_cases c2 : (a0_6.size : Int) > 512
  · rw [if_pos c2] at H
    have c2b0 : decide (512 < (a0_6.size : Int)) = true := decide_eq_true c2
    have c2b1 : decide (512 < a0_6.size) = true := decide_eq_true (by omega)
    clear c2
    obtain rfl := Option.some.inj H
    go_enter Tryd.func39, Tryd.ntmps39
    go_wp2_with (first | ((with_reducible refine gate_dst (N := 1) rfl ?_); (try (refine gate_guard (by rfl) ?_; dsimp only)); refine box_event ?hg (N := 1) ?hd (cs := #[.int .i64 a0_0, .int .u32 a0_1, .int .u8 a0_2, .bool a0_3, .int .u64 a0_4, .string a0_5, .string a0_6, .int .u64 a0_7, .int .u16 a0_8, .slice A0_9 l0_9.length c0_9, .slice A0_10 l0_10.length c0_10]) (t := 30) ?hr ?_; (case hd => rfl); (case hg => rfl); (case hr => first | (go_simp; done) | (go_simp; rfl)); intro gb159 hg w3 hbox hb; have n0_ := Aside0.mk (below_step (by repeat (first | (with_reducible first | exact HB.out | apply below_alloc | apply pw_below_drewN | apply below_drew1) | exact HB.out)) hb); have n1_ := Aside0.mk (hbox); have n2_ := Aside0.mk ((by rw [hg]; exact (below_size (by repeat (first | (with_reducible first | exact HB.out | apply below_alloc | apply pw_below_drewN | apply below_drew1) | exact HB.out))) : w.heap.size ≤ gb159)); have n3_ := Aside0.mk ((by rw [hg]; exact (below_size (by repeat (first | (with_reducible first | exact HB.out | apply below_alloc | apply pw_below_drewN | apply below_drew1) | exact HB.out))) : w.heap.size ≤ gb159)); clear HB; have HB := n0_; have BK159 := n1_; have GW159 := n2_; have GE159 := n3_; clear n0_ n1_ n2_ n3_; clear hb hbox hg; have hcz4_0 : w3.cell? ⟨gb159, 0, none⟩ = some (.int .i64 a0_0) := (blk_cell BK159.out 0).trans rfl; have hcz4_1 : w3.cell? ⟨gb159, 1, none⟩ = some (.int .u32 a0_1) := (blk_cell BK159.out 1).trans rfl; have hcz4_2 : w3.cell? ⟨gb159, 2, none⟩ = some (.int .u8 a0_2) := (blk_cell BK159.out 2).trans rfl; have hcz4_3 : w3.cell? ⟨gb159, 3, none⟩ = some (.bool a0_3) := (blk_cell BK159.out 3).trans rfl; have hcz4_4 : w3.cell? ⟨gb159, 4, none⟩ = some (.int .u64 a0_4) := (blk_cell BK159.out 4).trans rfl; have hcz4_5 : w3.cell? ⟨gb159, 5, none⟩ = some (.string a0_5) := (blk_cell BK159.out 5).trans rfl; have hcz4_6 : w3.cell? ⟨gb159, 6, none⟩ = some (.string a0_6) := (blk_cell BK159.out 6).trans rfl; have hcz4_7 : w3.cell? ⟨gb159, 7, none⟩ = some (.int .u64 a0_7) := (blk_cell BK159.out 7).trans rfl; have hcz4_8 : w3.cell? ⟨gb159, 8, none⟩ = some (.int .u16 a0_8) := (blk_cell BK159.out 8).trans rfl; have hcz4_9 : w3.cell? ⟨gb159, 9, none⟩ = some (.slice A0_9 l0_9.length c0_9) := (blk_cell BK159.out 9).trans rfl; have hcz4_10 : w3.cell? ⟨gb159, 10, none⟩ = some (.slice A0_10 l0_10.length c0_10) := (blk_cell BK159.out 10).trans rfl; have hfz4_0 := blk_frozen BK159.out 0; have hfz4_1 := blk_frozen BK159.out 1; have hfz4_2 := blk_frozen BK159.out 2; have hfz4_3 := blk_frozen BK159.out 3; have hfz4_4 := blk_frozen BK159.out 4; have hfz4_5 := blk_frozen BK159.out 5; have hfz4_6 := blk_frozen BK159.out 6; have hfz4_7 := blk_frozen BK159.out 7; have hfz4_8 := blk_frozen BK159.out 8; have hfz4_9 := blk_frozen BK159.out 9; have hfz4_10 := blk_frozen BK159.out 10))
    all_goals go_ret
    all_goals first | (exact ⟨by first | rfl | (simp [errW_none, errW_some] <;> rfl) | (simp [*, errW_none, errW_some] <;> rfl), by repeat (first | (with_reducible first | exact HB.out | apply below_alloc | apply pw_below_drewN | apply below_drew1 | refine below_set ?_ GE159.out) | exact HB.out)⟩) | (exfalso; simp_all; done)
  · rw [if_neg c2] at H
    have c2b0 : decide (512 < (a0_6.size : Int)) = false := decide_eq_false c2
    have c2b1 : decide (512 < a0_6.size) = false := decide_eq_false (by omega)
    clear c2
    by_cases c5 : (l0_9.length : Int) > 16
    · rw [if_pos c5] at H
      have c5b0 : decide (16 < (l0_9.length : Int)) = true := decide_eq_true c5
      have c5b1 : decide (16 < l0_9.length) = true := decide_eq_true (by omega)
      clear c5
      obtain rfl := Option.some.inj H
      go_enter Tryd.func39, Tryd.ntmps39
      go_wp2_with (first | ((with_reducible refine gate_dst (N := 1) rfl ?_); (try (refine gate_guard (by rfl) ?_; dsimp only)); refine box_event ?hg (N := 1) ?hd (cs := #[.int .i64 a0_0, .int .u32 a0_1, .int .u8 a0_2, .bool a0_3, .int .u64 a0_4, .string a0_5, .string a0_6, .int .u64 a0_7, .int .u16 a0_8, .slice A0_9 l0_9.length c0_9, .slice A0_10 l0_10.length c0_10]) (t := 30) ?hr ?_; (case hd => rfl); (case hg => rfl); (case hr => first | (go_simp; done) | (go_simp; rfl)); intro gb159 hg w6 hbox hb; have n0_ := Aside0.mk (below_step (by repeat (first | (with_reducible first | exact HB.out | apply below_alloc | apply pw_below_drewN | apply below_drew1) | exact HB.out)) hb); have n1_ := Aside0.mk (hbox); have n2_ := Aside0.mk ((by rw [hg]; exact (below_size (by repeat (first | (with_reducible first | exact HB.out | apply below_alloc | apply pw_below_drewN | apply below_drew1) | exact HB.out))) : w.heap.size ≤ gb159)); have n3_ := Aside0.mk ((by rw [hg]; exact (below_size (by repeat (first | (with_reducible first | exact HB.out | apply below_alloc | apply pw_below_drewN | apply below_drew1) | exact HB.out))) : w.heap.size ≤ gb159)); clear HB; have HB := n0_; have BK159 := n1_; have GW159 := n2_; have GE159 := n3_; clear n0_ n1_ n2_ n3_; clear hb hbox hg; have hcz7_0 : w6.cell? ⟨gb159, 0, none⟩ = some (.int .i64 a0_0) := (blk_cell BK159.out 0).trans rfl; have hcz7_1 : w6.cell? ⟨gb159, 1, none⟩ = some (.int .u32 a0_1) := (blk_cell BK159.out 1).trans rfl; have hcz7_2 : w6.cell? ⟨gb159, 2, none⟩ = some (.int .u8 a0_2) := (blk_cell BK159.out 2).trans rfl; have hcz7_3 : w6.cell? ⟨gb159, 3, none⟩ = some (.bool a0_3) := (blk_cell BK159.out 3).trans rfl; have hcz7_4 : w6.cell? ⟨gb159, 4, none⟩ = some (.int .u64 a0_4) := (blk_cell BK159.out 4).trans rfl; have hcz7_5 : w6.cell? ⟨gb159, 5, none⟩ = some (.string a0_5) := (blk_cell BK159.out 5).trans rfl; have hcz7_6 : w6.cell? ⟨gb159, 6, none⟩ = some (.string a0_6) := (blk_cell BK159.out 6).trans rfl; have hcz7_7 : w6.cell? ⟨gb159, 7, none⟩ = some (.int .u64 a0_7) := (blk_cell BK159.out 7).trans rfl; have hcz7_8 : w6.cell? ⟨gb159, 8, none⟩ = some (.int .u16 a0_8) := (blk_cell BK159.out 8).trans rfl; have hcz7_9 : w6.cell? ⟨gb159, 9, none⟩ = some (.slice A0_9 l0_9.length c0_9) := (blk_cell BK159.out 9).trans rfl; have hcz7_10 : w6.cell? ⟨gb159, 10, none⟩ = some (.slice A0_10 l0_10.length c0_10) := (blk_cell BK159.out 10).trans rfl; have hfz7_0 := blk_frozen BK159.out 0; have hfz7_1 := blk_frozen BK159.out 1; have hfz7_2 := blk_frozen BK159.out 2; have hfz7_3 := blk_frozen BK159.out 3; have hfz7_4 := blk_frozen BK159.out 4; have hfz7_5 := blk_frozen BK159.out 5; have hfz7_6 := blk_frozen BK159.out 6; have hfz7_7 := blk_frozen BK159.out 7; have hfz7_8 := blk_frozen BK159.out 8; have hfz7_9 := blk_frozen BK159.out 9; have hfz7_10 := blk_frozen BK159.out 10))
      all_goals go_ret
      all_goals first | (exact ⟨by first | rfl | (simp [errW_none, errW_some] <;> rfl) | (simp [*, errW_none, errW_some] <;> rfl), by repeat (first | (with_reducible first | exact HB.out | apply below_alloc | apply pw_below_drewN | apply below_drew1 | refine below_set ?_ GE159.out) | exact HB.out)⟩) | (exfalso; simp_all; done)
    · rw [if_neg c5] at H
      have c5b0 : decide (16 < (l0_9.length : Int)) = false := decide_eq_false c5
      have c5b1 : decide (16 < l0_9.length) = false := decide_eq_false (by omega)
      clear c5
      by_cases c8 : (l0_10.length : Int) > 8
      · rw [if_pos c8] at H
        have c8b0 : decide (8 < (l0_10.length : Int)) = true := decide_eq_true c8
        have c8b1 : decide (8 < l0_10.length) = true := decide_eq_true (by omega)
        clear c8
        obtain rfl := Option.some.inj H
        go_enter Tryd.func39, Tryd.ntmps39
        go_wp2_with (first | ((with_reducible refine gate_dst (N := 1) rfl ?_); (try (refine gate_guard (by rfl) ?_; dsimp only)); refine box_event ?hg (N := 1) ?hd (cs := #[.int .i64 a0_0, .int .u32 a0_1, .int .u8 a0_2, .bool a0_3, .int .u64 a0_4, .string a0_5, .string a0_6, .int .u64 a0_7, .int .u16 a0_8, .slice A0_9 l0_9.length c0_9, .slice A0_10 l0_10.length c0_10]) (t := 30) ?hr ?_; (case hd => rfl); (case hg => rfl); (case hr => first | (go_simp; done) | (go_simp; rfl)); intro gb159 hg w9 hbox hb; have n0_ := Aside0.mk (below_step (by repeat (first | (with_reducible first | exact HB.out | apply below_alloc | apply pw_below_drewN | apply below_drew1) | exact HB.out)) hb); have n1_ := Aside0.mk (hbox); have n2_ := Aside0.mk ((by rw [hg]; exact (below_size (by repeat (first | (with_reducible first | exact HB.out | apply below_alloc | apply pw_below_drewN | apply below_drew1) | exact HB.out))) : w.heap.size ≤ gb159)); have n3_ := Aside0.mk ((by rw [hg]; exact (below_size (by repeat (first | (with_reducible first | exact HB.out | apply below_alloc | apply pw_below_drewN | apply below_drew1) | exact HB.out))) : w.heap.size ≤ gb159)); clear HB; have HB := n0_; have BK159 := n1_; have GW159 := n2_; have GE159 := n3_; clear n0_ n1_ n2_ n3_; clear hb hbox hg; have hcz10_0 : w9.cell? ⟨gb159, 0, none⟩ = some (.int .i64 a0_0) := (blk_cell BK159.out 0).trans rfl; have hcz10_1 : w9.cell? ⟨gb159, 1, none⟩ = some (.int .u32 a0_1) := (blk_cell BK159.out 1).trans rfl; have hcz10_2 : w9.cell? ⟨gb159, 2, none⟩ = some (.int .u8 a0_2) := (blk_cell BK159.out 2).trans rfl; have hcz10_3 : w9.cell? ⟨gb159, 3, none⟩ = some (.bool a0_3) := (blk_cell BK159.out 3).trans rfl; have hcz10_4 : w9.cell? ⟨gb159, 4, none⟩ = some (.int .u64 a0_4) := (blk_cell BK159.out 4).trans rfl; have hcz10_5 : w9.cell? ⟨gb159, 5, none⟩ = some (.string a0_5) := (blk_cell BK159.out 5).trans rfl; have hcz10_6 : w9.cell? ⟨gb159, 6, none⟩ = some (.string a0_6) := (blk_cell BK159.out 6).trans rfl; have hcz10_7 : w9.cell? ⟨gb159, 7, none⟩ = some (.int .u64 a0_7) := (blk_cell BK159.out 7).trans rfl; have hcz10_8 : w9.cell? ⟨gb159, 8, none⟩ = some (.int .u16 a0_8) := (blk_cell BK159.out 8).trans rfl; have hcz10_9 : w9.cell? ⟨gb159, 9, none⟩ = some (.slice A0_9 l0_9.length c0_9) := (blk_cell BK159.out 9).trans rfl; have hcz10_10 : w9.cell? ⟨gb159, 10, none⟩ = some (.slice A0_10 l0_10.length c0_10) := (blk_cell BK159.out 10).trans rfl; have hfz10_0 := blk_frozen BK159.out 0; have hfz10_1 := blk_frozen BK159.out 1; have hfz10_2 := blk_frozen BK159.out 2; have hfz10_3 := blk_frozen BK159.out 3; have hfz10_4 := blk_frozen BK159.out 4; have hfz10_5 := blk_frozen BK159.out 5; have hfz10_6 := blk_frozen BK159.out 6; have hfz10_7 := blk_frozen BK159.out 7; have hfz10_8 := blk_frozen BK159.out 8; have hfz10_9 := blk_frozen BK159.out 9; have hfz10_10 := blk_frozen BK159.out 10))
        all_goals go_ret
        all_goals first | (exact ⟨by first | rfl | (simp [errW_none, errW_some] <;> rfl) | (simp [*, errW_none, errW_some] <;> rfl), by repeat (first | (with_reducible first | exact HB.out | apply below_alloc | apply pw_below_drewN | apply below_drew1 | refine below_set ?_ GE159.out) | exact HB.out)⟩) | (exfalso; simp_all; done)
      · rw [if_neg c8] at H
        have c8b0 : decide (8 < (l0_10.length : Int)) = false := decide_eq_false c8
        have c8b1 : decide (8 < l0_10.length) = false := decide_eq_false (by omega)
        clear c8
        replace H := Option.bind_eq_some_iff.mp H
        obtain ⟨t160, A110, H⟩ := H
        replace H : (some t160) = some r := H
        have A11 := Aside0.mk A110
        clear A110
        obtain rfl := Option.some.inj H
        go_enter Tryd.func39, Tryd.ntmps39
        go_wp2_with (first | ((with_reducible refine gate_dst (N := 1) rfl ?_); (try (refine gate_guard (by rfl) ?_; dsimp only)); refine box_event ?hg (N := 1) ?hd (cs := #[.int .i64 a0_0, .int .u32 a0_1, .int .u8 a0_2, .bool a0_3, .int .u64 a0_4, .string a0_5, .string a0_6, .int .u64 a0_7, .int .u16 a0_8, .slice A0_9 l0_9.length c0_9, .slice A0_10 l0_10.length c0_10]) (t := 30) ?hr ?_; (case hd => rfl); (case hg => rfl); (case hr => first | (go_simp; done) | (go_simp; rfl)); intro gb159 hg w12 hbox hb; have n0_ := Aside0.mk (below_step (by repeat (first | (with_reducible first | exact HB.out | apply below_alloc | apply pw_below_drewN | apply below_drew1) | exact HB.out)) hb); have n1_ := Aside0.mk (hbox); have n2_ := Aside0.mk ((by rw [hg]; exact (below_size (by repeat (first | (with_reducible first | exact HB.out | apply below_alloc | apply pw_below_drewN | apply below_drew1) | exact HB.out))) : w.heap.size ≤ gb159)); have n3_ := Aside0.mk ((by rw [hg]; exact (below_size (by repeat (first | (with_reducible first | exact HB.out | apply below_alloc | apply pw_below_drewN | apply below_drew1) | exact HB.out))) : w.heap.size ≤ gb159)); clear HB; have HB := n0_; have BK159 := n1_; have GW159 := n2_; have GE159 := n3_; clear n0_ n1_ n2_ n3_; clear hb hbox hg; have hcz13_0 : w12.cell? ⟨gb159, 0, none⟩ = some (.int .i64 a0_0) := (blk_cell BK159.out 0).trans rfl; have hcz13_1 : w12.cell? ⟨gb159, 1, none⟩ = some (.int .u32 a0_1) := (blk_cell BK159.out 1).trans rfl; have hcz13_2 : w12.cell? ⟨gb159, 2, none⟩ = some (.int .u8 a0_2) := (blk_cell BK159.out 2).trans rfl; have hcz13_3 : w12.cell? ⟨gb159, 3, none⟩ = some (.bool a0_3) := (blk_cell BK159.out 3).trans rfl; have hcz13_4 : w12.cell? ⟨gb159, 4, none⟩ = some (.int .u64 a0_4) := (blk_cell BK159.out 4).trans rfl; have hcz13_5 : w12.cell? ⟨gb159, 5, none⟩ = some (.string a0_5) := (blk_cell BK159.out 5).trans rfl; have hcz13_6 : w12.cell? ⟨gb159, 6, none⟩ = some (.string a0_6) := (blk_cell BK159.out 6).trans rfl; have hcz13_7 : w12.cell? ⟨gb159, 7, none⟩ = some (.int .u64 a0_7) := (blk_cell BK159.out 7).trans rfl; have hcz13_8 : w12.cell? ⟨gb159, 8, none⟩ = some (.int .u16 a0_8) := (blk_cell BK159.out 8).trans rfl; have hcz13_9 : w12.cell? ⟨gb159, 9, none⟩ = some (.slice A0_9 l0_9.length c0_9) := (blk_cell BK159.out 9).trans rfl; have hcz13_10 : w12.cell? ⟨gb159, 10, none⟩ = some (.slice A0_10 l0_10.length c0_10) := (blk_cell BK159.out 10).trans rfl; have hfz13_0 := blk_frozen BK159.out 0; have hfz13_1 := blk_frozen BK159.out 1; have hfz13_2 := blk_frozen BK159.out 2; have hfz13_3 := blk_frozen BK159.out 3; have hfz13_4 := blk_frozen BK159.out 4; have hfz13_5 := blk_frozen BK159.out 5; have hfz13_6 := blk_frozen BK159.out 6; have hfz13_7 := blk_frozen BK159.out 7; have hfz13_8 := blk_frozen BK159.out 8; have hfz13_9 := blk_frozen BK159.out 9; have hfz13_10 := blk_frozen BK159.out 10) | (go_at_call 67; (with_reducible refine (api_Pair_67.calls _ _ l0_10 69 t160 _ ?side1 ?side2 ?side3 A11.out).mono ?_); (case side1 => repeat (first | exact (Kd.C_below HR0_10.out HB.out) | (with_reducible refine Kd.C_alloc ?_ _) | (with_reducible refine Kd.C_drewN ?_ _) | (with_reducible refine Kd.C_drew ?_))); (case side2 => exact HC0_10.out); (case side3 => refine tabs_later HTB.out ?_; repeat (first | (with_reducible first | exact HB.out | apply below_alloc | apply pw_below_drewN | apply below_drew1 | refine below_set ?_ GE159.out) | exact HB.out)); rintro e w14 ⟨rfl, hb⟩; have n0_ := Aside0.mk (blk_below (g := gb159) (o := .cells #[.int .i64 a0_0, .int .u32 a0_1, .int .u8 a0_2, .bool a0_3, .int .u64 a0_4, .string a0_5, .string a0_6, .int .u64 a0_7, .int .u16 a0_8, .slice A0_9 l0_9.length c0_9, .slice A0_10 l0_10.length c0_10] 30 (0, 0)) (by (with_reducible repeat (first | refine blk_drewN ?_ _ | refine blk_drew ?_ | refine blk_alloc ?_ _)); exact BK159.out) hb); have n1_ := Aside0.mk (below_step (by repeat (first | (with_reducible first | exact HB.out | apply below_alloc | apply pw_below_drewN | apply below_drew1 | refine below_set ?_ GE159.out) | exact HB.out)) hb); clear BK159; clear HB; have BK159 := n0_; have HB := n1_; clear n0_ n1_; (try clear hb); (try clear hb2); (try clear hk); (try clear hi)))
        all_goals go_ret
        all_goals first | (exact ⟨by first | rfl | (simp [errW_none, errW_some] <;> rfl) | (simp [*, errW_none, errW_some] <;> rfl), by repeat (first | (with_reducible first | exact HB.out | apply below_alloc | apply pw_below_drewN | apply below_drew1 | refine below_set ?_ GE159.out) | exact HB.out)⟩) | (exfalso; simp_all; done)

/-! ### msg_short: function 40 -/
def msg_short.f (a0_0 : Int) (a0_1 : Int) (a0_2 : Int) (a0_3 : Bool) (a0_4 : Int) (a0_5 : ByteArray) (a0_6 : ByteArray) (a0_7 : Int) (a0_8 : Int) (l0_9 : List (S26)) (l0_10 : List (S43)) : Option (Bool) := if a0_0 = 2 then (some ((l0_9.length : Int) == 0)) else (if a0_0 = 10 then (some ((l0_10.length : Int) == 0)) else (if a0_0 = 12 then (some (a0_2 == 0)) else (some false)))
set_option maxHeartbeats 3000000 in
set_option maxRecDepth 100000 in
theorem msg_short.calls (a0_0 : Int) (a0_1 : Int) (a0_2 : Int) (a0_3 : Bool) (a0_4 : Int) (a0_5 : ByteArray) (a0_6 : ByteArray) (a0_7 : Int) (a0_8 : Int) (A0_9 : Option Addr) (c0_9 : Nat) (l0_9 : List (S26)) (A0_10 : Option Addr) (c0_10 : Nat) (l0_10 : List (S43)) (r : Bool) (w : World) (hr0_9 : Kd.C k26 w A0_9 l0_9.length l0_9) (hc0_9 : l0_9.length ≤ c0_9) (hr0_10 : Kd.C k43 w A0_10 l0_10.length l0_10) (hc0_10 : l0_10.length ≤ c0_10) (h : msg_short.f a0_0 a0_1 a0_2 a0_3 a0_4 a0_5 a0_6 a0_7 a0_8 l0_9 l0_10 = some r) :
    Calls Tryd.prog 40 #[.agg #[.int .i64 a0_0, .int .u32 a0_1, .int .u8 a0_2, .bool a0_3, .int .u64 a0_4, .string a0_5, .string a0_6, .int .u64 a0_7, .int .u16 a0_8, .slice A0_9 l0_9.length c0_9, .slice A0_10 l0_10.length c0_10]] w fun e w' => e = .returned (.bool r) ∧ Below w.heap.size w w' := by
  have hu30 := Tryd.underlying30
  have HR0_9 := Aside0.mk hr0_9
  have HC0_9 := Aside0.mk hc0_9
  clear hr0_9 hc0_9
  have HR0_10 := Aside0.mk hr0_10
  have HC0_10 := Aside0.mk hc0_10
  clear hr0_10 hc0_10
  have HB := Aside0.mk (Below.refl w.heap.size w)
  have H : (if a0_0 = 2 then (some ((l0_9.length : Int) == 0)) else (if a0_0 = 10 then (some ((l0_10.length : Int) == 0)) else (if a0_0 = 12 then (some (a0_2 == 0)) else (some false)))) = some r := h
  clear h
  by_cases c2 : a0_0 = 2
  · rw [if_pos c2] at H
    have c2b0 : (a0_0 == 2) = true := beq_iff_eq.mpr c2
    have c2b1 : (a0_0 != 2) = false := bne_eq_false_iff_eq.mpr c2
    clear c2
    obtain rfl := Option.some.inj H
    go_enter Tryd.func40, Tryd.ntmps40
    go_wp2_with (first | ((with_reducible refine gate_dst (N := 1) rfl ?_); refine box_event ?hg (N := 1) ?hd (cs := #[.int .i64 a0_0, .int .u32 a0_1, .int .u8 a0_2, .bool a0_3, .int .u64 a0_4, .string a0_5, .string a0_6, .int .u64 a0_7, .int .u16 a0_8, .slice A0_9 l0_9.length c0_9, .slice A0_10 l0_10.length c0_10]) (t := 30) ?hr ?_; (case hd => rfl); (case hg => rfl); (case hr => first | (go_simp; done) | (go_simp; rfl)); intro gb161 hg w3 hbox hb; have n0_ := Aside0.mk (below_step (by repeat (first | (with_reducible first | exact HB.out | apply below_alloc | apply pw_below_drewN | apply below_drew1) | exact HB.out)) hb); have n1_ := Aside0.mk (hbox); have n2_ := Aside0.mk ((by rw [hg]; exact (below_size (by repeat (first | (with_reducible first | exact HB.out | apply below_alloc | apply pw_below_drewN | apply below_drew1) | exact HB.out))) : w.heap.size ≤ gb161)); have n3_ := Aside0.mk ((by rw [hg]; exact (below_size (by repeat (first | (with_reducible first | exact HB.out | apply below_alloc | apply pw_below_drewN | apply below_drew1) | exact HB.out))) : w.heap.size ≤ gb161)); clear HB; have HB := n0_; have BK161 := n1_; have GW161 := n2_; have GE161 := n3_; clear n0_ n1_ n2_ n3_; clear hb hbox hg; have hcz4_0 : w3.cell? ⟨gb161, 0, none⟩ = some (.int .i64 a0_0) := (blk_cell BK161.out 0).trans rfl; have hcz4_1 : w3.cell? ⟨gb161, 1, none⟩ = some (.int .u32 a0_1) := (blk_cell BK161.out 1).trans rfl; have hcz4_2 : w3.cell? ⟨gb161, 2, none⟩ = some (.int .u8 a0_2) := (blk_cell BK161.out 2).trans rfl; have hcz4_3 : w3.cell? ⟨gb161, 3, none⟩ = some (.bool a0_3) := (blk_cell BK161.out 3).trans rfl; have hcz4_4 : w3.cell? ⟨gb161, 4, none⟩ = some (.int .u64 a0_4) := (blk_cell BK161.out 4).trans rfl; have hcz4_5 : w3.cell? ⟨gb161, 5, none⟩ = some (.string a0_5) := (blk_cell BK161.out 5).trans rfl; have hcz4_6 : w3.cell? ⟨gb161, 6, none⟩ = some (.string a0_6) := (blk_cell BK161.out 6).trans rfl; have hcz4_7 : w3.cell? ⟨gb161, 7, none⟩ = some (.int .u64 a0_7) := (blk_cell BK161.out 7).trans rfl; have hcz4_8 : w3.cell? ⟨gb161, 8, none⟩ = some (.int .u16 a0_8) := (blk_cell BK161.out 8).trans rfl; have hcz4_9 : w3.cell? ⟨gb161, 9, none⟩ = some (.slice A0_9 l0_9.length c0_9) := (blk_cell BK161.out 9).trans rfl; have hcz4_10 : w3.cell? ⟨gb161, 10, none⟩ = some (.slice A0_10 l0_10.length c0_10) := (blk_cell BK161.out 10).trans rfl; have hfz4_0 := blk_frozen BK161.out 0; have hfz4_1 := blk_frozen BK161.out 1; have hfz4_2 := blk_frozen BK161.out 2; have hfz4_3 := blk_frozen BK161.out 3; have hfz4_4 := blk_frozen BK161.out 4; have hfz4_5 := blk_frozen BK161.out 5; have hfz4_6 := blk_frozen BK161.out 6; have hfz4_7 := blk_frozen BK161.out 7; have hfz4_8 := blk_frozen BK161.out 8; have hfz4_9 := blk_frozen BK161.out 9; have hfz4_10 := blk_frozen BK161.out 10))
    all_goals go_ret
    all_goals first | (exact ⟨by first | rfl | (simp [errW_none, errW_some] <;> rfl) | (simp [*, errW_none, errW_some] <;> rfl), by repeat (first | (with_reducible first | exact HB.out | apply below_alloc | apply pw_below_drewN | apply below_drew1 | refine below_set ?_ GE161.out) | exact HB.out)⟩) | (exfalso; simp_all; done)
  · rw [if_neg c2] at H
    have c2b0 : (a0_0 == 2) = false := beq_eq_false_iff_ne.mpr c2
    have c2b1 : (a0_0 != 2) = true := bne_iff_ne.mpr c2
    by_cases c5 : a0_0 = 10
    · rw [if_pos c5] at H
      have c5b0 : (a0_0 == 10) = true := beq_iff_eq.mpr c5
      have c5b1 : (a0_0 != 10) = false := bne_eq_false_iff_eq.mpr c5
      clear c5
      obtain rfl := Option.some.inj H
      go_enter Tryd.func40, Tryd.ntmps40
      go_wp2_with (first | ((with_reducible refine gate_dst (N := 1) rfl ?_); refine box_event ?hg (N := 1) ?hd (cs := #[.int .i64 a0_0, .int .u32 a0_1, .int .u8 a0_2, .bool a0_3, .int .u64 a0_4, .string a0_5, .string a0_6, .int .u64 a0_7, .int .u16 a0_8, .slice A0_9 l0_9.length c0_9, .slice A0_10 l0_10.length c0_10]) (t := 30) ?hr ?_; (case hd => rfl); (case hg => rfl); (case hr => first | (go_simp; done) | (go_simp; rfl)); intro gb161 hg w6 hbox hb; have n0_ := Aside0.mk (below_step (by repeat (first | (with_reducible first | exact HB.out | apply below_alloc | apply pw_below_drewN | apply below_drew1) | exact HB.out)) hb); have n1_ := Aside0.mk (hbox); have n2_ := Aside0.mk ((by rw [hg]; exact (below_size (by repeat (first | (with_reducible first | exact HB.out | apply below_alloc | apply pw_below_drewN | apply below_drew1) | exact HB.out))) : w.heap.size ≤ gb161)); have n3_ := Aside0.mk ((by rw [hg]; exact (below_size (by repeat (first | (with_reducible first | exact HB.out | apply below_alloc | apply pw_below_drewN | apply below_drew1) | exact HB.out))) : w.heap.size ≤ gb161)); clear HB; have HB := n0_; have BK161 := n1_; have GW161 := n2_; have GE161 := n3_; clear n0_ n1_ n2_ n3_; clear hb hbox hg; have hcz7_0 : w6.cell? ⟨gb161, 0, none⟩ = some (.int .i64 a0_0) := (blk_cell BK161.out 0).trans rfl; have hcz7_1 : w6.cell? ⟨gb161, 1, none⟩ = some (.int .u32 a0_1) := (blk_cell BK161.out 1).trans rfl; have hcz7_2 : w6.cell? ⟨gb161, 2, none⟩ = some (.int .u8 a0_2) := (blk_cell BK161.out 2).trans rfl; have hcz7_3 : w6.cell? ⟨gb161, 3, none⟩ = some (.bool a0_3) := (blk_cell BK161.out 3).trans rfl; have hcz7_4 : w6.cell? ⟨gb161, 4, none⟩ = some (.int .u64 a0_4) := (blk_cell BK161.out 4).trans rfl; have hcz7_5 : w6.cell? ⟨gb161, 5, none⟩ = some (.string a0_5) := (blk_cell BK161.out 5).trans rfl; have hcz7_6 : w6.cell? ⟨gb161, 6, none⟩ = some (.string a0_6) := (blk_cell BK161.out 6).trans rfl; have hcz7_7 : w6.cell? ⟨gb161, 7, none⟩ = some (.int .u64 a0_7) := (blk_cell BK161.out 7).trans rfl; have hcz7_8 : w6.cell? ⟨gb161, 8, none⟩ = some (.int .u16 a0_8) := (blk_cell BK161.out 8).trans rfl; have hcz7_9 : w6.cell? ⟨gb161, 9, none⟩ = some (.slice A0_9 l0_9.length c0_9) := (blk_cell BK161.out 9).trans rfl; have hcz7_10 : w6.cell? ⟨gb161, 10, none⟩ = some (.slice A0_10 l0_10.length c0_10) := (blk_cell BK161.out 10).trans rfl; have hfz7_0 := blk_frozen BK161.out 0; have hfz7_1 := blk_frozen BK161.out 1; have hfz7_2 := blk_frozen BK161.out 2; have hfz7_3 := blk_frozen BK161.out 3; have hfz7_4 := blk_frozen BK161.out 4; have hfz7_5 := blk_frozen BK161.out 5; have hfz7_6 := blk_frozen BK161.out 6; have hfz7_7 := blk_frozen BK161.out 7; have hfz7_8 := blk_frozen BK161.out 8; have hfz7_9 := blk_frozen BK161.out 9; have hfz7_10 := blk_frozen BK161.out 10))
      all_goals go_ret
      all_goals first | (exact ⟨by first | rfl | (simp [errW_none, errW_some] <;> rfl) | (simp [*, errW_none, errW_some] <;> rfl), by repeat (first | (with_reducible first | exact HB.out | apply below_alloc | apply pw_below_drewN | apply below_drew1 | refine below_set ?_ GE161.out) | exact HB.out)⟩) | (exfalso; simp_all; done)
    · rw [if_neg c5] at H
      have c5b0 : (a0_0 == 10) = false := beq_eq_false_iff_ne.mpr c5
      have c5b1 : (a0_0 != 10) = true := bne_iff_ne.mpr c5
      by_cases c8 : a0_0 = 12
      · rw [if_pos c8] at H
        have c8b0 : (a0_0 == 12) = true := beq_iff_eq.mpr c8
        have c8b1 : (a0_0 != 12) = false := bne_eq_false_iff_eq.mpr c8
        clear c8
        obtain rfl := Option.some.inj H
        go_enter Tryd.func40, Tryd.ntmps40
        go_wp2_with (first | ((with_reducible refine gate_dst (N := 1) rfl ?_); refine box_event ?hg (N := 1) ?hd (cs := #[.int .i64 a0_0, .int .u32 a0_1, .int .u8 a0_2, .bool a0_3, .int .u64 a0_4, .string a0_5, .string a0_6, .int .u64 a0_7, .int .u16 a0_8, .slice A0_9 l0_9.length c0_9, .slice A0_10 l0_10.length c0_10]) (t := 30) ?hr ?_; (case hd => rfl); (case hg => rfl); (case hr => first | (go_simp; done) | (go_simp; rfl)); intro gb161 hg w9 hbox hb; have n0_ := Aside0.mk (below_step (by repeat (first | (with_reducible first | exact HB.out | apply below_alloc | apply pw_below_drewN | apply below_drew1) | exact HB.out)) hb); have n1_ := Aside0.mk (hbox); have n2_ := Aside0.mk ((by rw [hg]; exact (below_size (by repeat (first | (with_reducible first | exact HB.out | apply below_alloc | apply pw_below_drewN | apply below_drew1) | exact HB.out))) : w.heap.size ≤ gb161)); have n3_ := Aside0.mk ((by rw [hg]; exact (below_size (by repeat (first | (with_reducible first | exact HB.out | apply below_alloc | apply pw_below_drewN | apply below_drew1) | exact HB.out))) : w.heap.size ≤ gb161)); clear HB; have HB := n0_; have BK161 := n1_; have GW161 := n2_; have GE161 := n3_; clear n0_ n1_ n2_ n3_; clear hb hbox hg; have hcz10_0 : w9.cell? ⟨gb161, 0, none⟩ = some (.int .i64 a0_0) := (blk_cell BK161.out 0).trans rfl; have hcz10_1 : w9.cell? ⟨gb161, 1, none⟩ = some (.int .u32 a0_1) := (blk_cell BK161.out 1).trans rfl; have hcz10_2 : w9.cell? ⟨gb161, 2, none⟩ = some (.int .u8 a0_2) := (blk_cell BK161.out 2).trans rfl; have hcz10_3 : w9.cell? ⟨gb161, 3, none⟩ = some (.bool a0_3) := (blk_cell BK161.out 3).trans rfl; have hcz10_4 : w9.cell? ⟨gb161, 4, none⟩ = some (.int .u64 a0_4) := (blk_cell BK161.out 4).trans rfl; have hcz10_5 : w9.cell? ⟨gb161, 5, none⟩ = some (.string a0_5) := (blk_cell BK161.out 5).trans rfl; have hcz10_6 : w9.cell? ⟨gb161, 6, none⟩ = some (.string a0_6) := (blk_cell BK161.out 6).trans rfl; have hcz10_7 : w9.cell? ⟨gb161, 7, none⟩ = some (.int .u64 a0_7) := (blk_cell BK161.out 7).trans rfl; have hcz10_8 : w9.cell? ⟨gb161, 8, none⟩ = some (.int .u16 a0_8) := (blk_cell BK161.out 8).trans rfl; have hcz10_9 : w9.cell? ⟨gb161, 9, none⟩ = some (.slice A0_9 l0_9.length c0_9) := (blk_cell BK161.out 9).trans rfl; have hcz10_10 : w9.cell? ⟨gb161, 10, none⟩ = some (.slice A0_10 l0_10.length c0_10) := (blk_cell BK161.out 10).trans rfl; have hfz10_0 := blk_frozen BK161.out 0; have hfz10_1 := blk_frozen BK161.out 1; have hfz10_2 := blk_frozen BK161.out 2; have hfz10_3 := blk_frozen BK161.out 3; have hfz10_4 := blk_frozen BK161.out 4; have hfz10_5 := blk_frozen BK161.out 5; have hfz10_6 := blk_frozen BK161.out 6; have hfz10_7 := blk_frozen BK161.out 7; have hfz10_8 := blk_frozen BK161.out 8; have hfz10_9 := blk_frozen BK161.out 9; have hfz10_10 := blk_frozen BK161.out 10))
        all_goals go_ret
        all_goals first | (exact ⟨by first | rfl | (simp [errW_none, errW_some] <;> rfl) | (simp [*, errW_none, errW_some] <;> rfl), by repeat (first | (with_reducible first | exact HB.out | apply below_alloc | apply pw_below_drewN | apply below_drew1 | refine below_set ?_ GE161.out) | exact HB.out)⟩) | (exfalso; simp_all; done)
      · rw [if_neg c8] at H
        have c8b0 : (a0_0 == 12) = false := beq_eq_false_iff_ne.mpr c8
        have c8b1 : (a0_0 != 12) = true := bne_iff_ne.mpr c8
        obtain rfl := Option.some.inj H
        go_enter Tryd.func40, Tryd.ntmps40
        go_wp2_with (first | ((with_reducible refine gate_dst (N := 1) rfl ?_); refine box_event ?hg (N := 1) ?hd (cs := #[.int .i64 a0_0, .int .u32 a0_1, .int .u8 a0_2, .bool a0_3, .int .u64 a0_4, .string a0_5, .string a0_6, .int .u64 a0_7, .int .u16 a0_8, .slice A0_9 l0_9.length c0_9, .slice A0_10 l0_10.length c0_10]) (t := 30) ?hr ?_; (case hd => rfl); (case hg => rfl); (case hr => first | (go_simp; done) | (go_simp; rfl)); intro gb161 hg w11 hbox hb; have n0_ := Aside0.mk (below_step (by repeat (first | (with_reducible first | exact HB.out | apply below_alloc | apply pw_below_drewN | apply below_drew1) | exact HB.out)) hb); have n1_ := Aside0.mk (hbox); have n2_ := Aside0.mk ((by rw [hg]; exact (below_size (by repeat (first | (with_reducible first | exact HB.out | apply below_alloc | apply pw_below_drewN | apply below_drew1) | exact HB.out))) : w.heap.size ≤ gb161)); have n3_ := Aside0.mk ((by rw [hg]; exact (below_size (by repeat (first | (with_reducible first | exact HB.out | apply below_alloc | apply pw_below_drewN | apply below_drew1) | exact HB.out))) : w.heap.size ≤ gb161)); clear HB; have HB := n0_; have BK161 := n1_; have GW161 := n2_; have GE161 := n3_; clear n0_ n1_ n2_ n3_; clear hb hbox hg; have hcz12_0 : w11.cell? ⟨gb161, 0, none⟩ = some (.int .i64 a0_0) := (blk_cell BK161.out 0).trans rfl; have hcz12_1 : w11.cell? ⟨gb161, 1, none⟩ = some (.int .u32 a0_1) := (blk_cell BK161.out 1).trans rfl; have hcz12_2 : w11.cell? ⟨gb161, 2, none⟩ = some (.int .u8 a0_2) := (blk_cell BK161.out 2).trans rfl; have hcz12_3 : w11.cell? ⟨gb161, 3, none⟩ = some (.bool a0_3) := (blk_cell BK161.out 3).trans rfl; have hcz12_4 : w11.cell? ⟨gb161, 4, none⟩ = some (.int .u64 a0_4) := (blk_cell BK161.out 4).trans rfl; have hcz12_5 : w11.cell? ⟨gb161, 5, none⟩ = some (.string a0_5) := (blk_cell BK161.out 5).trans rfl; have hcz12_6 : w11.cell? ⟨gb161, 6, none⟩ = some (.string a0_6) := (blk_cell BK161.out 6).trans rfl; have hcz12_7 : w11.cell? ⟨gb161, 7, none⟩ = some (.int .u64 a0_7) := (blk_cell BK161.out 7).trans rfl; have hcz12_8 : w11.cell? ⟨gb161, 8, none⟩ = some (.int .u16 a0_8) := (blk_cell BK161.out 8).trans rfl; have hcz12_9 : w11.cell? ⟨gb161, 9, none⟩ = some (.slice A0_9 l0_9.length c0_9) := (blk_cell BK161.out 9).trans rfl; have hcz12_10 : w11.cell? ⟨gb161, 10, none⟩ = some (.slice A0_10 l0_10.length c0_10) := (blk_cell BK161.out 10).trans rfl; have hfz12_0 := blk_frozen BK161.out 0; have hfz12_1 := blk_frozen BK161.out 1; have hfz12_2 := blk_frozen BK161.out 2; have hfz12_3 := blk_frozen BK161.out 3; have hfz12_4 := blk_frozen BK161.out 4; have hfz12_5 := blk_frozen BK161.out 5; have hfz12_6 := blk_frozen BK161.out 6; have hfz12_7 := blk_frozen BK161.out 7; have hfz12_8 := blk_frozen BK161.out 8; have hfz12_9 := blk_frozen BK161.out 9; have hfz12_10 := blk_frozen BK161.out 10))
        all_goals go_ret
        all_goals first | (exact ⟨by first | rfl | (simp [errW_none, errW_some] <;> rfl) | (simp [*, errW_none, errW_some] <;> rfl), by repeat (first | (with_reducible first | exact HB.out | apply below_alloc | apply pw_below_drewN | apply below_drew1 | refine below_set ?_ GE161.out) | exact HB.out)⟩) | (exfalso; simp_all; done)


/-! ### msg_Right: function 13 -/
def msg_Right.f (k : Nat) (a0_0 : Int) (a0_1 : Int) (a0_2 : Int) (a0_3 : Bool) (a0_4 : Int) (a0_5 : ByteArray) (a0_6 : ByteArray) (a0_7 : Int) (a0_8 : Int) (l0_9 : List (S26)) (l0_10 : List (S43)) : Option (Int) := (msg_fields.f a0_0 a0_1 a0_2 a0_3 a0_4 a0_5 a0_6 a0_7 a0_8 l0_9 l0_10).bind fun F => (msg_Name.f a0_0).bind fun N => if N.toList = ([63] : List UInt8) then some 9 else (msg_Bare.f a0_0 a0_1 a0_2 a0_3 a0_4 a0_5 a0_6 a0_7 a0_8 l0_9 l0_10).bind fun b => (msg_Same.f k a0_0 a0_1 a0_2 a0_3 a0_4 a0_5 a0_6 a0_7 a0_8 l0_9 l0_10 b.1 b.2.1 b.2.2.1 b.2.2.2.1 b.2.2.2.2.1 b.2.2.2.2.2.1 b.2.2.2.2.2.2.1 b.2.2.2.2.2.2.2.1 b.2.2.2.2.2.2.2.2.1 b.2.2.2.2.2.2.2.2.2.1 b.2.2.2.2.2.2.2.2.2.2).bind fun t1 => if t1 = true then (msg_text.f a0_0 a0_1 a0_2 a0_3 a0_4 a0_5 a0_6 a0_7 a0_8 l0_9 l0_10 F).bind fun t2 => if t2 = true then (msg_long.f a0_0 a0_1 a0_2 a0_3 a0_4 a0_5 a0_6 a0_7 a0_8 l0_9 l0_10).bind fun t3 => if t3 = true then some 5 else (msg_short.f a0_0 a0_1 a0_2 a0_3 a0_4 a0_5 a0_6 a0_7 a0_8 l0_9 l0_10).bind fun t4 => if t4 = true then some 2 else some 0 else some 7 else some 1
set_option maxHeartbeats 4000000 in
set_option maxRecDepth 100000 in
theorem msg_Right.calls (k : Nat) (a0_0 : Int) (a0_1 : Int) (a0_2 : Int) (a0_3 : Bool) (a0_4 : Int) (a0_5 : ByteArray) (a0_6 : ByteArray) (a0_7 : Int) (a0_8 : Int) (A0_9 : Option Addr) (c0_9 : Nat) (l0_9 : List (S26)) (A0_10 : Option Addr) (c0_10 : Nat) (l0_10 : List (S43)) (r : Int) (w : World) (hr0_9 : Kd.C k26 w A0_9 l0_9.length l0_9) (hc0_9 : l0_9.length ≤ c0_9) (hr0_10 : Kd.C k43 w A0_10 l0_10.length l0_10) (hc0_10 : l0_10.length ≤ c0_10) (ht : Lib.Utf8Tabs 0 1 w) (h : msg_Right.f k a0_0 a0_1 a0_2 a0_3 a0_4 a0_5 a0_6 a0_7 a0_8 l0_9 l0_10 = some r) :
    Calls Tryd.prog 13 #[.agg #[.int .i64 a0_0, .int .u32 a0_1, .int .u8 a0_2, .bool a0_3, .int .u64 a0_4, .string a0_5, .string a0_6, .int .u64 a0_7, .int .u16 a0_8, .slice A0_9 l0_9.length c0_9, .slice A0_10 l0_10.length c0_10]] w fun e w' => e = .returned (.int .i64 r) ∧ Below w.heap.size w w' := by
  have hu30 := Tryd.underlying30
  have hu26 := Tryd.underlying26
  have HTB := Aside0.mk ht
  have HB0 := Aside0.mk (below_alloc (Below.refl w.heap.size w) (.cells #[.int .i64 a0_0, .int .u32 a0_1, .int .u8 a0_2, .bool a0_3, .int .u64 a0_4, .string a0_5, .string a0_6, .int .u64 a0_7, .int .u16 a0_8, .slice A0_9 l0_9.length c0_9, .slice A0_10 l0_10.length c0_10] 30))
  have HN0 := Aside0.mk (blk_new w (.cells #[.int .i64 a0_0, .int .u32 a0_1, .int .u8 a0_2, .bool a0_3, .int .u64 a0_4, .string a0_5, .string a0_6, .int .u64 a0_7, .int .u16 a0_8, .slice A0_9 l0_9.length c0_9, .slice A0_10 l0_10.length c0_10] 30))
  have HR := Aside0.mk (show ∀ W, Below w.heap.size w W → Kd.C k26 W A0_9 l0_9.length l0_9 ∧ Kd.C k43 W A0_10 l0_10.length l0_10 from fun W hW => ⟨Kd.C_below hr0_9 hW, Kd.C_below hr0_10 hW⟩)
  have HC := Aside0.mk (And.intro hc0_9 hc0_10)
  clear hr0_9 hr0_10 hc0_9 hc0_10 ht
  unfold msg_Right.f at h
  obtain ⟨F, hF, h⟩ := Option.bind_eq_some_iff.mp h
  obtain ⟨N, hN, h⟩ := Option.bind_eq_some_iff.mp h
  have HF := Aside0.mk hF
  have HN := Aside0.mk hN
  clear hF hN
  by_cases c1 : N.toList = ([63] : List UInt8)
  · rw [if_pos c1] at h
    obtain rfl := Option.some.inj h
    have d1 : (N.toList == ([63] : List UInt8)) = true := beq_iff_eq.mpr c1
    clear c1 h
    go_enter Tryd.func13, Tryd.ntmps13
    go_wp2_with (first | (go_at_call 35; (with_reducible refine (msg_fields.calls a0_0 a0_1 a0_2 a0_3 a0_4 a0_5 a0_6 a0_7 a0_8 A0_9 c0_9 l0_9 A0_10 c0_10 l0_10 F _ (HR.out _ HB0.out).1 HC.out.1 (HR.out _ HB0.out).2 HC.out.2 HF.out).mono ?_); rintro e w1 ⟨rfl, hb⟩; have HB1 := Aside0.mk (below_step HB0.out hb); have HN1 := Aside0.mk (blk_below HN0.out hb); obtain ⟨hm0, hm1, hm2, hm3, hm4, hm5, hm6, hm7, hm8, hm9, hm10, fm0, fm1, fm2, fm3, fm4, fm5, fm6, fm7, fm8, fm9, fm10⟩ := cells11 HN1.out; clear hb) | (go_at_call 23; (with_reducible refine (msg_Name.calls a0_0 N _ HN.out).mono ?_); rintro e w2 ⟨rfl, hb⟩; have HB2 := Aside0.mk (below_step HB1.out hb); have HN2 := Aside0.mk (blk_below HN1.out hb); obtain ⟨hn0, hn1, hn2, hn3, hn4, hn5, hn6, hn7, hn8, hn9, hn10, fn0, fn1, fn2, fn3, fn4, fn5, fn6, fn7, fn8, fn9, fn10⟩ := cells11 HN2.out; clear hb))
    go_ret
    exact ⟨rfl, HB2.out⟩
  rw [if_neg c1] at h
  have d1 : (N.toList == ([63] : List UInt8)) = false := beq_eq_false_iff_ne.mpr c1
  clear c1
  obtain ⟨⟨b0, b1, b2, b3, b4, b5, b6, b7, b8, b9, b10⟩, hb, h⟩ := Option.bind_eq_some_iff.mp h
  obtain ⟨t1, h1, h⟩ := Option.bind_eq_some_iff.mp h
  have HBA := Aside0.mk hb
  have HSA := Aside0.mk h1
  clear hb h1
  have HH := Aside0.mk h
  clear h
  go_enter Tryd.func13, Tryd.ntmps13
  go_upto_region 4 with (first | (go_at_call 35; (with_reducible refine (msg_fields.calls a0_0 a0_1 a0_2 a0_3 a0_4 a0_5 a0_6 a0_7 a0_8 A0_9 c0_9 l0_9 A0_10 c0_10 l0_10 F _ (HR.out _ HB0.out).1 HC.out.1 (HR.out _ HB0.out).2 HC.out.2 HF.out).mono ?_); rintro e w1 ⟨rfl, hb⟩; have HB1 := Aside0.mk (below_step HB0.out hb); have HN1 := Aside0.mk (blk_below HN0.out hb); obtain ⟨hm0, hm1, hm2, hm3, hm4, hm5, hm6, hm7, hm8, hm9, hm10, fm0, fm1, fm2, fm3, fm4, fm5, fm6, fm7, fm8, fm9, fm10⟩ := cells11 HN1.out; clear hb) | (go_at_call 23; (with_reducible refine (msg_Name.calls a0_0 N _ HN.out).mono ?_); rintro e w2 ⟨rfl, hb⟩; have HB2 := Aside0.mk (below_step HB1.out hb); have HN2 := Aside0.mk (blk_below HN1.out hb); obtain ⟨hn0, hn1, hn2, hn3, hn4, hn5, hn6, hn7, hn8, hn9, hn10, fn0, fn1, fn2, fn3, fn4, fn5, fn6, fn7, fn8, fn9, fn10⟩ := cells11 HN2.out; clear hb))
  go_region_with (first | (go_at_call 37; (with_reducible refine (msg_Bare.calls a0_0 a0_1 a0_2 a0_3 a0_4 a0_5 a0_6 a0_7 a0_8 A0_9 c0_9 l0_9 A0_10 c0_10 l0_10 b0 b1 b2 b3 b4 b5 b6 b7 b8 b9 b10 _ (HR.out _ (by first | exact HB2.out | exact pw_below_drewN HB2.out _ | exact below_drew1 HB2.out)).1 HC.out.1 (HR.out _ (by first | exact HB2.out | exact pw_below_drewN HB2.out _ | exact below_drew1 HB2.out)).2 HC.out.2 HBA.out).mono ?_); rintro e w3 ⟨v9, v10, rfl, h9, h10, hb⟩; obtain ⟨B9, d9, rfl, hl9, hC9⟩ := Kd.R_reads h9; obtain ⟨B10, d10, rfl, hl10, hC10⟩ := Kd.R_reads h10; have HX := Aside0.mk (And.intro hC9 (And.intro hl9 (And.intro hC10 hl10))); have HB3 := Aside0.mk (below_step (by first | exact HB2.out | exact pw_below_drewN HB2.out _ | exact below_drew1 HB2.out) hb); have HN3 := Aside0.mk (blk_below (by first | exact HN2.out | exact blk_drew HN2.out | exact blk_drewN HN2.out _) hb); obtain ⟨hp0, hp1, hp2, hp3, hp4, hp5, hp6, hp7, hp8, hp9, hp10, fp0, fp1, fp2, fp3, fp4, fp5, fp6, fp7, fp8, fp9, fp10⟩ := cells11 HN3.out; clear hb h9 h10 hl9 hl10 hC9 hC10) | (go_at_call 36; (with_reducible refine (msg_Same.calls k a0_0 a0_1 a0_2 a0_3 a0_4 a0_5 a0_6 a0_7 a0_8 A0_9 c0_9 l0_9 A0_10 c0_10 l0_10 b0 b1 b2 b3 b4 b5 b6 b7 b8 B9 d9 b9 B10 d10 b10 t1 _ (HR.out _ (by first | exact HB3.out | exact pw_below_drewN HB3.out _ | exact below_drew1 HB3.out)).1 HC.out.1 (HR.out _ (by first | exact HB3.out | exact pw_below_drewN HB3.out _ | exact below_drew1 HB3.out)).2 HC.out.2 (by first | exact HX.out.1 | exact Kd.C_drew HX.out.1 | exact Kd.C_drewN HX.out.1 _) HX.out.2.1 (by first | exact HX.out.2.2.1 | exact Kd.C_drew HX.out.2.2.1 | exact Kd.C_drewN HX.out.2.2.1 _) HX.out.2.2.2 HSA.out).mono ?_); rintro e w4 ⟨rfl, hb⟩; have HB4 := Aside0.mk (below_step (by first | exact HB3.out | exact pw_below_drewN HB3.out _ | exact below_drew1 HB3.out) hb); have HN4 := Aside0.mk (blk_below (by first | exact HN3.out | exact blk_drew HN3.out | exact blk_drewN HN3.out _) hb); obtain ⟨hq0, hq1, hq2, hq3, hq4, hq5, hq6, hq7, hq8, hq9, hq10, fq0, fq1, fq2, fq3, fq4, fq5, fq6, fq7, fq8, fq9, fq10⟩ := cells11 HN4.out; clear hb))
  all_goals
    have h := HH.out
    clear HH
    cases t1 with
    | false =>
      rw [if_neg (by decide)] at h
      obtain rfl := Option.some.inj h
      clear h
      go_wp2
      go_ret
      exact ⟨rfl, HB4.out⟩
    | true =>
    rw [if_pos rfl] at h
    obtain ⟨t2, h2, h⟩ := Option.bind_eq_some_iff.mp h
    have HTX := Aside0.mk h2
    have HH := Aside0.mk h
    clear h2 h
    skip
    cases t2 with
    | false =>
      have h := HH.out
      clear HH
      rw [if_neg (by decide)] at h
      obtain rfl := Option.some.inj h
      clear h
      go_wp2_with (go_at_call 38; (with_reducible refine (msg_text.calls a0_0 a0_1 a0_2 a0_3 a0_4 a0_5 a0_6 a0_7 a0_8 A0_9 c0_9 l0_9 A0_10 c0_10 l0_10 F false _ (HR.out _ HB4.out).1 HC.out.1 (HR.out _ HB4.out).2 HC.out.2 (tabs_later HTB.out HB4.out) HTX.out).mono ?_); rintro e w5 ⟨rfl, hb⟩; have HB5 := Aside0.mk (below_step HB4.out hb); have HN5 := Aside0.mk (blk_below HN4.out hb); obtain ⟨hr0, hr1, hr2, hr3, hr4, hr5, hr6, hr7, hr8, hr9, hr10, fr0, fr1, fr2, fr3, fr4, fr5, fr6, fr7, fr8, fr9, fr10⟩ := cells11 HN5.out; clear hb)
      go_ret
      exact ⟨rfl, HB5.out⟩
    | true =>
    have h := HH.out
    clear HH
    rw [if_pos rfl] at h
    obtain ⟨t3, h3, h⟩ := Option.bind_eq_some_iff.mp h
    have HLO := Aside0.mk h3
    clear h3
    cases t3 with
    | true =>
      rw [if_pos rfl] at h
      obtain rfl := Option.some.inj h
      clear h
      go_wp2_with (first | (go_at_call 38; (with_reducible refine (msg_text.calls a0_0 a0_1 a0_2 a0_3 a0_4 a0_5 a0_6 a0_7 a0_8 A0_9 c0_9 l0_9 A0_10 c0_10 l0_10 F true _ (HR.out _ HB4.out).1 HC.out.1 (HR.out _ HB4.out).2 HC.out.2 (tabs_later HTB.out HB4.out) HTX.out).mono ?_); rintro e w5 ⟨rfl, hb⟩; have HB5 := Aside0.mk (below_step HB4.out hb); have HN5 := Aside0.mk (blk_below HN4.out hb); obtain ⟨hr0, hr1, hr2, hr3, hr4, hr5, hr6, hr7, hr8, hr9, hr10, fr0, fr1, fr2, fr3, fr4, fr5, fr6, fr7, fr8, fr9, fr10⟩ := cells11 HN5.out; clear hb) | (go_at_call 39; (with_reducible refine (msg_long.calls a0_0 a0_1 a0_2 a0_3 a0_4 a0_5 a0_6 a0_7 a0_8 A0_9 c0_9 l0_9 A0_10 c0_10 l0_10 true _ (HR.out _ HB5.out).1 HC.out.1 (HR.out _ HB5.out).2 HC.out.2 (tabs_later HTB.out HB5.out) HLO.out).mono ?_); rintro e w6 ⟨rfl, hb⟩; have HB6 := Aside0.mk (below_step HB5.out hb); have HN6 := Aside0.mk (blk_below HN5.out hb); obtain ⟨hs0, hs1, hs2, hs3, hs4, hs5, hs6, hs7, hs8, hs9, hs10, fs0, fs1, fs2, fs3, fs4, fs5, fs6, fs7, fs8, fs9, fs10⟩ := cells11 HN6.out; clear hb))
      go_ret
      exact ⟨rfl, HB6.out⟩
    | false =>
    rw [if_neg (by decide)] at h
    obtain ⟨t4, h4, h⟩ := Option.bind_eq_some_iff.mp h
    have HSH := Aside0.mk h4
    clear h4
    cases t4 with
    | true =>
      rw [if_pos rfl] at h
      obtain rfl := Option.some.inj h
      clear h
      go_wp2_with (first | (go_at_call 38; (with_reducible refine (msg_text.calls a0_0 a0_1 a0_2 a0_3 a0_4 a0_5 a0_6 a0_7 a0_8 A0_9 c0_9 l0_9 A0_10 c0_10 l0_10 F true _ (HR.out _ HB4.out).1 HC.out.1 (HR.out _ HB4.out).2 HC.out.2 (tabs_later HTB.out HB4.out) HTX.out).mono ?_); rintro e w5 ⟨rfl, hb⟩; have HB5 := Aside0.mk (below_step HB4.out hb); have HN5 := Aside0.mk (blk_below HN4.out hb); obtain ⟨hr0, hr1, hr2, hr3, hr4, hr5, hr6, hr7, hr8, hr9, hr10, fr0, fr1, fr2, fr3, fr4, fr5, fr6, fr7, fr8, fr9, fr10⟩ := cells11 HN5.out; clear hb) | (go_at_call 39; (with_reducible refine (msg_long.calls a0_0 a0_1 a0_2 a0_3 a0_4 a0_5 a0_6 a0_7 a0_8 A0_9 c0_9 l0_9 A0_10 c0_10 l0_10 false _ (HR.out _ HB5.out).1 HC.out.1 (HR.out _ HB5.out).2 HC.out.2 (tabs_later HTB.out HB5.out) HLO.out).mono ?_); rintro e w6 ⟨rfl, hb⟩; have HB6 := Aside0.mk (below_step HB5.out hb); have HN6 := Aside0.mk (blk_below HN5.out hb); obtain ⟨hs0, hs1, hs2, hs3, hs4, hs5, hs6, hs7, hs8, hs9, hs10, fs0, fs1, fs2, fs3, fs4, fs5, fs6, fs7, fs8, fs9, fs10⟩ := cells11 HN6.out; clear hb) | (go_at_call 40; (with_reducible refine (msg_short.calls a0_0 a0_1 a0_2 a0_3 a0_4 a0_5 a0_6 a0_7 a0_8 A0_9 c0_9 l0_9 A0_10 c0_10 l0_10 true _ (HR.out _ HB6.out).1 HC.out.1 (HR.out _ HB6.out).2 HC.out.2 HSH.out).mono ?_); rintro e w7 ⟨rfl, hb⟩; have HB7 := Aside0.mk (below_step HB6.out hb); clear hb))
      go_ret
      exact ⟨rfl, HB7.out⟩
    | false =>
      rw [if_neg (by decide)] at h
      obtain rfl := Option.some.inj h
      clear h
      go_wp2_with (first | (go_at_call 38; (with_reducible refine (msg_text.calls a0_0 a0_1 a0_2 a0_3 a0_4 a0_5 a0_6 a0_7 a0_8 A0_9 c0_9 l0_9 A0_10 c0_10 l0_10 F true _ (HR.out _ HB4.out).1 HC.out.1 (HR.out _ HB4.out).2 HC.out.2 (tabs_later HTB.out HB4.out) HTX.out).mono ?_); rintro e w5 ⟨rfl, hb⟩; have HB5 := Aside0.mk (below_step HB4.out hb); have HN5 := Aside0.mk (blk_below HN4.out hb); obtain ⟨hr0, hr1, hr2, hr3, hr4, hr5, hr6, hr7, hr8, hr9, hr10, fr0, fr1, fr2, fr3, fr4, fr5, fr6, fr7, fr8, fr9, fr10⟩ := cells11 HN5.out; clear hb) | (go_at_call 39; (with_reducible refine (msg_long.calls a0_0 a0_1 a0_2 a0_3 a0_4 a0_5 a0_6 a0_7 a0_8 A0_9 c0_9 l0_9 A0_10 c0_10 l0_10 false _ (HR.out _ HB5.out).1 HC.out.1 (HR.out _ HB5.out).2 HC.out.2 (tabs_later HTB.out HB5.out) HLO.out).mono ?_); rintro e w6 ⟨rfl, hb⟩; have HB6 := Aside0.mk (below_step HB5.out hb); have HN6 := Aside0.mk (blk_below HN5.out hb); obtain ⟨hs0, hs1, hs2, hs3, hs4, hs5, hs6, hs7, hs8, hs9, hs10, fs0, fs1, fs2, fs3, fs4, fs5, fs6, fs7, fs8, fs9, fs10⟩ := cells11 HN6.out; clear hb) | (go_at_call 40; (with_reducible refine (msg_short.calls a0_0 a0_1 a0_2 a0_3 a0_4 a0_5 a0_6 a0_7 a0_8 A0_9 c0_9 l0_9 A0_10 c0_10 l0_10 false _ (HR.out _ HB6.out).1 HC.out.1 (HR.out _ HB6.out).2 HC.out.2 HSH.out).mono ?_); rintro e w7 ⟨rfl, hb⟩; have HB7 := Aside0.mk (below_step HB6.out hb); clear hb))
      go_ret
      exact ⟨rfl, HB7.out⟩

/-! ### uvar_Put: function 41 -/
def uvar_Put.l0 : Nat → List Int → Int → Option (List Int)
  | 0, _, _ => none
  | k + 1, x0, x1 => if x1 ≥ 128 then (if x0.length < 140737488355328 then (uvar_Put.l0 k (x0 ++ [Go.bits .or .u8 ((x1) % 256) 128]) (x1 / 128)) else (none)) else (if x0.length < 140737488355328 then (some (x0 ++ [(x1) % 256])) else (none))
def uvar_Put.f (k : Nat) (l0 : List Int) (a1 : Int) : Option (List Int) := uvar_Put.l0 k l0 a1
theorem uvar_Put.mono_l : ∀ k, (∀ y0 y1, LeO (uvar_Put.l0 k y0 y1) (uvar_Put.l0 (k + 1) y0 y1))
  | 0 => fun _ _ r h => by simp [uvar_Put.l0] at h
  | k + 1 => by
    have ih0 := uvar_Put.mono_l k
    · intro y0 y1
      unfold uvar_Put.l0
      repeat' first
      | (with_reducible exact ih0 _ _)
      | (with_reducible exact LeO.refl _)
      | (with_reducible exact LeO.none _)
      | (with_reducible refine LeO.ite ?_ ?_)
      | (with_reducible refine LeO.bind ?_ (fun _ => ?_))
      | exact ih0 _ _
      | exact LeO.none _
      | refine LeO.ite ?_ ?_
      | refine LeO.bind ?_ (fun _ => ?_)
theorem uvar_Put.mono : ∀ a0 a1 k, LeO (uvar_Put.f k a0 a1) (uvar_Put.f (k + 1) a0 a1) := by
  intro a0 a1 k
  have ih0 := uvar_Put.mono_l k
  unfold uvar_Put.f
  repeat' first
      | (with_reducible exact ih0 _ _)
      | (with_reducible exact LeO.refl _)
      | (with_reducible exact LeO.none _)
      | (with_reducible refine LeO.ite ?_ ?_)
      | (with_reducible refine LeO.bind ?_ (fun _ => ?_))
      | exact ih0 _ _
      | exact LeO.none _
      | refine LeO.ite ?_ ?_
      | refine LeO.bind ?_ (fun _ => ?_)
set_option maxHeartbeats 3000000 in
set_option maxRecDepth 100000 in
theorem uvar_Put.calls (k : Nat) (P0_ : Nat → Prop) (u9000_ : Value) (l0 : List Int) (a1 : Int) (r : List Int) (w0 w : World) (hB : Below w0.heap.size w0 w) (ho0 : Kd.R (Kd.int .u8) 5 w w0.heap.size P0_ u9000_ l0) (h : uvar_Put.f k l0 a1 = some r) :
    Calls Tryd.prog 41 #[u9000_, .int .u64 a1] w fun e w' => ∃ v0_ : Value, e = .returned (v0_) ∧ Kd.R (Kd.int .u8) 5 w' w0.heap.size (fun k_ => (P0_ k_ ∨ w.heap.size ≤ k_)) v0_ r ∧ Below w0.heap.size w0 w' ∧ Kept w w' (fun k_ => P0_ k_) := by
  have HO0 := Aside0.mk (show Kd.R (Kd.int .u8) 5 w w0.heap.size (fun k_ => (P0_ k_ ∨ w.heap.size ≤ k_)) u9000_ l0 from Kd.R_mono ho0 (fun k_ hk => (.inl hk)))
  have HK := Aside0.mk (Kept.refl w (fun k_ => P0_ k_))
  have HW0 := Aside0.mk hB.size
  have HB := Aside0.mk hB
  clear hB
  have H : (uvar_Put.l0 k l0 a1) = some r := h
  clear h
  have H' := Aside0.mk H
  clear H
  go_enter Tryd.func41, Tryd.ntmps41
  go_wp2
  go_loopg [0, 1] k (fun kq v0 v1 w' => ∃ (x0_1 : List Int) (x1_1 : Int), v1 = .int .u64 x1_1 ∧ Aside0 (uvar_Put.l0 kq x0_1 x1_1 = some r) ∧ Aside0 (kq ≤ k) ∧ Aside0 (Kd.R (Kd.int .u8) 5 w' w0.heap.size (fun k_ => (P0_ k_ ∨ w.heap.size ≤ k_)) v0 x0_1) ∧ Aside0 (Kept w w' (fun k_ => P0_ k_)) ∧ Aside0 (Below w0.heap.size w0 w'))
  case atStart => exact ⟨(l0), (a1), (by first | rfl | (simp; done) | (simp [*]; done)), H', ⟨Nat.le_refl _⟩, ⟨by (with_reducible repeat (first | apply Kd.R_alloc | apply Kd.R_drewN | apply Kd.R_drew)); exact HO0.out⟩, ⟨by repeat (first | (with_reducible first | exact HK.out | apply Kept.alloc | apply Kept.drewN | apply Kept.drew) | exact HK.out)⟩, ⟨by repeat (first | (with_reducible first | exact HB.out | apply below_alloc | apply pw_below_drewN | apply below_drew1) | exact HB.out)⟩⟩
  case round =>
    clear H'
    try clear p2
    obtain ⟨x0_1, x1_1, rfl, HA, HK1, HO_0, HK, HB⟩ := hrel
    cases gk with
    | zero => exact absurd HA.out (by simp [uvar_Put.l0])
    | succ k1 =>
      have H := HA.out
      clear HA
      simp only [uvar_Put.l0] at H
      by_cases c3 : x1_1 ≥ 128
      · rw [if_pos c3] at H
        have c3b0 : decide (128 ≤ x1_1) = true := decide_eq_true c3
        clear c3
        by_cases c4 : x0_1.length < 140737488355328
        · rw [if_pos c4] at H
          have LMc4 := Aside0.mk c4
          clear c4
          obtain ⟨y162, hy162⟩ : ∃ y_ : List Int, y_ = (x0_1 ++ [Go.bits .or .u8 ((x1_1) % 256) 128]) := ⟨_, rfl⟩
          replace H : (uvar_Put.l0 k1 y162 (x1_1 / 128)) = some r := by first | (rw [hy162]; with_reducible exact H) | (have H2_ := (Option.bind_some _ _).symm.trans H; rw [hy162]; with_reducible exact H2_) | (have H2_ := (Option.bind_some _ _).symm.trans H; with_reducible exact H2_) | with_reducible exact H | (rw [hy162]; exact H) | exact H
          have Ny162 := Aside0.mk hy162
          clear hy162
          have H' := Aside0.mk H
          clear H
          go_wp2_with (first | ((with_reducible refine gate_builtin (b := .append) (xs := #[.tmp 7, .tmp 11]) rfl ?_); at_builtin; refine Kd.R_append (Kd.int .u8) (w0 := w0) w0.heap.size rfl (.tmp 7) (.tmp 11) 33 5 (.int .u8 0) 1 rfl Tryd.underlying33 info5 rfl (by decide) (by omega) u0 x0_1 (Go.bits .or .u8 ((x1_1) % 256) 128) [.int .u8 (Go.bits .or .u8 ((x1_1) % 256) 128)] (fun k_ => (P0_ k_ ∨ w.heap.size ≤ k_)) (fun _ => False) rfl rfl ?aP (fun _ hk => hk.elim) ?aF ?aO ?aB ?aS ?aL ?_; (case aP => exact rfl); (case aB => exact (by repeat (first | (with_reducible first | exact HB.out | apply below_alloc | apply pw_below_drewN | apply below_drew1) | exact HB.out))); (case aF => exact (fun k_ hk => (.inr (Nat.le_trans (by first | exact HK.out.1 | exact (show Kept w _ (fun k_ => P0_ k_) from by repeat (first | (with_reducible first | exact HK.out | apply Kept.alloc | apply Kept.drewN | apply Kept.drew) | exact HK.out)).1) hk)))); (case aO => exact (by (with_reducible repeat (first | apply Kd.R_alloc | apply Kd.R_drewN | apply Kd.R_drew)); exact HO_0.out)); (case aS => exact (below_size (by repeat (first | (with_reducible first | exact HB.out | apply below_alloc | apply pw_below_drewN | apply below_drew1) | exact HB.out)))); (case aL => have := LMc4.out; omega); intro v163 w5 ho hb hg hat; rw [← Ny162.out] at ho; have n0_ := Aside0.mk (hb); have n1_ := Aside0.mk (Kept.of_grown (S := (fun k_ => P0_ k_)) hg (by repeat (first | (with_reducible first | exact HK.out | apply Kept.alloc | apply Kept.drewN | apply Kept.drew) | exact HK.out)) (fun k_ e_ => (HO_0.out.1 k_ e_))); have n2_ := Aside0.mk (ho); clear HB; clear HK; clear HO_0; have HB := n0_; have HK := n1_; have HO164 := n2_; clear n0_ n1_ n2_; clear ho hb hg hat))
          go_roundg k1
          case measure => have := HK1.out; omega
          case rel => exact ⟨(y162), (x1_1 / 128), (by first | rfl | (simp; done) | (simp [*]; done)), H', ⟨by have := HK1.out; omega⟩, ⟨by (with_reducible repeat (first | apply Kd.R_alloc | apply Kd.R_drewN | apply Kd.R_drew)); exact HO164.out⟩, ⟨by repeat (first | (with_reducible first | exact HK.out | apply Kept.alloc | apply Kept.drewN | apply Kept.drew) | exact HK.out)⟩, ⟨by repeat (first | (with_reducible first | exact HB.out | apply below_alloc | apply pw_below_drewN | apply below_drew1) | exact HB.out)⟩⟩
        · rw [if_neg c4] at H
          exact absurd H (by simp)
      · rw [if_neg c3] at H
        have c3b0 : decide (128 ≤ x1_1) = false := decide_eq_false c3
        clear c3
        by_cases c6 : x0_1.length < 140737488355328
        · rw [if_pos c6] at H
          have LMc6 := Aside0.mk c6
          clear c6
          obtain ⟨y165, hy165⟩ : ∃ y_ : List Int, y_ = (x0_1 ++ [(x1_1) % 256]) := ⟨_, rfl⟩
          replace H : (some y165) = some r := by first | (rw [hy165]; with_reducible exact H) | (have H2_ := (Option.bind_some _ _).symm.trans H; rw [hy165]; with_reducible exact H2_) | (have H2_ := (Option.bind_some _ _).symm.trans H; with_reducible exact H2_) | with_reducible exact H | (rw [hy165]; exact H) | exact H
          have Ny165 := Aside0.mk hy165
          clear hy165
          obtain rfl := Option.some.inj H
          go_wp2_with (first | ((with_reducible refine gate_builtin (b := .append) (xs := #[.tmp 15, .tmp 18]) rfl ?_); at_builtin; refine Kd.R_append (Kd.int .u8) (w0 := w0) w0.heap.size rfl (.tmp 15) (.tmp 18) 33 5 (.int .u8 0) 1 rfl Tryd.underlying33 info5 rfl (by decide) (by omega) u0 x0_1 ((x1_1) % 256) [.int .u8 ((x1_1) % 256)] (fun k_ => (P0_ k_ ∨ w.heap.size ≤ k_)) (fun _ => False) rfl rfl ?aP (fun _ hk => hk.elim) ?aF ?aO ?aB ?aS ?aL ?_; (case aP => exact rfl); (case aB => exact (by repeat (first | (with_reducible first | exact HB.out | apply below_alloc | apply pw_below_drewN | apply below_drew1) | exact HB.out))); (case aF => exact (fun k_ hk => (.inr (Nat.le_trans (by first | exact HK.out.1 | exact (show Kept w _ (fun k_ => P0_ k_) from by repeat (first | (with_reducible first | exact HK.out | apply Kept.alloc | apply Kept.drewN | apply Kept.drew) | exact HK.out)).1) hk)))); (case aO => exact (by (with_reducible repeat (first | apply Kd.R_alloc | apply Kd.R_drewN | apply Kd.R_drew)); exact HO_0.out)); (case aS => exact (below_size (by repeat (first | (with_reducible first | exact HB.out | apply below_alloc | apply pw_below_drewN | apply below_drew1) | exact HB.out)))); (case aL => have := LMc6.out; omega); intro v166 w7 ho hb hg hat; rw [← Ny165.out] at ho; have n0_ := Aside0.mk (hb); have n1_ := Aside0.mk (Kept.of_grown (S := (fun k_ => P0_ k_)) hg (by repeat (first | (with_reducible first | exact HK.out | apply Kept.alloc | apply Kept.drewN | apply Kept.drew) | exact HK.out)) (fun k_ e_ => (HO_0.out.1 k_ e_))); have n2_ := Aside0.mk (ho); clear HB; clear HK; clear HO_0; have HB := n0_; have HK := n1_; have HO167 := n2_; clear n0_ n1_ n2_; clear ho hb hg hat))
          all_goals go_ret
          all_goals first | (exact ⟨_, by first | rfl | (simp [errW_none, errW_some] <;> rfl) | (simp [*, errW_none, errW_some] <;> rfl), by (with_reducible repeat (first | apply Kd.R_alloc | apply Kd.R_drewN | apply Kd.R_drew)); exact HO167.out, by repeat (first | (with_reducible first | exact HB.out | apply below_alloc | apply pw_below_drewN | apply below_drew1) | exact HB.out), by repeat (first | (with_reducible first | exact HK.out | apply Kept.alloc | apply Kept.drewN | apply Kept.drew) | exact HK.out)⟩) | (exfalso; simp_all; done)
        · rw [if_neg c6] at H
          exact absurd H (by simp)


/-! ### tagged_writer_num: function 14 -/
/-! ### tagged.writer: bytes that grow, behind a pointer -/
structure WrS (wA W : World) (P : Nat → Prop) (l : List Int) : Prop where
  ex : ∃ v, W.heap[wA.heap.size]? = some (.cells #[v] 45 (0, 0)) ∧ Kd.R (Kd.int .u8) 5 W wA.heap.size (fun k => k ≠ wA.heap.size ∧ P k) v l
  bel : Below wA.heap.size wA W
theorem WrS.later {wA W W1 : World} {P : Nat → Prop} {l : List Int} (h : WrS wA W P l) (hb : Below W.heap.size W W1) : WrS wA W1 P l := by
  obtain ⟨v, hg, hr⟩ := h.ex
  exact ⟨⟨v, blk_below hg hb, Kd.R_below hr hb⟩, below_then h.bel h.bel.size hb⟩
theorem WrS.mono {wA W : World} {P Q : Nat → Prop} {l : List Int} (h : WrS wA W P l) (hq : ∀ k, k < W.heap.size → P k → Q k) : WrS wA W Q l := by
  obtain ⟨v, hg, hr⟩ := h.ex
  exact ⟨⟨v, hg, Kd.R_mono (Kd.R_bound hr) (fun k hk => ⟨hk.1.1, hq k hk.2.2.1 hk.1.2⟩)⟩, h.bel⟩
theorem WrS.lt {wA W : World} {P : Nat → Prop} {l : List Int} (h : WrS wA W P l) : wA.heap.size < W.heap.size := by
  obtain ⟨v, hg, hr⟩ := h.ex
  exact blk_lt hg
theorem WrS.put {wA W W1 : World} {P P1 : Nat → Prop} {l l1 : List Int} {v1 : Value} (h : WrS wA W P l) (hR : Kd.R (Kd.int .u8) 5 W1 wA.heap.size P1 v1 l1) (hP : ∀ k, P1 k → k ≠ wA.heap.size) (hb : Below wA.heap.size wA W1) (hk : Kept W W1 (fun k => k ≠ wA.heap.size ∧ P k)) : WrS wA (W1.setCell ⟨wA.heap.size, 0, none⟩ v1) P1 l1 := by
  obtain ⟨v, hg, hr⟩ := h.ex
  refine ⟨⟨v1, ?_, ?_⟩, hb.setCell (Nat.le_refl _) _⟩
  · exact blk_put (blk_kept hg hk (fun h => h.1 rfl)) 0 v1 rfl
  · exact Kd.R_mono (Kd.R_far hR (fun k hk => hP k hk) _) (fun k hk => ⟨hP k hk, hk⟩)
def wnum (k : Nat) : List Int → List Int → Option (List Int)
  | l, [] => some l
  | l, n :: ns => (uvar_Put.f k l n).bind fun l1 => wnum k l1 ns
def WPost (wA W : World) (P : Nat → Prop) (r : List Int) (e : Ending) (w' : World) : Prop := e = .returned (.tuple #[]) ∧ WrS wA w' (fun k => P k ∨ W.heap.size ≤ k) r ∧ Kept W w' (fun k => k = wA.heap.size ∨ P k)
set_option maxHeartbeats 2000000 in
set_option maxRecDepth 100000 in
theorem wnum.calls (k : Nat) (wA W : World) (P : Nat → Prop) (ns l r : List Int) (hW : WrS wA W P l) (h : wnum k l ns = some r) (hn : ns.length < 1000) :
    Calls Tryd.prog 14 #[.pointer (some ⟨wA.heap.size, 0, none⟩), .slice (some ⟨W.heap.size, 0, none⟩) ns.length ns.length] (W.alloc (.cells (nums .u64 ns).toArray 23)) (WPost wA W P r) := by
  have hu45 := Tryd.underlying45
  have hlt := hW.lt
  have HLT := Aside0.mk hlt
  have hW1 : WrS wA (W.alloc (.cells (nums .u64 ns).toArray 23)) (fun k => (P k ∧ k < W.heap.size) ∨ W.heap.size < k) l := (hW.mono (fun k hk hp => .inl ⟨hp, hk⟩)).later (below_alloc (Below.refl _ _) _)
  have HB := Aside0.mk (blk_new W (.cells (nums .u64 ns).toArray 23))
  have HW := Aside0.mk hW1
  have HK := Aside0.mk (Kept.of_below (below_alloc (Below.refl W.heap.size W) (.cells (nums .u64 ns).toArray 23)) (fun k => k = wA.heap.size ∨ P k))
  have HH := Aside0.mk (show wnum k l (ns.drop 0) = some r from h)
  obtain ⟨n, hnn⟩ : ∃ n, n = ns.length := ⟨_, rfl⟩
  have HN := Aside0.mk hnn
  have hn1 : n < 1000 := by omega
  rw [← hnn]
  clear hW hW1 h hlt hn hnn
  generalize W.alloc (.cells (nums .u64 ns).toArray 23) = W1 at HB HW HK ⊢
  go_enter Tryd.func14, Tryd.ntmps14
  go_wp2
  go_loopg [8] n (fun gg v8 wr => ∃ (i : Nat) (lc : List Int), v8 = .int .i64 (i : Int) ∧ i ≤ n ∧ n - i ≤ gg ∧ Aside0 (wnum k lc (ns.drop i) = some r) ∧ Aside0 (WrS wA wr (fun k => (P k ∧ k < W.heap.size) ∨ W.heap.size < k) lc) ∧ Aside0 (wr.heap[W.heap.size]? = some (.cells (nums .u64 ns).toArray 23 (0, 0))) ∧ Aside0 (Kept W wr (fun k => k = wA.heap.size ∨ P k)))
  case atStart => exact ⟨0, l, rfl, Nat.zero_le _, by omega, HH, HW, HB, HK⟩
  case round =>
    obtain ⟨i, lc, rfl, hi, hg, HHi, HWi, HBi, HKi⟩ := hrel
    by_cases hlt : i < n
    · have hltz : (i : Int) < (n : Int) := by omega
      have hil : i < ns.length := by rw [← HN.out]; exact hlt
      have hw1 : wrap64 ((i : Int) + 1) = (i : Int) + 1 := by unfold wrap64; omega
      have hh := HHi.out
      rw [List.drop_eq_getElem_cons hil, wnum] at hh
      obtain ⟨l1, h1, hh⟩ := Option.bind_eq_some_iff.mp hh
      obtain ⟨x, hx⟩ : ∃ x, ns[i] = x := ⟨_, rfl⟩
      rw [hx] at h1
      have hcx : wr.cell? ⟨W.heap.size, i, none⟩ = some (.int .u64 x) := by
        rw [blk_cell HBi.out]
        simp [nums, hil, hx]
      obtain ⟨v, hg2, hr⟩ := HWi.out.ex
      have hc0 : wr.cell? ⟨wA.heap.size, 0, none⟩ = some v := (blk_cell hg2 0).trans rfl
      have hf0 := blk_frozen hg2 0
      have HU := Aside0.mk (show Calls Tryd.prog 41 #[v, .int .u64 x] wr _ from uvar_Put.calls k (fun k => k ≠ wA.heap.size ∧ ((P k ∧ k < W.heap.size) ∨ W.heap.size < k)) v lc x l1 wA wr HWi.out.bel hr h1)
      have HH2 := Aside0.mk hh
      have HG := Aside0.mk hg
      have HI := Aside0.mk hil
      have HG2 := Aside0.mk hg2
      clear hg h1 hr hg2
      go_wp2_with (go_at_call 41; (with_reducible refine HU.out.mono ?_); rintro e w2 ⟨v1, rfl, hR, hb, hk⟩; obtain ⟨A1, d1, rfl⟩ := Kd.R_slice hR; have hc1 : w2.cell? ⟨wA.heap.size, 0, none⟩ = some v := (blk_cell (blk_kept HG2.out hk (fun h => h.1 rfl)) 0).trans rfl; have hf1 := blk_frozen (blk_kept HG2.out hk (fun h => h.1 rfl)) 0; have HW2 := Aside0.mk (HWi.out.put hR (by have := HWi.out.lt; rintro q (⟨h1, _⟩ | h1) <;> omega) hb hk); have HB2 := Aside0.mk (blk_far (blk_kept HBi.out hk (by have := HLT.out; rintro ⟨_, h2 | h2⟩ <;> omega)) (p := ⟨wA.heap.size, 0, none⟩) (by have := HLT.out; show W.heap.size ≠ wA.heap.size; omega) (.slice A1 l1.length d1)); have HK2 := Aside0.mk ((HKi.out.then_ hk (by rintro q ⟨h1, h2 | h2⟩; exact .inl (.inr h2.1); exact .inr (by omega))).setCell (p := ⟨wA.heap.size, 0, none⟩) (.inl (.inl rfl)) (.slice A1 l1.length d1)); have HS2 := Aside0.mk (Nat.lt_of_lt_of_le (blk_lt HBi.out) hk.1); clear hR hb hk)
      go_roundg (n - (i + 1))
      case measure => have := HG.out; omega
      case rel => exact ⟨i + 1, l1, by go_num, by omega, by omega, HH2, ⟨HW2.out.mono (by have := HS2.out; have := blk_lt HBi.out; rintro q hq (⟨_, h2⟩ | h2); exact h2; exact .inr (by omega))⟩, HB2, HK2⟩
    · obtain rfl : i = n := by omega
      have hltz : ¬ (i : Int) < (i : Int) := by omega
      have HD := Aside0.mk (List.drop_of_length_le (show ns.length ≤ i by rw [← HN.out]; exact Nat.le_refl _))
      clear hlt hg hi
      go_wp2
      go_end0
      have hh := HHi.out
      rw [HD.out, wnum] at hh
      obtain rfl := Option.some.inj hh
      exact ⟨rfl, HWi.out.mono (by rintro q hq (h2 | h2); exact .inl h2.1; exact .inr (by omega)), HKi.out⟩
theorem wnum1.calls (k : Nat) (wA W : World) (P : Nat → Prop) (x : Int) (l r : List Int) (hW : WrS wA W P l) (h : wnum k l [x] = some r) :
    Calls Tryd.prog 14 #[.pointer (some ⟨wA.heap.size, 0, none⟩), .slice (some ⟨W.heap.size, 0, none⟩) 1 1] (W.alloc (.cells #[.int .u64 x] 23)) (WPost wA W P r) := wnum.calls k wA W P [x] l r hW h (by simp)
theorem wnum2.calls (k : Nat) (wA W : World) (P : Nat → Prop) (x y : Int) (l r : List Int) (hW : WrS wA W P l) (h : wnum k l [x, y] = some r) :
    Calls Tryd.prog 14 #[.pointer (some ⟨wA.heap.size, 0, none⟩), .slice (some ⟨W.heap.size, 0, none⟩) 2 2] (W.alloc (.cells #[.int .u64 x, .int .u64 y] 23)) (WPost wA W P r) := wnum.calls k wA W P [x, y] l r hW h (by simp)


/-! ### tagged_writer_some: function 15 -/
def wsome (k : Nat) (l : List Int) (tag n : Int) : Option (List Int) := if n = 0 then some l else wnum k l [tag, n]
theorem WPost.of {wA W W1 w' : World} {P : Nat → Prop} {r : List Int} {e : Ending} (h : WPost wA W1 P r e w') (hb : Below W.heap.size W W1) : WPost wA W P r e w' :=
  ⟨h.1, h.2.1.mono (fun k _ hk => hk.imp id (fun hk => Nat.le_trans hb.size hk)), (Kept.of_below hb _).then_ h.2.2 (fun k hk => .inl hk)⟩
set_option maxHeartbeats 2000000 in
set_option maxRecDepth 100000 in
theorem wsome.calls (k : Nat) (wA W : World) (P : Nat → Prop) (tag n : Int) (l r : List Int) (hW : WrS wA W P l) (h : wsome k l tag n = some r) :
    Calls Tryd.prog 15 #[.pointer (some ⟨wA.heap.size, 0, none⟩), .int .u64 tag, .int .u64 n] W (WPost wA W P r) := by
  unfold wsome at h
  by_cases c : n = 0
  · rw [if_pos c] at h
    obtain rfl := Option.some.inj h
    have d : (n != 0) = false := bne_eq_false_iff_eq.mpr c
    have HW := Aside0.mk hW
    clear c h hW
    go_enter Tryd.func15, Tryd.ntmps15
    go_wp2
    go_end0
    exact ⟨rfl, HW.out.mono (fun k _ hk => .inl hk), Kept.refl _ _⟩
  · rw [if_neg c] at h
    have d : (n != 0) = true := bne_iff_ne.mpr c
    have HC := Aside0.mk (show Calls Tryd.prog 14 #[.pointer (some ⟨wA.heap.size, 0, none⟩), .slice (some ⟨W.heap.size, 0, none⟩) 2 2] (W.alloc (.cells #[.int .u64 tag, .int .u64 n] 23)) (WPost wA W P r) from wnum2.calls k wA W P tag n l r hW h)
    clear c h hW
    go_enter Tryd.func15, Tryd.ntmps15
    go_wp2_with (go_at_call 14; (with_reducible refine HC.out.mono ?_); rintro e w2 ⟨rfl, hw, hk⟩; have HW2 := Aside0.mk hw; have HK2 := Aside0.mk hk; clear hw hk)
    go_end0
    exact ⟨rfl, HW2.out, HK2.out⟩


/-! ### a string's bytes behind a row: where the new row lies -/
section
variable {P : Program}
theorem append_str_block (W : World) (base : Nat) (t u ty e : TypeId) (i : TypeInfo) (ht : P.underlying t = some (.slice e)) (hu : P.underlying u = some .string) (hi : P.info? e = some i) (hz : i.zero = some (.int .u8 0))
    (hsize : i.size = 1) (hby : i.bytes = 1) (v : Value) (n : Nat) (xs : List Value) (hown : W.ownsRow base e 1 v n xs) (s : ByteArray)
    (h63 : n + s.size ≤ maxLen) (hbytes : n + s.size ≤ 140737488355328) {v' : Value} {w' : World} (hr : (Builtin.append_ #[t, u] ty #[v, .string s]).run P W = .ok v' w') :
    v'.ownBlock = v.ownBlock ∨ v'.ownBlock = some W.heap.size := by
  have hxl : xs.length = n := by simpa using hown.1
  have hsmall : n + s.size ≤ 9223372036854775807 := by simp only [maxLen] at h63; omega
  rcases hown.2 with ⟨rfl, rfl⟩ | ⟨g, cap, cur, rfl, hbg, hg, hnc, hcm, hcs, htake⟩
  · by_cases hm : s.size = 0
    · have hf := Lib.run_firstCells_string (P := P) W 1 s
      rw [hm] at hf
      simp [Builtin.append_, run_underlying ht, run_underlying hu, sizeOf, typeInfo, hi, hsize, Builtin.lenOf, hm, hf] at hr
      exact .inl (by rw [← hr.1])
    · have hq := run_append_nil_string (P := P) W t u ty e i (.int .u8 0) ht hu hi hz s (by omega) (by omega) (by rw [hby]; omega)
      rw [hq] at hr
      injection hr with e1 e2
      exact .inr (by rw [← e1]; rfl)
  · by_cases hroom : n + s.size ≤ cap
    · have hcs' : cur.size = cap := by simpa using hcs
      have hq := Lib.run_append_room_string (P := P) W t u ty e i ht hu hi hsize g n cap cur hg s hroom (by omega)
      rw [hq] at hr
      injection hr with e1 e2
      exact .inl (by rw [← e1]; rfl)
    · have holds : ∀ j u, xs[j]? = some u → W.cell? ((⟨g, 0, none⟩ : Addr).add j) = some u := hown.cells (g := g) rfl
      have hq := Lib.run_append_grow_string (P := P) W t u ty e i (.int .u8 0) ht hu hi hz ⟨g, 0, none⟩ n cap xs (by rw [hsize]; simpa using hxl) holds s (by omega) (by omega) (by rw [hby]; exact growslice_fits (by omega) (by omega))
      rw [hq] at hr
      injection hr with e1 e2
      exact .inr (by rw [← e1]; rfl)
end
section
variable {P : Program} {ops : Array Oper} {rest : List Oper} {o : Oper} {a : Act} {Q : Exit → Act → World → Prop}
theorem print_append_strB {w0 W : World} (base : Nat) (hgd : o.guard = none) (s x : Operand) (t u e : TypeId)
    (ho : o.op = .call { callee := .builtin .append, args := #[s, x], argTypes := #[t, u] })
    (ht : P.underlying t = some (.slice e)) (hu : P.underlying u = some .string) (hinfo : (P.info? e).map (fun i => (i.zero, i.size, i.bytes)) = some (some (.int .u8 0), 1, 1))
    (v : Value) (xs : List Int) (y : ByteArray) (hs : a.eval s = v) (hx : a.eval x = .string y)
    {ok : Nat → Prop} (HO : (Kd.int .u8).R e W base ok v xs) (HB : Below base w0 W) (hbase : base ≤ W.heap.size) (hl : xs.length + y.size ≤ 140737488355328)
    (h : ∀ v1 w1, (∀ ok' : Nat → Prop, (∀ k, ok k → ok' k) → (∀ k, W.heap.size ≤ k → ok' k) → (Kd.int .u8).R e w1 base ok' v1 (xs ++ bytesOf y)) → Below base w0 w1 → W.grownBy w1 v.ownBlock → wpList P ops Q rest (a.put o.dst v1) w1) :
    wpList P ops Q (o :: rest) a W := by
  obtain ⟨i0, hi, hzz⟩ := Option.map_eq_some_iff.1 hinfo
  simp only [Prod.mk.injEq] at hzz
  obtain ⟨hz0, hz1, hz2⟩ := hzz
  have hok := HO.1
  have HO' := Kd.own_of_R HO
  refine wpList_plain hgd fun K hK => ?_
  obtain ⟨v', w', hr, h2, h3, h4⟩ := Lib.run_append_own_string (P := P) W base t u o.type e i0 ht hu hi hz0 hz1 hz2 v xs.length _ HO' y (by simp only [maxLen]; omega) hl hbase
  have hbl := append_str_block (P := P) W base t u o.type e i0 ht hu hi hz0 hz1 hz2 v xs.length _ HO' y (by simp only [maxLen]; omega) hl hr
  unfold Oper.wp execOp
  simp only [ho, resolve, invoke, builtin, Sem.run_bind, Sem.run_pure, Result.andThen_ok, List.map_toArray, List.map_cons, List.map_nil, hs, hx, hr]
  refine hK _ _ (h v' w' (fun ok' h1 h2' => ?_) (HB.grown h3 hbase (own_base HO')) h3)
  · have hl2 : (xs ++ bytesOf y).length = xs.length + y.size := by rw [List.length_append, bytesOf_length]
    refine Kd.R_of_own (h1 := fun _ => rfl) (enc := fun n => Value.int .u8 n) ?_ ?_
    · rw [hl2]
      have e : encs (fun n => Value.int .u8 n) (xs ++ bytesOf y) = encs (fun n => Value.int .u8 n) xs ++ Lib.strCells y := by
        rw [encs_append]
        congr 1
        simp [encs, bytesOf, Lib.strCells]
      rw [e]
      exact h2
    · intro k hk
      rcases hbl with hb | hb
      · exact h1 k (hok k (by rw [← hb]; exact hk))
      · rw [hb] at hk
        injection hk with hk
        exact h2' k (by omega)
end
/-! ### buf_Text: function 42 -/
def buf_Text.f (k : Nat) (l0 : List Int) (a1 : ByteArray) : Option (List Int) := (uvar_Put.f k l0 (IntKind.u64.wrap ((a1.size : Int)))).bind fun t168 => (if t168.length + a1.size < 140737488355328 then (some (t168 ++ bytesOf a1)) else (none))
theorem buf_Text.mono : ∀ a0 a1 k, LeO (buf_Text.f k a0 a1) (buf_Text.f (k + 1) a0 a1) := by
  intro a0 a1 k
  unfold buf_Text.f
  repeat' first
      | (with_reducible exact uvar_Put.mono _ _ _)
      | (with_reducible exact LeO.refl _)
      | (with_reducible exact LeO.none _)
      | (with_reducible refine LeO.ite ?_ ?_)
      | (with_reducible refine LeO.bind ?_ (fun _ => ?_))
      | exact uvar_Put.mono _ _ _
      | exact LeO.none _
      | refine LeO.ite ?_ ?_
      | refine LeO.bind ?_ (fun _ => ?_)
set_option maxHeartbeats 3000000 in
set_option maxRecDepth 100000 in
theorem buf_Text.calls (k : Nat) (P0_ : Nat → Prop) (u9000_ : Value) (l0 : List Int) (a1 : ByteArray) (r : List Int) (w0 w : World) (hB : Below w0.heap.size w0 w) (ho0 : Kd.R (Kd.int .u8) 5 w w0.heap.size P0_ u9000_ l0) (h : buf_Text.f k l0 a1 = some r) :
    Calls Tryd.prog 42 #[u9000_, .string a1] w fun e w' => ∃ v0_ : Value, e = .returned (v0_) ∧ Kd.R (Kd.int .u8) 5 w' w0.heap.size (fun k_ => (P0_ k_ ∨ w.heap.size ≤ k_)) v0_ r ∧ Below w0.heap.size w0 w' ∧ Kept w w' (fun k_ => P0_ k_) := by
  have HO0 := Aside0.mk (show Kd.R (Kd.int .u8) 5 w w0.heap.size (fun k_ => (P0_ k_ ∨ w.heap.size ≤ k_)) u9000_ l0 from Kd.R_mono ho0 (fun k_ hk => (.inl hk)))
  have HK := Aside0.mk (Kept.refl w (fun k_ => P0_ k_))
  have HW0 := Aside0.mk hB.size
  have HB := Aside0.mk hB
  clear hB
  have H : ((uvar_Put.f k l0 (IntKind.u64.wrap ((a1.size : Int)))).bind fun t168 => (if t168.length + a1.size < 140737488355328 then (some (t168 ++ bytesOf a1)) else (none))) = some r := h
  clear h
  replace H := Option.bind_eq_some_iff.mp H
  obtain ⟨t168, A30, H⟩ := H
  replace H : (if t168.length + a1.size < 140737488355328 then (some (t168 ++ bytesOf a1)) else (none)) = some r := H
  have A3 := Aside0.mk A30
  clear A30
  by_cases c4 : t168.length + a1.size < 140737488355328
  · rw [if_pos c4] at H
    have LMc4 := Aside0.mk c4
    clear c4
    obtain ⟨y171, hy171⟩ : ∃ y_ : List Int, y_ = (t168 ++ bytesOf a1) := ⟨_, rfl⟩
    replace H : (some y171) = some r := by first | (rw [hy171]; with_reducible exact H) | (have H2_ := (Option.bind_some _ _).symm.trans H; rw [hy171]; with_reducible exact H2_) | (have H2_ := (Option.bind_some _ _).symm.trans H; with_reducible exact H2_) | with_reducible exact H | (rw [hy171]; exact H) | exact H
    have Ny171 := Aside0.mk hy171
    clear hy171
    obtain rfl := Option.some.inj H
    obtain ⟨Ao5, co5, eo5⟩ := Kd.R_slice HO0.out
    subst eo5
    go_enter Tryd.func42, Tryd.ntmps42
    go_wp2_with (first | ((with_reducible refine gate_callee (f := 41) rfl ?_); refine goesL_ (some 9) rfl rfl Tryd.func41 (by kernel_rfl) rfl #[.slice Ao5 l0.length co5, .int .u64 (IntKind.u64.wrap ((a1.size : Int)))] rfl (by (try simp only [List.map_toArray, List.map_cons, List.map_nil]); first | done | rfl | (simp only [List.length_drop, List.length_take]; rfl)) ?_; (with_reducible refine (uvar_Put.calls k (fun k_ => some k_ = (.slice Ao5 l0.length co5 : Value).ownBlock) (.slice Ao5 l0.length co5) l0 (IntKind.u64.wrap ((a1.size : Int))) t168 w0 _ ?side1 ?side2 A3.out).mono ?_); (case side1 => repeat (first | (with_reducible first | exact HB.out | apply below_alloc | apply pw_below_drewN | apply below_drew1) | exact HB.out)); (case side2 => exact Kd.R_tight rfl HO0.out); rintro e w6 ⟨v169, rfl, ho0, hb, hkp⟩; refine ⟨_, rfl, ?_⟩; have n0_ := Aside0.mk (Kd.R_mono (ok' := fun k_ => (P0_ k_ ∨ w.heap.size ≤ k_)) ho0 (fun k_ hk_ => Or.elim hk_ (fun hs_ => (HO0.out.1 k_ (hs_).symm)) (fun hn_ => (.inr (Nat.le_trans (by first | exact HK.out.1 | exact (show Kept w _ (fun k_ => P0_ k_) from by repeat (first | (with_reducible first | exact HK.out | apply Kept.alloc | apply Kept.drewN | apply Kept.drew) | exact HK.out)).1) hn_))))); have n1_ := Aside0.mk (Kept.then_ (S := (fun k_ => P0_ k_)) (by repeat (first | (with_reducible first | exact HK.out | apply Kept.alloc | apply Kept.drewN | apply Kept.drew) | exact HK.out)) hkp (fun k_ hs_ => (fun e_ => (HO0.out.1 k_ e_.symm)) hs_)); have n2_ := Aside0.mk (hb); clear HK; clear HB; clear HO0; have HO170 := n0_; have HK := n1_; have HB := n2_; clear n0_ n1_ n2_; (try clear hb); (try clear hkp); (try clear ho0)) | (at_builtin; refine print_append_strB (ok := fun k_ => (P0_ k_ ∨ w.heap.size ≤ k_)) (w0 := w0) w0.heap.size rfl (.tmp 9) _ 33 9 5 rfl Tryd.underlying33 Tryd.underlying9 info5 v169 t168 a1 rfl rfl ?aO ?aB ?aS ?aL ?_; (case aB => exact (by repeat (first | (with_reducible first | exact HB.out | apply below_alloc | apply pw_below_drewN | apply below_drew1) | exact HB.out))); (case aO => exact (id (by (with_reducible repeat (first | apply Kd.R_alloc | apply Kd.R_drewN | apply Kd.R_drew)); exact HO170.out))); (case aS => exact (below_size (by repeat (first | (with_reducible first | exact HB.out | apply below_alloc | apply pw_below_drewN | apply below_drew1) | exact HB.out)))); (case aL => have := LMc4.out; omega); intro v172 w7 ho0 hb hg; have ho := ho0 (fun k_ => (P0_ k_ ∨ w.heap.size ≤ k_)) (fun _ h_ => h_) (fun k_ hk_ => .inr (Nat.le_trans HK.out.1 hk_)); clear ho0; have hat := True.intro; rw [← Ny171.out] at ho; change Kd.R (Kd.int .u8) 5 w7 w0.heap.size (fun k_ => (P0_ k_ ∨ w.heap.size ≤ k_)) v172 y171 at ho; have n0_ := Aside0.mk (hb); have n1_ := Aside0.mk (Kept.of_grown (S := (fun k_ => P0_ k_)) hg (by repeat (first | (with_reducible first | exact HK.out | apply Kept.alloc | apply Kept.drewN | apply Kept.drew) | exact HK.out)) (fun k_ e_ => (HO170.out.1 k_ e_))); have n2_ := Aside0.mk (ho); clear HB; clear HK; clear HO170; have HB := n0_; have HK := n1_; have HO173 := n2_; clear n0_ n1_ n2_; clear ho hb hg hat))
    all_goals go_ret
    all_goals first | (exact ⟨_, by first | rfl | (simp [errW_none, errW_some] <;> rfl) | (simp [*, errW_none, errW_some] <;> rfl), by (with_reducible repeat (first | apply Kd.R_alloc | apply Kd.R_drewN | apply Kd.R_drew)); exact HO173.out, by repeat (first | (with_reducible first | exact HB.out | apply below_alloc | apply pw_below_drewN | apply below_drew1) | exact HB.out), by repeat (first | (with_reducible first | exact HK.out | apply Kept.alloc | apply Kept.drewN | apply Kept.drew) | exact HK.out)⟩) | (exfalso; simp_all; done)
  · rw [if_neg c4] at H
    exact absurd H (by simp)


/-! ### tagged_writer_text: function 16 -/
def wtext (k : Nat) (l : List Int) (tag : Int) (s : ByteArray) : Option (List Int) := if s.toList = [] then some l else (wnum k l [tag]).bind fun l1 => buf_Text.f k l1 s
set_option maxHeartbeats 2000000 in
set_option maxRecDepth 100000 in
theorem wtext.calls (k : Nat) (wA W : World) (P : Nat → Prop) (tag : Int) (s : ByteArray) (l r : List Int) (hW : WrS wA W P l) (h : wtext k l tag s = some r) :
    Calls Tryd.prog 16 #[.pointer (some ⟨wA.heap.size, 0, none⟩), .int .u64 tag, .string s] W (WPost wA W P r) := by
  have hu45 := Tryd.underlying45
  unfold wtext at h
  by_cases c : s.toList = []
  · rw [if_pos c] at h
    obtain rfl := Option.some.inj h
    have d : (s.toList != ([] : List UInt8)) = false := bne_eq_false_iff_eq.mpr c
    have d2 : (s.toList == ([] : List UInt8)) = true := beq_iff_eq.mpr c
    have HW := Aside0.mk hW
    clear c h hW
    go_enter Tryd.func16, Tryd.ntmps16
    go_wp2
    go_end0
    exact ⟨rfl, HW.out.mono (fun k _ hk => .inl hk), Kept.refl _ _⟩
  · rw [if_neg c] at h
    have d : (s.toList != ([] : List UInt8)) = true := bne_iff_ne.mpr c
    have d2 : (s.toList == ([] : List UInt8)) = false := beq_eq_false_iff_ne.mpr c
    obtain ⟨l1, h1, h⟩ := Option.bind_eq_some_iff.mp h
    have HC := Aside0.mk (show Calls Tryd.prog 14 #[.pointer (some ⟨wA.heap.size, 0, none⟩), .slice (some ⟨W.heap.size, 0, none⟩) 1 1] (W.alloc (.cells #[.int .u64 tag] 23)) (WPost wA W P l1) from wnum1.calls k wA W P tag l l1 hW h1)
    have HT := Aside0.mk h
    clear c h h1 hW
    go_enter Tryd.func16, Tryd.ntmps16
    go_upto_region 2 with (go_at_call 14; (with_reducible refine HC.out.mono ?_); rintro e w2 ⟨rfl, hw, hk⟩; have HW2 := Aside0.mk hw; have HK2 := Aside0.mk hk; clear hw hk)
    obtain ⟨v, hg2, hr⟩ := HW2.out.ex
    have hc0 : w2.cell? ⟨wA.heap.size, 0, none⟩ = some v := (blk_cell hg2 0).trans rfl
    have hf0 := blk_frozen hg2 0
    have HU := Aside0.mk (show Calls Tryd.prog 42 #[v, .string s] w2 _ from buf_Text.calls k (fun k => k ≠ wA.heap.size ∧ (P k ∨ W.heap.size ≤ k)) v l1 s r wA w2 HW2.out.bel hr HT.out)
    have HG2 := Aside0.mk hg2
    clear hr hg2
    go_wp2_with (go_at_call 42; (with_reducible refine HU.out.mono ?_); rintro e w3 ⟨v1, rfl, hR, hb, hk⟩; obtain ⟨A1, d1, rfl⟩ := Kd.R_slice hR; have hc1 : w3.cell? ⟨wA.heap.size, 0, none⟩ = some v := (blk_cell (blk_kept HG2.out hk (fun h => h.1 rfl)) 0).trans rfl; have hf1 := blk_frozen (blk_kept HG2.out hk (fun h => h.1 rfl)) 0; have HW3 := Aside0.mk (HW2.out.put hR (by have := HW2.out.lt; rintro q (⟨h1, _⟩ | h1) <;> omega) hb hk); have HK3 := Aside0.mk ((HK2.out.then_ hk (by rintro q ⟨h1, h2 | h2⟩; exact .inl (.inr h2); exact .inr h2)).setCell (p := ⟨wA.heap.size, 0, none⟩) (.inl (.inl rfl)) (.slice A1 r.length d1)); have HS3 := Aside0.mk HK2.out.1; clear hR hb hk)
    go_end0
    exact ⟨rfl, HW3.out.mono (by have := HS3.out; rintro q hq (⟨_, h2⟩ | h2); exact h2; exact .inr (by omega)), HK3.out⟩


/-! ### tagged_writer_peer: function 17 -/
set_option maxHeartbeats 2000000 in
set_option maxRecDepth 100000 in
theorem wpeer.calls (k : Nat) (wA W : World) (P : Nat → Prop) (p0 p1 : Int) (l r : List Int) (hW : WrS wA W P l) (h : wnum k l [p0, IntKind.u64.wrap p1] = some r) :
    Calls Tryd.prog 17 #[.pointer (some ⟨wA.heap.size, 0, none⟩), .agg #[.int .u64 p0, .int .u16 p1]] W (WPost wA W P r) := by
  have hu26 := Tryd.underlying26
  have HC := Aside0.mk (show Calls Tryd.prog 14 #[.pointer (some ⟨wA.heap.size, 0, none⟩), .slice (some ⟨(W.alloc (.cells #[.int .u64 p0, .int .u16 p1] 26)).heap.size, 0, none⟩) 2 2] ((W.alloc (.cells #[.int .u64 p0, .int .u16 p1] 26)).alloc (.cells #[.int .u64 p0, .int .u64 (IntKind.u64.wrap p1)] 23)) (WPost wA (W.alloc (.cells #[.int .u64 p0, .int .u16 p1] 26)) P r) from wnum2.calls k wA _ P p0 _ l r (hW.later (below_alloc (Below.refl _ _) _)) h)
  have hs : (W.alloc (.cells #[.int .u64 p0, .int .u16 p1] 26)).heap.size = W.heap.size + 1 := by simp
  rw [hs] at HC
  clear h hW
  go_enter Tryd.func17, Tryd.ntmps17
  go_wp2_with (go_at_call 14; (with_reducible refine HC.out.mono ?_); rintro e w2 hh; have HP := Aside0.mk (WPost.of hh (below_alloc (Below.refl _ _) _)); obtain ⟨rfl, _, _⟩ := hh)
  go_end0
  exact HP.out

end Go.Proofs.YtmohmmpcadlfkaaDoor.PTaggedBack
