/- The walk of one law with a hole for each of its branches: what each branch has to show stands as the first parts of the pair. No condition. -/
import Derived.Test.YtpopljbpbobgfaaPNegoAgreesx0
import Derived.Test.YtpopljbpbobgfaaPNegoAgreesx1
import Derived.Test.YtpopljbpbobgfaaPNegoAgreesx2
namespace Go.Proofs.Ytpopljbpbobgfaa.PNegoAgrees
open Go.RowKit Go.Proofs.YtpopljbpbobgfaaW.PrintWords Go.Proofs.YtpopljbpbobgfaaW.PrintLast Go.Proofs.YtpopljbpbobgfaaW.PrintMore
attribute [local go_sem] max2_int min2_int max_two min_two max_three min_three max_four min_four   -- for this text's walks alone
set_option linter.unusedVariables false
set_option linter.unusedSimpArgs false


set_option maxHeartbeats 1000000 in
set_option maxRecDepth 100000 in
theorem ask_any (x0 x1 x2 x3 x4 x5 x6 : Int) (A : Option Addr) (n c : Nat) (w : World) :
    Calls Try.prog 13 #[(.agg #[.int .u16 x0, .int .i64 x1, .int .u16 x2, .int .i64 x3, .int .i64 x4, .int .u32 x5, .int .u32 x6, .slice A n c])] w fun e w' => e = .returned (.tuple #[.agg #[.int .u16 x0, .int .i64 (if x1 = 0 then 1 else x1), .int .u16 x2, .int .i64 x3, .int .i64 (if x1 = 0 then 0 else x4), .int .u32 x5, .int .u32 x6, .slice A n c], .bool (decide (x1 = 0))]) ∧ Below w.heap.size w w' := by
  have HB := Aside0.mk (Below.refl w.heap.size w)
  have hu33 := Try.underlying33
  by_cases c1 : x1 = 0
  · have dc1 : (x1 == 0) = true := beq_iff_eq.mpr c1
    have ec1 : (x1 != 0) = false := bne_eq_false_iff_eq.mpr c1
    rw [if_pos c1, if_pos c1, decide_eq_true c1]
    clear c1
    go_enter Try.func13, Try.ntmps13
    go_wp2
    refine bodyPost_ret (results_ct rfl _ _ (w.heap.size + 1) 33 #[.int .u16 x0, .int .i64 1, .int .u16 x2, .int .i64 x3, .int .i64 0, .int .u32 x5, .int .u32 x6, .slice A n c] (0, 0) _ rfl (by (with_reducible repeat (first | refine blk_drewN ?_ _ | refine blk_drew ?_)); have := blk_new (w.alloc (.cells #[.int .u16 x0, .int .i64 1, .int .u16 x2, .int .i64 x3, .int .i64 0, .int .u32 x5, .int .u32 x6, .slice A n c] 33)) (.cells #[.int .u16 x0, .int .i64 1, .int .u16 x2, .int .i64 x3, .int .i64 0, .int .u32 x5, .int .u32 x6, .slice A n c] 33); simpa using this) Try.underlying33 rfl (by kernel_rfl)) rfl ?_
    exact ⟨rfl, by repeat (first | exact HB.out | apply below_alloc | apply pw_below_drewN | apply below_drew1)⟩
  · have dc1 : (x1 == 0) = false := beq_eq_false_iff_ne.mpr c1
    have ec1 : (x1 != 0) = true := bne_iff_ne.mpr c1
    rw [if_neg c1, if_neg c1, decide_eq_false c1]
    clear c1
    go_enter Try.func13, Try.ntmps13
    go_wp2
    refine bodyPost_ret (results_ct rfl _ _ (w.heap.size + 1) 33 #[.int .u16 x0, .int .i64 x1, .int .u16 x2, .int .i64 x3, .int .i64 x4, .int .u32 x5, .int .u32 x6, .slice A n c] (0, 0) _ rfl (by (with_reducible repeat (first | refine blk_drewN ?_ _ | refine blk_drew ?_)); have := blk_new (w.alloc (.cells #[.int .u16 x0, .int .i64 x1, .int .u16 x2, .int .i64 x3, .int .i64 x4, .int .u32 x5, .int .u32 x6, .slice A n c] 33)) (.cells #[.int .u16 x0, .int .i64 x1, .int .u16 x2, .int .i64 x3, .int .i64 x4, .int .u32 x5, .int .u32 x6, .slice A n c] 33); simpa using this) Try.underlying33 rfl (by kernel_rfl)) rfl ?_
    exact ⟨rfl, by repeat (first | exact HB.out | apply below_alloc | apply pw_below_drewN | apply below_drew1)⟩
def tickN (s c : Int) : Int := if s = 1 then (if 0 ≤ c ∧ c < 3 then c + 1 else 0) else c
def tickB (s c : Int) : Bool := if s = 1 then (if 0 ≤ c ∧ c < 3 then false else true) else false
set_option maxHeartbeats 1000000 in
set_option maxRecDepth 100000 in
theorem tick_any (x0 x1 x2 x3 x4 x5 x6 : Int) (A : Option Addr) (n c : Nat) (w : World) :
    Calls Try.prog 17 #[(.agg #[.int .u16 x0, .int .i64 x1, .int .u16 x2, .int .i64 x3, .int .i64 x4, .int .u32 x5, .int .u32 x6, .slice A n c])] w fun e w' => e = .returned (.tuple #[.agg #[.int .u16 x0, .int .i64 x1, .int .u16 x2, .int .i64 x3, .int .i64 (tickN x1 x4), .int .u32 x5, .int .u32 x6, .slice A n c], .bool (tickB x1 x4)]) ∧ Below w.heap.size w w' := by
  have HB := Aside0.mk (Below.refl w.heap.size w)
  have hu33 := Try.underlying33
  by_cases c1 : x1 = 1
  · have dc1 : (x1 == 1) = true := beq_iff_eq.mpr c1
    have ec1 : (x1 != 1) = false := bne_eq_false_iff_eq.mpr c1
    clear c1
    by_cases c2 : 0 ≤ x4
    · have f2 : decide (0 ≤ x4) = true := decide_eq_true c2
      by_cases c3 : x4 < 3
      · have f3 : decide (x4 < 3) = true := decide_eq_true c3
        rw [show tickN x1 x4 = x4 + 1 from by unfold tickN; simp_all <;> omega, show tickB x1 x4 = false from by unfold tickB; simp_all <;> omega]
        go_enter Try.func17, Try.ntmps17
        go_wp2
        refine bodyPost_ret (results_ct rfl _ _ (w.heap.size + 1) 33 #[.int .u16 x0, .int .i64 x1, .int .u16 x2, .int .i64 x3, .int .i64 (x4 + 1), .int .u32 x5, .int .u32 x6, .slice A n c] (0, 0) _ rfl (by (with_reducible repeat (first | refine blk_drewN ?_ _ | refine blk_drew ?_)); have := blk_new (w.alloc (.cells #[.int .u16 x0, .int .i64 x1, .int .u16 x2, .int .i64 x3, .int .i64 (x4 + 1), .int .u32 x5, .int .u32 x6, .slice A n c] 33)) (.cells #[.int .u16 x0, .int .i64 x1, .int .u16 x2, .int .i64 x3, .int .i64 (x4 + 1), .int .u32 x5, .int .u32 x6, .slice A n c] 33); simpa using this) Try.underlying33 rfl (by kernel_rfl)) rfl ?_
        exact ⟨rfl, by repeat (first | exact HB.out | apply below_alloc | apply pw_below_drewN | apply below_drew1)⟩
      · have f3 : decide (x4 < 3) = false := decide_eq_false c3
        rw [show tickN x1 x4 = 0 from by unfold tickN; simp_all <;> omega, show tickB x1 x4 = true from by unfold tickB; simp_all <;> omega]
        go_enter Try.func17, Try.ntmps17
        go_wp2
        refine bodyPost_ret (results_ct rfl _ _ (w.heap.size + 1) 33 #[.int .u16 x0, .int .i64 x1, .int .u16 x2, .int .i64 x3, .int .i64 0, .int .u32 x5, .int .u32 x6, .slice A n c] (0, 0) _ rfl (by (with_reducible repeat (first | refine blk_drewN ?_ _ | refine blk_drew ?_)); have := blk_new (w.alloc (.cells #[.int .u16 x0, .int .i64 x1, .int .u16 x2, .int .i64 x3, .int .i64 0, .int .u32 x5, .int .u32 x6, .slice A n c] 33)) (.cells #[.int .u16 x0, .int .i64 x1, .int .u16 x2, .int .i64 x3, .int .i64 0, .int .u32 x5, .int .u32 x6, .slice A n c] 33); simpa using this) Try.underlying33 rfl (by kernel_rfl)) rfl ?_
        exact ⟨rfl, by repeat (first | exact HB.out | apply below_alloc | apply pw_below_drewN | apply below_drew1)⟩
    · have f2 : decide (0 ≤ x4) = false := decide_eq_false c2
      rw [show tickN x1 x4 = 0 from by unfold tickN; simp_all <;> omega, show tickB x1 x4 = true from by unfold tickB; simp_all <;> omega]
      go_enter Try.func17, Try.ntmps17
      go_wp2
      refine bodyPost_ret (results_ct rfl _ _ (w.heap.size + 1) 33 #[.int .u16 x0, .int .i64 x1, .int .u16 x2, .int .i64 x3, .int .i64 0, .int .u32 x5, .int .u32 x6, .slice A n c] (0, 0) _ rfl (by (with_reducible repeat (first | refine blk_drewN ?_ _ | refine blk_drew ?_)); have := blk_new (w.alloc (.cells #[.int .u16 x0, .int .i64 x1, .int .u16 x2, .int .i64 x3, .int .i64 0, .int .u32 x5, .int .u32 x6, .slice A n c] 33)) (.cells #[.int .u16 x0, .int .i64 x1, .int .u16 x2, .int .i64 x3, .int .i64 0, .int .u32 x5, .int .u32 x6, .slice A n c] 33); simpa using this) Try.underlying33 rfl (by kernel_rfl)) rfl ?_
      exact ⟨rfl, by repeat (first | exact HB.out | apply below_alloc | apply pw_below_drewN | apply below_drew1)⟩
  · have dc1 : (x1 == 1) = false := beq_eq_false_iff_ne.mpr c1
    have ec1 : (x1 != 1) = true := bne_iff_ne.mpr c1
    clear c1
    rw [show tickN x1 x4 = x4 from by unfold tickN; simp_all <;> omega, show tickB x1 x4 = false from by unfold tickB; simp_all <;> omega]
    go_enter Try.func17, Try.ntmps17
    go_wp2
    refine bodyPost_ret (results_ct rfl _ _ (w.heap.size + 1) 33 #[.int .u16 x0, .int .i64 x1, .int .u16 x2, .int .i64 x3, .int .i64 x4, .int .u32 x5, .int .u32 x6, .slice A n c] (0, 0) _ rfl (by (with_reducible repeat (first | refine blk_drewN ?_ _ | refine blk_drew ?_)); have := blk_new (w.alloc (.cells #[.int .u16 x0, .int .i64 x1, .int .u16 x2, .int .i64 x3, .int .i64 x4, .int .u32 x5, .int .u32 x6, .slice A n c] 33)) (.cells #[.int .u16 x0, .int .i64 x1, .int .u16 x2, .int .i64 x3, .int .i64 x4, .int .u32 x5, .int .u32 x6, .slice A n c] 33); simpa using this) Try.underlying33 rfl (by kernel_rfl)) rfl ?_
    exact ⟨rfl, by repeat (first | exact HB.out | apply below_alloc | apply pw_below_drewN | apply below_drew1)⟩
set_option maxHeartbeats 1000000 in
set_option maxRecDepth 100000 in
theorem vbest_any (a b best : Int) (w : World) (hv : vers_Best.f a b = some best) : Calls Try.prog 25 #[.int .u16 a, .int .u16 b] w fun e w' => e = .returned (.int .i64 best) ∧ w = w' := by
  unfold vers_Best.f bits_Len16.f at hv
  by_cases h0 : 0 ≤ Go.bits .and .u16 a b
  case neg => rw [if_neg h0] at hv; exact absurd hv (by simp)
  by_cases h1 : Go.bits .and .u16 a b ≤ 65535
  case neg => rw [if_pos h0, if_neg h1] at hv; exact absurd hv (by simp)
  rw [if_pos h0, if_pos h1] at hv
  obtain rfl := Option.some.inj hv
  have H0 := Aside0.mk h0
  have H1 := Aside0.mk h1
  clear hv h0 h1
  go_enter Try.func25, Try.ntmps25
  go_wp2_with (go_at_call 33; refine (Try.bits_Len16 _ _ H0.out H1.out).mono ?_; rintro e w' ⟨rfl, rfl⟩)
  go_ret
  exact ⟨rfl, rfl⟩
set_option maxHeartbeats 1000000 in
set_option maxRecDepth 100000 in
theorem hear_any (x0 x1 x2 x3 x4 x5 x6 : Int) (A : Option Addr) (n c : Nat) (own theirs best : Int) (rep : Bool) (w : World) (hv : vers_Best.f own theirs = some best) :
    Calls Try.prog 15 #[(.agg #[.int .u16 x0, .int .i64 x1, .int .u16 x2, .int .i64 x3, .int .i64 x4, .int .u32 x5, .int .u32 x6, .slice A n c]), .int .u16 own, .int .u16 theirs, .bool rep] w fun e w' => e = .returned (.tuple #[.agg #[.int .u16 x0, .int .i64 (if best = 0 then 3 else 2), .int .u16 theirs, .int .i64 best, .int .i64 0, .int .u32 x5, .int .u32 x6, .slice A n c], .bool (!rep)]) ∧ Below w.heap.size w w' := by
  have HB := Aside0.mk (Below.refl w.heap.size w)
  have HV := Aside0.mk hv
  clear hv
  have hu33 := Try.underlying33
  by_cases c1 : best = 0
  · have dc1 : (best == 0) = true := beq_iff_eq.mpr c1
    have ec1 : (best != 0) = false := bne_eq_false_iff_eq.mpr c1
    rw [if_pos c1]
    clear c1
    go_enter Try.func15, Try.ntmps15
    go_wp2_with (go_at_call 25; (with_reducible refine (vbest_any own theirs best _ HV.out).mono ?_); rintro e w' ⟨rfl, rfl⟩)
    refine bodyPost_ret (results_ct rfl _ _ (w.heap.size + 1) 33 #[.int .u16 x0, .int .i64 3, .int .u16 theirs, .int .i64 best, .int .i64 0, .int .u32 x5, .int .u32 x6, .slice A n c] (0, 0) _ rfl (by (with_reducible repeat (first | refine blk_drewN ?_ _ | refine blk_drew ?_)); have := blk_new (w.alloc (.cells #[.int .u16 x0, .int .i64 3, .int .u16 theirs, .int .i64 best, .int .i64 0, .int .u32 x5, .int .u32 x6, .slice A n c] 33)) (.cells #[.int .u16 x0, .int .i64 3, .int .u16 theirs, .int .i64 best, .int .i64 0, .int .u32 x5, .int .u32 x6, .slice A n c] 33); simpa using this) Try.underlying33 rfl (by kernel_rfl)) rfl ?_
    exact ⟨rfl, by repeat (first | exact HB.out | apply below_alloc | apply pw_below_drewN | apply below_drew1)⟩
  · have dc1 : (best == 0) = false := beq_eq_false_iff_ne.mpr c1
    have ec1 : (best != 0) = true := bne_iff_ne.mpr c1
    rw [if_neg c1]
    clear c1
    go_enter Try.func15, Try.ntmps15
    go_wp2_with (go_at_call 25; (with_reducible refine (vbest_any own theirs best _ HV.out).mono ?_); rintro e w' ⟨rfl, rfl⟩)
    refine bodyPost_ret (results_ct rfl _ _ (w.heap.size + 1) 33 #[.int .u16 x0, .int .i64 2, .int .u16 theirs, .int .i64 best, .int .i64 0, .int .u32 x5, .int .u32 x6, .slice A n c] (0, 0) _ rfl (by (with_reducible repeat (first | refine blk_drewN ?_ _ | refine blk_drew ?_)); have := blk_new (w.alloc (.cells #[.int .u16 x0, .int .i64 2, .int .u16 theirs, .int .i64 best, .int .i64 0, .int .u32 x5, .int .u32 x6, .slice A n c] 33)) (.cells #[.int .u16 x0, .int .i64 2, .int .u16 theirs, .int .i64 best, .int .i64 0, .int .u32 x5, .int .u32 x6, .slice A n c] 33); simpa using this) Try.underlying33 rfl (by kernel_rfl)) rfl ?_
    exact ⟨rfl, by repeat (first | exact HB.out | apply below_alloc | apply pw_below_drewN | apply below_drew1)⟩
/-! ### two talks, and the hellos on their way -/
structure Tl where
  sec : Bool
  rep : Bool
  set : Int
structure Tk where
  (a s th v si ep nx : Int)
def tc : List Tl → List Value
  | [] => []
  | x :: l => .bool x.sec :: .bool x.rep :: .int .u16 x.set :: tc l
theorem tc_append : ∀ a b : List Tl, tc (a ++ b) = tc a ++ tc b
  | [], b => rfl
  | x :: a, b => by simp [tc, tc_append a b]
theorem tc_len : ∀ a : List Tl, (tc a).length = a.length * 3
  | [] => rfl
  | x :: a => by simp [tc, tc_len a]; omega
theorem tc_one : ∀ a : List Tl, ∀ u ∈ tc a, u.oneCell' = true
  | [], u, h => by cases h
  | x :: a, u, h => by
    simp only [tc, List.mem_cons] at h
    rcases h with rfl | rfl | rfl | h
    · rfl
    · rfl
    · rfl
    · exact tc_one a u h
theorem tc_drop : ∀ (a : List Tl) (i : Nat), (tc a).drop (i * 3) = tc (a.drop i)
  | a, 0 => by simp
  | [], i + 1 => by simp [tc]
  | x :: a, i + 1 => by
    rw [show (i + 1) * 3 = i * 3 + 3 by omega]
    simp only [tc, List.drop_succ_cons]
    exact tc_drop a i
theorem tc_take : ∀ (a : List Tl) (i : Nat), (tc a).take (i * 3) = tc (a.take i)
  | a, 0 => by simp [tc]
  | [], i + 1 => by simp [tc]
  | x :: a, i + 1 => by
    rw [show (i + 1) * 3 = i * 3 + 3 by omega]
    simp only [tc, List.take_succ_cons]
    rw [tc_take a i]
theorem tc_at (a : List Tl) (i : Nat) (h : i < a.length) : (tc a)[i * 3]? = some (.bool a[i].sec) ∧ (tc a)[i * 3 + 1]? = some (.bool a[i].rep) ∧ (tc a)[i * 3 + 2]? = some (.int .u16 a[i].set) := by
  have e := tc_drop a i
  rw [List.drop_eq_getElem_cons h, tc] at e
  have g : ∀ j, ((tc a).drop (i * 3))[j]? = (tc a)[i * 3 + j]? := fun j => by rw [List.getElem?_drop]
  refine ⟨?_, ?_, ?_⟩
  · rw [← Nat.add_zero (i * 3), ← g 0, e]; rfl
  · rw [← g 1, e]; rfl
  · rw [← g 2, e]; rfl
@[reducible] def row16 (P Q : Tk) : Array Value := #[.int .u16 P.a, .int .i64 P.s, .int .u16 P.th, .int .i64 P.v, .int .i64 P.si, .int .u32 P.ep, .int .u32 P.nx, .slice none 0 0, .int .u16 Q.a, .int .i64 Q.s, .int .u16 Q.th, .int .i64 Q.v, .int .i64 Q.si, .int .u32 Q.ep, .int .u32 Q.nx, .slice none 0 0]
def TI (best : Int) (P : Tk) : Prop := (P.s = 2 → best ≠ 0 ∧ P.v = best) ∧ (P.s = 3 → best = 0)
structure NS (w wr : World) (a b best : Int) (v9 : Value) (ways : List Tl) (P Q : Tk) : Prop where
  own : wr.ownsRow (w.heap.size + 2) 48 3 v9 ways.length (tc ways)
  two : wr.heap[w.heap.size]? = some (.cells (row16 P Q) 41 (0, 0))
  sets : wr.heap[w.heap.size + 1]? = some (.cells #[.int .u16 a, .int .u16 b] 42 (0, 0))
  bel : Below w.heap.size w wr
  wi : ∀ x ∈ ways, x.set = if x.sec = true then a else b
  ti : TI best P
  tj : TI best Q
section
variable {w wr w1 : World} {a b best : Int} {v9 : Value} {ways : List Tl} {P Q P' Q' : Tk}
theorem own_keep {base n : Nat} {e : TypeId} {size : Nat} {v : Value} {xs : List Value} (h : wr.ownsRow base e size v n xs) (hk : ∀ k, v.ownBlock = some k → w1.heap[k]? = wr.heap[k]?) : w1.ownsRow base e size v n xs := by
  refine ⟨h.1, ?_⟩
  rcases h.2 with ⟨hv, hn⟩ | ⟨g, cap, cur, hv, hb, hg, hnc, hcm, hcs, ht⟩
  · exact .inl ⟨hv, hn⟩
  · exact .inr ⟨g, cap, cur, hv, hb, by rw [hk g (by rw [hv]; rfl)]; exact hg, hnc, hcm, hcs, ht⟩
theorem NS.below (h : NS w wr a b best v9 ways P Q) (hb : Below wr.heap.size wr w1) : NS w w1 a b best v9 ways P Q :=
  ⟨own_keep h.own (fun k hk => hb.block k (own_lt h.own k hk)), blk_below h.two hb, blk_below h.sets hb, below_step h.bel hb, h.wi, h.ti, h.tj⟩
theorem NS.drewN (h : NS w wr a b best v9 ways P Q) (m : Nat) : NS w (wr.drewN m) a b best v9 ways P Q := h.below (pw_below_drewN (Below.refl _ _) m)
theorem NS.drew (h : NS w wr a b best v9 ways P Q) : NS w wr.drew a b best v9 ways P Q := h.below (Below.refl _ _).drew
theorem NS.alloc (h : NS w wr a b best v9 ways P Q) (o : Obj) : NS w (wr.alloc o) a b best v9 ways P Q := h.below (below_alloc (Below.refl _ _) o)
/-- one cell of the talks is turned: the rest stays -/
theorem NS.set_ {cs : Array Value} (own : wr.ownsRow (w.heap.size + 2) 48 3 v9 ways.length (tc ways)) (two : wr.heap[w.heap.size]? = some (.cells cs 41 (0, 0)))
    (sets : wr.heap[w.heap.size + 1]? = some (.cells #[.int .u16 a, .int .u16 b] 42 (0, 0))) (bel : Below w.heap.size w wr) (j : Nat) (u : Value) :
    (wr.setCell ⟨w.heap.size, j, none⟩ u).ownsRow (w.heap.size + 2) 48 3 v9 ways.length (tc ways) ∧ (wr.setCell ⟨w.heap.size, j, none⟩ u).heap[w.heap.size]? = some (.cells (cs.setIfInBounds j u) 41 (0, 0)) ∧
    (wr.setCell ⟨w.heap.size, j, none⟩ u).heap[w.heap.size + 1]? = some (.cells #[.int .u16 a, .int .u16 b] 42 (0, 0)) ∧ Below w.heap.size w (wr.setCell ⟨w.heap.size, j, none⟩ u) := by
  refine ⟨own_setCell own ?_ u, blk_set two j u, blk_far sets (by simp) u, bel.setCell (Nat.le_refl _) u⟩
  intro he
  have := own_base own _ he.symm
  have h2 : w.heap.size + 2 ≤ w.heap.size := this
  omega
theorem NS.put0 (h : NS w wr a b best v9 ways P Q) (x0 x1 x2 x3 x4 x5 x6 : Int) (ht : TI best ⟨x0, x1, x2, x3, x4, x5, x6⟩) :
    NS w ((((((((wr.setCell ⟨w.heap.size, 0, none⟩ (.int .u16 x0)).setCell ⟨w.heap.size, 1, none⟩ (.int .i64 x1)).setCell ⟨w.heap.size, 2, none⟩ (.int .u16 x2)).setCell ⟨w.heap.size, 3, none⟩ (.int .i64 x3)).setCell ⟨w.heap.size, 4, none⟩ (.int .i64 x4)).setCell ⟨w.heap.size, 5, none⟩ (.int .u32 x5)).setCell ⟨w.heap.size, 6, none⟩ (.int .u32 x6)).setCell ⟨w.heap.size, 7, none⟩ (.slice none 0 0)) a b best v9 ways ⟨x0, x1, x2, x3, x4, x5, x6⟩ Q := by
  have q := NS.set_ h.own h.two h.sets h.bel 0 (.int .u16 x0)
  replace q := NS.set_ q.1 q.2.1 q.2.2.1 q.2.2.2 1 (.int .i64 x1)
  replace q := NS.set_ q.1 q.2.1 q.2.2.1 q.2.2.2 2 (.int .u16 x2)
  replace q := NS.set_ q.1 q.2.1 q.2.2.1 q.2.2.2 3 (.int .i64 x3)
  replace q := NS.set_ q.1 q.2.1 q.2.2.1 q.2.2.2 4 (.int .i64 x4)
  replace q := NS.set_ q.1 q.2.1 q.2.2.1 q.2.2.2 5 (.int .u32 x5)
  replace q := NS.set_ q.1 q.2.1 q.2.2.1 q.2.2.2 6 (.int .u32 x6)
  replace q := NS.set_ q.1 q.2.1 q.2.2.1 q.2.2.2 7 (.slice none 0 0)
  exact ⟨q.1, by simpa only [row16, List.setIfInBounds_toArray, List.set_cons_zero, List.set_cons_succ] using q.2.1, q.2.2.1, q.2.2.2, h.wi, ht, h.tj⟩
theorem NS.put1 (h : NS w wr a b best v9 ways P Q) (x0 x1 x2 x3 x4 x5 x6 : Int) (ht : TI best ⟨x0, x1, x2, x3, x4, x5, x6⟩) :
    NS w ((((((((wr.setCell ⟨w.heap.size, 8, none⟩ (.int .u16 x0)).setCell ⟨w.heap.size, 9, none⟩ (.int .i64 x1)).setCell ⟨w.heap.size, 10, none⟩ (.int .u16 x2)).setCell ⟨w.heap.size, 11, none⟩ (.int .i64 x3)).setCell ⟨w.heap.size, 12, none⟩ (.int .i64 x4)).setCell ⟨w.heap.size, 13, none⟩ (.int .u32 x5)).setCell ⟨w.heap.size, 14, none⟩ (.int .u32 x6)).setCell ⟨w.heap.size, 15, none⟩ (.slice none 0 0)) a b best v9 ways P ⟨x0, x1, x2, x3, x4, x5, x6⟩ := by
  have q := NS.set_ h.own h.two h.sets h.bel 8 (.int .u16 x0)
  replace q := NS.set_ q.1 q.2.1 q.2.2.1 q.2.2.2 9 (.int .i64 x1)
  replace q := NS.set_ q.1 q.2.1 q.2.2.1 q.2.2.2 10 (.int .u16 x2)
  replace q := NS.set_ q.1 q.2.1 q.2.2.1 q.2.2.2 11 (.int .i64 x3)
  replace q := NS.set_ q.1 q.2.1 q.2.2.1 q.2.2.2 12 (.int .i64 x4)
  replace q := NS.set_ q.1 q.2.1 q.2.2.1 q.2.2.2 13 (.int .u32 x5)
  replace q := NS.set_ q.1 q.2.1 q.2.2.1 q.2.2.2 14 (.int .u32 x6)
  replace q := NS.set_ q.1 q.2.1 q.2.2.1 q.2.2.2 15 (.slice none 0 0)
  exact ⟨q.1, by simpa only [row16, List.setIfInBounds_toArray, List.set_cons_zero, List.set_cons_succ] using q.2.1, q.2.2.1, q.2.2.2, h.wi, h.ti, ht⟩
theorem NS.app (h : NS w wr a b best v9 ways P Q) {v' : Value} {x : Tl} (ho : w1.ownsRow (w.heap.size + 2) 48 3 v' (ways.length + 1) (tc ways ++ [.bool x.sec, .bool x.rep, .int .u16 x.set])) (hg : wr.grownBy w1 v9.ownBlock) (hx : x.set = if x.sec = true then a else b) :
    NS w w1 a b best v' (ways ++ [x]) P Q := by
  have hne : ∀ k, k < w.heap.size + 2 → some k ≠ v9.ownBlock := fun k hk he => by
    have h2 : w.heap.size + 2 ≤ k := own_base h.own _ he.symm
    omega
  refine ⟨?_, blk_grown h.two hg (hne _ (by omega)), blk_grown h.sets hg (hne _ (by omega)), h.bel.grown hg h.bel.size (fun k hk => ?_), fun y hy => ?_, h.ti, h.tj⟩
  · rw [List.length_append, tc_append]; exact ho
  · have h2 : w.heap.size + 2 ≤ k := own_base h.own _ hk
    omega
  · rcases List.mem_append.1 hy with hy | hy
    · exact h.wi y hy
    · obtain rfl : y = x := by simpa using hy
      exact hx
end
theorem step_own {ops : Array Oper} {o : Oper} {a : Act} {W : World} {K : Act → World → Prop} {Q : Exit → Act → World → Prop} {E : Prop} (hgd : o.guard = none) (s x : Operand) (t : TypeId)
    (ho : o.op = .call { callee := .builtin .append, args := #[s, x], argTypes := #[t, t] }) (v : Value) (A : Option Addr) (m c : Nat) (hs : a.eval s = v) (hx : a.eval x = .slice A m c) {v' : Value} {w' : World}
    (hr : (Builtin.append_ #[t, t] o.type #[v, .slice A m c]).run Try.prog W = .ok v' w') (h : K (a.put o.dst v') w') : if Region.wanted o (yielded ops a.tmps) = true then Oper.wp Try.prog o a W K Q else E := by
  have hw : Region.wanted o (yielded ops a.tmps) = true := by simp [Region.wanted, hgd]
  rw [if_pos hw]
  unfold Oper.wp execOp
  simp only [ho, resolve, invoke, builtin, Sem.run_bind, Sem.run_pure, Result.andThen_ok, List.map_toArray, List.map_cons, List.map_nil, hs, hx, hr]
  exact h
section
variable {w W : World} {a b best : Int} {v9 : Value} {ways : List Tl} {P Q : Tk}
theorem addr0 (g j : Nat) : (⟨g, 0, none⟩ : Addr).add j = ⟨g, j, none⟩ := by unfold Addr.add; split <;> simp_all
theorem NS.tell (h : NS w W a b best v9 ways P Q) (x : Tl) (hx : x.set = if x.sec = true then a else b) (hl : ways.length ≤ 100) (ty : TypeId) :
    ∃ v' w', (Builtin.append_ #[43, 43] ty #[v9, .slice (some ⟨W.heap.size, 0, none⟩) 1 1]).run Try.prog (W.alloc (.cells #[.bool x.sec, .bool x.rep, .int .u16 x.set] 48)) = .ok v' w' ∧ NS w w' a b best v' (ways ++ [x]) P Q := by
  obtain ⟨i0, hi, hz0, hz1, hz2⟩ := info_parts info48
  have hn := h.alloc (.cells #[.bool x.sec, .bool x.rep, .int .u16 x.set] 48)
  obtain ⟨v', w', hr, h2, hg, _, _⟩ := run_append_own_at (P := Try.prog) _ (w.heap.size + 2) 43 ty 48 i0 _ 3 4 Try.underlying43 hi hz0 hz1 hz2 rfl (by decide) v9 ways.length (tc ways) hn.own ⟨W.heap.size, 0, none⟩ 1 1 [.bool x.sec, .bool x.rep, .int .u16 x.set] rfl
    (fun j u hj => by rw [addr0, blk_cell (blk_new W _) j]; simpa using hj) (fun u hu => by simp at hu; rcases hu with rfl | rfl | rfl <;> rfl) (by simp only [maxLen]; omega) (by omega) (by have := blk_lt hn.sets; omega)
  exact ⟨v', w', hr, NS.app hn h2 hg hx⟩
theorem NS.cut1 {g n cap : Nat} (h : NS w W a b best (.slice (some ⟨g, 0, none⟩) n cap) ways P Q) (hn : n = ways.length) {m : Nat} (hm : m < n) (hl : ways.length ≤ 100) (ty : TypeId) :
    ∃ v1 w1, (Builtin.append_ #[43, 43] ty #[.slice (some ⟨W.heap.size, 0, none⟩) 0 0, .slice (some ⟨g, 0, none⟩) m cap]).run Try.prog (W.alloc (.cells #[] 48)) = .ok v1 w1 ∧ w1.ownsRow (w.heap.size + 2) 48 3 v1 m (tc (ways.take m)) ∧
      (∀ k, k < W.heap.size → w1.heap[k]? = W.heap[k]?) ∧ Below w.heap.size w w1 ∧ (∀ k, v1.ownBlock = some k → W.heap.size ≤ k) := by
  subst hn
  obtain ⟨i0, hi, hz0, hz1, hz2⟩ := info_parts info48
  have hn := h.alloc (.cells #[] 48)
  have hsz := blk_lt h.sets
  have hown0 : (W.alloc (.cells #[] 48)).ownsRow (w.heap.size + 2) 48 3 (.slice (some ⟨W.heap.size, 0, none⟩) 0 0) 0 [] :=
    ⟨rfl, .inr ⟨W.heap.size, 0, #[], rfl, by omega, blk_new W _, Nat.le_refl _, by simp [maxLen], rfl, by simp⟩⟩
  have hc : ∀ j u, (tc ways)[j]? = some u → (W.alloc (.cells #[] 48)).cell? ((⟨g, 0, none⟩ : Addr).add j) = some u := hn.own.cells (g := g) rfl
  obtain ⟨v1, w1, hr, h2, hg, _, hat⟩ := run_append_own_at (P := Try.prog) _ (w.heap.size + 2) 43 ty 48 i0 _ 3 4 Try.underlying43 hi hz0 hz1 hz2 rfl (by decide) _ 0 [] hown0 ⟨g, 0, none⟩ m cap (tc (ways.take m))
    (by rw [tc_len, List.length_take]; congr 1; omega) (fun j u hj => by
      rw [← tc_take] at hj
      rw [List.getElem?_take] at hj
      split at hj
      · exact hc j u hj
      · cases hj) (tc_one _) (by simp only [maxLen]; omega) (by omega) (by have := blk_lt hn.sets; omega)
  refine ⟨v1, w1, hr, by simpa using h2, fun k hk => ?_, hn.bel.grown hg hn.bel.size (fun k hk => ?_), fun k hk => ?_⟩
  · have e : (W.alloc (.cells #[] 48)).heap[k]? = W.heap[k]? := Below.heap_alloc W _ k hk
    rw [← e]
    refine hg.block k (by have : (W.alloc (.cells #[] 48)).heap.size = W.heap.size + 1 := by simp
                          omega) ?_
    intro he
    have : k = W.heap.size := by simpa [Value.ownBlock] using he
    omega
  · have : W.heap.size = k := by simpa [Value.ownBlock] using hk
    omega
  · rcases hat with hat | hat
    · rw [hat] at hk
      have : W.heap.size = k := by simpa [Value.ownBlock] using hk
      omega
    · rw [hat] at hk
      have : W.heap.size + 1 = k := by simpa using hk
      omega
theorem NS.cut2 {g n cap : Nat} {w1 : World} {v1 : Value} (h : NS w W a b best (.slice (some ⟨g, 0, none⟩) n cap) ways P Q) (hn : n = ways.length) {m : Nat} (hm : m < n) (hl : ways.length ≤ 100) (ty : TypeId)
    (ho : w1.ownsRow (w.heap.size + 2) 48 3 v1 m (tc (ways.take m))) (hk : ∀ k, k < W.heap.size → w1.heap[k]? = W.heap[k]?) (hb : Below w.heap.size w w1) (hv : ∀ k, v1.ownBlock = some k → W.heap.size ≤ k) :
    ∃ v2 w2, (Builtin.append_ #[43, 43] ty #[v1, .slice (if cap = m + 1 then some ⟨g, 0, none⟩ else some ((⟨g, 0, none⟩ : Addr).add ((m + 1) * 3))) (n - (m + 1)) (cap - (m + 1))]).run Try.prog w1 = .ok v2 w2 ∧ NS w w2 a b best v2 (ways.take m ++ ways.drop (m + 1)) P Q := by
  subst hn
  obtain ⟨i0, hi, hz0, hz1, hz2⟩ := info_parts info48
  have hsz := blk_lt h.sets
  have hgl : g < W.heap.size := own_lt h.own g rfl
  have hcap : ways.length ≤ cap := by
    rcases h.own.2 with ⟨hv, _⟩ | ⟨g', cap', cur, hv, _, _, hnc, _⟩
    · cases hv
    · injection hv with _ _ h3; omega
  have hc : ∀ j u, (tc ways)[j]? = some u → w1.cell? ((⟨g, 0, none⟩ : Addr).add j) = some u := by
    refine (own_keep h.own (w1 := w1) (fun k hk' => ?_)).cells (g := g) rfl
    have : g = k := by simpa [Value.ownBlock] using hk'
    exact hk k (by omega)
  have hle : W.heap.size ≤ w1.heap.size := by
    rcases Nat.eq_zero_or_pos W.heap.size with h0 | h0
    · omega
    · have hp := hk (W.heap.size - 1) (by omega)
      have : W.heap.size - 1 < w1.heap.size := by
        by_cases hc' : W.heap.size - 1 < w1.heap.size
        · exact hc'
        · rw [Array.getElem?_eq_none (by omega), Array.getElem?_eq_getElem (by omega)] at hp
          cases hp
      omega
  have key : ∀ ad : Addr, (∀ j u, (tc (ways.drop (m + 1)))[j]? = some u → w1.cell? (ad.add j) = some u) →
      ∃ v2 w2, (Builtin.append_ #[43, 43] ty #[v1, .slice (some ad) (ways.length - (m + 1)) (cap - (m + 1))]).run Try.prog w1 = .ok v2 w2 ∧ NS w w2 a b best v2 (ways.take m ++ ways.drop (m + 1)) P Q := by
    intro ad had
    obtain ⟨v2, w2, hr, h2, hg, _, _⟩ := run_append_own_at (P := Try.prog) w1 (w.heap.size + 2) 43 ty 48 i0 _ 3 4 Try.underlying43 hi hz0 hz1 hz2 rfl (by decide) v1 m (tc (ways.take m)) ho ad (ways.length - (m + 1)) (cap - (m + 1)) (tc (ways.drop (m + 1)))
      (by rw [tc_len, List.length_drop]) had (tc_one _) (by simp only [maxLen]; omega) (by omega) (by omega)
    have hne : ∀ k, k < W.heap.size → some k ≠ v1.ownBlock := fun k hk' he => by
      have := hv k he.symm
      omega
    have t1 : w1.heap[w.heap.size]? = _ := (hk _ (blk_lt h.two)).trans h.two
    have s1 : w1.heap[w.heap.size + 1]? = _ := (hk _ (blk_lt h.sets)).trans h.sets
    refine ⟨v2, w2, hr, ⟨?_, blk_grown t1 hg (hne _ (blk_lt h.two)), blk_grown s1 hg (hne _ (blk_lt h.sets)), hb.grown hg hb.size (fun k hk' => ?_), fun x hx => ?_, h.ti, h.tj⟩⟩
    · rw [tc_append, List.length_append, List.length_take, List.length_drop, Nat.min_eq_left (by omega)]
      exact h2
    · have := hv k hk'
      have := blk_lt h.two
      omega
    · rcases List.mem_append.1 hx with hx | hx
      · exact h.wi x (List.mem_of_mem_take hx)
      · exact h.wi x (List.mem_of_mem_drop hx)
  by_cases hcm : cap = m + 1
  · rw [if_pos hcm]
    refine key _ (fun j u hj => ?_)
    have : ways.drop (m + 1) = [] := List.drop_eq_nil_of_le (by omega)
    rw [this] at hj
    simp [tc] at hj
  · rw [if_neg hcm]
    refine key _ (fun j u hj => ?_)
    have e : ((⟨g, 0, none⟩ : Addr).add ((m + 1) * 3)).add j = (⟨g, 0, none⟩ : Addr).add ((m + 1) * 3 + j) := by rw [addr0, addr0]; unfold Addr.add; split <;> simp_all
    rw [e]
    refine hc _ _ ?_
    rw [← tc_drop, List.getElem?_drop] at hj
    exact hj
end
theorem list_own {ops : Array Oper} {rest : List Oper} {o : Oper} {a : Act} {W : World} {Q : Exit → Act → World → Prop} (hgd : o.guard = none) (s x : Operand) (t : TypeId)
    (ho : o.op = .call { callee := .builtin .append, args := #[s, x], argTypes := #[t, t] }) (v : Value) (A : Option Addr) (m c : Nat) (hs : a.eval s = v) (hx : a.eval x = .slice A m c) {v' : Value} {w' : World}
    (hr : (Builtin.append_ #[t, t] o.type #[v, .slice A m c]).run Try.prog W = .ok v' w') (h : wpList Try.prog ops Q rest (a.put o.dst v') w') : wpList Try.prog ops Q (o :: rest) a W := by
  refine wpList_plain hgd fun K hK => ?_
  unfold Oper.wp execOp
  simp only [ho, resolve, invoke, builtin, Sem.run_bind, Sem.run_pure, Result.andThen_ok, List.map_toArray, List.map_cons, List.map_nil, hs, hx, hr]
  exact hK _ _ h
theorem hear_sv (x0 x1 x2 x3 x4 x5 x6 : Int) (A : Option Addr) (n c : Nat) (own theirs best : Int) (rep : Bool) (w : World) (hv : vers_Best.f own theirs = some best) (sv : Int) (hs : sv = if best = 0 then 3 else 2) :
    Calls Try.prog 15 #[(.agg #[.int .u16 x0, .int .i64 x1, .int .u16 x2, .int .i64 x3, .int .i64 x4, .int .u32 x5, .int .u32 x6, .slice A n c]), .int .u16 own, .int .u16 theirs, .bool rep] w fun e w' => e = .returned (.tuple #[.agg #[.int .u16 x0, .int .i64 sv, .int .u16 theirs, .int .i64 best, .int .i64 0, .int .u32 x5, .int .u32 x6, .slice A n c], .bool (!rep)]) ∧ Below w.heap.size w w' := by
  subst hs
  exact hear_any x0 x1 x2 x3 x4 x5 x6 A n c own theirs best rep w hv
theorem TI_hear {best x0 x2 x4 x5 x6 : Int} : TI best ⟨x0, if best = 0 then 3 else 2, x2, best, x4, x5, x6⟩ := by
  by_cases h : best = 0
  · simp [TI, h]
  · simp [TI, h]
theorem TI_sv {best sv x0 x2 x4 x5 x6 : Int} (hs : sv = if best = 0 then 3 else 2) : TI best ⟨x0, sv, x2, best, x4, x5, x6⟩ := by
  subst hs
  exact TI_hear
theorem far8 {W : World} {g k : Nat} {a0 a1 a2 a3 a4 a5 a6 a7 : Nat} {x0 x1 x2 x3 x4 x5 x6 x7 : Value} (h : ¬ k = g) : ((((((((W.setCell ⟨g, a0, none⟩ x0).setCell ⟨g, a1, none⟩ x1).setCell ⟨g, a2, none⟩ x2).setCell ⟨g, a3, none⟩ x3).setCell ⟨g, a4, none⟩ x4).setCell ⟨g, a5, none⟩ x5).setCell ⟨g, a6, none⟩ x6).setCell ⟨g, a7, none⟩ x7).heap[k]? = W.heap[k]? := by
  repeat rw [Below.heap_setCell _ _ _ _ h]
theorem own_shape {w : World} {base e size n : Nat} {v : Value} {xs : List Value} (h : w.ownsRow base e size v n xs) : ∃ A c, v = .slice A n c := by
  rcases h.2 with ⟨rfl, hn⟩ | ⟨g, cap, cur, rfl, _⟩
  · exact ⟨none, 0, by rw [hn]⟩
  · exact ⟨_, _, rfl⟩
theorem own_head {w : World} {base e size n c : Nat} {A : Option Addr} {xs : List Value} (h : w.ownsRow base e size (.slice A n c) n xs) (hn : 0 < n) : ∃ g, A = some ⟨g, 0, none⟩ := by
  rcases h.2 with ⟨hv, hn'⟩ | ⟨g, cap, cur, hv, _⟩
  · omega
  · injection hv with h1 h2 h3
    exact ⟨g, h1⟩
theorem own_told {w : World} {base e n c g : Nat} {ways : List Tl} (h : w.ownsRow base e 3 (.slice (some ⟨g, 0, none⟩) n c) n (tc ways)) {m : Nat} (hm : m < ways.length) :
    w.cell? ⟨g, m * 3, none⟩ = some (.bool ways[m].sec) ∧ w.cell? ⟨g, m * 3 + 1, none⟩ = some (.bool ways[m].rep) ∧ w.cell? ⟨g, m * 3 + 2, none⟩ = some (.int .u16 ways[m].set) := by
  have hc : ∀ j u, (tc ways)[j]? = some u → w.cell? ((⟨g, 0, none⟩ : Addr).add j) = some u := h.cells (g := g) rfl
  have e : ∀ j, (⟨g, 0, none⟩ : Addr).add j = ⟨g, j, none⟩ := fun j => by unfold Addr.add; split <;> simp_all
  obtain ⟨a, b, d⟩ := tc_at ways m hm
  exact ⟨by rw [← e]; exact hc _ _ a, by rw [← e]; exact hc _ _ b, by rw [← e]; exact hc _ _ d⟩
theorem TI_one {best x0 x2 x3 x4 x5 x6 : Int} : TI best ⟨x0, 1, x2, x3, x4, x5, x6⟩ := ⟨fun h => absurd (show (1 : Int) = 2 from h) (by decide), fun h => absurd (show (1 : Int) = 3 from h) (by decide)⟩
theorem tick_all (x0 x1 x2 x3 x4 x5 x6 : Int) : ∃ (y4 : Int) (bb : Bool), ∀ w2 : World, Calls Try.prog 17 #[.agg #[.int .u16 x0, .int .i64 x1, .int .u16 x2, .int .i64 x3, .int .i64 x4, .int .u32 x5, .int .u32 x6, .slice none 0 0]] w2 fun e w' => e = .returned (.tuple #[.agg #[.int .u16 x0, .int .i64 x1, .int .u16 x2, .int .i64 x3, .int .i64 y4, .int .u32 x5, .int .u32 x6, .slice none 0 0], .bool bb]) ∧ Below w2.heap.size w2 w' := ⟨_, _, fun w2 => tick_any x0 x1 x2 x3 x4 x5 x6 none 0 0 w2⟩
def annuletlaw25_NegoAgrees.f (k : Nat) (a0 : Int) (a1 : Int) (l2 : List S46) : Option (Bool) := (annuletlaw25_awake.f k).bind fun aw => (if aw = true then (if (l2.length : Int) > 100 then (some true) else ((annuletref24_Best.f k a0 a1).bind fun best => (if vers_Best.f a0 a1 = some best ∧ vers_Best.f a1 a0 = some best then (some true) else (none)))) else (none))
set_option maxHeartbeats 60000000 in
set_option maxRecDepth 100000 in
def agreesX : (G0 : Prop) ×' (G1 : Prop) ×' (G2 : Prop) ×' (G3 : Prop) ×' (G4 : Prop) ×' (G5 : Prop) ×' (G6 : Prop) ×' (G7 : Prop) ×' (G8 : Prop) ×' (G9 : Prop) ×' (G10 : Prop) ×' (G11 : Prop) ×' (Aside0 G0 → Aside0 G1 → Aside0 G2 → Aside0 G3 → Aside0 G4 → Aside0 G5 → Aside0 G6 → Aside0 G7 → Aside0 G8 → Aside0 G9 → Aside0 G10 → Aside0 G11 → ∀ (k : Nat) (a0 : Int) (a1 : Int) (A2 : Option Addr) (c2 : Nat) (l2 : List S46) (r : Bool) (w : World) (hr2 : Kd.C k46 w A2 l2.length l2) (hc2 : l2.length ≤ c2) (h : annuletlaw25_NegoAgrees.f k a0 a1 l2 = some r), Calls Try.prog 5 #[.int .u16 a0, .int .u16 a1, .slice A2 l2.length c2] w fun e w' => e = .returned (.bool r) ∧ Below w.heap.size w w') := by
  apply PSigma.mk
  apply PSigma.mk
  apply PSigma.mk
  apply PSigma.mk
  apply PSigma.mk
  apply PSigma.mk
  apply PSigma.mk
  apply PSigma.mk
  apply PSigma.mk
  apply PSigma.mk
  apply PSigma.mk
  apply PSigma.mk
  · intro HG0 HG1 HG2 HG3 HG4 HG5 HG6 HG7 HG8 HG9 HG10 HG11 k a0 a1 A2 c2 l2 r w hr2 hc2 h
    have HR2 := Aside0.mk hr2
    clear hr2 hc2
    have hu33 := Try.underlying33
    unfold annuletlaw25_NegoAgrees.f at h
    obtain ⟨aw, hA, h⟩ := Option.bind_eq_some_iff.mp h
    by_cases haw : aw = true
    case neg => rw [if_neg haw] at h; exact absurd h (by simp)
    rw [if_pos haw] at h
    subst haw
    have HA := Aside0.mk hA
    clear hA
    by_cases c : (l2.length : Int) > 100
    · rw [if_pos c] at h
      obtain rfl := Option.some.inj h
      have d1 : decide (100 < (l2.length : Int)) = true := decide_eq_true c
      have d2 : decide (100 < l2.length) = true := decide_eq_true (by omega)
      clear c h
      go_enter Try.func5, Try.ntmps5
      go_wp2_with (go_at_call 7; (with_reducible refine (annuletlaw25_awake.calls k true _ HA.out).mono ?_); rintro e w1 ⟨rfl, hb⟩)
      go_ret
      exact ⟨rfl, hb⟩
    rw [if_neg c] at h
    obtain ⟨best, hB, h⟩ := Option.bind_eq_some_iff.mp h
    by_cases hv : vers_Best.f a0 a1 = some best ∧ vers_Best.f a1 a0 = some best
    case neg => rw [if_neg hv] at h; exact absurd h (by simp)
    rw [if_pos hv] at h
    obtain rfl := Option.some.inj h
    have HBS := Aside0.mk hB
    have HV0 := Aside0.mk hv.1
    have HV1 := Aside0.mk hv.2
    have d1 : decide (100 < (l2.length : Int)) = false := decide_eq_false c
    have d2 : decide (100 < l2.length) = false := decide_eq_false (by omega)
    have LM := Aside0.mk (show l2.length ≤ 100 by omega)
    clear c h hB hv
    go_enter Try.func5, Try.ntmps5
    go_wp2_with (go_at_call 20; (with_reducible refine (annuletref24_Best.calls k a0 a1 best _ HBS.out).mono ?_); rintro e w1 ⟨rfl, ⟨nd, rfl⟩⟩)
    have N0 : Aside0 (NS w (((w.alloc (.cells (row16 ⟨0, 0, 0, 0, 0, 0, 0⟩ ⟨0, 0, 0, 0, 0, 0, 0⟩) 41)).alloc (.cells #[.int .u16 a0, .int .u16 a1] 42)).drewN nd) a0 a1 best (.slice none 0 0) [] ⟨0, 0, 0, 0, 0, 0, 0⟩ ⟨0, 0, 0, 0, 0, 0, 0⟩) := by
      refine ⟨NS.drewN ⟨⟨rfl, .inl ⟨rfl, rfl⟩⟩, blk_alloc (blk_new w _) _, ?_, below_alloc (below_alloc (Below.refl _ _) _) _, fun x hx => (by cases hx), ⟨fun h => (absurd h (by decide)), fun h => (absurd h (by decide))⟩, ⟨fun h => (absurd h (by decide)), fun h => (absurd h (by decide))⟩⟩ nd⟩
      have := blk_new (w.alloc (.cells (row16 ⟨0, 0, 0, 0, 0, 0, 0⟩ ⟨0, 0, 0, 0, 0, 0, 0⟩) 41)) (.cells #[.int .u16 a0, .int .u16 a1] 42)
      simpa using this
    go_loopw [9, 11] (fun v9 v11 wr => ∃ (i : Nat) (ways : List Tl) (P Q : Tk), v11 = .int .i64 (i : Int) ∧ Aside0 (i ≤ l2.length) ∧ Aside0 (ways.length ≤ i) ∧ Aside0 (NS w wr a0 a1 best v9 ways P Q)) (fun _ v11 _ => l2.length - (intOf v11).toNat)
    case atStart => exact ⟨0, [], ⟨0, 0, 0, 0, 0, 0, 0⟩, ⟨0, 0, 0, 0, 0, 0, 0⟩, rfl, ⟨Nat.zero_le _⟩, ⟨Nat.le_refl _⟩, N0⟩
    case round =>
      obtain ⟨i, ways, P, Q, rfl, hi, hwl, HN⟩ := hrel
      by_cases hlt : i < l2.length
      · have hl1 : (i : Int) < (l2.length : Int) := by omega
        have hl0 : (0 : Int) ≤ (i : Int) := by omega
        obtain ⟨ad, ea, hx0, hx1⟩ := at_T46 (Kd.C_below HR2.out HN.out.bel) (i : Int) hl0 hl1
        cases ea
        simp only [Int.toNat_natCast] at hx0 hx1
        have HLT := Aside0.mk hlt
        have hi30 : (i : Int) ≤ 100 := by have := LM.out; omega
        obtain ⟨K, hK⟩ : ∃ K : Int, (rd_T46 l2 (i : Int)).f0 = K := ⟨_, rfl⟩
        obtain ⟨At, hAt⟩ : ∃ K : Int, (rd_T46 l2 (i : Int)).f1 = K := ⟨_, rfl⟩
        rw [hK] at hx0
        rw [hAt] at hx1
        have HI := Aside0.mk hi
        clear hK hAt hlt hi
        go_wp2
        go_quiet (fail)
        rename_i nq
        have HNq := Aside0.mk (HN.out.drewN nq)
        have hx0q : (wr.drewN nq).cell? _ = some _ := hx0
        have hx1q : (wr.drewN nq).cell? _ = some _ := hx1
        clear HN hx0 hx1
        generalize wr.drewN nq = wq at HNq hx0q hx1q ⊢
        have HN := HNq
        clear HNq
        go_upto_block 2 with (fail)
        go_cut [9, 13] (fun v9 v13 wc => ∃ (ways' : List Tl) (P' Q' : Tk) (send : Bool), v13 = .bool send ∧ Aside0 (send = true → K = 0 ∨ K = 1 ∨ K = 2 ∨ K = 3) ∧ Aside0 (ways'.length ≤ i + (if send = true then 0 else 1)) ∧ Aside0 (NS w wc a0 a1 best v9 ways' P' Q'))
        case first =>
          by_cases c0 : K = 0
          · clear HG1 HG2 HG3 HG4 HG5 HG6 HG7 HG8 HG9 HG10 HG11; repeat revert ‹_›
            exact Aside0.out
          have d0 : (K == 0) = false := beq_eq_false_iff_ne.mpr c0
          by_cases c1 : K = 1
          · clear HG0 HG2 HG3 HG4 HG5 HG6 HG7 HG8 HG9 HG10 HG11; repeat revert ‹_›
            exact Aside0.out
          have d1 : (K == 1) = false := beq_eq_false_iff_ne.mpr c1
          by_cases c2 : K = 2
          · clear HG0 HG1 HG3 HG4 HG5 HG6 HG7 HG8 HG9 HG10 HG11; repeat revert ‹_›
            exact Aside0.out
          have d2 : (K == 2) = false := beq_eq_false_iff_ne.mpr c2
          by_cases c3 : K = 3
          · clear HG0 HG1 HG2 HG4 HG5 HG6 HG7 HG8 HG9 HG10 HG11; repeat revert ‹_›
            exact Aside0.out
          have d3 : (K == 3) = false := beq_eq_false_iff_ne.mpr c3
          obtain ⟨A9, cap9, rfl⟩ := own_shape HN.out.own
          have HNK := HN
          by_cases ca : At < 0
          · have e1 : decide (At < 0) = true := decide_eq_true ca
            clear ca
            go_wp2
            go_meet
            case rel => exact ⟨ways, P, Q, false, rfl, ⟨fun h => by cases h⟩, ⟨by have := hwl.out; simp; omega⟩, ⟨by first | exact HN.out | exact HN.out.drew | exact HN.out.drewN _⟩⟩
          have e1 : decide (At < 0) = false := decide_eq_false ca
          obtain ⟨m, rfl⟩ := Int.eq_ofNat_of_zero_le (show 0 ≤ At by omega)
          by_cases cb : ways.length ≤ m
          · have e2 : decide ((ways.length : Int) ≤ (m : Int)) = true := decide_eq_true (by omega)
            have e3 : decide (ways.length ≤ m) = true := decide_eq_true cb
            clear ca cb
            go_wp2
            go_meet
            case rel => exact ⟨ways, P, Q, false, rfl, ⟨fun h => by cases h⟩, ⟨by have := hwl.out; simp; omega⟩, ⟨by first | exact HN.out | exact HN.out.drew | exact HN.out.drewN _⟩⟩
          have e2 : decide ((ways.length : Int) ≤ (m : Int)) = false := decide_eq_false (by omega)
          have e3 : decide (ways.length ≤ m) = false := decide_eq_false cb
          have hm : m < ways.length := by omega
          obtain ⟨g9, hg9⟩ : ∃ g9, A9 = some ⟨g9, 0, none⟩ := own_head HN.out.own (by omega)
          subst hg9
          have HM := Aside0.mk hm
          by_cases c4 : K = 4
          · subst c4
            have hm0 : (0 : Int) ≤ (m : Int) := by omega
            have hm1 : (m : Int) < (ways.length : Int) := by omega
            obtain ⟨t0, t1, t2⟩ := own_told HN.out.own hm
            obtain ⟨x, hx⟩ : ∃ x : Tl, ways[m] = x := ⟨_, rfl⟩
            rw [hx] at t0 t1 t2
            have HW := Aside0.mk (show x.set = if x.sec = true then a0 else a1 by rw [← hx]; exact HN.out.wi _ (List.getElem_mem hm))
            obtain ⟨xs, xr, xt⟩ := x
            dsimp only at t0 t1 t2
            have hTwo := HN.out.two
            have hSet := HN.out.sets
            have HSZ := Aside0.mk (show w.heap.size < wq.heap.size from blk_lt hTwo)
            have sz0 : wq.cell? ⟨w.heap.size + 1, 0, none⟩ = some (.int .u16 a0) := (blk_cell hSet 0).trans rfl
            have sz1 : wq.cell? ⟨w.heap.size + 1, 1, none⟩ = some (.int .u16 a1) := (blk_cell hSet 1).trans rfl
            clear ca cb hm hx hSet
            cases xs with
            | true =>
              clear HG0 HG1 HG2 HG3 HG5 HG6 HG7 HG8 HG9 HG10 HG11; repeat revert ‹_›
              exact Aside0.out
            | false =>
              clear HG0 HG1 HG2 HG3 HG4 HG6 HG7 HG8 HG9 HG10 HG11; repeat revert ‹_›
              exact Aside0.out
          · clear HG0 HG1 HG2 HG3 HG4 HG5 HG7 HG8 HG9 HG10 HG11; repeat revert ‹_›
            exact Aside0.out
        case rest =>
          obtain ⟨ways1, P1, Q1, send, rfl, hsend, hwl1, HN1⟩ := hcut
          clear hwl
          cases send with
          | false =>
            clear HG0 HG1 HG2 HG3 HG4 HG5 HG6 HG8 HG9 HG10 HG11; repeat revert ‹_›
            exact Aside0.out
          | true =>
            have hwl2 := Aside0.mk (show ways1.length ≤ i by have := hwl1.out; simpa using this)
            have hK := hsend.out rfl
            clear hwl1 hsend
            rcases hK with rfl | rfl | rfl | rfl
            · clear HG0 HG1 HG2 HG3 HG4 HG5 HG6 HG7 HG9 HG10 HG11; repeat revert ‹_›
              exact Aside0.out
            · clear HG0 HG1 HG2 HG3 HG4 HG5 HG6 HG7 HG8 HG10 HG11; repeat revert ‹_›
              exact Aside0.out
            · clear HG0 HG1 HG2 HG3 HG4 HG5 HG6 HG7 HG8 HG9 HG11; repeat revert ‹_›
              exact Aside0.out
            · clear HG0 HG1 HG2 HG3 HG4 HG5 HG6 HG7 HG8 HG9 HG10; repeat revert ‹_›
              exact Aside0.out
      · obtain rfl : i = l2.length := by have := hi.out; omega
        have BW := Aside0.mk HN.out.bel
        clear HG0 HG1 HG2 HG3 HG4 HG5 HG6 HG7 HG8 HG9 HG10 HG11
        clear hlt hi
        go_wp2_with (go_at_call 7; (with_reducible refine (annuletlaw25_awake.calls k true _ HA.out).mono ?_); rintro e w7 ⟨rfl, hb⟩)
        go_ret
        exact ⟨rfl, below_step BW.out hb⟩
end Go.Proofs.Ytpopljbpbobgfaa.PNegoAgrees
