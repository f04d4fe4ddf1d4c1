/- Written by a program of this session (a turned copy of the kit's print): functions of the program, each with the Lean function that it comes to, and the row of one law. No condition. -/
import Derived.Test.YtmohmmpcadlfkaaDoorPTaggedBackx0
import Derived.Test.YtmohmmpcadlfkaaDoorPTaggedBackx4
import Derived.Test.YtmohmmpcadlfkaaDoorPTaggedBackx5
namespace Go.Proofs.YtmohmmpcadlfkaaDoor.PTaggedBack
open Go.RowKit Go.Proofs.YtmohmmpcadlfkaaDoorW.PrintWords Go.Proofs.YtmohmmpcadlfkaaDoorW.PrintLast Go.Proofs.YtmohmmpcadlfkaaDoorW.PrintMore
attribute [local go_sem] max2_int min2_int max_two min_two max_three min_three max_four min_four   -- for this text's walks alone
set_option linter.unusedVariables false
set_option linter.unusedSimpArgs false


/-! ### tagged_writer_lists: function 18 -/
def wpeers (k : Nat) : List Int → List S26 → Option (List Int)
  | l, [] => some l
  | l, p :: ps => (wnum k l [p.f0, IntKind.u64.wrap p.f1]).bind fun l1 => wpeers k l1 ps
def wpairs (k : Nat) : List Int → List S43 → Option (List Int)
  | l, [] => some l
  | l, q :: qs => (buf_Text.f k l q.f0).bind fun l1 => (buf_Text.f k l1 q.f1).bind fun l2 => wpairs k l2 qs
def wlists (k : Nat) (l : List Int) (ps : List S26) (qs : List S43) : Option (List Int) :=
  ((if 0 < ps.length then wnum k l [8, (ps.length : Int)] else some l : Option (List Int))).bind fun l1 => (wpeers k l1 ps).bind fun l2 => ((if 0 < qs.length then wnum k l2 [9, (qs.length : Int)] else some l2 : Option (List Int))).bind fun l3 => wpairs k l3 qs
structure LsS (wA W wr : World) (P : Nat → Prop) (row : Array Value) (l : List Int) : Prop where
  ws : WrS wA wr (fun k => (P k ∧ k < W.heap.size) ∨ W.heap.size < k) l
  bx : wr.heap[W.heap.size]? = some (.cells row 30 (0, 0))
  kp : Kept W wr (fun k => k = wA.heap.size ∨ P k)
  lt : wA.heap.size < W.heap.size
theorem LsS.step {wA W wr w' : World} {P : Nat → Prop} {row : Array Value} {l r : List Int} {e : Ending} (h : LsS wA W wr P row l) (hp : WPost wA wr (fun k => (P k ∧ k < W.heap.size) ∨ W.heap.size < k) r e w') : LsS wA W w' P row r := by
  have h1 := blk_lt h.bx
  have h2 := h.lt
  refine ⟨hp.2.1.mono (fun k _ hk => ?_), blk_kept h.bx hp.2.2 (fun hk => ?_), h.kp.then_ hp.2.2 (fun k hk => ?_), h2⟩
  · rcases hk with hk | hk
    · exact hk
    · exact .inr (by omega)
  · rcases hk with hk | ⟨_, hk⟩ | hk <;> omega
  · rcases hk with hk | ⟨hk, _⟩ | hk
    · exact .inl (.inl hk)
    · exact .inl (.inr hk)
    · exact .inr (by omega)
theorem LsS.later {wA W wr w' : World} {P : Nat → Prop} {row : Array Value} {l : List Int} (h : LsS wA W wr P row l) (hb : Below wr.heap.size wr w') : LsS wA W w' P row l :=
  ⟨h.ws.later hb, blk_below h.bx hb, h.kp.below hb, h.lt⟩
theorem LsS.post {wA W wr : World} {P : Nat → Prop} {row : Array Value} {l : List Int} (h : LsS wA W wr P row l) : WPost wA W P l (.returned (.tuple #[])) wr :=
  ⟨rfl, h.ws.mono (fun k _ hk => hk.elim (fun hk => .inl hk.1) (fun hk => .inr (by omega))), h.kp⟩
theorem LsS.new {wA W : World} {P : Nat → Prop} (row : Array Value) {l : List Int} (hW : WrS wA W P l) : LsS wA W (W.alloc (.cells row 30)) P row l :=
  ⟨(hW.mono (fun k hk hp => .inl ⟨hp, hk⟩)).later (below_alloc (Below.refl _ _) _), blk_new W _, Kept.of_below (below_alloc (Below.refl _ _) _) _, hW.lt⟩
/-- beside the writer: a block that is made, and one of its making -/
theorem LsS.num2 {wA W wr : World} {P : Nat → Prop} {row : Array Value} {l r : List Int} (k : Nat) (x y : Int) (h : LsS wA W wr P row l) (hr : wnum k l [x, y] = some r) :
    Calls Tryd.prog 14 #[.pointer (some ⟨wA.heap.size, 0, none⟩), .slice (some ⟨wr.heap.size, 0, none⟩) 2 2] (wr.alloc (.cells #[.int .u64 x, .int .u64 y] 23)) fun e w' => e = .returned (.tuple #[]) ∧ LsS wA W w' P row r :=
  (wnum2.calls k wA wr _ x y l r h.ws hr).mono fun e w' hp => ⟨hp.1, h.step hp⟩
theorem LsS.put {wA W wx w3 : World} {P P1 : Nat → Prop} {row : Array Value} {l l1 : List Int} {v1 : Value} (h : LsS wA W wx P row l) (hR : Kd.R (Kd.int .u8) 5 w3 wA.heap.size P1 v1 l1)
    (hP : ∀ k, P1 k → (k ≠ wA.heap.size ∧ ((P k ∧ k < W.heap.size) ∨ W.heap.size < k)) ∨ wx.heap.size ≤ k) (hb : Below wA.heap.size wA w3) (hk : Kept wx w3 (fun k => k ≠ wA.heap.size ∧ ((P k ∧ k < W.heap.size) ∨ W.heap.size < k))) : LsS wA W (w3.setCell ⟨wA.heap.size, 0, none⟩ v1) P row l1 := by
  have h1 := blk_lt h.bx
  have h2 := h.lt
  refine ⟨(h.ws.put hR (fun k hk => ?_) hb hk).mono (fun k _ hk => ?_), blk_far (blk_kept h.bx hk ?_) (p := ⟨wA.heap.size, 0, none⟩) (show W.heap.size ≠ wA.heap.size by omega) _, (h.kp.then_ hk (fun k hk => ?_)).setCell (p := ⟨wA.heap.size, 0, none⟩) (.inl (.inl rfl)) _, h2⟩
  · rcases hP k hk with ⟨hk, _⟩ | hk
    · exact hk
    · omega
  · rcases hP k hk with ⟨_, hk⟩ | hk
    · exact hk
    · exact .inr (by omega)
  · rintro ⟨_, ⟨_, hk⟩ | hk⟩ <;> omega
  · rcases hk with ⟨_, ⟨hk, _⟩ | hk⟩
    · exact .inl (.inr hk)
    · exact .inr (by omega)
set_option maxHeartbeats 4000000 in
set_option maxRecDepth 100000 in
theorem wlists.calls (k : Nat) (wA W : World) (P : Nat → Prop) (a0_0 : Int) (a0_1 : Int) (a0_2 : Int) (a0_3 : Bool) (a0_4 : Int) (a0_5 : ByteArray) (a0_6 : ByteArray) (a0_7 : Int) (a0_8 : Int) (A0_9 : Option Addr) (c0_9 : Nat) (l0_9 : List (S26)) (A0_10 : Option Addr) (c0_10 : Nat) (l0_10 : List (S43)) (l r : List Int) (hC9 : Kd.C k26 wA A0_9 l0_9.length l0_9) (hC10 : Kd.C k43 wA A0_10 l0_10.length l0_10) (hW : WrS wA W P l) (h : wlists k l l0_9 l0_10 = some r) :
    Calls Tryd.prog 18 #[.pointer (some ⟨wA.heap.size, 0, none⟩), .agg #[.int .i64 a0_0, .int .u32 a0_1, .int .u8 a0_2, .bool a0_3, .int .u64 a0_4, .string a0_5, .string a0_6, .int .u64 a0_7, .int .u16 a0_8, .slice A0_9 l0_9.length c0_9, .slice A0_10 l0_10.length c0_10]] W (WPost wA W P r) := by
  have hu45 := Tryd.underlying45
  have hu26 := Tryd.underlying26
  have hu43 := Tryd.underlying43
  unfold wlists at h
  obtain ⟨l1, h1, h⟩ := Option.bind_eq_some_iff.mp h
  obtain ⟨l2, h2, h⟩ := Option.bind_eq_some_iff.mp h
  obtain ⟨l3, h3, h⟩ := Option.bind_eq_some_iff.mp h
  have H1 := Aside0.mk h1
  have H2 := Aside0.mk h2
  have H3 := Aside0.mk h3
  have H4 := Aside0.mk h
  have HC9 := Aside0.mk hC9
  have HC10 := Aside0.mk hC10
  have b9 : l0_9.length ≤ 9223372036854775807 := Kd.C_max hC9
  have b10 : l0_10.length ≤ 9223372036854775807 := Kd.C_max hC10
  have HS := Aside0.mk (LsS.new (P := P) #[.int .i64 a0_0, .int .u32 a0_1, .int .u8 a0_2, .bool a0_3, .int .u64 a0_4, .string a0_5, .string a0_6, .int .u64 a0_7, .int .u16 a0_8, .slice A0_9 l0_9.length c0_9, .slice A0_10 l0_10.length c0_10] hW)
  clear h1 h2 h3 h hC9 hC10 hW
  go_enter Tryd.func18, Tryd.ntmps18
  go_upto_region 1 with (fail)
  generalize W.alloc (.cells #[.int .i64 a0_0, .int .u32 a0_1, .int .u8 a0_2, .bool a0_3, .int .u64 a0_4, .string a0_5, .string a0_6, .int .u64 a0_7, .int .u16 a0_8, .slice A0_9 l0_9.length c0_9, .slice A0_10 l0_10.length c0_10] 30) = wB at HS ⊢
  obtain ⟨hm0, hm1, hm2, hm3, hm4, hm5, hm6, hm7, hm8, hm9, hm10, fm0, fm1, fm2, fm3, fm4, fm5, fm6, fm7, fm8, fm9, fm10⟩ := cells11 HS.out.bx
  obtain ⟨bq8, hbq⟩ : ∃ q, decide (0 < l0_9.length) = q := ⟨_, rfl⟩
  have hbz : decide (0 < (l0_9.length : Int)) = bq8 := by rw [← hbq]; apply decide_eq_decide.2; omega
  have HBQ := Aside0.mk hbq
  go_upto_if 11 with (fail)
  clear hbq hbz
  go_cut [] (fun wc => Aside0 (LsS wA W wc P #[.int .i64 a0_0, .int .u32 a0_1, .int .u8 a0_2, .bool a0_3, .int .u64 a0_4, .string a0_5, .string a0_6, .int .u64 a0_7, .int .u16 a0_8, .slice A0_9 l0_9.length c0_9, .slice A0_10 l0_10.length c0_10] l1))
  case first =>
    have hwr : IntKind.u64.wrap (l0_9.length : Int) = (l0_9.length : Int) := by simp only [IntKind.wrap, IntKind.bits, IntKind.signed]; simp; omega
    cases bq8 with
    | true =>
      have c : 0 < l0_9.length := of_decide_eq_true HBQ.out
      have HC := Aside0.mk (LsS.num2 (r := l1) k 8 (l0_9.length : Int) HS.out (by have := H1.out; rwa [if_pos c] at this))
      clear c
      go_wp2_with (go_at_call 14; (with_reducible refine HC.out.mono ?_); rintro e w2 ⟨rfl, hs⟩; have HS2 := Aside0.mk hs; clear hs)
      go_meet
      exact HS2
    | false =>
      have c : ¬ 0 < l0_9.length := of_decide_eq_false HBQ.out
      obtain rfl : l = l1 := by have := H1.out; rw [if_neg c] at this; exact Option.some.inj this
      clear c
      go_wp2
      go_meet
      exact HS
  case rest =>
  have HSc := hcut
  clear hcut HS
  clear hm0 hm1 hm2 hm3 hm4 hm5 hm6 hm7 hm8 hm9 hm10 fm0 fm1 fm2 fm3 fm4 fm5 fm6 fm7 fm8 fm9 fm10
  obtain ⟨hm0, hm1, hm2, hm3, hm4, hm5, hm6, hm7, hm8, hm9, hm10, fm0, fm1, fm2, fm3, fm4, fm5, fm6, fm7, fm8, fm9, fm10⟩ := cells11 HSc.out.bx
  go_wp2
  go_loopg [22] l0_9.length (fun gg v22 wr => ∃ (i : Nat) (lc : List Int), v22 = .int .i64 (i : Int) ∧ i ≤ l0_9.length ∧ l0_9.length - i ≤ gg ∧ Aside0 (wpeers k lc (l0_9.drop i) = some l2) ∧ Aside0 (LsS wA W wr P #[.int .i64 a0_0, .int .u32 a0_1, .int .u8 a0_2, .bool a0_3, .int .u64 a0_4, .string a0_5, .string a0_6, .int .u64 a0_7, .int .u16 a0_8, .slice A0_9 l0_9.length c0_9, .slice A0_10 l0_10.length c0_10] lc))
  case atStart => exact ⟨0, l1, rfl, Nat.zero_le _, by omega, H2, HSc⟩
  case round =>
    clear hm0 hm1 hm2 hm3 hm4 hm5 hm6 hm7 hm8 hm9 hm10 fm0 fm1 fm2 fm3 fm4 fm5 fm6 fm7 fm8 fm9 fm10
    obtain ⟨i, lc, rfl, hi, hg, HHi, HSi⟩ := hrel
    by_cases hlt : i < l0_9.length
    · have hltz : (i : Int) < (l0_9.length : Int) := by omega
      have hi0 : (0 : Int) ≤ (i : Int) := by omega
      have hw1 : wrap64 ((i : Int) + 1) = (i : Int) + 1 := by unfold wrap64; omega
      obtain ⟨ad, e1, x0, x1⟩ := at_T26 HC9.out (i : Int) hi0 hltz
      cases e1
      have hh := HHi.out
      rw [List.drop_eq_getElem_cons hlt, wpeers] at hh
      obtain ⟨l4, h4, hh⟩ := Option.bind_eq_some_iff.mp hh
      have hX : rd_T26 l0_9 (i : Int) = l0_9[i] := by simp [rd_T26, List.getD, hlt]
      obtain ⟨X, hXX⟩ : ∃ X, l0_9[i] = X := ⟨_, rfl⟩
      rw [hX, hXX] at x0 x1
      rw [hXX] at h4
      simp only [Int.toNat_natCast] at x0 x1
      have y0 := (HSi.out.ws.bel.cell (World.block_lt_of_cell? _ _ x0)).trans x0
      have y1 := (HSi.out.ws.bel.cell (World.block_lt_of_cell? _ _ x1)).trans x1
      have HH2 := Aside0.mk hh
      have HG := Aside0.mk hg
      have HSa := Aside0.mk (HSi.out.later (below_alloc (Below.refl _ _) (.cells #[.int .u64 X.f0, .int .u16 X.f1] 26)))
      have HC := Aside0.mk (show Calls Tryd.prog 17 #[.pointer (some ⟨wA.heap.size, 0, none⟩), .agg #[.int .u64 X.f0, .int .u16 X.f1]] (wr.alloc (.cells #[.int .u64 X.f0, .int .u16 X.f1] 26)) (WPost wA _ _ l4) from wpeer.calls k wA _ _ X.f0 X.f1 lc l4 HSa.out.ws h4)
      clear hg h4 x0 x1 hX hXX
      go_wp2_with (go_at_call 17; (with_reducible refine HC.out.mono ?_); rintro e w2 hp; have HS2 := Aside0.mk (HSa.out.step hp); obtain ⟨rfl, _, _⟩ := hp)
      go_roundg (l0_9.length - (i + 1))
      case measure => have := HG.out; omega
      case rel => exact ⟨i + 1, l4, by go_num, by omega, by omega, HH2, HS2⟩
    · obtain rfl : i = l0_9.length := by omega
      have hltz : ¬ ((l0_9.length : Nat) : Int) < (l0_9.length : Int) := by omega
      obtain rfl : lc = l2 := by have := HHi.out; rw [List.drop_length, wpeers] at this; exact Option.some.inj this
      clear hlt hg hi
      obtain ⟨hm0, hm1, hm2, hm3, hm4, hm5, hm6, hm7, hm8, hm9, hm10, fm0, fm1, fm2, fm3, fm4, fm5, fm6, fm7, fm8, fm9, fm10⟩ := cells11 HSi.out.bx
      obtain ⟨bq9, hbq⟩ : ∃ q, decide (0 < l0_10.length) = q := ⟨_, rfl⟩
      have hbz : decide (0 < (l0_10.length : Int)) = bq9 := by rw [← hbq]; apply decide_eq_decide.2; omega
      have HBQ := Aside0.mk hbq
      go_upto_if 33 with (fail)
      clear hbq hbz
      go_cut [] (fun wc => Aside0 (LsS wA W wc P #[.int .i64 a0_0, .int .u32 a0_1, .int .u8 a0_2, .bool a0_3, .int .u64 a0_4, .string a0_5, .string a0_6, .int .u64 a0_7, .int .u16 a0_8, .slice A0_9 l0_9.length c0_9, .slice A0_10 l0_10.length c0_10] l3))
      case first =>
        have hwr : IntKind.u64.wrap (l0_10.length : Int) = (l0_10.length : Int) := by simp only [IntKind.wrap, IntKind.bits, IntKind.signed]; simp; omega
        cases bq9 with
        | true =>
          have c : 0 < l0_10.length := of_decide_eq_true HBQ.out
          have HC := Aside0.mk (LsS.num2 (r := l3) k 9 (l0_10.length : Int) HSi.out (by have := H3.out; rwa [if_pos c] at this))
          clear c
          go_wp2_with (go_at_call 14; (with_reducible refine HC.out.mono ?_); rintro e w2 ⟨rfl, hs⟩; have HS2 := Aside0.mk hs; clear hs)
          go_meet
          exact HS2
        | false =>
          have c : ¬ 0 < l0_10.length := of_decide_eq_false HBQ.out
          obtain rfl : lc = l3 := by have := H3.out; rw [if_neg c] at this; exact Option.some.inj this
          clear c
          go_wp2
          go_meet
          exact HSi
      case rest =>
        have HSd := hcut
        clear hcut HSi
        clear hm0 hm1 hm2 hm3 hm4 hm5 hm6 hm7 hm8 hm9 hm10 fm0 fm1 fm2 fm3 fm4 fm5 fm6 fm7 fm8 fm9 fm10
        obtain ⟨hm0, hm1, hm2, hm3, hm4, hm5, hm6, hm7, hm8, hm9, hm10, fm0, fm1, fm2, fm3, fm4, fm5, fm6, fm7, fm8, fm9, fm10⟩ := cells11 HSd.out.bx
        go_wp2
        go_loopg [44] l0_10.length (fun gg v44 wr => ∃ (i : Nat) (lc : List Int), v44 = .int .i64 (i : Int) ∧ i ≤ l0_10.length ∧ l0_10.length - i ≤ gg ∧ Aside0 (wpairs k lc (l0_10.drop i) = some r) ∧ Aside0 (LsS wA W wr P #[.int .i64 a0_0, .int .u32 a0_1, .int .u8 a0_2, .bool a0_3, .int .u64 a0_4, .string a0_5, .string a0_6, .int .u64 a0_7, .int .u16 a0_8, .slice A0_9 l0_9.length c0_9, .slice A0_10 l0_10.length c0_10] lc))
        case atStart => exact ⟨0, l3, rfl, Nat.zero_le _, by omega, H4, HSd⟩
        case round =>
          clear hm0 hm1 hm2 hm3 hm4 hm5 hm6 hm7 hm8 hm9 hm10 fm0 fm1 fm2 fm3 fm4 fm5 fm6 fm7 fm8 fm9 fm10
          obtain ⟨i, lc, rfl, hi, hg, HHi, HSi⟩ := hrel
          by_cases hlt : i < l0_10.length
          · have hltz : (i : Int) < (l0_10.length : Int) := by omega
            have hi0 : (0 : Int) ≤ (i : Int) := by omega
            have hw1 : wrap64 ((i : Int) + 1) = (i : Int) + 1 := by unfold wrap64; omega
            obtain ⟨ad, e1, x0, x1⟩ := at_T43 HC10.out (i : Int) hi0 hltz
            cases e1
            have hh := HHi.out
            rw [List.drop_eq_getElem_cons hlt, wpairs] at hh
            obtain ⟨l4, h4, hh⟩ := Option.bind_eq_some_iff.mp hh
            obtain ⟨l5, h5, hh⟩ := Option.bind_eq_some_iff.mp hh
            have hX : rd_T43 l0_10 (i : Int) = l0_10[i] := by simp [rd_T43, List.getD, hlt]
            obtain ⟨X, hXX⟩ : ∃ X, l0_10[i] = X := ⟨_, rfl⟩
            rw [hX, hXX] at x0 x1
            rw [hXX] at h4 h5
            simp only [Int.toNat_natCast] at x0 x1
            have y0 := (HSi.out.ws.bel.cell (World.block_lt_of_cell? _ _ x0)).trans x0
            have y1 := (HSi.out.ws.bel.cell (World.block_lt_of_cell? _ _ x1)).trans x1
            have HH2 := Aside0.mk hh
            have HG := Aside0.mk hg
            have HT4 := Aside0.mk h4
            have HT5 := Aside0.mk h5
            have HSa := Aside0.mk (HSi.out.later (below_alloc (Below.refl _ _) (.cells #[.string X.f0, .string X.f1] 43)))
            have HX := Aside0.mk (blk_new wr (.cells #[.string X.f0, .string X.f1] 43))
            obtain ⟨v, hg2, hr⟩ := HSi.out.ws.ex
            obtain ⟨A0, c0, rfl⟩ := Kd.R_slice hr
            have HV := Aside0.mk (blk_alloc hg2 (.cells #[.string X.f0, .string X.f1] 43))
            have HR := Aside0.mk (show Kd.R (Kd.int .u8) 5 (wr.alloc (.cells #[.string X.f0, .string X.f1] 43)) wA.heap.size (fun k => (k ≠ wA.heap.size ∧ ((P k ∧ k < W.heap.size) ∨ W.heap.size < k)) ∧ k ≠ wr.heap.size) _ lc from Kd.R_alloc (Kd.R_mono (Kd.R_bound hr) (fun k hk => ⟨hk.1, by have := hk.2.2.1; omega⟩)) _)
            have HSZ := Aside0.mk (And.intro HSi.out.lt (blk_lt HSi.out.bx))
            clear hg h4 h5 x0 x1 hX hXX hg2 hr
            go_upto_region 13 with (fail)
            generalize wr.alloc (.cells #[.string X.f0, .string X.f1] 43) = wx at HSa HX HV HR ⊢
            have hc0 : wx.cell? ⟨wA.heap.size, 0, none⟩ = some _ := (blk_cell HV.out 0).trans rfl
            have hf0 := blk_frozen HV.out 0
            have hk0 : wx.cell? ⟨wr.heap.size, 0, none⟩ = some _ := (blk_cell HX.out 0).trans rfl
            have hk1 : wx.cell? ⟨wr.heap.size, 1, none⟩ = some _ := (blk_cell HX.out 1).trans rfl
            go_region_with (first | (go_at_call 42; (with_reducible refine (buf_Text.calls k (fun k => (k ≠ wA.heap.size ∧ ((P k ∧ k < W.heap.size) ∨ W.heap.size < k)) ∧ k ≠ wr.heap.size) _ lc X.f0 l4 wA _ (by first | exact HSa.out.ws.bel | exact below_drew1 HSa.out.ws.bel | exact pw_below_drewN HSa.out.ws.bel _) (by first | exact HR.out | exact Kd.R_drew HR.out | exact Kd.R_drewN HR.out _) HT4.out).mono ?_); rintro e w2 ⟨v1, rfl, hR, hb, hk0⟩; have hk : Kept wx w2 _ := hk0; obtain ⟨A1, d1, rfl⟩ := Kd.R_slice hR; have HR2 := Aside0.mk hR; have HB2 := Aside0.mk hb; have HK2 := Aside0.mk hk; have HV2 := Aside0.mk (blk_kept HV.out hk (fun h => h.1.1 rfl)); have HX2 := Aside0.mk (blk_kept HX.out hk (fun h => h.2 rfl)); have hm1 : w2.cell? ⟨wr.heap.size, 1, none⟩ = some _ := (blk_cell HX2.out 1).trans rfl; clear hR hb hk hk0) | (go_at_call 42; (with_reducible refine (buf_Text.calls k _ _ l4 X.f1 l5 wA _ (by first | exact HB2.out | exact below_drew1 HB2.out | exact pw_below_drewN HB2.out _) (by first | exact HR2.out | exact Kd.R_drew HR2.out | exact Kd.R_drewN HR2.out _) HT5.out).mono ?_); rintro e w3 ⟨v2, rfl, hR, hb, hk0⟩; have hk : Kept w2 w3 _ := hk0; obtain ⟨A2, d2, rfl⟩ := Kd.R_slice hR; have HR3 := Aside0.mk hR; have HB3 := Aside0.mk hb; have HK3 := Aside0.mk hk; have HV3 := Aside0.mk (blk_kept HV2.out hk (by rintro (⟨⟨h, _⟩, _⟩ | h); (exact h rfl); (have h2 : wx.heap.size ≤ wA.heap.size := h; have h3 := blk_lt HV.out; omega))); have hp0 : w3.cell? ⟨wA.heap.size, 0, none⟩ = some _ := (blk_cell HV3.out 0).trans rfl; have hpf := blk_frozen HV3.out 0; clear hR hb hk hk0))
            all_goals
              go_wp2
              go_roundg (l0_10.length - (i + 1))
              case measure => have := HG.out; omega
              case rel => exact ⟨i + 1, l5, by go_num, by omega, by omega, HH2, ⟨HSa.out.put HR3.out (by have := HK2.out.1; rintro k ((h | h) | h); exact .inl h.1; exact .inr h; exact .inr (by omega)) HB3.out ((HK2.out.mono (fun k hk => hk.1)).then_ HK3.out (by rintro k (h | h); exact .inl h.1; exact .inr h))⟩⟩
          · obtain rfl : i = l0_10.length := by omega
            have hltz : ¬ ((l0_10.length : Nat) : Int) < (l0_10.length : Int) := by omega
            obtain rfl : lc = r := by have := HHi.out; rw [List.drop_length, wpairs] at this; exact Option.some.inj this
            clear hlt hg hi
            go_wp2
            go_end0
            exact HSi.out.post


/-! ### tagged_Enc: function 8 -/
def tagEnc (k : Nat) (a0_0 : Int) (a0_1 : Int) (a0_2 : Int) (a0_3 : Bool) (a0_4 : Int) (a0_5 : ByteArray) (a0_6 : ByteArray) (a0_7 : Int) (a0_8 : Int) (l0_9 : List (S26)) (l0_10 : List (S43)) : Option (List Int) := (wnum k [] [IntKind.u64.wrap a0_0]).bind fun l0 => (wsome k l0 1 (IntKind.u64.wrap a0_1)).bind fun l1 => (wsome k l1 2 (IntKind.u64.wrap a0_2)).bind fun l2 => ((if a0_3 = true then wnum k l2 [3] else some l2 : Option (List Int))).bind fun l3 => (wsome k l3 4 a0_4).bind fun l4 => (wtext k l4 5 a0_5).bind fun l5 => (wtext k l5 6 a0_6).bind fun l6 => ((if a0_7 = 0 ∧ a0_8 = 0 then some l6 else (wnum k l6 [7]).bind fun l7 => wnum k l7 [a0_7, IntKind.u64.wrap a0_8] : Option (List Int))).bind fun l8 => wlists k l8 l0_9 l0_10
def tagged_Enc.f (k : Nat) (a0_0 : Int) (a0_1 : Int) (a0_2 : Int) (a0_3 : Bool) (a0_4 : Int) (a0_5 : ByteArray) (a0_6 : ByteArray) (a0_7 : Int) (a0_8 : Int) (l0_9 : List (S26)) (l0_10 : List (S43)) : Option (List Int × Int) := (msg_Right.f k a0_0 a0_1 a0_2 a0_3 a0_4 a0_5 a0_6 a0_7 a0_8 l0_9 l0_10).bind fun e => if e = 0 then (tagEnc k a0_0 a0_1 a0_2 a0_3 a0_4 a0_5 a0_6 a0_7 a0_8 l0_9 l0_10).bind fun r => some (r, 0) else some ([], e)
set_option maxHeartbeats 4000000 in
set_option maxRecDepth 100000 in
theorem tagged_Enc.calls (k : Nat) (a0_0 : Int) (a0_1 : Int) (a0_2 : Int) (a0_3 : Bool) (a0_4 : Int) (a0_5 : ByteArray) (a0_6 : ByteArray) (a0_7 : Int) (a0_8 : Int) (A0_9 : Option Addr) (c0_9 : Nat) (l0_9 : List (S26)) (A0_10 : Option Addr) (c0_10 : Nat) (l0_10 : List (S43)) (r1 : List Int) (r2 : Int) (w : World) (hr0_9 : Kd.C k26 w A0_9 l0_9.length l0_9) (hc0_9 : l0_9.length ≤ c0_9) (hr0_10 : Kd.C k43 w A0_10 l0_10.length l0_10) (hc0_10 : l0_10.length ≤ c0_10) (ht : Lib.Utf8Tabs 0 1 w) (h : tagged_Enc.f k a0_0 a0_1 a0_2 a0_3 a0_4 a0_5 a0_6 a0_7 a0_8 l0_9 l0_10 = some (r1, r2)) :
    Calls Tryd.prog 8 #[.agg #[.int .i64 a0_0, .int .u32 a0_1, .int .u8 a0_2, .bool a0_3, .int .u64 a0_4, .string a0_5, .string a0_6, .int .u64 a0_7, .int .u16 a0_8, .slice A0_9 l0_9.length c0_9, .slice A0_10 l0_10.length c0_10]] w fun e w' => ∃ v0_ : Value, e = .returned (.tuple #[v0_, .int .i64 r2]) ∧ Kd.R (Kd.int .u8) 5 w' w.heap.size (fun _ => True) v0_ r1 ∧ Below w.heap.size w w' := by
  have hu30 := Tryd.underlying30
  have hu26 := Tryd.underlying26
  have hu45 := Tryd.underlying45
  have HB0 := Aside0.mk (below_alloc (Below.refl w.heap.size w) (.cells #[.int .i64 a0_0, .int .u32 a0_1, .int .u8 a0_2, .bool a0_3, .int .u64 a0_4, .string a0_5, .string a0_6, .int .u64 a0_7, .int .u16 a0_8, .slice A0_9 l0_9.length c0_9, .slice A0_10 l0_10.length c0_10] 30))
  have HN0 := Aside0.mk (blk_new w (.cells #[.int .i64 a0_0, .int .u32 a0_1, .int .u8 a0_2, .bool a0_3, .int .u64 a0_4, .string a0_5, .string a0_6, .int .u64 a0_7, .int .u16 a0_8, .slice A0_9 l0_9.length c0_9, .slice A0_10 l0_10.length c0_10] 30))
  have HR := Aside0.mk (show ∀ W, Below w.heap.size w W → Kd.C k26 W A0_9 l0_9.length l0_9 ∧ Kd.C k43 W A0_10 l0_10.length l0_10 from fun W hW => ⟨Kd.C_below hr0_9 hW, Kd.C_below hr0_10 hW⟩)
  have HC := Aside0.mk (And.intro hc0_9 hc0_10)
  have HTB := Aside0.mk ht
  unfold tagged_Enc.f at h
  obtain ⟨e0, h0, h⟩ := Option.bind_eq_some_iff.mp h
  have HE := Aside0.mk h0
  clear hr0_9 hr0_10 hc0_9 hc0_10 ht h0
  by_cases c : e0 = 0
  case neg =>
    rw [if_neg c] at h
    obtain ⟨h7, h8⟩ : [] = r1 ∧ e0 = r2 := by simpa using h
    subst h7 h8
    have d : (e0 != 0) = true := bne_iff_ne.mpr c
    clear h c
    go_enter Tryd.func8, Tryd.ntmps8
    go_wp2_with (go_at_call 13; (with_reducible refine (msg_Right.calls k a0_0 a0_1 a0_2 a0_3 a0_4 a0_5 a0_6 a0_7 a0_8 A0_9 c0_9 l0_9 A0_10 c0_10 l0_10 e0 _ (HR.out _ HB0.out).1 HC.out.1 (HR.out _ HB0.out).2 HC.out.2 (tabs_later HTB.out HB0.out) HE.out).mono ?_); rintro e w1 ⟨rfl, hb⟩; have HB1 := Aside0.mk (below_step HB0.out hb); have HN1 := Aside0.mk (blk_below HN0.out hb); obtain ⟨hm0, hm1, hm2, hm3, hm4, hm5, hm6, hm7, hm8, hm9, hm10, fm0, fm1, fm2, fm3, fm4, fm5, fm6, fm7, fm8, fm9, fm10⟩ := cells11 HN1.out; clear hb)
    go_ret2
    exact ⟨_, rfl, Kd.R_nil _ _ _ _ _, HB1.out⟩
  rw [if_pos c] at h
  obtain ⟨r, h1, h⟩ := Option.bind_eq_some_iff.mp h
  obtain ⟨h7, h8⟩ : r = r1 ∧ (0 : Int) = r2 := by simpa using h
  subst h7 h8
  have d : (e0 != 0) = false := bne_eq_false_iff_eq.mpr c
  clear h c
  unfold tagEnc at h1
  obtain ⟨l0, g0, h1⟩ := Option.bind_eq_some_iff.mp h1
  have G0 := Aside0.mk g0
  obtain ⟨l1, g1, h1⟩ := Option.bind_eq_some_iff.mp h1
  have G1 := Aside0.mk g1
  obtain ⟨l2, g2, h1⟩ := Option.bind_eq_some_iff.mp h1
  have G2 := Aside0.mk g2
  obtain ⟨l3, g3, h1⟩ := Option.bind_eq_some_iff.mp h1
  have G3 := Aside0.mk g3
  obtain ⟨l4, g4, h1⟩ := Option.bind_eq_some_iff.mp h1
  have G4 := Aside0.mk g4
  obtain ⟨l5, g5, h1⟩ := Option.bind_eq_some_iff.mp h1
  have G5 := Aside0.mk g5
  obtain ⟨l6, g6, h1⟩ := Option.bind_eq_some_iff.mp h1
  have G6 := Aside0.mk g6
  obtain ⟨l8, g7, h1⟩ := Option.bind_eq_some_iff.mp h1
  have G7 := Aside0.mk g7
  have G8 := Aside0.mk h1
  clear h1 g0 g1 g2 g3 g4 g5 g6 g7
  go_enter Tryd.func8, Tryd.ntmps8
  go_upto_region 5 with (go_at_call 13; (with_reducible refine (msg_Right.calls k a0_0 a0_1 a0_2 a0_3 a0_4 a0_5 a0_6 a0_7 a0_8 A0_9 c0_9 l0_9 A0_10 c0_10 l0_10 e0 _ (HR.out _ HB0.out).1 HC.out.1 (HR.out _ HB0.out).2 HC.out.2 (tabs_later HTB.out HB0.out) HE.out).mono ?_); rintro e w1 ⟨rfl, hb⟩; have HB1 := Aside0.mk (below_step HB0.out hb); have HN1 := Aside0.mk (blk_below HN0.out hb); obtain ⟨hm0, hm1, hm2, hm3, hm4, hm5, hm6, hm7, hm8, hm9, hm10, fm0, fm1, fm2, fm3, fm4, fm5, fm6, fm7, fm8, fm9, fm10⟩ := cells11 HN1.out; clear hb)
  have HW0 := Aside0.mk (show WrS w1 (w1.alloc (.cells #[.slice none 0 0] 45)) (fun _ => True) [] from ⟨⟨.slice none 0 0, blk_new w1 _, Kd.R_nil _ _ _ _ _⟩, below_alloc (Below.refl _ _) _⟩)
  generalize w1.alloc (.cells #[.slice none 0 0] 45) = wB at HW0 ⊢
  clear hm0 hm1 hm2 hm3 hm4 hm5 hm6 hm7 hm8 hm9 hm10 fm0 fm1 fm2 fm3 fm4 fm5 fm6 fm7 fm8 fm9 fm10
  obtain ⟨hm0, hm1, hm2, hm3, hm4, hm5, hm6, hm7, hm8, hm9, hm10, fm0, fm1, fm2, fm3, fm4, fm5, fm6, fm7, fm8, fm9, fm10⟩ := cells11 (blk_below HN1.out HW0.out.bel)
  go_upto_if 25 with (first | (go_at_call 14; (with_reducible refine (show Calls Tryd.prog 14 #[.pointer (some ⟨w1.heap.size, 0, none⟩), .slice (some ⟨wB.heap.size, 0, none⟩) 1 1] (wB.alloc (.cells #[.int .u64 (IntKind.u64.wrap a0_0)] 23)) (WPost w1 wB (fun _ => True) l0) from wnum1.calls k w1 wB _ (IntKind.u64.wrap a0_0) [] l0 HW0.out G0.out).mono ?_); rintro e x1 ⟨rfl, hw, _⟩; have HW1 := Aside0.mk (hw.mono (fun _ _ _ => trivial)); obtain ⟨hn0, hn1, hn2, hn3, hn4, hn5, hn6, hn7, hn8, hn9, hn10, fn0, fn1, fn2, fn3, fn4, fn5, fn6, fn7, fn8, fn9, fn10⟩ := cells11 (blk_below HN1.out HW1.out.bel); clear hw) | (go_at_call 15; (with_reducible refine (show Calls Tryd.prog 15 _ x1 (WPost w1 x1 (fun _ => True) l1) from wsome.calls k w1 x1 _ 1 (IntKind.u64.wrap a0_1) l0 l1 HW1.out G1.out).mono ?_); rintro e x2 ⟨rfl, hw, _⟩; have HW2 := Aside0.mk (hw.mono (fun _ _ _ => trivial)); obtain ⟨hp0, hp1, hp2, hp3, hp4, hp5, hp6, hp7, hp8, hp9, hp10, fp0, fp1, fp2, fp3, fp4, fp5, fp6, fp7, fp8, fp9, fp10⟩ := cells11 (blk_below HN1.out HW2.out.bel); clear hw) | (go_at_call 15; (with_reducible refine (show Calls Tryd.prog 15 _ x2 (WPost w1 x2 (fun _ => True) l2) from wsome.calls k w1 x2 _ 2 (IntKind.u64.wrap a0_2) l1 l2 HW2.out G2.out).mono ?_); rintro e x3 ⟨rfl, hw, _⟩; have HW3 := Aside0.mk (hw.mono (fun _ _ _ => trivial)); obtain ⟨hq0, hq1, hq2, hq3, hq4, hq5, hq6, hq7, hq8, hq9, hq10, fq0, fq1, fq2, fq3, fq4, fq5, fq6, fq7, fq8, fq9, fq10⟩ := cells11 (blk_below HN1.out HW3.out.bel); clear hw))
  clear hm0 hm1 hm2 hm3 hm4 hm5 hm6 hm7 hm8 hm9 hm10 fm0 fm1 fm2 fm3 fm4 fm5 fm6 fm7 fm8 fm9 fm10
  clear hn0 hn1 hn2 hn3 hn4 hn5 hn6 hn7 hn8 hn9 hn10 fn0 fn1 fn2 fn3 fn4 fn5 fn6 fn7 fn8 fn9 fn10
  clear hp0 hp1 hp2 hp3 hp4 hp5 hp6 hp7 hp8 hp9 hp10 fp0 fp1 fp2 fp3 fp4 fp5 fp6 fp7 fp8 fp9 fp10
  go_cut [] (fun wc => Aside0 (WrS w1 wc (fun _ => True) l3))
  case first =>
    cases a0_3 with
    | true =>
      have g := G3.out
      rw [if_pos rfl] at g
      have HG := Aside0.mk g
      clear g
      go_wp2_with (go_at_call 14; (with_reducible refine (show Calls Tryd.prog 14 #[.pointer (some ⟨w1.heap.size, 0, none⟩), .slice (some ⟨x3.heap.size, 0, none⟩) 1 1] (x3.alloc (.cells #[.int .u64 (3)] 23)) (WPost w1 x3 (fun _ => True) l3) from wnum1.calls k w1 x3 _ (3) l2 l3 HW3.out HG.out).mono ?_); rintro e x4 ⟨rfl, hw, _⟩; have HW4 := Aside0.mk (hw.mono (fun _ _ _ => trivial)); obtain ⟨hr0, hr1, hr2, hr3, hr4, hr5, hr6, hr7, hr8, hr9, hr10, fr0, fr1, fr2, fr3, fr4, fr5, fr6, fr7, fr8, fr9, fr10⟩ := cells11 (blk_below HN1.out HW4.out.bel); clear hw)
      go_meet
      exact HW4
    | false =>
      have g := G3.out
      rw [if_neg (by decide)] at g
      obtain rfl := Option.some.inj g
      clear g
      go_wp2
      go_meet
      exact HW3
  case rest =>
  have HW4 := hcut
  clear hcut hq0 hq1 hq2 hq3 hq4 hq5 hq6 hq7 hq8 hq9 hq10 fq0 fq1 fq2 fq3 fq4 fq5 fq6 fq7 fq8 fq9 fq10
  obtain ⟨hm0, hm1, hm2, hm3, hm4, hm5, hm6, hm7, hm8, hm9, hm10, fm0, fm1, fm2, fm3, fm4, fm5, fm6, fm7, fm8, fm9, fm10⟩ := cells11 (blk_below HN1.out HW4.out.bel)
  have g := G7.out
  by_cases c7 : a0_7 = 0
  · subst c7
    by_cases c8 : a0_8 = 0
    · subst c8
      rw [if_pos ⟨rfl, rfl⟩] at g
      obtain rfl := Option.some.inj g
      clear g
      go_wp2_with (first | (go_at_call 15; (with_reducible refine (show Calls Tryd.prog 15 _ wc (WPost w1 wc (fun _ => True) l4) from wsome.calls k w1 wc _ 4 a0_4 l3 l4 HW4.out G4.out).mono ?_); rintro e x5 ⟨rfl, hw, _⟩; have HW5 := Aside0.mk (hw.mono (fun _ _ _ => trivial)); obtain ⟨hn0, hn1, hn2, hn3, hn4, hn5, hn6, hn7, hn8, hn9, hn10, fn0, fn1, fn2, fn3, fn4, fn5, fn6, fn7, fn8, fn9, fn10⟩ := cells11 (blk_below HN1.out HW5.out.bel); clear hw) | (go_at_call 16; (with_reducible refine (show Calls Tryd.prog 16 _ x5 (WPost w1 x5 (fun _ => True) l5) from wtext.calls k w1 x5 _ 5 a0_5 l4 l5 HW5.out G5.out).mono ?_); rintro e x6 ⟨rfl, hw, _⟩; have HW6 := Aside0.mk (hw.mono (fun _ _ _ => trivial)); obtain ⟨hp0, hp1, hp2, hp3, hp4, hp5, hp6, hp7, hp8, hp9, hp10, fp0, fp1, fp2, fp3, fp4, fp5, fp6, fp7, fp8, fp9, fp10⟩ := cells11 (blk_below HN1.out HW6.out.bel); clear hw) | (go_at_call 16; (with_reducible refine (show Calls Tryd.prog 16 _ x6 (WPost w1 x6 (fun _ => True) l6) from wtext.calls k w1 x6 _ 6 a0_6 l5 l6 HW6.out G6.out).mono ?_); rintro e x7 ⟨rfl, hw, _⟩; have HW7 := Aside0.mk (hw.mono (fun _ _ _ => trivial)); obtain ⟨hq0, hq1, hq2, hq3, hq4, hq5, hq6, hq7, hq8, hq9, hq10, fq0, fq1, fq2, fq3, fq4, fq5, fq6, fq7, fq8, fq9, fq10⟩ := cells11 (blk_below HN1.out HW7.out.bel); clear hw) | (go_at_call 18; (with_reducible refine (wlists.calls k w1 x7 (fun _ => True) _ _ _ _ _ _ _ _ _ _ _ _ _ _ _ _ r (HR.out w1 HB1.out).1 (HR.out w1 HB1.out).2 HW7.out G8.out).mono ?_); rintro e x9 ⟨rfl, hw, _⟩; have HW9 := Aside0.mk (hw.mono (fun _ _ _ => trivial)); obtain ⟨v, hg, hR⟩ := hw.ex; have hv : x9.cell? ⟨w1.heap.size, 0, none⟩ = some v := (blk_cell hg 0).trans rfl; have HRR := Aside0.mk hR; clear hw hg hR))
      go_ret2
      exact ⟨_, rfl, Kd.R_lower (Kd.R_mono HRR.out (fun _ _ => trivial)) HB1.out.size, below_then HB1.out HB1.out.size HW9.out.bel⟩
    · rw [if_neg (fun h => c8 h.2)] at g
      obtain ⟨l7, g1, g2⟩ := Option.bind_eq_some_iff.mp g
      have HG1 := Aside0.mk g1
      have HG2 := Aside0.mk g2
      have d8 : (a0_8 == 0) = false := beq_eq_false_iff_ne.mpr c8
      clear g g1 g2
      go_wp2_with (first | (go_at_call 15; (with_reducible refine (show Calls Tryd.prog 15 _ wc (WPost w1 wc (fun _ => True) l4) from wsome.calls k w1 wc _ 4 a0_4 l3 l4 HW4.out G4.out).mono ?_); rintro e x5 ⟨rfl, hw, _⟩; have HW5 := Aside0.mk (hw.mono (fun _ _ _ => trivial)); obtain ⟨hn0, hn1, hn2, hn3, hn4, hn5, hn6, hn7, hn8, hn9, hn10, fn0, fn1, fn2, fn3, fn4, fn5, fn6, fn7, fn8, fn9, fn10⟩ := cells11 (blk_below HN1.out HW5.out.bel); clear hw) | (go_at_call 16; (with_reducible refine (show Calls Tryd.prog 16 _ x5 (WPost w1 x5 (fun _ => True) l5) from wtext.calls k w1 x5 _ 5 a0_5 l4 l5 HW5.out G5.out).mono ?_); rintro e x6 ⟨rfl, hw, _⟩; have HW6 := Aside0.mk (hw.mono (fun _ _ _ => trivial)); obtain ⟨hp0, hp1, hp2, hp3, hp4, hp5, hp6, hp7, hp8, hp9, hp10, fp0, fp1, fp2, fp3, fp4, fp5, fp6, fp7, fp8, fp9, fp10⟩ := cells11 (blk_below HN1.out HW6.out.bel); clear hw) | (go_at_call 16; (with_reducible refine (show Calls Tryd.prog 16 _ x6 (WPost w1 x6 (fun _ => True) l6) from wtext.calls k w1 x6 _ 6 a0_6 l5 l6 HW6.out G6.out).mono ?_); rintro e x7 ⟨rfl, hw, _⟩; have HW7 := Aside0.mk (hw.mono (fun _ _ _ => trivial)); obtain ⟨hq0, hq1, hq2, hq3, hq4, hq5, hq6, hq7, hq8, hq9, hq10, fq0, fq1, fq2, fq3, fq4, fq5, fq6, fq7, fq8, fq9, fq10⟩ := cells11 (blk_below HN1.out HW7.out.bel); clear hw) | (go_at_call 14; (with_reducible refine (show Calls Tryd.prog 14 #[.pointer (some ⟨w1.heap.size, 0, none⟩), .slice (some ⟨x7.heap.size, 0, none⟩) 1 1] (x7.alloc (.cells #[.int .u64 (7)] 23)) (WPost w1 x7 (fun _ => True) l7) from wnum1.calls k w1 x7 _ (7) _ l7 HW7.out HG1.out).mono ?_); rintro e x8 ⟨rfl, hw, _⟩; have HW8 := Aside0.mk (hw.mono (fun _ _ _ => trivial)); obtain ⟨hr0, hr1, hr2, hr3, hr4, hr5, hr6, hr7, hr8, hr9, hr10, fr0, fr1, fr2, fr3, fr4, fr5, fr6, fr7, fr8, fr9, fr10⟩ := cells11 (blk_below HN1.out HW8.out.bel); clear hw) | (go_at_call 17; (with_reducible refine (show Calls Tryd.prog 17 _ x8 (WPost w1 x8 (fun _ => True) l8) from wpeer.calls k w1 x8 _ 0 a0_8 l7 l8 HW8.out HG2.out).mono ?_); rintro e xa ⟨rfl, hw, _⟩; have HWa := Aside0.mk (hw.mono (fun _ _ _ => trivial)); obtain ⟨hs0, hs1, hs2, hs3, hs4, hs5, hs6, hs7, hs8, hs9, hs10, fs0, fs1, fs2, fs3, fs4, fs5, fs6, fs7, fs8, fs9, fs10⟩ := cells11 (blk_below HN1.out HWa.out.bel); clear hw) | (go_at_call 18; (with_reducible refine (wlists.calls k w1 xa (fun _ => True) _ _ _ _ _ _ _ _ _ _ _ _ _ _ _ l8 r (HR.out w1 HB1.out).1 (HR.out w1 HB1.out).2 HWa.out G8.out).mono ?_); rintro e x9 ⟨rfl, hw, _⟩; have HW9 := Aside0.mk (hw.mono (fun _ _ _ => trivial)); obtain ⟨v, hg, hR⟩ := hw.ex; have hv : x9.cell? ⟨w1.heap.size, 0, none⟩ = some v := (blk_cell hg 0).trans rfl; have HRR := Aside0.mk hR; clear hw hg hR))
      go_ret2
      exact ⟨_, rfl, Kd.R_lower (Kd.R_mono HRR.out (fun _ _ => trivial)) HB1.out.size, below_then HB1.out HB1.out.size HW9.out.bel⟩
  · rw [if_neg (fun h => c7 h.1)] at g
    obtain ⟨l7, g1, g2⟩ := Option.bind_eq_some_iff.mp g
    have HG1 := Aside0.mk g1
    have HG2 := Aside0.mk g2
    have d7 : (a0_7 == 0) = false := beq_eq_false_iff_ne.mpr c7
    clear g g1 g2
    go_wp2_with (first | (go_at_call 15; (with_reducible refine (show Calls Tryd.prog 15 _ wc (WPost w1 wc (fun _ => True) l4) from wsome.calls k w1 wc _ 4 a0_4 l3 l4 HW4.out G4.out).mono ?_); rintro e x5 ⟨rfl, hw, _⟩; have HW5 := Aside0.mk (hw.mono (fun _ _ _ => trivial)); obtain ⟨hn0, hn1, hn2, hn3, hn4, hn5, hn6, hn7, hn8, hn9, hn10, fn0, fn1, fn2, fn3, fn4, fn5, fn6, fn7, fn8, fn9, fn10⟩ := cells11 (blk_below HN1.out HW5.out.bel); clear hw) | (go_at_call 16; (with_reducible refine (show Calls Tryd.prog 16 _ x5 (WPost w1 x5 (fun _ => True) l5) from wtext.calls k w1 x5 _ 5 a0_5 l4 l5 HW5.out G5.out).mono ?_); rintro e x6 ⟨rfl, hw, _⟩; have HW6 := Aside0.mk (hw.mono (fun _ _ _ => trivial)); obtain ⟨hp0, hp1, hp2, hp3, hp4, hp5, hp6, hp7, hp8, hp9, hp10, fp0, fp1, fp2, fp3, fp4, fp5, fp6, fp7, fp8, fp9, fp10⟩ := cells11 (blk_below HN1.out HW6.out.bel); clear hw) | (go_at_call 16; (with_reducible refine (show Calls Tryd.prog 16 _ x6 (WPost w1 x6 (fun _ => True) l6) from wtext.calls k w1 x6 _ 6 a0_6 l5 l6 HW6.out G6.out).mono ?_); rintro e x7 ⟨rfl, hw, _⟩; have HW7 := Aside0.mk (hw.mono (fun _ _ _ => trivial)); obtain ⟨hq0, hq1, hq2, hq3, hq4, hq5, hq6, hq7, hq8, hq9, hq10, fq0, fq1, fq2, fq3, fq4, fq5, fq6, fq7, fq8, fq9, fq10⟩ := cells11 (blk_below HN1.out HW7.out.bel); clear hw) | (go_at_call 14; (with_reducible refine (show Calls Tryd.prog 14 #[.pointer (some ⟨w1.heap.size, 0, none⟩), .slice (some ⟨x7.heap.size, 0, none⟩) 1 1] (x7.alloc (.cells #[.int .u64 (7)] 23)) (WPost w1 x7 (fun _ => True) l7) from wnum1.calls k w1 x7 _ (7) _ l7 HW7.out HG1.out).mono ?_); rintro e x8 ⟨rfl, hw, _⟩; have HW8 := Aside0.mk (hw.mono (fun _ _ _ => trivial)); obtain ⟨hr0, hr1, hr2, hr3, hr4, hr5, hr6, hr7, hr8, hr9, hr10, fr0, fr1, fr2, fr3, fr4, fr5, fr6, fr7, fr8, fr9, fr10⟩ := cells11 (blk_below HN1.out HW8.out.bel); clear hw) | (go_at_call 17; (with_reducible refine (show Calls Tryd.prog 17 _ x8 (WPost w1 x8 (fun _ => True) l8) from wpeer.calls k w1 x8 _ a0_7 a0_8 l7 l8 HW8.out HG2.out).mono ?_); rintro e xa ⟨rfl, hw, _⟩; have HWa := Aside0.mk (hw.mono (fun _ _ _ => trivial)); obtain ⟨hs0, hs1, hs2, hs3, hs4, hs5, hs6, hs7, hs8, hs9, hs10, fs0, fs1, fs2, fs3, fs4, fs5, fs6, fs7, fs8, fs9, fs10⟩ := cells11 (blk_below HN1.out HWa.out.bel); clear hw) | (go_at_call 18; (with_reducible refine (wlists.calls k w1 xa (fun _ => True) _ _ _ _ _ _ _ _ _ _ _ _ _ _ _ l8 r (HR.out w1 HB1.out).1 (HR.out w1 HB1.out).2 HWa.out G8.out).mono ?_); rintro e x9 ⟨rfl, hw, _⟩; have HW9 := Aside0.mk (hw.mono (fun _ _ _ => trivial)); obtain ⟨v, hg, hR⟩ := hw.ex; have hv : x9.cell? ⟨w1.heap.size, 0, none⟩ = some v := (blk_cell hg 0).trans rfl; have HRR := Aside0.mk hR; clear hw hg hR))
    go_ret2
    exact ⟨_, rfl, Kd.R_lower (Kd.R_mono HRR.out (fun _ _ => trivial)) HB1.out.size, below_then HB1.out HB1.out.size HW9.out.bel⟩
/-! ### more fuel, the same answer -/
theorem msg_Same.mono : ∀ a0 a1 a2 a3 a4 a5 a6 a7 a8 a9 a10 a11 a12 a13 a14 a15 a16 a17 a18 a19 a20 a21 k, LeO (msg_Same.f k a0 a1 a2 a3 a4 a5 a6 a7 a8 a9 a10 a11 a12 a13 a14 a15 a16 a17 a18 a19 a20 a21) (msg_Same.f (k + 1) a0 a1 a2 a3 a4 a5 a6 a7 a8 a9 a10 a11 a12 a13 a14 a15 a16 a17 a18 a19 a20 a21) := by
  intro a0 a1 a2 a3 a4 a5 a6 a7 a8 a9 a10 a11 a12 a13 a14 a15 a16 a17 a18 a19 a20 a21 k
  unfold msg_Same.f
  repeat' first
  | (with_reducible exact api_Peer_62.mono _ _ _)
  | (with_reducible exact api_Pair_63.mono _ _ _)
  | (with_reducible exact LeO.refl _)
  | (with_reducible exact LeO.none _)
  | (with_reducible refine LeO.ite ?_ ?_)
  | (with_reducible refine LeO.bind ?_ (fun _ => ?_))
theorem msg_Right.mono : ∀ a0 a1 a2 a3 a4 a5 a6 a7 a8 a9 a10 k, LeO (msg_Right.f k a0 a1 a2 a3 a4 a5 a6 a7 a8 a9 a10) (msg_Right.f (k + 1) a0 a1 a2 a3 a4 a5 a6 a7 a8 a9 a10) := by
  intro a0 a1 a2 a3 a4 a5 a6 a7 a8 a9 a10 k
  unfold msg_Right.f
  repeat' first
  | (with_reducible exact msg_Same.mono _ _ _ _ _ _ _ _ _ _ _ _ _ _ _ _ _ _ _ _ _ _ _)
  | (with_reducible exact LeO.refl _)
  | (with_reducible exact LeO.none _)
  | (with_reducible refine LeO.ite ?_ ?_)
  | (with_reducible refine LeO.bind ?_ (fun _ => ?_))
theorem wnum.mono (k : Nat) : ∀ ns l, LeO (wnum k l ns) (wnum (k + 1) l ns)
  | [], _ => LeO.refl _
  | _ :: ns, _ => LeO.bind (uvar_Put.mono _ _ _) (fun _ => wnum.mono k ns _)
theorem wpeers.mono (k : Nat) : ∀ ps l, LeO (wpeers k l ps) (wpeers (k + 1) l ps)
  | [], _ => LeO.refl _
  | _ :: ps, _ => LeO.bind (wnum.mono k _ _) (fun _ => wpeers.mono k ps _)
theorem wpairs.mono (k : Nat) : ∀ qs l, LeO (wpairs k l qs) (wpairs (k + 1) l qs)
  | [], _ => LeO.refl _
  | _ :: qs, _ => LeO.bind (buf_Text.mono _ _ _) (fun _ => LeO.bind (buf_Text.mono _ _ _) (fun _ => wpairs.mono k qs _))
theorem wsome.mono : ∀ a0 a1 a2 k, LeO (wsome k a0 a1 a2) (wsome (k + 1) a0 a1 a2) := by
  intro a0 a1 a2 k
  unfold wsome
  repeat' first
  | (with_reducible exact wnum.mono _ _ _)
  | (with_reducible exact LeO.refl _)
  | (with_reducible exact LeO.none _)
  | (with_reducible refine LeO.ite ?_ ?_)
  | (with_reducible refine LeO.bind ?_ (fun _ => ?_))
theorem wtext.mono : ∀ a0 a1 a2 k, LeO (wtext k a0 a1 a2) (wtext (k + 1) a0 a1 a2) := by
  intro a0 a1 a2 k
  unfold wtext
  repeat' first
  | (with_reducible exact wnum.mono _ _ _)
  | (with_reducible exact buf_Text.mono _ _ _)
  | (with_reducible exact LeO.refl _)
  | (with_reducible exact LeO.none _)
  | (with_reducible refine LeO.ite ?_ ?_)
  | (with_reducible refine LeO.bind ?_ (fun _ => ?_))
theorem wlists.mono : ∀ a0 a1 a2 k, LeO (wlists k a0 a1 a2) (wlists (k + 1) a0 a1 a2) := by
  intro a0 a1 a2 k
  unfold wlists
  repeat' first
  | (with_reducible exact wnum.mono _ _ _)
  | (with_reducible exact wpeers.mono _ _ _)
  | (with_reducible exact wpairs.mono _ _ _)
  | (with_reducible exact LeO.refl _)
  | (with_reducible exact LeO.none _)
  | (with_reducible refine LeO.ite ?_ ?_)
  | (with_reducible refine LeO.bind ?_ (fun _ => ?_))
theorem tagEnc.mono : ∀ a0 a1 a2 a3 a4 a5 a6 a7 a8 a9 a10 k, LeO (tagEnc k a0 a1 a2 a3 a4 a5 a6 a7 a8 a9 a10) (tagEnc (k + 1) a0 a1 a2 a3 a4 a5 a6 a7 a8 a9 a10) := by
  intro a0 a1 a2 a3 a4 a5 a6 a7 a8 a9 a10 k
  unfold tagEnc
  repeat' first
  | (with_reducible exact wnum.mono _ _ _)
  | (with_reducible exact wsome.mono _ _ _ _)
  | (with_reducible exact wtext.mono _ _ _ _)
  | (with_reducible exact wlists.mono _ _ _ _)
  | (with_reducible exact LeO.refl _)
  | (with_reducible exact LeO.none _)
  | (with_reducible refine LeO.ite ?_ ?_)
  | (with_reducible refine LeO.bind ?_ (fun _ => ?_))
theorem tagged_Enc.mono : ∀ a0 a1 a2 a3 a4 a5 a6 a7 a8 a9 a10 k, LeO (tagged_Enc.f k a0 a1 a2 a3 a4 a5 a6 a7 a8 a9 a10) (tagged_Enc.f (k + 1) a0 a1 a2 a3 a4 a5 a6 a7 a8 a9 a10) := by
  intro a0 a1 a2 a3 a4 a5 a6 a7 a8 a9 a10 k
  unfold tagged_Enc.f
  repeat' first
  | (with_reducible exact tagEnc.mono _ _ _ _ _ _ _ _ _ _ _ _)
  | (with_reducible exact msg_Right.mono _ _ _ _ _ _ _ _ _ _ _ _)
  | (with_reducible exact LeO.refl _)
  | (with_reducible exact LeO.none _)
  | (with_reducible refine LeO.ite ?_ ?_)
  | (with_reducible refine LeO.bind ?_ (fun _ => ?_))


/-! ### slices_Clone_byte_byte: function 47 -/
def slices_Clone_byte_byte.f (l0 : List Int) : Option (List Int) := if l0.length < 140737488355328 then (some l0) else (none)
set_option maxHeartbeats 3000000 in
set_option maxRecDepth 100000 in
theorem slices_Clone_byte_byte.calls (A0 : Option Addr) (c0 : Nat) (l0 : List Int) (r : List Int) (w : World) (hr0 : Kd.C (Kd.int .u8) w A0 l0.length l0) (hc0 : l0.length ≤ c0) (h : slices_Clone_byte_byte.f l0 = some r) :
    Calls Tryd.prog 47 #[.slice A0 l0.length c0] w fun e w' => ∃ v0_ : Value, e = .returned (v0_) ∧ Kd.R (Kd.int .u8) 5 w' w.heap.size (fun _ => True) v0_ r ∧ Below w.heap.size w w' := by
  have HR0 := Aside0.mk hr0
  have HC0 := Aside0.mk hc0
  have HB := Aside0.mk (Below.refl w.heap.size w)
  unfold slices_Clone_byte_byte.f at h
  by_cases c : l0.length < 140737488355328
  · rw [if_pos c] at h
    obtain rfl := Option.some.inj h
    have LMc := Aside0.mk c
    clear c h
    cases A0 with
    | none =>
      have hn : l0 = [] := by
        cases l0 with
        | nil => rfl
        | cons x l => obtain ⟨ad, he, _⟩ := (HR0.out).2.2 (by simp); cases he
      subst hn
      clear hr0 hc0 LMc
      have hq := fun (w : World) => Lib.run_eql_slice_nil (P := Tryd.prog) w 33 5 none 0 c0 0 0 Tryd.underlying33
      go_enter Tryd.func47, Tryd.ntmps47
      go_wp2
      go_ret
      exact ⟨_, rfl, by first | exact Kd.R_nil _ _ _ _ _, HB.out⟩
    | some ad =>
      clear hr0 hc0
      have hq := fun (w : World) => Lib.run_eql_slice_nil (P := Tryd.prog) w 33 5 (some ad) l0.length c0 0 0 Tryd.underlying33
      obtain ⟨y1, hy1⟩ : ∃ y_ : List Int, y_ = [] := ⟨_, rfl⟩
      obtain ⟨y2, hy2⟩ : ∃ y_ : List Int, y_ = y1 ++ l0 := ⟨_, rfl⟩
      have hy3 : y2 = l0 := by rw [hy2, hy1]; rfl
      have Ny1 := Aside0.mk hy1
      have Ny2 := Aside0.mk hy2
      have Ny3 := Aside0.mk hy3
      clear hy1 hy2 hy3
      go_enter Tryd.func47, Tryd.ntmps47
      go_wp2_with (first | ((with_reducible refine gate_dst (N := 5) rfl ?_); refine Kd.R_lit (Kd.int .u8) _ 5 ?hg (N := 5) ?hd (xs := ([] : List Int)) (inner := []) (ok := fun _ => True) (okp := fun _ => True) ?hr ?hp (fun _ hk => hk) trivial (Below.refl _ _) (Nat.le_refl _) (by simp) ?_; (case hd => rfl); (case hg => rfl); (case hr => first | (go_simp; done) | (go_simp; rfl)); (case hp => exact (Reps.none _ _)); intro v133 w13 ho14 hb hg_ hnew_; clear hg_ hnew_; (first | rw [← Ny1.out] at ho14 | (simp only [Int.reduceToNat] at ho14; rw [← Ny1.out] at ho14)); have n0_ := Aside0.mk (Kd.R_lower ho14 (below_size (by repeat (first | (with_reducible first | exact HB.out | apply below_alloc | apply pw_below_drewN | apply below_drew1) | exact HB.out)))); have n1_ := Aside0.mk (below_step (by repeat (first | (with_reducible first | exact HB.out | apply below_alloc | apply pw_below_drewN | apply below_drew1) | exact HB.out)) hb); clear HB; have HO134 := n0_; have HB := n1_; clear n0_ n1_; clear hb ho14) | ((with_reducible refine gate_builtin (b := .append) (xs := #[.tmp 5, .tmp 6]) rfl ?_); at_builtin; refine Kd.R_append_rows (Kd.int .u8) (w0 := w) w.heap.size rfl (.tmp 5) (.tmp 6) 33 5 (.int .u8 0) 1 rfl Tryd.underlying33 info5 rfl (by decide) (by omega) v133 y1 l0 _ _ _ (fun _ => True) (fun _ => False) rfl rfl ?aO ?aR (fun _ _ h => h) (fun _ h => h.elim) ?aF ?aB ?aS ?aL ?_; (case aR => repeat (first | exact (Kd.C_below HR0.out HB.out) | (with_reducible refine Kd.C_alloc ?_ _) | (with_reducible refine Kd.C_drewN ?_ _) | (with_reducible refine Kd.C_drew ?_))); (case aB => exact (by repeat (first | (with_reducible first | exact HB.out | apply below_alloc | apply pw_below_drewN | apply below_drew1) | exact HB.out))); (case aF => exact (fun _ _ => trivial)); (case aO => exact (by (with_reducible repeat (first | apply Kd.R_alloc | apply Kd.R_drewN | apply Kd.R_drew)); exact HO134.out)); (case aS => exact (below_size (by repeat (first | (with_reducible first | exact HB.out | apply below_alloc | apply pw_below_drewN | apply below_drew1) | exact HB.out)))); (case aL => have := LMc.out; have h1_ := congrArg List.length Ny1.out; simp only [List.length_nil] at h1_; omega); intro v137 w16 ho hb hg hat; rw [← Ny2.out] at ho; have n0_ := Aside0.mk (hb); have n1_ := Aside0.mk (ho); clear HB; clear HO134; have HB := n0_; have HO138 := n1_; clear n0_ n1_; clear ho hb hg hat))
      go_ret
      exact ⟨_, rfl, by rw [← Ny3.out]; exact HO138.out, (by repeat (first | (with_reducible first | exact HB.out | apply below_alloc | apply pw_below_drewN | apply below_drew1) | exact HB.out))⟩
  · rw [if_neg c] at h
    exact absurd h (by simp)
theorem clone_n (A : Option Addr) (c n : Nat) (l : List Int) (w : World) (hn : l.length = n) (hC : Kd.C (Kd.int .u8) w A n l) (hc : n ≤ c) (hl : n < 140737488355328) :
    Calls Tryd.prog 47 #[.slice A n c] w fun e w' => ∃ v : Value, e = .returned v ∧ Kd.R (Kd.int .u8) 5 w' w.heap.size (fun _ => True) v l ∧ Below w.heap.size w w' := by
  subst hn
  exact slices_Clone_byte_byte.calls A c l l w hC hc (by unfold slices_Clone_byte_byte.f; rw [if_pos hl])


/-! ### buf_Open: function 21 -/
set_option maxHeartbeats 400000 in
set_option maxRecDepth 100000 in
theorem rd_Open (A : Option Addr) (c : Nat) (l : List Int) (w : World) (hC : Kd.C (Kd.int .u8) w A l.length l) (hc : l.length ≤ c) (hl : l.length < 140737488355328) :
    Calls Tryd.prog 21 #[.slice A l.length c] w fun e w' => ∃ (g : Nat) (w0 : World), e = .returned (.pointer (some ⟨g, 0, none⟩)) ∧ RdS 80 w0 w' g l 0 ∧ Below w.heap.size w w0 ∧ Below w.heap.size w w' := by
  have HL := Aside0.mk hl
  have HC := Aside0.mk hC
  have HH := Aside0.mk hc
  clear hC hc hl
  go_enter Tryd.func21, Tryd.ntmps21
  go_wp2_with (first | (go_at_call 47; (with_reducible refine (clone_n A c l.length l w rfl HC.out HH.out HL.out).mono ?_); rintro e w1 ⟨v, rfl, hR, hb⟩; obtain ⟨A1, cc, rfl⟩ := Kd.R_slice hR; have HR := Aside0.mk hR; have HB := Aside0.mk hb; clear hR hb))
  go_ret
  have hr := Kd.R_reads' HR.out
  exact ⟨_, w1, rfl, ⟨⟨A1, cc, heap_alloc_new w1 _, hr.2.1, hr.2.2⟩, Nat.le_refl _, HL.out, below_alloc (Below.refl _ _) _⟩, HB.out, below_step HB.out (below_alloc (Below.refl _ _) _)⟩
/-- a reader at block g of W, as a state: what is left lay there by a world since w0 -/
def IsS80 (w0 W : World) (g : Nat) (f0 : Bool) (f1 : List Int) (f2 : Int) : Prop := f0 = true ∧ ∃ wb : World, w0.heap.size ≤ wb.heap.size ∧ RdS 80 wb W g f1 f2
section
variable {w0 W : World} {g : Nat} {f0 : Bool} {f1 : List Int} {f2 : Int}
theorem IsS80.blk (h : IsS80 w0 W g f0 f1 f2) : ∃ cs : Array Value, W.heap[g]? = some (.cells cs 80 (0, 0)) := by
  obtain ⟨_, wb, _, hr⟩ := h
  obtain ⟨A, c, hg, _⟩ := hr.ex
  exact ⟨_, hg⟩
theorem IsS80.ge (h : IsS80 w0 W g f0 f1 f2) : w0.heap.size ≤ g := by
  obtain ⟨_, wb, hb, hr⟩ := h
  exact Nat.le_trans hb hr.ge
theorem IsS80.lt (h : IsS80 w0 W g f0 f1 f2) : g < W.heap.size := by
  obtain ⟨cs, hb⟩ := h.blk
  exact blk_lt hb
theorem IsS80.fresh (h : IsS80 w0 W g f0 f1 f2) : ∀ k, W.heap.size ≤ k → k ≠ g := by
  obtain ⟨cs, hb⟩ := h.blk
  exact Kd.freshB hb
theorem IsS80.below {W1 : World} (h : IsS80 w0 W g f0 f1 f2) (hw : Below W.heap.size W W1) : IsS80 w0 W1 g f0 f1 f2 := by
  obtain ⟨h0, wb, hb, hr⟩ := h
  exact ⟨h0, wb, hb, hr.later hw⟩
theorem IsS80.alloc (h : IsS80 w0 W g f0 f1 f2) (o : Obj) : IsS80 w0 (W.alloc o) g f0 f1 f2 := h.below (below_alloc (Below.refl _ _) o)
theorem IsS80.drewN (h : IsS80 w0 W g f0 f1 f2) (m : Nat) : IsS80 w0 (W.drewN m) g f0 f1 f2 := h.below (pw_below_drewN (Below.refl _ _) m)
theorem IsS80.drew (h : IsS80 w0 W g f0 f1 f2) : IsS80 w0 W.drew g f0 f1 f2 := h.below (Below.refl _ _).drew
theorem IsS80.at_ {w' : World} {m : Nat} (hq : W.drewN m = w') (h : IsS80 w0 W g f0 f1 f2) : IsS80 w0 w' g f0 f1 f2 := by subst hq; exact h.drewN m
theorem IsS80.apart {α : Type} {d : Kd α} {e : Nat} {base : Nat} {ok : Nat → Prop} {v : Value} {xs : List α} (h : IsS80 w0 W g f0 f1 f2) (ho : d.R e W base ok v xs) (ht : ∀ q, q ∈ e :: d.E → q ≠ 80) : d.R e W base (fun k => ok k ∧ k ≠ g) v xs := by
  obtain ⟨cs, hb⟩ := h.blk
  exact Kd.R_types ho hb ht
theorem IsS80.own_ne {α : Type} {d : Kd α} {e : Nat} {base : Nat} {ok : Nat → Prop} {v : Value} {xs : List α} (h : IsS80 w0 W g f0 f1 f2) (ho : d.R e W base ok v xs) (ht : e ≠ 80) : some g ≠ v.ownBlock := by
  obtain ⟨cs, hb⟩ := h.blk
  exact Kd.R_ne ho hb ht
theorem IsS80.apartQ {α : Type} {d : Kd α} {e : Nat} {base : Nat} {ok : Nat → Prop} {v : Value} {xs : List α} (h : IsS80 w0 W g f0 f1 f2) (ho : d.Q e W base ok v xs) (ht : ∀ q, q ∈ e :: d.E → q ≠ 80) : d.Q e W base (fun k => ok k ∧ k ≠ g) v xs := by
  obtain ⟨cs, hb⟩ := h.blk
  exact Kd.Q_types ho hb ht
theorem IsS80.own_neQ {α : Type} {d : Kd α} {e : Nat} {base : Nat} {ok : Nat → Prop} {v : Value} {xs : List α} (h : IsS80 w0 W g f0 f1 f2) (ho : d.Q e W base ok v xs) (ht : e ≠ 80) : some g ≠ v.ownBlock := by
  obtain ⟨cs, hb⟩ := h.blk
  exact Kd.Q_ne ho hb ht
theorem IsS80.ne_blk {a : Nat} {cs : Array Value} {t : TypeId} {fr : Nat × Nat} (h : IsS80 w0 W g f0 f1 f2) (hb2 : W.heap[a]? = some (.cells cs t fr)) (ht : t ≠ 80) : g ≠ a := by
  obtain ⟨cs, hb⟩ := h.blk
  rintro rfl
  rw [hb] at hb2
  injection hb2 with hb2
  injection hb2 with _ ht2
  exact ht ht2.symm
theorem IsS80.far2 {p : Addr} (h : IsS80 w0 W g f0 f1 f2) (hgt : g < p.block) (u : Value) : IsS80 w0 (W.setCell p u) g f0 f1 f2 := by
  obtain ⟨h0, wb, hb, hr⟩ := h
  obtain ⟨A, c, hg, hc, hC⟩ := hr.ex
  exact ⟨h0, wb, hb, ⟨⟨A, c, blk_far hg (Nat.ne_of_lt hgt) u, hc, hC⟩, hr.ge, hr.small, hr.bel.setCell (Nat.le_trans hr.ge (Nat.le_of_lt hgt)) u⟩⟩
theorem IsS80.keep {w w' wb : World} (hB : Below w0.heap.size w0 w) (hb : w0.heap.size ≤ wb.heap.size) (h1 : Below wb.heap.size wb w) (h2 : Below wb.heap.size wb w') (hg : wb.heap.size ≤ g) (hk : KeepBut w w' g none) : Below w0.heap.size w0 w' :=
  ⟨h2.os.trans (h1.os.symm.trans hB.os), h2.tape.trans (h1.tape.symm.trans hB.tape), h2.output.trans (h1.output.symm.trans hB.output), Nat.le_trans hB.size hk.1, fun k hk' => (hk.2 k (Nat.lt_of_lt_of_le hk' hB.size) (by omega) (by simp)).trans (hB.block k hk')⟩
end
def buf_Open.f (l0 : List Int) : Option (Bool × List Int × Int) := if l0.length < 140737488355328 then (some (true, l0, 0)) else (none)
theorem buf_Open.calls (A0 : Option Addr) (c0 : Nat) (l0 : List Int) (r1 : Bool) (r2 : List Int) (r3 : Int) (w0 w : World) (hB : Below w0.heap.size w0 w) (hr0 : Kd.C (Kd.int .u8) w0 A0 l0.length l0) (hc0 : l0.length ≤ c0) (h : buf_Open.f l0 = some (r1, r2, r3)) :
    Calls Tryd.prog 21 #[.slice A0 l0.length c0] w fun e w' => ∃ g_ : Nat, e = .returned (.pointer (some ⟨g_, 0, none⟩)) ∧ IsS80 w0 w' g_ r1 r2 r3 ∧ Below w0.heap.size w0 w' ∧ Below w.heap.size w w' := by
  unfold buf_Open.f at h
  by_cases hl : l0.length < 140737488355328
  · rw [if_pos hl] at h
    have h := Option.some.inj h
    injection h with e1 h
    injection h with e2 e3
    subst e1 e2 e3
    refine (rd_Open A0 c0 l0 w (Kd.C_below hr0 hB) hc0 hl).mono ?_
    rintro e w' ⟨g, wb, he, hi, h1, h2⟩
    exact ⟨g, he, ⟨rfl, wb, Nat.le_trans hB.size h1.size, hi⟩, below_step hB h2, h2⟩
  · rw [if_neg hl] at h
    exact absurd h (by simp)


/-! ### buf_Reader_dead: function 48 -/
set_option maxHeartbeats 400000 in
set_option maxRecDepth 100000 in
theorem rd_dead (g : Nat) (rest : List Int) (met : Int) (w0 w : World) (hI : RdS 80 w0 w g rest met) :
    Calls Tryd.prog 48 #[.pointer (some ⟨g, 0, none⟩)] w fun e w' => e = .returned (.bool (met != 0)) ∧ w = w' := by
  obtain ⟨A, c, HG, hg, HS⟩ := hI.ex
  have h0 : w.cell? ⟨g, 0, none⟩ = some (.bool true) := (blk_cell HG 0).trans rfl
  have h2 : w.cell? ⟨g, 2, none⟩ = some (.int .i64 met) := (blk_cell HG 2).trans rfl
  clear HG hg HS hI
  go_enter Tryd.func48, Tryd.ntmps48
  go_wp2
  go_ret
  exact ⟨by first | rfl | simp, by rfl⟩
set_option maxHeartbeats 400000 in
set_option maxRecDepth 100000 in
theorem rd_dead0 (w : World) : Calls Tryd.prog 48 #[.pointer none] w fun e w' => e = .returned (.bool true) ∧ w = w' := by
  go_enter Tryd.func48, Tryd.ntmps48
  go_wp2
  go_ret
  exact ⟨rfl, rfl⟩

/-! ### uvar_last: function 73 -/
def uvar_last.l0 : Nat → List Int → Int → Int → Option (Int)
  | 0, _, _, _ => none
  | k + 1, x0, x6, x7 => if x7 < x6 then (if 0 ≤ x7 then (if x7 < (x0.length : Int) then (if (rd x0 x7) < 128 then (some x7) else (uvar_last.l0 k x0 x6 (wrap64 (x7 + 1)))) else (none)) else (none)) else (some (-1))
def uvar_last.f (k : Nat) (l0 : List Int) : Option (Int) := uvar_last.l0 k l0 (mn (l0.length : Int) 10) 0
theorem uvar_last.mono_l : ∀ k, (∀ y0 y1 y2, LeO (uvar_last.l0 k y0 y1 y2) (uvar_last.l0 (k + 1) y0 y1 y2))
  | 0 => fun _ _ _ r h => by simp [uvar_last.l0] at h
  | k + 1 => by
    have ih0 := uvar_last.mono_l k
    · intro y0 y1 y2
      unfold uvar_last.l0
      repeat' first
      | (with_reducible exact ih0 _ _ _)
      | (with_reducible exact LeO.refl _)
      | (with_reducible exact LeO.none _)
      | (with_reducible refine LeO.ite ?_ ?_)
      | (with_reducible refine LeO.bind ?_ (fun _ => ?_))
      | exact ih0 _ _ _
      | exact LeO.none _
      | refine LeO.ite ?_ ?_
      | refine LeO.bind ?_ (fun _ => ?_)
theorem uvar_last.mono : ∀ a0 k, LeO (uvar_last.f k a0) (uvar_last.f (k + 1) a0) := by
  intro a0 k
  have ih0 := uvar_last.mono_l k
  unfold uvar_last.f
  repeat' first
      | (with_reducible exact ih0 _ _ _)
      | (with_reducible exact LeO.refl _)
      | (with_reducible exact LeO.none _)
      | (with_reducible refine LeO.ite ?_ ?_)
      | (with_reducible refine LeO.bind ?_ (fun _ => ?_))
      | exact ih0 _ _ _
      | exact LeO.none _
      | refine LeO.ite ?_ ?_
      | refine LeO.bind ?_ (fun _ => ?_)
set_option maxHeartbeats 3000000 in
set_option maxRecDepth 100000 in
theorem uvar_last.calls (k : Nat) (A0 : Option Addr) (c0 : Nat) (l0 : List Int) (r : Int) (w : World) (hr0 : Kd.C (Kd.int .u8) w A0 l0.length l0) (hc0 : l0.length ≤ c0) (h : uvar_last.f k l0 = some r) :
    Calls Tryd.prog 73 #[.slice A0 l0.length c0] w fun e w' => e = .returned (.int .i64 r) ∧ Below w.heap.size w w' := by
  have HR0 := Aside0.mk hr0
  have HC0 := Aside0.mk hc0
  clear hr0 hc0
  have HB := Aside0.mk (Below.refl w.heap.size w)
  have H : (uvar_last.l0 k l0 (mn (l0.length : Int) 10) 0) = some r := h
  clear h
  obtain ⟨ji2, hji2⟩ : ∃ j_ : Int, (mn (l0.length : Int) 10) = j_ := ⟨_, rfl⟩
  replace H : (uvar_last.l0 k l0 ji2 0) = some r := by first | (rw [hji2] at H; exact H) | (simp only [hji2] at H ⊢; exact H)
  (try (have hji2h : ji2 ≤ 10 := by (rw [← hji2]; unfold mn; (repeat' split) <;> omega)))
  (try (have hji2g : ji2 ≤ 64 := by omega))
  (try (have hji2l : 0 ≤ ji2 := by (rw [← hji2]; unfold mn; (repeat' split) <;> omega)))
  (try (have hji2m : 0 ≤ ji2 := by omega))
  have hji2_ : (if 10 < (l0.length : Int) then 10 else (l0.length : Int)) = ji2 := hji2
  have H' := Aside0.mk H
  clear H
  go_enter Tryd.func73, Tryd.ntmps73
  go_wp2
  go_loopg [7] k (fun kq v7 w' => ∃ (x7_1 : Int), v7 = .int .i64 x7_1 ∧ Aside0 (uvar_last.l0 kq l0 ji2 x7_1 = some r) ∧ Aside0 (kq ≤ k) ∧ Aside0 (Below w.heap.size w w'))
  case atStart => exact ⟨(0), (by first | rfl | (simp; done) | (simp [*]; done)), H', ⟨Nat.le_refl _⟩, ⟨by repeat (first | (with_reducible first | exact HB.out | apply below_alloc | apply pw_below_drewN | apply below_drew1) | exact HB.out)⟩⟩
  case round =>
    clear H'
    try clear p2
    obtain ⟨x7_1, rfl, HA, HK1, HB⟩ := hrel
    cases gk with
    | zero => exact absurd HA.out (by simp [uvar_last.l0])
    | succ k1 =>
      have H := HA.out
      clear HA
      simp only [uvar_last.l0] at H
      by_cases c3 : x7_1 < ji2
      · rw [if_pos c3] at H
        have c3b0 : decide (x7_1 < ji2) = true := decide_eq_true c3
        clear c3
        by_cases c4 : 0 ≤ x7_1
        · rw [if_pos c4] at H
          have c4b0 : decide (0 ≤ x7_1) = true := decide_eq_true c4
          clear c4
          by_cases c5 : x7_1 < (l0.length : Int)
          · rw [if_pos c5] at H
            have c5b0 : decide (x7_1 < (l0.length : Int)) = true := decide_eq_true c5
            clear c5
            by_cases c6 : (rd l0 x7_1) < 128
            · rw [if_pos c6] at H
              have c6b0 : decide ((rd l0 x7_1) < 128) = true := decide_eq_true c6
              clear c6
              obtain rfl := Option.some.inj H
              have p174 : 0 ≤ (x7_1 : Int) := of_decide_eq_true (by first | (with_reducible assumption) | assumption)
              have q174 : x7_1 < (l0.length : Int) := of_decide_eq_true (by first | (with_reducible assumption) | assumption)
              obtain ⟨ad174, e174, hx174_0⟩ := Kd.at_int HR0.out x7_1 p174 q174
              cases e174
              replace hx174_0 := (HB.out.cell (World.block_lt_of_cell? w _ hx174_0)).trans hx174_0
              replace p174 := eq_true p174
              replace q174 := eq_true q174
              go_wp2
              all_goals go_ret
              all_goals first | (exact ⟨by first | rfl | (simp [errW_none, errW_some] <;> rfl) | (simp only [← hji2]; first | rfl | (simp [errW_none, errW_some] <;> rfl)) | (simp [*, errW_none, errW_some] <;> rfl), by repeat (first | (with_reducible first | exact HB.out | apply below_alloc | apply pw_below_drewN | apply below_drew1) | exact HB.out)⟩) | (exfalso; simp_all; done)
            · rw [if_neg c6] at H
              have c6b0 : decide ((rd l0 x7_1) < 128) = false := decide_eq_false c6
              clear c6
              have H' := Aside0.mk H
              clear H
              have p174 : 0 ≤ (x7_1 : Int) := of_decide_eq_true (by first | (with_reducible assumption) | assumption)
              have q174 : x7_1 < (l0.length : Int) := of_decide_eq_true (by first | (with_reducible assumption) | assumption)
              obtain ⟨ad174, e174, hx174_0⟩ := Kd.at_int HR0.out x7_1 p174 q174
              cases e174
              replace hx174_0 := (HB.out.cell (World.block_lt_of_cell? w _ hx174_0)).trans hx174_0
              replace p174 := eq_true p174
              replace q174 := eq_true q174
              go_wp2
              go_roundg k1
              case measure => have := HK1.out; omega
              case rel => exact ⟨(wrap64 (x7_1 + 1)), (by first | rfl | (simp; done) | (simp [*]; done)), H', ⟨by have := HK1.out; omega⟩, ⟨by repeat (first | (with_reducible first | exact HB.out | apply below_alloc | apply pw_below_drewN | apply below_drew1) | exact HB.out)⟩⟩
          · rw [if_neg c5] at H
            exact absurd H (by simp)
        · rw [if_neg c4] at H
          exact absurd H (by simp)
      · rw [if_neg c3] at H
        have c3b0 : decide (x7_1 < ji2) = false := decide_eq_false c3
        clear c3
        obtain rfl := Option.some.inj H
        go_wp2
        all_goals go_ret
        all_goals first | (exact ⟨by first | rfl | (simp [errW_none, errW_some] <;> rfl) | (simp only [← hji2]; first | rfl | (simp [errW_none, errW_some] <;> rfl)) | (simp [*, errW_none, errW_some] <;> rfl), by repeat (first | (with_reducible first | exact HB.out | apply below_alloc | apply pw_below_drewN | apply below_drew1) | exact HB.out)⟩) | (exfalso; simp_all; done)

end Go.Proofs.YtmohmmpcadlfkaaDoor.PTaggedBack
