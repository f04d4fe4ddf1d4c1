/- Written by a program of this session (a turned copy of the kit's print): functions of the program, each with the Lean function that it comes to, and the row of one law. No condition. -/
import Derived.Test.YtmohmmpcadlfkaaDoorPTaggedBackx0
import Derived.Test.YtmohmmpcadlfkaaDoorPTaggedBackx1
import Derived.Test.YtmohmmpcadlfkaaDoorPTaggedBackx3
import Derived.Test.YtmohmmpcadlfkaaDoorPTaggedBackx4
import Derived.Test.YtmohmmpcadlfkaaDoorPTaggedBackx5
import Derived.Test.YtmohmmpcadlfkaaDoorPTaggedBackx6
import Derived.Test.YtmohmmpcadlfkaaDoorPTaggedBackx7
namespace Go.Proofs.YtmohmmpcadlfkaaDoor.PTaggedBack
open Go.RowKit Go.Proofs.YtmohmmpcadlfkaaDoorW.PrintWords Go.Proofs.YtmohmmpcadlfkaaDoorW.PrintLast Go.Proofs.YtmohmmpcadlfkaaDoorW.PrintMore
attribute [local go_sem] max2_int min2_int max_two min_two max_three min_three max_four min_four   -- for this text's walks alone
set_option linter.unusedVariables false
set_option linter.unusedSimpArgs false

attribute [local go_sem high] eqA26

/-! ### tagged_peers: function 54 -/
def tpeersL (k : Nat) : Nat → List S26 → Int → Int → List Int → Int → Option (List S26 × List Int × Int)
  | 0, _, _, _, _, _ => none
  | q + 1, acc, n, i, rest, met => if i < n then (tpeer k rest met).bind fun p => if acc.length < 8796093022208 then tpeersL k q (acc ++ [⟨p.1, p.2.1⟩]) n (IntKind.u64.wrap (i + 1)) p.2.2.1 p.2.2.2 else none else some (acc, rest, met)
def tpeers (k : Nat) (rest : List Int) (met : Int) : Option (List S26 × List Int × Int) := (rU k rest met 16).bind fun u => tpeersL k k [] u.1 0 u.2.1 u.2.2
theorem below_grown {w0 W W1 : World} {row : Option Nat} {N : Nat} (h : Below w0.heap.size w0 W) (hg : W.grownBy W1 row) (hr : row = none ∨ ∃ b, row = some b ∧ N ≤ b) (hN : w0.heap.size ≤ N) : Below w0.heap.size w0 W1 :=
  ⟨hg.os.trans h.os, hg.tape.trans h.tape, hg.output.trans h.output, Nat.le_trans h.size hg.size, fun k hk => (hg.block k (Nat.lt_of_lt_of_le hk h.size) (by rcases hr with rfl | ⟨b, rfl, hb⟩ <;> simp <;> omega)).trans (h.block k hk)⟩
theorem RS.grown {w0 W W1 : World} {g : Nat} {rest : List Int} {met : Int} {row : Option Nat} {N : Nat} (h : RS w0 W g rest met) (hg : W.grownBy W1 row) (hr : row = none ∨ ∃ b, row = some b ∧ N ≤ b) (hN : g < N) : RS w0 W1 g rest met := by
  have hge := h.st.ge
  have hlt := h.st.lt
  obtain ⟨h0, wb, hb, hs⟩ := h.st
  obtain ⟨A, c, hx, hc, hC⟩ := hs.ex
  have hwb := hs.ge
  refine ⟨⟨h0, wb, hb, ⟨⟨A, c, ?_, hc, hC⟩, hwb, hs.small, below_grown hs.bel hg hr (by omega)⟩⟩, below_grown h.bel hg hr (by omega)⟩
  refine (hg.block g hlt ?_).trans hx
  rcases hr with rfl | ⟨b, rfl, hb⟩ <;> simp <;> omega
set_option maxHeartbeats 2000000 in
set_option maxRecDepth 100000 in
theorem tpeers.calls (k g : Nat) (rest : List Int) (met : Int) (l : List S26) (r1 : List Int) (m1 : Int) (w0 w : World) (hS : RS w0 w g rest met) (h : tpeers k rest met = some (l, r1, m1)) :
    Calls Tryd.prog 54 #[.pointer (some ⟨g, 0, none⟩)] w fun e w' => ∃ v : Value, e = .returned v ∧ Kd.R k26 26 w' w.heap.size (fun _ => True) v l ∧ RS w0 w' g r1 m1 ∧ KeepBut w w' g none := by
  have hu26 := Tryd.underlying26
  unfold tpeers at h
  obtain ⟨⟨n, q1, e1⟩, h1, h⟩ := Option.bind_eq_some_iff.mp h
  have H1 := Aside0.mk h1
  have H2 := Aside0.mk h
  have HS0 := Aside0.mk hS
  have HG := Aside0.mk hS.st.lt
  clear h h1 hS
  go_enter Tryd.func54, Tryd.ntmps54
  go_wp2_with (go_at_call 22; (with_reducible refine (rU.calls k g rest met _ n q1 e1 w0 w HS0.out H1.out).mono ?_); rintro e w1 ⟨rfl, hs, hk⟩; have HS1 := Aside0.mk hs; have HK1 := Aside0.mk hk; clear hs hk)
  go_loopg [3, 6] k (fun kq v3 v6 wr => ∃ (acc : List S26) (i : Int) (rs : List Int) (mt : Int), v6 = .int .u64 i ∧ Aside0 (tpeersL k kq acc n i rs mt = some (l, r1, m1)) ∧ Aside0 (kq ≤ k) ∧ Aside0 (Kd.R k26 26 wr w.heap.size (fun _ => True) v3 acc) ∧ Aside0 (RS w0 wr g rs mt) ∧ Aside0 (KeepBut w wr g none))
  case atStart => exact ⟨[], 0, q1, e1, rfl, H2, ⟨Nat.le_refl _⟩, ⟨Kd.R_nil _ _ _ _ _⟩, HS1, HK1⟩
  case round =>
    obtain ⟨acc, i, rs, mt, rfl, HA, HQ, HO, HSi, HKi⟩ := hrel
    cases gk with
    | zero => exact absurd HA.out (by simp [tpeersL])
    | succ m =>
      have hA := HA.out
      rw [tpeersL] at hA
      clear HA
      by_cases c : i < n
      · rw [if_pos c] at hA
        have d : decide (i < n) = true := decide_eq_true c
        obtain ⟨⟨p0, p1, q2, e2⟩, hp, hA⟩ := Option.bind_eq_some_iff.mp hA
        by_cases c2 : acc.length < 8796093022208
        case neg => rw [if_neg c2] at hA; cases hA
        rw [if_pos c2] at hA
        have HP := Aside0.mk hp
        have HL := Aside0.mk c2
        have HA2 := Aside0.mk hA
        clear c c2 hp hA
        go_wp2_with (first | (go_at_call 53; (with_reducible refine (tpeer.calls k g rs mt p0 p1 q2 e2 w0 wr HSi.out HP.out).mono ?_); rintro e w2 ⟨rfl, hs, hk⟩; have HO2 := Aside0.mk (HSi.out.keepR HO.out (by decide) hk); have HS2 := Aside0.mk hs; have HK2 := Aside0.mk (KeepBut.trans HKi.out hk (.inl rfl)); clear hs hk) | ((with_reducible refine gate_builtin (b := .append) (xs := #[.tmp 8, .tmp 11]) rfl ?_); at_builtin; refine Kd.R_append k26 w.heap.size rfl (.tmp 8) (.tmp 11) 27 26 (.agg #[(.int .u64 0), (.int .u16 0)]) 16 rfl Tryd.underlying27 info26 rfl (by decide) (by omega) u3 acc (⟨p0, p1⟩ : S26) [.int .u64 p0, .int .u16 p1] (fun _ => True) (fun _ => False) rfl rfl ?aP (fun _ hk => hk.elim) ?aF ?aO (Below.refl _ _) ?aS ?aL ?_; (case aP => exact k26_mkM _ _ _ (⟨p0, p1⟩ : S26)); (case aF => exact (fun _ _ => trivial)); (case aO => exact HO2.out); (case aS => exact keep_size HK2.out); (case aL => have := HL.out; omega); intro v8 w3 ho hb hg hat; have HS3 := Aside0.mk (HS2.out.grown hg (Kd.R_base2 HO2.out) HG.out); have HK3 := Aside0.mk (KeepBut.trans HK2.out (KeepBut.of_grown hg g) (Kd.R_base2 HO2.out)); have HO3 := Aside0.mk ho; clear ho hb hg hat))
        go_roundg m
        case measure => have := HQ.out; omega
        case rel => exact ⟨acc ++ [⟨p0, p1⟩], _, q2, e2, rfl, HA2, ⟨by have := HQ.out; omega⟩, HO3, HS3, HK3⟩
      · rw [if_neg c] at hA
        have d : decide (i < n) = false := decide_eq_false c
        obtain ⟨rfl, rfl, rfl⟩ : acc = l ∧ rs = r1 ∧ mt = m1 := by simpa using hA
        clear c hA
        go_wp2
        go_ret
        exact ⟨_, rfl, HO.out, HSi.out, HKi.out⟩


/-! ### tagged_pairs: function 55 -/
def rT (k : Nat) (rest : List Int) (met most : Int) : Option (ByteArray × List Int × Int) := (buf_Reader_Text.f k true rest met most).bind fun t => if t.2.1 = true then some (t.1, t.2.2.1, t.2.2.2) else none
theorem rT.calls (k g : Nat) (rest : List Int) (met most : Int) (s : ByteArray) (r1 : List Int) (m1 : Int) (w0 w : World) (hS : RS w0 w g rest met) (h : rT k rest met most = some (s, r1, m1)) :
    Calls Tryd.prog 52 #[.pointer (some ⟨g, 0, none⟩), .int .i64 most] w fun e w' => e = .returned (.string s) ∧ RS w0 w' g r1 m1 ∧ KeepBut w w' g none := by
  obtain ⟨⟨a, b, c, d⟩, hu, h⟩ := Option.bind_eq_some_iff.mp h
  cases b with
  | false => simp at h
  | true =>
    simp only [if_true] at h
    obtain ⟨rfl, rfl, rfl⟩ : _ = _ ∧ _ = _ ∧ _ = _ := by simpa using h
    exact (buf_Reader_Text.calls k g true rest met most _ true _ _ w0 w hS.st hS.bel hu).mono fun e w' ⟨he, hi, hb, hk⟩ => ⟨he, ⟨hi, hb⟩, hk⟩
def tpairsL (k : Nat) : Nat → List S43 → Int → Int → List Int → Int → Option (List S43 × List Int × Int)
  | 0, _, _, _, _, _ => none
  | q + 1, acc, n, i, rest, met => if i < n then (rT k rest met 96).bind fun a => (rT k a.2.1 a.2.2 512).bind fun b => if acc.length < 4398046511104 then tpairsL k q (acc ++ [⟨a.1, b.1⟩]) n (IntKind.u64.wrap (i + 1)) b.2.1 b.2.2 else none else some (acc, rest, met)
def tpairs (k : Nat) (rest : List Int) (met : Int) : Option (List S43 × List Int × Int) := (rU k rest met 8).bind fun u => tpairsL k k [] u.1 0 u.2.1 u.2.2
set_option maxHeartbeats 2000000 in
set_option maxRecDepth 100000 in
theorem tpairs.calls (k g : Nat) (rest : List Int) (met : Int) (l : List S43) (r1 : List Int) (m1 : Int) (w0 w : World) (hS : RS w0 w g rest met) (h : tpairs k rest met = some (l, r1, m1)) :
    Calls Tryd.prog 55 #[.pointer (some ⟨g, 0, none⟩)] w fun e w' => ∃ v : Value, e = .returned v ∧ Kd.R k43 43 w' w.heap.size (fun _ => True) v l ∧ RS w0 w' g r1 m1 ∧ KeepBut w w' g none := by
  have hu43 := Tryd.underlying43
  unfold tpairs at h
  obtain ⟨⟨n, q1, e1⟩, h1, h⟩ := Option.bind_eq_some_iff.mp h
  have H1 := Aside0.mk h1
  have H2 := Aside0.mk h
  have HS0 := Aside0.mk hS
  have HG := Aside0.mk hS.st.lt
  clear h h1 hS
  go_enter Tryd.func55, Tryd.ntmps55
  go_wp2_with (go_at_call 22; (with_reducible refine (rU.calls k g rest met _ n q1 e1 w0 w HS0.out H1.out).mono ?_); rintro e w1 ⟨rfl, hs, hk⟩; have HS1 := Aside0.mk hs; have HK1 := Aside0.mk hk; clear hs hk)
  go_loopg [3, 7] k (fun kq v3 v7 wr => ∃ (acc : List S43) (i : Int) (rs : List Int) (mt : Int), v7 = .int .u64 i ∧ Aside0 (tpairsL k kq acc n i rs mt = some (l, r1, m1)) ∧ Aside0 (kq ≤ k) ∧ Aside0 (Kd.R k43 43 wr w.heap.size (fun _ => True) v3 acc) ∧ Aside0 (RS w0 wr g rs mt) ∧ Aside0 (KeepBut w wr g none))
  case atStart => exact ⟨[], 0, q1, e1, rfl, H2, ⟨Nat.le_refl _⟩, ⟨Kd.R_nil _ _ _ _ _⟩, HS1, HK1⟩
  case round =>
    obtain ⟨acc, i, rs, mt, rfl, HA, HQ, HO, HSi, HKi⟩ := hrel
    cases gk with
    | zero => exact absurd HA.out (by simp [tpairsL])
    | succ m =>
      have hA := HA.out
      rw [tpairsL] at hA
      clear HA
      by_cases c : i < n
      · rw [if_pos c] at hA
        have d : decide (i < n) = true := decide_eq_true c
        obtain ⟨⟨p0, q2, e2⟩, hp, hA⟩ := Option.bind_eq_some_iff.mp hA
        obtain ⟨⟨p1, q3, e3⟩, hp2, hA⟩ := Option.bind_eq_some_iff.mp hA
        by_cases c2 : acc.length < 4398046511104
        case neg => rw [if_neg c2] at hA; cases hA
        rw [if_pos c2] at hA
        have HP := Aside0.mk hp
        have HP2 := Aside0.mk hp2
        have HL := Aside0.mk c2
        have HA2 := Aside0.mk hA
        clear c c2 hp hp2 hA
        go_wp2_with (first | (go_at_call 52; (with_reducible refine (rT.calls k g rs mt _ p0 q2 e2 w0 _ HSi.out HP.out).mono ?_); rintro e w2 ⟨rfl, hs, hk⟩; have HO2 := Aside0.mk (HSi.out.keepR HO.out (by decide) hk); have HS2 := Aside0.mk hs; have HK2 := Aside0.mk (KeepBut.trans HKi.out hk (.inl rfl)); clear hs hk) | (go_at_call 52; (with_reducible refine (rT.calls k g q2 e2 _ p1 q3 e3 w0 _ HS2.out HP2.out).mono ?_); rintro e w4 ⟨rfl, hs, hk⟩; have HO4 := Aside0.mk (HS2.out.keepR HO2.out (by decide) hk); have HS4 := Aside0.mk hs; have HK4 := Aside0.mk (KeepBut.trans HK2.out hk (.inl rfl)); clear hs hk) | ((with_reducible refine gate_builtin (b := .append) (xs := #[.tmp 11, .tmp 16]) rfl ?_); at_builtin; refine Kd.R_append k43 w.heap.size rfl (.tmp 11) (.tmp 16) 28 43 (.agg #[(.string ⟨#[]⟩), (.string ⟨#[]⟩)]) 32 rfl Tryd.underlying28 info43 rfl (by decide) (by omega) u3 acc (⟨p0, p1⟩ : S43) [.string p0, .string p1] (fun _ => True) (fun _ => False) rfl rfl ?aP (fun _ hk => hk.elim) ?aF ?aO (Below.refl _ _) ?aS ?aL ?_; (case aP => exact k43_mkM _ _ _ (⟨p0, p1⟩ : S43)); (case aF => exact (fun _ _ => trivial)); (case aO => exact HO4.out); (case aS => exact keep_size HK4.out); (case aL => have := HL.out; omega); intro v8 w5 ho hb hg hat; have HS5 := Aside0.mk (HS4.out.grown hg (Kd.R_base2 HO4.out) HG.out); have HK5 := Aside0.mk (KeepBut.trans HK4.out (KeepBut.of_grown hg g) (Kd.R_base2 HO4.out)); have HO5 := Aside0.mk ho; clear ho hb hg hat))
        go_roundg m
        case measure => have := HQ.out; omega
        case rel => exact ⟨acc ++ [⟨p0, p1⟩], _, q3, e3, rfl, HA2, ⟨by have := HQ.out; omega⟩, HO5, HS5, HK5⟩
      · rw [if_neg c] at hA
        have d : decide (i < n) = false := decide_eq_false c
        obtain ⟨rfl, rfl, rfl⟩ : acc = l ∧ rs = r1 ∧ mt = m1 := by simpa using hA
        clear c hA
        go_wp2
        go_ret
        exact ⟨_, rfl, HO.out, HSi.out, HKi.out⟩


/-! ### tagged_field: function 26 -/
/-! ### a message that is read, in its own block -/
structure Mg where
  k : Int
  r : Int
  c : Int
  h : Bool
  i : Int
  key : ByteArray
  val : ByteArray
  p : Int
  a : Int
  ps : List S26
  qs : List S43
def Mg.row (m : Mg) (v9 v10 : Value) : Array Value := #[.int .i64 m.k, .int .u32 m.r, .int .u8 m.c, .bool m.h, .int .u64 m.i, .string m.key, .string m.val, .int .u64 m.p, .int .u16 m.a, v9, v10]
structure MgR (W : World) (base b : Nat) (m : Mg) (v9 v10 : Value) : Prop where
  bx : W.heap[b]? = some (.cells #[.int .i64 m.k, .int .u32 m.r, .int .u8 m.c, .bool m.h, .int .u64 m.i, .string m.key, .string m.val, .int .u64 m.p, .int .u16 m.a, v9, v10] 30 (0, 0))
  r9 : Kd.R k26 26 W base (fun _ => True) v9 m.ps
  r10 : Kd.R k43 43 W base (fun _ => True) v10 m.qs
def MgS (W : World) (base b : Nat) (m : Mg) : Prop := ∃ v9 v10, MgR W base b m v9 v10
theorem MgR.later {W W1 : World} {base b : Nat} {m : Mg} {v9 v10 : Value} (h : MgR W base b m v9 v10) (hb : Below W.heap.size W W1) : MgR W1 base b m v9 v10 := ⟨blk_below h.bx hb, Kd.R_below h.r9 hb, Kd.R_below h.r10 hb⟩
theorem MgR.reader {w0 W W1 : World} {g base b : Nat} {rest : List Int} {met : Int} {m : Mg} {v9 v10 : Value} (h : MgR W base b m v9 v10) (hS : RS w0 W g rest met) (hk : KeepBut W W1 g none) (hgb : g ≠ b) : MgR W1 base b m v9 v10 := ⟨hk.blk h.bx (Ne.symm hgb) (by simp), hS.keepR h.r9 (by decide) hk, hS.keepR h.r10 (by decide) hk⟩
theorem R_setb {α : Type} {d : Kd α} {e base b : Nat} {ok : Nat → Prop} {W : World} {v : Value} {xs : List α} {cs : Array Value} (h : d.R e W base ok v xs) (hb : W.heap[b]? = some (.cells cs 30 (0, 0))) (ht : ∀ q, q ∈ e :: d.E → q ≠ 30) (j : Nat) (u : Value) : d.R e (W.setCell ⟨b, j, none⟩ u) base ok v xs :=
  Kd.R_mono (Kd.R_keep (Kd.R_types h hb ht) (KeepBut.set_ (KeepBut.refl W b none) j u) (fun _ h => h.2)) (fun _ h => h.1)
theorem MgR.set {W : World} {base b : Nat} {m m1 : Mg} {v9 v10 u9 u10 : Value} (h : MgR W base b m v9 v10) (j : Nat) (u : Value) (hp : (m.row v9 v10).setIfInBounds j u = m1.row u9 u10) (h9 : Kd.R k26 26 W base (fun _ => True) u9 m1.ps) (h10 : Kd.R k43 43 W base (fun _ => True) u10 m1.qs) : MgR (W.setCell ⟨b, j, none⟩ u) base b m1 u9 u10 := by
  have q := blk_set h.bx j u
  rw [show #[.int .i64 m.k, .int .u32 m.r, .int .u8 m.c, .bool m.h, .int .u64 m.i, .string m.key, .string m.val, .int .u64 m.p, .int .u16 m.a, v9, v10] = m.row v9 v10 from rfl, hp] at q
  exact ⟨q, R_setb h9 h.bx (by decide) j u, R_setb h10 h.bx (by decide) j u⟩
theorem MgR.peer {W : World} {base b : Nat} {m : Mg} {v9 v10 : Value} (h : MgR W base b m v9 v10) (u1 u2 n n2 : Int) (e1 : u1 = n) (e2 : u2 = n2) : MgR ((W.setCell ⟨b, 7, none⟩ (.int .u64 u1)).setCell ⟨b, 8, none⟩ (.int .u16 u2)) base b { m with p := n, a := n2 } v9 v10 := by
  subst e1 e2
  exact (h.set (m1 := { m with p := u1 }) 7 (.int .u64 u1) rfl h.r9 h.r10).set (m1 := { m with p := u1, a := u2 }) 8 (.int .u16 u2) rfl (R_setb h.r9 h.bx (by decide) _ _) (R_setb h.r10 h.bx (by decide) _ _)
theorem MgR.cell {W : World} {base b : Nat} {m : Mg} {v9 v10 : Value} (h : MgR W base b m v9 v10) (j : Nat) : W.cell? ⟨b, j, none⟩ = (m.row v9 v10)[j]? := blk_cell h.bx j
def tfield (k : Nat) (tag : Int) (m : Mg) (rest : List Int) (met : Int) : Option (Bool × Mg × List Int × Int) :=
  if tag = 1 then (rU k rest met 4294967295).bind fun a => some (decide ((IntKind.u32.wrap a.1) = 0), { m with r := (IntKind.u32.wrap a.1) }, a.2.1, a.2.2) else
  if tag = 2 then (rU k rest met 255).bind fun a => some (decide ((IntKind.u8.wrap a.1) = 0), { m with c := (IntKind.u8.wrap a.1) }, a.2.1, a.2.2) else
  if tag = 3 then some (false, { m with h := true }, rest, met) else
  if tag = 4 then (rU k rest met 18446744073709551615).bind fun a => some (decide (a.1 = 0), { m with i := a.1 }, a.2.1, a.2.2) else
  if tag = 5 then (rT k rest met 96).bind fun a => some (a.1.toList.isEmpty, { m with key := a.1 }, a.2.1, a.2.2) else
  if tag = 6 then (rT k rest met 512).bind fun a => some (a.1.toList.isEmpty, { m with val := a.1 }, a.2.1, a.2.2) else
  if tag = 7 then (tpeer k rest met).bind fun a => some (decide (a.1 = 0) && decide (a.2.1 = 0), { m with p := a.1, a := a.2.1 }, a.2.2.1, a.2.2.2) else
  if tag = 8 then (tpeers k rest met).bind fun a => some (((a.1.length : Int) == 0), { m with ps := a.1 }, a.2.1, a.2.2) else
  if tag = 9 then (tpairs k rest met).bind fun a => some (((a.1.length : Int) == 0), { m with qs := a.1 }, a.2.1, a.2.2) else
  some (true, m, rest, met)
set_option maxHeartbeats 4000000 in
set_option maxRecDepth 100000 in
theorem tfield.calls (k g b base : Nat) (tag : Int) (m m1 : Mg) (x : Bool) (rest : List Int) (met : Int) (r1 : List Int) (e1 : Int) (w0 w : World) (hS : RS w0 w g rest met) (hM : MgS w base b m) (hgb : g < b) (hbs : base ≤ w.heap.size) (h : tfield k tag m rest met = some (x, m1, r1, e1)) :
    Calls Tryd.prog 26 #[.pointer (some ⟨g, 0, none⟩), .int .u64 tag, .pointer (some ⟨b, 0, none⟩)] w fun e w' => e = .returned (.bool x) ∧ RS w0 w' g r1 e1 ∧ MgS w' base b m1 ∧ (∀ (i : Nat) (cs : Array Value) (ty : TypeId), i ≠ g → i ≠ b → w.heap[i]? = some (.cells cs ty (0, 0)) → w'.heap[i]? = some (.cells cs ty (0, 0))) := by
  have hu26 := Tryd.underlying26
  have hu30 := Tryd.underlying30
  obtain ⟨v9, v10, hR⟩ := hM
  have HS := Aside0.mk hS
  have HM := Aside0.mk hR
  have HGB := Aside0.mk hgb
  have HBS := Aside0.mk hbs
  clear hS hR hbs hgb
  unfold tfield at h
  by_cases c1 : tag = 1
  · rw [if_pos c1] at h
    subst c1
    obtain ⟨⟨n, q, e⟩, hu, h⟩ := Option.bind_eq_some_iff.mp h
    cases h
    have HU := Aside0.mk hu
    clear hu
    go_enter Tryd.func26, Tryd.ntmps26
    go_wp2_with (go_at_call 22; (with_reducible refine (rU.calls k g rest met _ n q e w0 w HS.out HU.out).mono ?_); rintro e w1 ⟨rfl, hs, hk⟩; have HS1 := Aside0.mk hs; have HK := Aside0.mk hk; have HM1 := Aside0.mk (HM.out.reader HS.out hk (Nat.ne_of_lt HGB.out)); have hc1 : w1.cell? ⟨b, 1, none⟩ = some _ := (HM1.out.cell 1).trans rfl; have hf1 := blk_frozen HM1.out.bx 1; clear hs hk)
    go_ret
    exact ⟨rfl, HS1.out.far HGB.out _, ⟨_, _, HM1.out.set 1 _ rfl HM1.out.r9 HM1.out.r10⟩, fun i _ _ h1 h2 h3 => blk_far (HK.out.blk h3 h1 (by simp)) (p := ⟨b, 1, none⟩) h2 _⟩
  rw [if_neg c1] at h
  by_cases c2 : tag = 2
  · rw [if_pos c2] at h
    subst c2
    obtain ⟨⟨n, q, e⟩, hu, h⟩ := Option.bind_eq_some_iff.mp h
    cases h
    have HU := Aside0.mk hu
    clear hu
    go_enter Tryd.func26, Tryd.ntmps26
    go_wp2_with (go_at_call 22; (with_reducible refine (rU.calls k g rest met _ n q e w0 w HS.out HU.out).mono ?_); rintro e w1 ⟨rfl, hs, hk⟩; have HS1 := Aside0.mk hs; have HK := Aside0.mk hk; have HM1 := Aside0.mk (HM.out.reader HS.out hk (Nat.ne_of_lt HGB.out)); have hc2 : w1.cell? ⟨b, 2, none⟩ = some _ := (HM1.out.cell 2).trans rfl; have hf2 := blk_frozen HM1.out.bx 2; clear hs hk)
    go_ret
    exact ⟨rfl, HS1.out.far HGB.out _, ⟨_, _, HM1.out.set 2 _ rfl HM1.out.r9 HM1.out.r10⟩, fun i _ _ h1 h2 h3 => blk_far (HK.out.blk h3 h1 (by simp)) (p := ⟨b, 2, none⟩) h2 _⟩
  rw [if_neg c2] at h
  by_cases c3 : tag = 3
  · rw [if_pos c3] at h
    subst c3
    cases h
    have hc3 : w.cell? ⟨b, 3, none⟩ = some _ := (HM.out.cell 3).trans rfl
    have hf3 := blk_frozen HM.out.bx 3
    go_enter Tryd.func26, Tryd.ntmps26
    go_wp2
    go_ret
    exact ⟨rfl, HS.out.far HGB.out _, ⟨_, _, HM.out.set 3 _ rfl HM.out.r9 HM.out.r10⟩, fun i _ _ _ h2 h3 => blk_far h3 (p := ⟨b, 3, none⟩) h2 _⟩
  rw [if_neg c3] at h
  by_cases c4 : tag = 4
  · rw [if_pos c4] at h
    subst c4
    obtain ⟨⟨n, q, e⟩, hu, h⟩ := Option.bind_eq_some_iff.mp h
    cases h
    have HU := Aside0.mk hu
    clear hu
    go_enter Tryd.func26, Tryd.ntmps26
    go_wp2_with (go_at_call 22; (with_reducible refine (rU.calls k g rest met _ n q e w0 w HS.out HU.out).mono ?_); rintro e w1 ⟨rfl, hs, hk⟩; have HS1 := Aside0.mk hs; have HK := Aside0.mk hk; have HM1 := Aside0.mk (HM.out.reader HS.out hk (Nat.ne_of_lt HGB.out)); have hc4 : w1.cell? ⟨b, 4, none⟩ = some _ := (HM1.out.cell 4).trans rfl; have hf4 := blk_frozen HM1.out.bx 4; clear hs hk)
    go_ret
    exact ⟨rfl, HS1.out.far HGB.out _, ⟨_, _, HM1.out.set 4 _ rfl HM1.out.r9 HM1.out.r10⟩, fun i _ _ h1 h2 h3 => blk_far (HK.out.blk h3 h1 (by simp)) (p := ⟨b, 4, none⟩) h2 _⟩
  rw [if_neg c4] at h
  by_cases c5 : tag = 5
  · rw [if_pos c5] at h
    subst c5
    obtain ⟨⟨n, q, e⟩, hu, h⟩ := Option.bind_eq_some_iff.mp h
    cases h
    have HU := Aside0.mk hu
    clear hu
    go_enter Tryd.func26, Tryd.ntmps26
    go_wp2_with (go_at_call 52; (with_reducible refine (rT.calls k g rest met _ n q e w0 w HS.out HU.out).mono ?_); rintro e w1 ⟨rfl, hs, hk⟩; have HS1 := Aside0.mk hs; have HK := Aside0.mk hk; have HM1 := Aside0.mk (HM.out.reader HS.out hk (Nat.ne_of_lt HGB.out)); have hc5 : w1.cell? ⟨b, 5, none⟩ = some _ := (HM1.out.cell 5).trans rfl; have hf5 := blk_frozen HM1.out.bx 5; clear hs hk)
    go_ret
    exact ⟨rfl, HS1.out.far HGB.out _, ⟨_, _, HM1.out.set 5 _ rfl HM1.out.r9 HM1.out.r10⟩, fun i _ _ h1 h2 h3 => blk_far (HK.out.blk h3 h1 (by simp)) (p := ⟨b, 5, none⟩) h2 _⟩
  rw [if_neg c5] at h
  by_cases c6 : tag = 6
  · rw [if_pos c6] at h
    subst c6
    obtain ⟨⟨n, q, e⟩, hu, h⟩ := Option.bind_eq_some_iff.mp h
    cases h
    have HU := Aside0.mk hu
    clear hu
    go_enter Tryd.func26, Tryd.ntmps26
    go_wp2_with (go_at_call 52; (with_reducible refine (rT.calls k g rest met _ n q e w0 w HS.out HU.out).mono ?_); rintro e w1 ⟨rfl, hs, hk⟩; have HS1 := Aside0.mk hs; have HK := Aside0.mk hk; have HM1 := Aside0.mk (HM.out.reader HS.out hk (Nat.ne_of_lt HGB.out)); have hc6 : w1.cell? ⟨b, 6, none⟩ = some _ := (HM1.out.cell 6).trans rfl; have hf6 := blk_frozen HM1.out.bx 6; clear hs hk)
    go_ret
    exact ⟨rfl, HS1.out.far HGB.out _, ⟨_, _, HM1.out.set 6 _ rfl HM1.out.r9 HM1.out.r10⟩, fun i _ _ h1 h2 h3 => blk_far (HK.out.blk h3 h1 (by simp)) (p := ⟨b, 6, none⟩) h2 _⟩
  rw [if_neg c6] at h
  by_cases c7 : tag = 7
  · rw [if_pos c7] at h
    subst c7
    obtain ⟨⟨n, n2, q, e⟩, hu, h⟩ := Option.bind_eq_some_iff.mp h
    cases h
    have HU := Aside0.mk hu
    clear hu
    go_enter Tryd.func26, Tryd.ntmps26
    go_wp2_with (go_at_call 53; (with_reducible refine (tpeer.calls k g rest met n n2 q e w0 w HS.out HU.out).mono ?_); rintro e w1 ⟨rfl, hs, hk⟩; have HS1 := Aside0.mk hs; have HK := Aside0.mk hk; have HM1 := Aside0.mk (HM.out.reader HS.out hk (Nat.ne_of_lt HGB.out)); have hc7 : w1.cell? ⟨b, 7, none⟩ = some _ := (HM1.out.cell 7).trans rfl; have hf7 := blk_frozen HM1.out.bx 7; have hc8 : w1.cell? ⟨b, 8, none⟩ = some _ := (HM1.out.cell 8).trans rfl; have hf8 := blk_frozen HM1.out.bx 8; clear hs hk)
    all_goals go_ret
    all_goals exact ⟨by first | (simp [*]; done) | (simp [*] <;> rfl), (HS1.out.far HGB.out _).far HGB.out _, ⟨_, _, HM1.out.peer _ _ n n2 (by first | rfl | omega) (by first | rfl | omega)⟩, fun i _ _ h1 h2 h3 => blk_far (blk_far (HK.out.blk h3 h1 (by simp)) (p := ⟨b, 7, none⟩) h2 _) (p := ⟨b, 8, none⟩) h2 _⟩
  rw [if_neg c7] at h
  by_cases c8 : tag = 8
  · rw [if_pos c8] at h
    subst c8
    obtain ⟨⟨n, q, e⟩, hu, h⟩ := Option.bind_eq_some_iff.mp h
    cases h
    have HU := Aside0.mk hu
    clear hu
    go_enter Tryd.func26, Tryd.ntmps26
    go_wp2_with (go_at_call 54; (with_reducible refine (tpeers.calls k g rest met n q e w0 w HS.out HU.out).mono ?_); rintro e w1 ⟨v, rfl, hv, hs, hk⟩; obtain ⟨A1, d1, rfl⟩ := Kd.R_slice hv; have HV := Aside0.mk (Kd.R_lower hv HBS.out); have HS1 := Aside0.mk hs; have HK := Aside0.mk hk; have HM1 := Aside0.mk (HM.out.reader HS.out hk (Nat.ne_of_lt HGB.out)); have hc9 : w1.cell? ⟨b, 9, none⟩ = some _ := (HM1.out.cell 9).trans rfl; have hf9 := blk_frozen HM1.out.bx 9; clear hs hk hv)
    all_goals go_ret
    all_goals exact ⟨rfl, HS1.out.far HGB.out _, ⟨_, _, HM1.out.set 9 _ rfl HV.out HM1.out.r10⟩, fun i _ _ h1 h2 h3 => blk_far (HK.out.blk h3 h1 (by simp)) (p := ⟨b, 9, none⟩) h2 _⟩
  rw [if_neg c8] at h
  by_cases c9 : tag = 9
  · rw [if_pos c9] at h
    subst c9
    obtain ⟨⟨n, q, e⟩, hu, h⟩ := Option.bind_eq_some_iff.mp h
    cases h
    have HU := Aside0.mk hu
    clear hu
    go_enter Tryd.func26, Tryd.ntmps26
    go_wp2_with (go_at_call 55; (with_reducible refine (tpairs.calls k g rest met n q e w0 w HS.out HU.out).mono ?_); rintro e w1 ⟨v, rfl, hv, hs, hk⟩; obtain ⟨A1, d1, rfl⟩ := Kd.R_slice hv; have HV := Aside0.mk (Kd.R_lower hv HBS.out); have HS1 := Aside0.mk hs; have HK := Aside0.mk hk; have HM1 := Aside0.mk (HM.out.reader HS.out hk (Nat.ne_of_lt HGB.out)); have hc10 : w1.cell? ⟨b, 10, none⟩ = some _ := (HM1.out.cell 10).trans rfl; have hf10 := blk_frozen HM1.out.bx 10; clear hs hk hv)
    all_goals go_ret
    all_goals exact ⟨rfl, HS1.out.far HGB.out _, ⟨_, _, HM1.out.set 10 _ rfl HM1.out.r9 HV.out⟩, fun i _ _ h1 h2 h3 => blk_far (HK.out.blk h3 h1 (by simp)) (p := ⟨b, 10, none⟩) h2 _⟩
  rw [if_neg c9] at h
  cases h
  go_enter Tryd.func26, Tryd.ntmps26
  go_wp2
  go_ret
  exact ⟨rfl, HS.out, ⟨_, _, HM.out⟩, fun _ _ _ _ _ h => h⟩


/-! ### buf_Reader_Err: function 27 -/
set_option maxHeartbeats 400000 in
set_option maxRecDepth 100000 in
theorem rd_Err (g : Nat) (rest : List Int) (met : Int) (w0 w : World) (hI : RdS 80 w0 w g rest met) :
    Calls Tryd.prog 27 #[.pointer (some ⟨g, 0, none⟩)] w fun e w' => e = .returned (.int .i64 met) ∧ w = w' := by
  obtain ⟨A, c, HG, hg, HS⟩ := hI.ex
  have h0 : w.cell? ⟨g, 0, none⟩ = some (.bool true) := (blk_cell HG 0).trans rfl
  have h2 : w.cell? ⟨g, 2, none⟩ = some (.int .i64 met) := (blk_cell HG 2).trans rfl
  clear HG hg HS hI
  go_enter Tryd.func27, Tryd.ntmps27
  go_wp2
  go_ret
  exact ⟨by first | rfl | simp, by rfl⟩
set_option maxHeartbeats 400000 in
set_option maxRecDepth 100000 in
theorem rd_Err0 (w : World) : Calls Tryd.prog 27 #[.pointer none] w fun e w' => e = .returned (.int .i64 14) ∧ w = w' := by
  go_enter Tryd.func27, Tryd.ntmps27
  go_wp2
  go_ret
  exact ⟨rfl, rfl⟩
def buf_Reader_Err.f (s0_0 : Bool) (s0_1 : List Int) (s0_2 : Int) : Option (Int × Bool × Int) := some (s0_2, s0_0, s0_2)
theorem buf_Reader_Err.calls (g : Nat) (s0_0 : Bool) (s0_1 : List Int) (s0_2 : Int) (r1 : Int) (r2 : Bool) (r3 : Int) (w0 w : World) (hI : IsS80 w0 w g s0_0 s0_1 s0_2) (hB : Below w0.heap.size w0 w) (h : buf_Reader_Err.f s0_0 s0_1 s0_2 = some (r1, r2, r3)) :
    Calls Tryd.prog 27 #[.pointer (some ⟨g, 0, none⟩)] w fun e w' => e = .returned (.int .i64 r1) ∧ IsS80 w0 w' g r2 s0_1 r3 ∧ Below w0.heap.size w0 w' ∧ KeepBut w w' g none := by
  have h := Option.some.inj h
  injection h with e1 h
  injection h with e2 e3
  subst e1 e2
  obtain ⟨h0, wb, hb, hr⟩ := hI
  refine (rd_Err g s0_1 s0_2 wb w hr).mono ?_
  rintro e w' ⟨he, rfl⟩
  exact ⟨he, ⟨h0, wb, hb, e3 ▸ hr⟩, hB, KeepBut.refl _ _ _⟩


/-! ### tagged_Dec: function 10 -/
/-! ### reading a message -/
theorem RS.far11 {w0 W : World} {g : Nat} {rest : List Int} {met : Int} (h : RS w0 W g rest met) {b : Nat} (hp : g < b) (x0 x1 x2 x3 x4 x5 x6 x7 x8 x9 x10 : Value) : RS w0 (set11 W b x0 x1 x2 x3 x4 x5 x6 x7 x8 x9 x10) g rest met := by
  unfold set11
  exact ((((((((((h.far hp _).far hp _).far hp _).far hp _).far hp _).far hp _).far hp _).far hp _).far hp _).far hp _).far hp _
theorem R_set11 {α : Type} {d : Kd α} {e base b : Nat} {ok : Nat → Prop} {W : World} {v : Value} {xs : List α} {cs : Array Value} (h : d.R e W base ok v xs) (hb : W.heap[b]? = some (.cells cs 30 (0, 0))) (ht : ∀ q, q ∈ e :: d.E → q ≠ 30) (x0 x1 x2 x3 x4 x5 x6 x7 x8 x9 x10 : Value) : d.R e (set11 W b x0 x1 x2 x3 x4 x5 x6 x7 x8 x9 x10) base ok v xs :=
  Kd.R_mono (Kd.R_keep (Kd.R_types h hb ht) (keep11 (KeepBut.refl W b none) x0 x1 x2 x3 x4 x5 x6 x7 x8 x9 x10) (fun _ h => h.2)) (fun _ h => h.1)
theorem rFail.calls (g : Nat) (rest : List Int) (met c : Int) (w0 w : World) (hS : RS w0 w g rest met) :
    Calls Tryd.prog 24 #[.pointer (some ⟨g, 0, none⟩), .int .i64 c] w fun e w' => e = .returned (.tuple #[]) ∧ RS w0 w' g rest (if met = 0 then c else met) ∧ KeepBut w w' g none :=
  (buf_Reader_Fail.calls g true rest met c _ _ w0 w hS.st hS.bel rfl).mono fun _ _ ⟨he, hi, hb, hk⟩ => ⟨he, ⟨hi, hb⟩, hk⟩
theorem rLeft.calls (g : Nat) (rest : List Int) (met : Int) (w0 w : World) (hS : RS w0 w g rest met) :
    Calls Tryd.prog 25 #[.pointer (some ⟨g, 0, none⟩)] w fun e w' => e = .returned (.int .i64 (if met = 0 then (rest.length : Int) else 0)) ∧ RS w0 w' g rest met ∧ KeepBut w w' g none :=
  (buf_Reader_Left.calls g true rest met _ _ _ w0 w hS.st hS.bel rfl).mono fun _ _ ⟨he, hi, hb, hk⟩ => ⟨he, ⟨hi, hb⟩, hk⟩
theorem rErr.calls (g : Nat) (rest : List Int) (met : Int) (w0 w : World) (hS : RS w0 w g rest met) :
    Calls Tryd.prog 27 #[.pointer (some ⟨g, 0, none⟩)] w fun e w' => e = .returned (.int .i64 met) ∧ RS w0 w' g rest met ∧ KeepBut w w' g none :=
  (buf_Reader_Err.calls g true rest met _ _ _ w0 w hS.st hS.bel rfl).mono fun _ _ ⟨he, hi, hb, hk⟩ => ⟨he, ⟨hi, hb⟩, hk⟩
def rFailed (b : Bool) (c met : Int) : Int := if b = true then (if met = 0 then c else met) else met
def zMg : Mg := ⟨0, 0, 0, false, 0, ⟨#[]⟩, ⟨#[]⟩, 0, 0, [], []⟩
def tdecL (k : Nat) : Nat → Int → Mg → List Int → Int → Option (Mg × List Int × Int)
  | 0, _, _, _, _ => none
  | q + 1, last, m, rest, met => if 0 < (if met = 0 then (rest.length : Int) else 0) then (rU k rest met 18446744073709551615).bind fun a => if a.1 ≤ last then tdecL k q a.1 m a.2.1 (if a.2.2 = 0 then 3 else a.2.2) else (tfield k a.1 m a.2.1 a.2.2).bind fun b => tdecL k q a.1 b.2.1 b.2.2.1 (rFailed b.1 3 b.2.2.2) else some (m, rest, met)
def tbad (n : Int) : Option Bool := if 255 < n then some true else (msg_Name.f (wrap64 n)).bind fun s => some (decide (s.toList = ([63] : List UInt8)))
def mgRight (k : Nat) (m : Mg) : Option Int := msg_Right.f k m.k m.r m.c m.h m.i m.key m.val m.p m.a m.ps m.qs
def tdec (k : Nat) (l : List Int) : Option (Mg × Int) := if l.length < 140737488355328 then (rU k l 0 18446744073709551615).bind fun a => (tbad a.1).bind fun b => (tdecL k k 0 { zMg with k := wrap64 a.1 } a.2.1 (rFailed b 9 a.2.2)).bind fun t => if t.2.2 = 0 then (mgRight k t.1).bind fun e => if e = 0 then some (t.1, 0) else some (zMg, e) else some (zMg, t.2.2) else none
set_option maxHeartbeats 4000000 in
set_option maxRecDepth 100000 in
theorem tdec.calls (k : Nat) (A0 : Option Addr) (c0 : Nat) (l0 : List Int) (m1 : Mg) (x : Int) (w : World) (hr0 : Kd.C (Kd.int .u8) w A0 l0.length l0) (hc0 : l0.length ≤ c0) (ht : Lib.Utf8Tabs 0 1 w) (h : tdec k l0 = some (m1, x)) :
    Calls Tryd.prog 10 #[.slice A0 l0.length c0] w fun e w' => ∃ v9 v10 : Value, e = .returned (.tuple #[.agg (m1.row v9 v10), .int .i64 x]) ∧ Kd.R k26 26 w' w.heap.size (fun _ => True) v9 m1.ps ∧ Kd.R k43 43 w' w.heap.size (fun _ => True) v10 m1.qs ∧ Below w.heap.size w w' := by
  have hu26 := Tryd.underlying26
  have hu30 := Tryd.underlying30
  unfold tdec at h
  by_cases hl : l0.length < 140737488355328
  case neg => rw [if_neg hl] at h; cases h
  rw [if_pos hl] at h
  obtain ⟨⟨n, q, e0⟩, h1, h⟩ := Option.bind_eq_some_iff.mp h
  obtain ⟨bad, h2, h⟩ := Option.bind_eq_some_iff.mp h
  obtain ⟨⟨M, R1, E1⟩, h3, h4⟩ := Option.bind_eq_some_iff.mp h
  have H0 := Aside0.mk (show buf_Open.f l0 = some (true, l0, 0) by unfold buf_Open.f; rw [if_pos hl])
  have H1 := Aside0.mk h1
  have H2 := Aside0.mk h2
  have H3 := Aside0.mk h3
  have H4 := Aside0.mk h4
  have HTB := Aside0.mk ht
  have HC := Aside0.mk (And.intro hr0 hc0)
  have HW := Aside0.mk (below_alloc (Below.refl w.heap.size w) (.cells #[.int .i64 0, .int .u32 0, .int .u8 0, .bool false, .int .u64 0, .string (⟨#[]⟩ : ByteArray), .string (⟨#[]⟩ : ByteArray), .int .u64 0, .int .u16 0, .slice none 0 0, .slice none 0 0] 30))
  have HN := Aside0.mk (blk_new w (.cells #[.int .i64 0, .int .u32 0, .int .u8 0, .bool false, .int .u64 0, .string (⟨#[]⟩ : ByteArray), .string (⟨#[]⟩ : ByteArray), .int .u64 0, .int .u16 0, .slice none 0 0, .slice none 0 0] 30))
  clear hl h h1 h2 h3 h4 ht hr0 hc0
  go_enter Tryd.func10, Tryd.ntmps10
  go_upto_region 1 with (fail)
  generalize w.alloc (.cells #[.int .i64 0, .int .u32 0, .int .u8 0, .bool false, .int .u64 0, .string (⟨#[]⟩ : ByteArray), .string (⟨#[]⟩ : ByteArray), .int .u64 0, .int .u16 0, .slice none 0 0, .slice none 0 0] 30) = wa at HW HN ⊢
  have HG0 : Aside0 True := ⟨trivial⟩
  go_upto_region 3 with (first | (go_at_call 21; (with_reducible refine (buf_Open.calls A0 c0 l0 true l0 0 w wa HW.out HC.out.1 HC.out.2 H0.out).mono ?_); rintro e w1 ⟨g, rfl, hi, hb, hb2⟩; have HS1 := Aside0.mk (RS.mk hi hb); have HN1 := Aside0.mk (blk_below HN.out hb2); have HNE := Aside0.mk (show w.heap.size ≠ g from fun hh => hi.ne_blk (blk_below HN.out hb2) (by decide) hh.symm); clear hi hb hb2) | (go_at_call 22; (with_reducible refine (rU.calls k g l0 0 _ n q e0 w w1 HS1.out H1.out).mono ?_); rintro e w2 ⟨rfl, hs, hk⟩; have HS2 := Aside0.mk hs; have HN2 := Aside0.mk (hk.blk HN1.out HNE.out (by simp)); clear hs hk))
  go_cut [21] (fun v21 wc => v21 = .bool bad ∧ Aside0 (RS w wc g q e0) ∧ Aside0 (wc.heap[w.heap.size]? = some (.cells #[.int .i64 0, .int .u32 0, .int .u8 0, .bool false, .int .u64 0, .string (⟨#[]⟩ : ByteArray), .string (⟨#[]⟩ : ByteArray), .int .u64 0, .int .u16 0, .slice none 0 0, .slice none 0 0] 30 (0, 0))))
  case first =>
    by_cases c : 255 < n
    · have hb : bad = true := by have := H2.out; unfold tbad at this; rw [if_pos c] at this; simpa using this.symm
      subst hb
      go_wp2
      go_meet
      exact ⟨rfl, HS2, HN2⟩
    · have hb := H2.out
      unfold tbad at hb
      rw [if_neg c] at hb
      obtain ⟨s, hs, hb⟩ := Option.bind_eq_some_iff.mp hb
      have HM := Aside0.mk hs
      have HB := Aside0.mk (Option.some.inj hb)
      clear hb hs
      go_wp2_with (go_at_call 23; (with_reducible refine (msg_Name.calls _ s _ HM.out).mono ?_); rintro e w3 ⟨rfl, hb⟩; have HS3 := Aside0.mk (HS2.out.later hb); have HN3 := Aside0.mk (blk_below HN2.out hb); clear hb)
      go_meet
      exact ⟨by rw [← HB.out]; by_cases hq : s.toList = [63] <;> simp [hq], HS3, HN3⟩
  case rest =>
    obtain ⟨rfl, HSc, HNc⟩ := hcut
    clear HS1 HN1 HS2 HN2
    go_upto_if 21 with (fail)
    go_cut [] (fun wc => Aside0 (RS w wc g q (rFailed bad 9 e0)) ∧ Aside0 (wc.heap[w.heap.size]? = some (.cells #[.int .i64 0, .int .u32 0, .int .u8 0, .bool false, .int .u64 0, .string (⟨#[]⟩ : ByteArray), .string (⟨#[]⟩ : ByteArray), .int .u64 0, .int .u16 0, .slice none 0 0, .slice none 0 0] 30 (0, 0))))
    case first =>
      cases bad with
      | true =>
        go_wp2_with (go_at_call 24; (with_reducible refine (rFail.calls g q e0 _ w _ HSc.out).mono ?_); rintro e w3 ⟨rfl, hs, hk⟩; have HS3 := Aside0.mk hs; have HN3 := Aside0.mk (hk.blk HNc.out HNE.out (by simp)); clear hs hk)
        go_meet
        exact ⟨HS3, HN3⟩
      | false =>
        go_wp2
        go_meet
        exact ⟨HSc, HNc⟩
    case rest =>
      obtain ⟨HSd, HNd⟩ := hcut
      clear HSc HNc
      have HGL := Aside0.mk HSd.out.st.lt
      have HNX := Aside0.mk (blk_lt HNd.out)
      have HNX2 := Aside0.mk (blk_lt HNd.out)
      have HS0 := Aside0.mk (HSd.out.later (below_alloc (Below.refl _ _) (.cells #[.int .i64 (wrap64 n), .int .u32 0, .int .u8 0, .bool false, .int .u64 0, .string (⟨#[]⟩ : ByteArray), .string (⟨#[]⟩ : ByteArray), .int .u64 0, .int .u16 0, .slice none 0 0, .slice none 0 0] 30)))
      have HN0 := Aside0.mk (blk_alloc HNd.out (.cells #[.int .i64 (wrap64 n), .int .u32 0, .int .u8 0, .bool false, .int .u64 0, .string (⟨#[]⟩ : ByteArray), .string (⟨#[]⟩ : ByteArray), .int .u64 0, .int .u16 0, .slice none 0 0, .slice none 0 0] 30))
      have HM0 := Aside0.mk (show MgS (wc.alloc (.cells #[.int .i64 (wrap64 n), .int .u32 0, .int .u8 0, .bool false, .int .u64 0, .string (⟨#[]⟩ : ByteArray), .string (⟨#[]⟩ : ByteArray), .int .u64 0, .int .u16 0, .slice none 0 0, .slice none 0 0] 30)) w.heap.size wc.heap.size { zMg with k := wrap64 n } from ⟨_, _, blk_new wc _, Kd.R_nil _ _ _ _ _, Kd.R_nil _ _ _ _ _⟩)
      have HSZ := Aside0.mk (show w.heap.size ≤ (wc.alloc (.cells #[.int .i64 (wrap64 n), .int .u32 0, .int .u8 0, .bool false, .int .u64 0, .string (⟨#[]⟩ : ByteArray), .string (⟨#[]⟩ : ByteArray), .int .u64 0, .int .u16 0, .slice none 0 0, .slice none 0 0] 30)).heap.size by have := HNX.out; simp; omega)
      go_upto_region 6 with (fail)
      generalize wc.alloc (.cells #[.int .i64 (wrap64 n), .int .u32 0, .int .u8 0, .bool false, .int .u64 0, .string (⟨#[]⟩ : ByteArray), .string (⟨#[]⟩ : ByteArray), .int .u64 0, .int .u16 0, .slice none 0 0, .slice none 0 0] 30) = wd at HS0 HN0 HM0 HSZ ⊢
      go_wp2
      go_loopg [7] k (fun kq v7 wr => ∃ (la : Int) (mm : Mg) (rs : List Int) (mt : Int), v7 = .int .u64 la ∧ Aside0 (tdecL k kq la mm rs mt = some (M, R1, E1)) ∧ Aside0 (kq ≤ k) ∧ Aside0 (RS w wr g rs mt) ∧ Aside0 (MgS wr w.heap.size wc.heap.size mm) ∧ Aside0 (wr.heap[w.heap.size]? = some (.cells #[.int .i64 0, .int .u32 0, .int .u8 0, .bool false, .int .u64 0, .string (⟨#[]⟩ : ByteArray), .string (⟨#[]⟩ : ByteArray), .int .u64 0, .int .u16 0, .slice none 0 0, .slice none 0 0] 30 (0, 0))))
      case atStart => exact ⟨0, _, q, _, rfl, H3, ⟨Nat.le_refl _⟩, HS0, HM0, HN0⟩
      case round =>
        obtain ⟨la, mm, rs, mt, rfl, HA, HQ, HSi, HMi, HNi⟩ := hrel
        clear HS0 HN0 HM0
        cases gk with
        | zero => exact absurd HA.out (by simp [tdecL])
        | succ j =>
          have hA := HA.out
          rw [tdecL] at hA
          clear HA
          by_cases c : 0 < (if mt = 0 then (rs.length : Int) else 0)
          · rw [if_pos c] at hA
            obtain ⟨⟨t, q1, e1⟩, hu, hA⟩ := Option.bind_eq_some_iff.mp hA
            obtain ⟨L0, hL0⟩ : ∃ L0 : Int, (if mt = 0 then (rs.length : Int) else 0) = L0 := ⟨_, rfl⟩
            rw [hL0] at c
            have HL := Aside0.mk hL0
            have HU := Aside0.mk hu
            clear hu hL0
            by_cases c2 : t ≤ la
            · rw [if_pos c2] at hA
              have HA := Aside0.mk hA
              clear hA
              go_wp2_with (first | (go_at_call 25; (with_reducible refine (rLeft.calls g rs mt w wr HSi.out).mono ?_); rintro e w1 ⟨rfl, hs, hk⟩; rw [HL.out]; have HS1 := Aside0.mk hs; have HN1 := Aside0.mk (hk.blk HNi.out HNE.out (by simp)); have HM1 := Aside0.mk (show MgS w1 _ _ mm from by obtain ⟨a, b, hm⟩ := HMi.out; exact ⟨a, b, hm.reader HSi.out hk (Nat.ne_of_lt HGL.out)⟩); clear hs hk) | (go_at_call 22; (with_reducible refine (rU.calls k g rs mt _ t q1 e1 w w1 HS1.out HU.out).mono ?_); rintro e w2 ⟨rfl, hs, hk⟩; have HS2 := Aside0.mk hs; have HN2 := Aside0.mk (hk.blk HN1.out HNE.out (by simp)); have HM2 := Aside0.mk (show MgS w2 _ _ mm from by obtain ⟨a, b, hm⟩ := HM1.out; exact ⟨a, b, hm.reader HS1.out hk (Nat.ne_of_lt HGL.out)⟩); clear hs hk) | (go_at_call 24; (with_reducible refine (rFail.calls g q1 e1 _ w w2 HS2.out).mono ?_); rintro e w3 ⟨rfl, hs, hk⟩; have HS3 := Aside0.mk hs; have HN3 := Aside0.mk (hk.blk HN2.out HNE.out (by simp)); have HM3 := Aside0.mk (show MgS w3 _ _ mm from by obtain ⟨a, b, hm⟩ := HM2.out; exact ⟨a, b, hm.reader HS2.out hk (Nat.ne_of_lt HGL.out)⟩); clear hs hk))
              go_roundg j
              case measure => have := HQ.out; omega
              case rel => exact ⟨t, mm, q1, _, rfl, HA, ⟨by have := HQ.out; omega⟩, HS3, HM3, HN3⟩
            · rw [if_neg c2] at hA
              obtain ⟨⟨x1, m2, q2, e2⟩, hf, hA⟩ := Option.bind_eq_some_iff.mp hA
              cases x1 with
              | true =>
                have HA := Aside0.mk hA
                have HF := Aside0.mk hf
                clear hA hf
                go_wp2_with (first | (go_at_call 25; (with_reducible refine (rLeft.calls g rs mt w wr HSi.out).mono ?_); rintro e w1 ⟨rfl, hs, hk⟩; rw [HL.out]; have HS1 := Aside0.mk hs; have HN1 := Aside0.mk (hk.blk HNi.out HNE.out (by simp)); have HM1 := Aside0.mk (show MgS w1 _ _ mm from by obtain ⟨a, b, hm⟩ := HMi.out; exact ⟨a, b, hm.reader HSi.out hk (Nat.ne_of_lt HGL.out)⟩); clear hs hk) | (go_at_call 22; (with_reducible refine (rU.calls k g rs mt _ t q1 e1 w w1 HS1.out HU.out).mono ?_); rintro e w2 ⟨rfl, hs, hk⟩; have HS2 := Aside0.mk hs; have HN2 := Aside0.mk (hk.blk HN1.out HNE.out (by simp)); have HM2 := Aside0.mk (show MgS w2 _ _ mm from by obtain ⟨a, b, hm⟩ := HM1.out; exact ⟨a, b, hm.reader HS1.out hk (Nat.ne_of_lt HGL.out)⟩); have HSY := Aside0.mk (show w.heap.size ≤ w2.heap.size from Nat.le_of_lt (blk_lt HN2.out)); clear hs hk) | (go_at_call 26; (with_reducible refine (tfield.calls k g wc.heap.size w.heap.size t mm m2 true q1 e1 q2 e2 w w2 HS2.out HM2.out HGL.out HSY.out HF.out).mono ?_); rintro e w3 ⟨rfl, hs, hm, hk⟩; have HS3 := Aside0.mk hs; have HM3 := Aside0.mk hm; have HN3 := Aside0.mk (hk _ _ _ HNE.out (Nat.ne_of_lt HNX2.out) HN2.out); clear hs hm hk) | (go_at_call 24; (with_reducible refine (rFail.calls g q2 e2 _ w w3 HS3.out).mono ?_); rintro e w4 ⟨rfl, hs, hk⟩; have HS4 := Aside0.mk hs; have HN4 := Aside0.mk (hk.blk HN3.out HNE.out (by simp)); have HM4 := Aside0.mk (show MgS w4 _ _ m2 from by obtain ⟨a, b, hm⟩ := HM3.out; exact ⟨a, b, hm.reader HS3.out hk (Nat.ne_of_lt HGL.out)⟩); clear hs hk))
                go_roundg j
                case measure => have := HQ.out; omega
                case rel => exact ⟨t, m2, q2, _, rfl, HA, ⟨by have := HQ.out; omega⟩, HS4, HM4, HN4⟩
              | false =>
                have HA := Aside0.mk hA
                have HF := Aside0.mk hf
                clear hA hf
                go_wp2_with (first | (go_at_call 25; (with_reducible refine (rLeft.calls g rs mt w wr HSi.out).mono ?_); rintro e w1 ⟨rfl, hs, hk⟩; rw [HL.out]; have HS1 := Aside0.mk hs; have HN1 := Aside0.mk (hk.blk HNi.out HNE.out (by simp)); have HM1 := Aside0.mk (show MgS w1 _ _ mm from by obtain ⟨a, b, hm⟩ := HMi.out; exact ⟨a, b, hm.reader HSi.out hk (Nat.ne_of_lt HGL.out)⟩); clear hs hk) | (go_at_call 22; (with_reducible refine (rU.calls k g rs mt _ t q1 e1 w w1 HS1.out HU.out).mono ?_); rintro e w2 ⟨rfl, hs, hk⟩; have HS2 := Aside0.mk hs; have HN2 := Aside0.mk (hk.blk HN1.out HNE.out (by simp)); have HM2 := Aside0.mk (show MgS w2 _ _ mm from by obtain ⟨a, b, hm⟩ := HM1.out; exact ⟨a, b, hm.reader HS1.out hk (Nat.ne_of_lt HGL.out)⟩); have HSY := Aside0.mk (show w.heap.size ≤ w2.heap.size from Nat.le_of_lt (blk_lt HN2.out)); clear hs hk) | (go_at_call 26; (with_reducible refine (tfield.calls k g wc.heap.size w.heap.size t mm m2 false q1 e1 q2 e2 w w2 HS2.out HM2.out HGL.out HSY.out HF.out).mono ?_); rintro e w3 ⟨rfl, hs, hm, hk⟩; have HS3 := Aside0.mk hs; have HM3 := Aside0.mk hm; have HN3 := Aside0.mk (hk _ _ _ HNE.out (Nat.ne_of_lt HNX2.out) HN2.out); clear hs hm hk))
                go_roundg j
                case measure => have := HQ.out; omega
                case rel => exact ⟨t, m2, q2, _, rfl, HA, ⟨by have := HQ.out; omega⟩, HS3, HM3, HN3⟩
          · rw [if_neg c] at hA
            obtain ⟨rfl, rfl, rfl⟩ : mm = M ∧ rs = R1 ∧ mt = E1 := by simpa using hA
            obtain ⟨L0, hL0⟩ : ∃ L0 : Int, (if mt = 0 then (rs.length : Int) else 0) = L0 := ⟨_, rfl⟩
            rw [hL0] at c
            have HL := Aside0.mk hL0
            clear hA hL0
            have H5 := H4.out
            by_cases c3 : mt = 0
            · subst c3
              simp only [if_true] at H5
              obtain ⟨er, hr, h5⟩ := Option.bind_eq_some_iff.mp H5
              have HR := Aside0.mk (show msg_Right.f k mm.k mm.r mm.c mm.h mm.i mm.key mm.val mm.p mm.a mm.ps mm.qs = some er from hr)
              clear H5 hr
              obtain ⟨v9, v10, hm⟩ := HMi.out
              obtain ⟨A9, d9, rfl, hl9, hC9⟩ := Kd.R_reads hm.r9
              obtain ⟨A10, d10, rfl, hl10, hC10⟩ := Kd.R_reads hm.r10
              have HM0 := Aside0.mk hm
              have HLE := Aside0.mk (And.intro hl9 hl10)
              clear hm hl9 hl10 hC9 hC10
              by_cases c4 : er = 0
              · subst c4
                simp only [if_true] at h5
                obtain ⟨rfl, rfl⟩ : mm = m1 ∧ (0 : Int) = x := by simpa using h5
                clear h5
                go_wp2_with (first | (go_at_call 25; (with_reducible refine (rLeft.calls g rs _ w wr HSi.out).mono ?_); rintro e w1 ⟨rfl, hs, hk⟩; rw [HL.out]; have HS1 := Aside0.mk hs; have HN1 := Aside0.mk (hk.blk HNi.out HNE.out (by simp)); have HM1 := Aside0.mk (HM0.out.reader HSi.out hk (Nat.ne_of_lt HGL.out)); clear hs hk) | (go_at_call 27; (with_reducible refine (rErr.calls g rs _ w w1 HS1.out).mono ?_); rintro e w2 ⟨rfl, hs, hk⟩; have HS2 := Aside0.mk hs; have HN2 := Aside0.mk (hk.blk HN1.out HNE.out (by simp)); have HM2 := Aside0.mk (HM1.out.reader HS1.out hk (Nat.ne_of_lt HGL.out)); obtain ⟨hm0, hm1, hm2, hm3, hm4, hm5, hm6, hm7, hm8, hm9, hm10, fm0, fm1, fm2, fm3, fm4, fm5, fm6, fm7, fm8, fm9, fm10⟩ := cells11 HM2.out.bx; clear hs hk) | (go_at_call 13; (with_reducible refine (msg_Right.calls k mm.k mm.r mm.c mm.h mm.i mm.key mm.val mm.p mm.a A9 d9 mm.ps A10 d10 mm.qs _ w2 (Kd.R_reads' HM2.out.r9).2.2 HLE.out.1 (Kd.R_reads' HM2.out.r10).2.2 HLE.out.2 (tabs_later HTB.out HS2.out.bel) HR.out).mono ?_); rintro e w3 ⟨rfl, hb⟩; have HS3 := Aside0.mk (HS2.out.later hb); have HN3 := Aside0.mk (blk_below HN2.out hb); have HM3 := Aside0.mk (HM2.out.later hb); clear hm0 fm0 hm1 fm1 hm2 fm2 hm3 fm3 hm4 fm4 hm5 fm5 hm6 fm6 hm7 fm7 hm8 fm8 hm9 fm9 hm10 fm10; obtain ⟨hp0, hp1, hp2, hp3, hp4, hp5, hp6, hp7, hp8, hp9, hp10, fp0, fp1, fp2, fp3, fp4, fp5, fp6, fp7, fp8, fp9, fp10⟩ := cells11 HM3.out.bx; obtain ⟨hn0, hn1, hn2, hn3, hn4, hn5, hn6, hn7, hn8, hn9, hn10, fn0, fn1, fn2, fn3, fn4, fn5, fn6, fn7, fn8, fn9, fn10⟩ := cells11 HN3.out; clear hb))
                refine bodyPost_ret (results_ct rfl _ _ w.heap.size 30 #[.int .i64 mm.k, .int .u32 mm.r, .int .u8 mm.c, .bool mm.h, .int .u64 mm.i, .string mm.key, .string mm.val, .int .u64 mm.p, .int .u16 mm.a, .slice A9 mm.ps.length d9, .slice A10 mm.qs.length d10] (0, 0) _ rfl (put11 HN3.out _ _ _ _ _ _ _ _ _ _ _) Tryd.underlying30 rfl (by kernel_rfl)) rfl ?_
                exact ⟨_, _, rfl, R_set11 HM3.out.r9 HN3.out (by decide) _ _ _ _ _ _ _ _ _ _ _, R_set11 HM3.out.r10 HN3.out (by decide) _ _ _ _ _ _ _ _ _ _ _, below11 HS3.out.bel (Nat.le_refl _) _ _ _ _ _ _ _ _ _ _ _⟩
              · rw [if_neg c4] at h5
                obtain ⟨rfl, rfl⟩ : zMg = m1 ∧ er = x := by simpa using h5
                clear h5
                go_wp2_with (first | (go_at_call 25; (with_reducible refine (rLeft.calls g rs _ w wr HSi.out).mono ?_); rintro e w1 ⟨rfl, hs, hk⟩; rw [HL.out]; have HS1 := Aside0.mk hs; have HN1 := Aside0.mk (hk.blk HNi.out HNE.out (by simp)); have HM1 := Aside0.mk (HM0.out.reader HSi.out hk (Nat.ne_of_lt HGL.out)); clear hs hk) | (go_at_call 27; (with_reducible refine (rErr.calls g rs _ w w1 HS1.out).mono ?_); rintro e w2 ⟨rfl, hs, hk⟩; have HS2 := Aside0.mk hs; have HN2 := Aside0.mk (hk.blk HN1.out HNE.out (by simp)); have HM2 := Aside0.mk (HM1.out.reader HS1.out hk (Nat.ne_of_lt HGL.out)); obtain ⟨hm0, hm1, hm2, hm3, hm4, hm5, hm6, hm7, hm8, hm9, hm10, fm0, fm1, fm2, fm3, fm4, fm5, fm6, fm7, fm8, fm9, fm10⟩ := cells11 HM2.out.bx; clear hs hk) | (go_at_call 13; (with_reducible refine (msg_Right.calls k mm.k mm.r mm.c mm.h mm.i mm.key mm.val mm.p mm.a A9 d9 mm.ps A10 d10 mm.qs _ w2 (Kd.R_reads' HM2.out.r9).2.2 HLE.out.1 (Kd.R_reads' HM2.out.r10).2.2 HLE.out.2 (tabs_later HTB.out HS2.out.bel) HR.out).mono ?_); rintro e w3 ⟨rfl, hb⟩; have HS3 := Aside0.mk (HS2.out.later hb); have HN3 := Aside0.mk (blk_below HN2.out hb); have HM3 := Aside0.mk (HM2.out.later hb); clear hm0 fm0 hm1 fm1 hm2 fm2 hm3 fm3 hm4 fm4 hm5 fm5 hm6 fm6 hm7 fm7 hm8 fm8 hm9 fm9 hm10 fm10; obtain ⟨hp0, hp1, hp2, hp3, hp4, hp5, hp6, hp7, hp8, hp9, hp10, fp0, fp1, fp2, fp3, fp4, fp5, fp6, fp7, fp8, fp9, fp10⟩ := cells11 HM3.out.bx; obtain ⟨hn0, hn1, hn2, hn3, hn4, hn5, hn6, hn7, hn8, hn9, hn10, fn0, fn1, fn2, fn3, fn4, fn5, fn6, fn7, fn8, fn9, fn10⟩ := cells11 HN3.out; clear hb))
                refine bodyPost_ret (results_ct rfl _ _ w.heap.size 30 #[.int .i64 0, .int .u32 0, .int .u8 0, .bool false, .int .u64 0, .string (⟨#[]⟩ : ByteArray), .string (⟨#[]⟩ : ByteArray), .int .u64 0, .int .u16 0, .slice none 0 0, .slice none 0 0] (0, 0) _ rfl (put11 HN3.out _ _ _ _ _ _ _ _ _ _ _) Tryd.underlying30 rfl (by kernel_rfl)) rfl ?_
                exact ⟨_, _, rfl, Kd.R_nil _ _ _ _ _, Kd.R_nil _ _ _ _ _, below11 HS3.out.bel (Nat.le_refl _) _ _ _ _ _ _ _ _ _ _ _⟩
            · simp only [if_neg c3] at H5
              obtain ⟨rfl, rfl⟩ : zMg = m1 ∧ mt = x := by simpa using H5
              clear H5
              go_wp2_with (first | (go_at_call 25; (with_reducible refine (rLeft.calls g rs _ w wr HSi.out).mono ?_); rintro e w1 ⟨rfl, hs, hk⟩; rw [HL.out]; have HS1 := Aside0.mk hs; have HN1 := Aside0.mk (hk.blk HNi.out HNE.out (by simp)); clear hs hk) | (go_at_call 27; (with_reducible refine (rErr.calls g rs _ w w1 HS1.out).mono ?_); rintro e w2 ⟨rfl, hs, hk⟩; have HS2 := Aside0.mk hs; have HN2 := Aside0.mk (hk.blk HN1.out HNE.out (by simp)); obtain ⟨hn0, hn1, hn2, hn3, hn4, hn5, hn6, hn7, hn8, hn9, hn10, fn0, fn1, fn2, fn3, fn4, fn5, fn6, fn7, fn8, fn9, fn10⟩ := cells11 HN2.out; clear hs hk))
              refine bodyPost_ret (results_ct rfl _ _ w.heap.size 30 #[.int .i64 0, .int .u32 0, .int .u8 0, .bool false, .int .u64 0, .string (⟨#[]⟩ : ByteArray), .string (⟨#[]⟩ : ByteArray), .int .u64 0, .int .u16 0, .slice none 0 0, .slice none 0 0] (0, 0) _ rfl (put11 HN2.out _ _ _ _ _ _ _ _ _ _ _) Tryd.underlying30 rfl (by kernel_rfl)) rfl ?_
              exact ⟨_, _, rfl, Kd.R_nil _ _ _ _ _, Kd.R_nil _ _ _ _ _, below11 HS2.out.bel (Nat.le_refl _) _ _ _ _ _ _ _ _ _ _ _⟩
def tagged_Dec.f (k : Nat) (l0 : List Int) : Option (Int × Int × Int × Bool × Int × ByteArray × ByteArray × Int × Int × (List (S26)) × (List (S43)) × Int) := (tdec k l0).bind fun t => some (t.1.k, t.1.r, t.1.c, t.1.h, t.1.i, t.1.key, t.1.val, t.1.p, t.1.a, t.1.ps, t.1.qs, t.2)
theorem tagged_Dec.calls (k : Nat) (A0 : Option Addr) (c0 : Nat) (l0 : List Int) (r1 : Int) (r2 : Int) (r3 : Int) (r4 : Bool) (r5 : Int) (r6 : ByteArray) (r7 : ByteArray) (r8 : Int) (r9 : Int) (r10 : List (S26)) (r11 : List (S43)) (r12 : Int) (w : World) (hr0 : Kd.C (Kd.int .u8) w A0 l0.length l0) (hc0 : l0.length ≤ c0) (ht : Lib.Utf8Tabs 0 1 w) (h : tagged_Dec.f k l0 = some (r1, r2, r3, r4, r5, r6, r7, r8, r9, r10, r11, r12)) :
    Calls Tryd.prog 10 #[.slice A0 l0.length c0] w fun e w' => ∃ v9_ v10_ : Value, e = .returned (.tuple #[.agg #[.int .i64 r1, .int .u32 r2, .int .u8 r3, .bool r4, .int .u64 r5, .string r6, .string r7, .int .u64 r8, .int .u16 r9, v9_, v10_], .int .i64 r12]) ∧ Kd.R k26 26 w' w.heap.size (fun _ => True) v9_ r10 ∧ Kd.R k43 43 w' w.heap.size (fun _ => True) v10_ r11 ∧ Below w.heap.size w w' := by
  obtain ⟨⟨m, x⟩, hd, h⟩ := Option.bind_eq_some_iff.mp h
  obtain ⟨rfl, rfl, rfl, rfl, rfl, rfl, rfl, rfl, rfl, rfl, rfl, rfl⟩ : m.k = r1 ∧ m.r = r2 ∧ m.c = r3 ∧ m.h = r4 ∧ m.i = r5 ∧ m.key = r6 ∧ m.val = r7 ∧ m.p = r8 ∧ m.a = r9 ∧ m.ps = r10 ∧ m.qs = r11 ∧ x = r12 := by simpa using h
  exact tdec.calls k A0 c0 l0 m x w hr0 hc0 ht hd
theorem rU.mono : ∀ a0 a1 a2 k, LeO (rU k a0 a1 a2) (rU (k + 1) a0 a1 a2) := by
  intro a0 a1 a2 k
  unfold rU
  repeat' first
  | (with_reducible exact buf_Reader_Uvar.mono _ _ _ _ _)
  | (with_reducible exact LeO.refl _)
  | (with_reducible exact LeO.none _)
  | (with_reducible refine LeO.ite ?_ ?_)
  | (with_reducible refine LeO.bind ?_ (fun _ => ?_))
theorem rT.mono : ∀ a0 a1 a2 k, LeO (rT k a0 a1 a2) (rT (k + 1) a0 a1 a2) := by
  intro a0 a1 a2 k
  unfold rT
  repeat' first
  | (with_reducible exact buf_Reader_Text.mono _ _ _ _ _)
  | (with_reducible exact LeO.refl _)
  | (with_reducible exact LeO.none _)
  | (with_reducible refine LeO.ite ?_ ?_)
  | (with_reducible refine LeO.bind ?_ (fun _ => ?_))
theorem tpeer.mono : ∀ a0 a1 k, LeO (tpeer k a0 a1) (tpeer (k + 1) a0 a1) := by
  intro a0 a1 k
  unfold tpeer
  repeat' first
  | (with_reducible exact rU.mono _ _ _ _)
  | (with_reducible exact LeO.refl _)
  | (with_reducible exact LeO.none _)
  | (with_reducible refine LeO.ite ?_ ?_)
  | (with_reducible refine LeO.bind ?_ (fun _ => ?_))
theorem tpeersL.mono (k : Nat) : ∀ q acc n i rest met, LeO (tpeersL k q acc n i rest met) (tpeersL (k + 1) (q + 1) acc n i rest met)
  | 0, _, _, _, _, _ => LeO.none _
  | q + 1, acc, n, i, rest, met => by
    rw [tpeersL, tpeersL]
    exact LeO.ite (LeO.bind (tpeer.mono _ _ _) (fun _ => LeO.ite (tpeersL.mono k q _ _ _ _ _) (LeO.refl _))) (LeO.refl _)
theorem tpairsL.mono (k : Nat) : ∀ q acc n i rest met, LeO (tpairsL k q acc n i rest met) (tpairsL (k + 1) (q + 1) acc n i rest met)
  | 0, _, _, _, _, _ => LeO.none _
  | q + 1, acc, n, i, rest, met => by
    rw [tpairsL, tpairsL]
    exact LeO.ite (LeO.bind (rT.mono _ _ _ _) (fun _ => LeO.bind (rT.mono _ _ _ _) (fun _ => LeO.ite (tpairsL.mono k q _ _ _ _ _) (LeO.refl _)))) (LeO.refl _)
theorem tpeers.mono : ∀ a0 a1 k, LeO (tpeers k a0 a1) (tpeers (k + 1) a0 a1) := by
  intro a0 a1 k
  unfold tpeers
  repeat' first
  | (with_reducible exact rU.mono _ _ _ _)
  | (with_reducible exact tpeersL.mono _ _ _ _ _ _ _)
  | (with_reducible exact LeO.refl _)
  | (with_reducible exact LeO.none _)
  | (with_reducible refine LeO.ite ?_ ?_)
  | (with_reducible refine LeO.bind ?_ (fun _ => ?_))
theorem tpairs.mono : ∀ a0 a1 k, LeO (tpairs k a0 a1) (tpairs (k + 1) a0 a1) := by
  intro a0 a1 k
  unfold tpairs
  repeat' first
  | (with_reducible exact rU.mono _ _ _ _)
  | (with_reducible exact tpairsL.mono _ _ _ _ _ _ _)
  | (with_reducible exact LeO.refl _)
  | (with_reducible exact LeO.none _)
  | (with_reducible refine LeO.ite ?_ ?_)
  | (with_reducible refine LeO.bind ?_ (fun _ => ?_))
theorem tfield.mono : ∀ a0 a1 a2 a3 k, LeO (tfield k a0 a1 a2 a3) (tfield (k + 1) a0 a1 a2 a3) := by
  intro a0 a1 a2 a3 k
  unfold tfield
  repeat' first
  | (with_reducible exact rU.mono _ _ _ _)
  | (with_reducible exact rT.mono _ _ _ _)
  | (with_reducible exact tpeer.mono _ _ _)
  | (with_reducible exact tpeers.mono _ _ _)
  | (with_reducible exact tpairs.mono _ _ _)
  | (with_reducible exact LeO.refl _)
  | (with_reducible exact LeO.none _)
  | (with_reducible refine LeO.ite ?_ ?_)
  | (with_reducible refine LeO.bind ?_ (fun _ => ?_))
theorem tdecL.mono (k : Nat) : ∀ q last m rest met, LeO (tdecL k q last m rest met) (tdecL (k + 1) (q + 1) last m rest met)
  | 0, _, _, _, _ => LeO.none _
  | q + 1, last, m, rest, met => by
    rw [tdecL, tdecL]
    exact LeO.ite (LeO.bind (rU.mono _ _ _ _) (fun _ => LeO.ite (tdecL.mono k q _ _ _ _) (LeO.bind (tfield.mono _ _ _ _ _) (fun _ => tdecL.mono k q _ _ _ _)))) (LeO.refl _)
theorem tdec.mono : ∀ a0 k, LeO (tdec k a0) (tdec (k + 1) a0) := by
  intro a0 k
  unfold tdec mgRight
  repeat' first
  | (with_reducible exact rU.mono _ _ _ _)
  | (with_reducible exact tdecL.mono _ _ _ _ _ _)
  | (with_reducible exact msg_Right.mono _ _ _ _ _ _ _ _ _ _ _ _)
  | (with_reducible exact LeO.refl _)
  | (with_reducible exact LeO.none _)
  | (with_reducible refine LeO.ite ?_ ?_)
  | (with_reducible refine LeO.bind ?_ (fun _ => ?_))
theorem tagged_Dec.mono : ∀ a0 k, LeO (tagged_Dec.f k a0) (tagged_Dec.f (k + 1) a0) := fun a0 k => LeO.bind (tdec.mono a0 k) (fun _ => LeO.refl _)

/-! ### annuletlaw10_awake: function 7 -/
def annuletlaw10_awake.f (k : Nat)  : Option (Bool) := (tagged_Enc.f k 11 300 0 false 0 (⟨#[]⟩ : ByteArray) (⟨#[]⟩ : ByteArray) 0 0 ([] : List (S26)) ([] : List (S43))).bind fun bt179 => ((tagged_Enc.f k 11 0 0 false 0 (⟨#[]⟩ : ByteArray) (⟨#[]⟩ : ByteArray) 0 0 ([] : List (S26)) ([] : List (S43))).bind fun bt183 => ((tagged_Dec.f k (([11, 1, 0] : List Int))).bind fun bt190 => ((tagged_Dec.f k bt179.1).bind fun bt207 => (if (strOfNums bt179.1).toList = ([11, 1, 172, 2] : List UInt8) then (if bt179.2 = 0 then (if (strOfNums bt183.1).toList = ([11] : List UInt8) then (if bt183.2 = 0 then (if bt190.2.2.2.2.2.2.2.2.2.2.2 = 3 then (if bt207.2.2.2.2.2.2.2.2.2.2.2 = 0 then (some (bt207.2.1 == 300)) else (none)) else (none)) else (none)) else (none)) else (none)) else (none)))))
theorem annuletlaw10_awake.mono : ∀ k, LeO (annuletlaw10_awake.f k ) (annuletlaw10_awake.f (k + 1) ) := by
  intro  k
  unfold annuletlaw10_awake.f
  repeat' first
      | (with_reducible exact tagged_Dec.mono _ _)
      | (with_reducible exact tagged_Enc.mono _ _ _ _ _ _ _ _ _ _ _ _)
      | (with_reducible exact LeO.refl _)
      | (with_reducible exact LeO.none _)
      | (with_reducible refine LeO.ite ?_ ?_)
      | (with_reducible refine LeO.bind ?_ (fun _ => ?_))
      | exact tagged_Dec.mono _ _
      | exact tagged_Enc.mono _ _ _ _ _ _ _ _ _ _ _ _
      | exact LeO.none _
      | refine LeO.ite ?_ ?_
      | refine LeO.bind ?_ (fun _ => ?_)
set_option maxHeartbeats 3000000 in
set_option maxRecDepth 100000 in
theorem annuletlaw10_awake.calls (k : Nat)  (r : Bool) (w : World) (ht : Lib.Utf8Tabs 0 1 w) (h : annuletlaw10_awake.f k  = some r) :
    Calls Tryd.prog 7 #[] w fun e w' => e = .returned (.bool r) ∧ Below w.heap.size w w' := by
  have hu30 := Tryd.underlying30
  have HB := Aside0.mk (Below.refl w.heap.size w)
  have HTB := Aside0.mk ht
  clear ht
  have H : ((tagged_Enc.f k 11 300 0 false 0 (⟨#[]⟩ : ByteArray) (⟨#[]⟩ : ByteArray) 0 0 ([] : List (S26)) ([] : List (S43))).bind fun bt179 => ((tagged_Enc.f k 11 0 0 false 0 (⟨#[]⟩ : ByteArray) (⟨#[]⟩ : ByteArray) 0 0 ([] : List (S26)) ([] : List (S43))).bind fun bt183 => ((tagged_Dec.f k (([11, 1, 0] : List Int))).bind fun bt190 => ((tagged_Dec.f k bt179.1).bind fun bt207 => (if (strOfNums bt179.1).toList = ([11, 1, 172, 2] : List UInt8) then (if bt179.2 = 0 then (if (strOfNums bt183.1).toList = ([11] : List UInt8) then (if bt183.2 = 0 then (if bt190.2.2.2.2.2.2.2.2.2.2.2 = 3 then (if bt207.2.2.2.2.2.2.2.2.2.2.2 = 0 then (some (bt207.2.1 == 300)) else (none)) else (none)) else (none)) else (none)) else (none)) else (none)))))) = some r := h
  clear h
  replace H := Option.bind_eq_some_iff.mp H
  obtain ⟨⟨t179, t182⟩, A10, H⟩ := H
  replace H : ((tagged_Enc.f k 11 0 0 false 0 (⟨#[]⟩ : ByteArray) (⟨#[]⟩ : ByteArray) 0 0 ([] : List (S26)) ([] : List (S43))).bind fun bt183 => ((tagged_Dec.f k (([11, 1, 0] : List Int))).bind fun bt190 => ((tagged_Dec.f k t179).bind fun bt207 => (if (strOfNums t179).toList = ([11, 1, 172, 2] : List UInt8) then (if t182 = 0 then (if (strOfNums bt183.1).toList = ([11] : List UInt8) then (if bt183.2 = 0 then (if bt190.2.2.2.2.2.2.2.2.2.2.2 = 3 then (if bt207.2.2.2.2.2.2.2.2.2.2.2 = 0 then (some (bt207.2.1 == 300)) else (none)) else (none)) else (none)) else (none)) else (none)) else (none))))) = some r := H
  have A1 := Aside0.mk A10
  clear A10
  replace H := Option.bind_eq_some_iff.mp H
  obtain ⟨⟨t183, t186⟩, A20, H⟩ := H
  replace H : ((tagged_Dec.f k (([11, 1, 0] : List Int))).bind fun bt190 => ((tagged_Dec.f k t179).bind fun bt207 => (if (strOfNums t179).toList = ([11, 1, 172, 2] : List UInt8) then (if t182 = 0 then (if (strOfNums t183).toList = ([11] : List UInt8) then (if t186 = 0 then (if bt190.2.2.2.2.2.2.2.2.2.2.2 = 3 then (if bt207.2.2.2.2.2.2.2.2.2.2.2 = 0 then (some (bt207.2.1 == 300)) else (none)) else (none)) else (none)) else (none)) else (none)) else (none)))) = some r := H
  have A2 := Aside0.mk A20
  clear A20
  obtain ⟨y187, hy187⟩ : ∃ y_ : List Int, y_ = (([11, 1, 0] : List Int)) := ⟨_, rfl⟩
  replace H : ((tagged_Dec.f k y187).bind fun bt190 => ((tagged_Dec.f k t179).bind fun bt207 => (if (strOfNums t179).toList = ([11, 1, 172, 2] : List UInt8) then (if t182 = 0 then (if (strOfNums t183).toList = ([11] : List UInt8) then (if t186 = 0 then (if bt190.2.2.2.2.2.2.2.2.2.2.2 = 3 then (if bt207.2.2.2.2.2.2.2.2.2.2.2 = 0 then (some (bt207.2.1 == 300)) else (none)) else (none)) else (none)) else (none)) else (none)) else (none)))) = some r := by first | (rw [hy187]; with_reducible exact H) | (have H2_ := (Option.bind_some _ _).symm.trans H; rw [hy187]; with_reducible exact H2_) | (have H2_ := (Option.bind_some _ _).symm.trans H; with_reducible exact H2_) | with_reducible exact H | (rw [hy187]; exact H) | exact H
  have Ny187 := Aside0.mk hy187
  clear hy187
  replace H := Option.bind_eq_some_iff.mp H
  obtain ⟨⟨t190, t191, t192, t193, t194, t195, t196, t197, t198, t199, t202, t205⟩, A30, H⟩ := H
  replace H : ((tagged_Dec.f k t179).bind fun bt207 => (if (strOfNums t179).toList = ([11, 1, 172, 2] : List UInt8) then (if t182 = 0 then (if (strOfNums t183).toList = ([11] : List UInt8) then (if t186 = 0 then (if t205 = 3 then (if bt207.2.2.2.2.2.2.2.2.2.2.2 = 0 then (some (bt207.2.1 == 300)) else (none)) else (none)) else (none)) else (none)) else (none)) else (none))) = some r := H
  have A3 := Aside0.mk A30
  clear A30
  replace H := Option.bind_eq_some_iff.mp H
  obtain ⟨⟨t207, t208, t209, t210, t211, t212, t213, t214, t215, t216, t219, t222⟩, A40, H⟩ := H
  replace H : (if (strOfNums t179).toList = ([11, 1, 172, 2] : List UInt8) then (if t182 = 0 then (if (strOfNums t183).toList = ([11] : List UInt8) then (if t186 = 0 then (if t205 = 3 then (if t222 = 0 then (some (t208 == 300)) else (none)) else (none)) else (none)) else (none)) else (none)) else (none)) = some r := H
  have A4 := Aside0.mk A40
  clear A40
  by_cases c5 : (strOfNums t179).toList = ([11, 1, 172, 2] : List UInt8)
  · rw [if_pos c5] at H
    have c5b0 : ((strOfNums t179).toList == ([11, 1, 172, 2] : List UInt8)) = true := beq_iff_eq.mpr c5
    have c5b1 : ((strOfNums t179).toList != ([11, 1, 172, 2] : List UInt8)) = false := bne_eq_false_iff_eq.mpr c5
    clear c5
    by_cases c6 : t182 = 0
    · rw [if_pos c6] at H
      have c6b0 : (t182 == 0) = true := beq_iff_eq.mpr c6
      have c6b1 : (t182 != 0) = false := bne_eq_false_iff_eq.mpr c6
      clear c6
      by_cases c7 : (strOfNums t183).toList = ([11] : List UInt8)
      · rw [if_pos c7] at H
        have c7b0 : ((strOfNums t183).toList == ([11] : List UInt8)) = true := beq_iff_eq.mpr c7
        have c7b1 : ((strOfNums t183).toList != ([11] : List UInt8)) = false := bne_eq_false_iff_eq.mpr c7
        clear c7
        by_cases c8 : t186 = 0
        · rw [if_pos c8] at H
          have c8b0 : (t186 == 0) = true := beq_iff_eq.mpr c8
          have c8b1 : (t186 != 0) = false := bne_eq_false_iff_eq.mpr c8
          clear c8
          by_cases c9 : t205 = 3
          · rw [if_pos c9] at H
            have c9b0 : (t205 == 3) = true := beq_iff_eq.mpr c9
            have c9b1 : (t205 != 3) = false := bne_eq_false_iff_eq.mpr c9
            clear c9
            by_cases c10 : t222 = 0
            · rw [if_pos c10] at H
              have c10b0 : (t222 == 0) = true := beq_iff_eq.mpr c10
              have c10b1 : (t222 != 0) = false := bne_eq_false_iff_eq.mpr c10
              clear c10
              obtain rfl := Option.some.inj H
              go_enter Tryd.func7, Tryd.ntmps7
              go_wp2_with (first | ((with_reducible refine gate_callee (f := 8) rfl ?_); refine goesL_ (some 11) rfl rfl Tryd.func8 (by kernel_rfl) rfl #[.agg #[.int .i64 11, .int .u32 300, .int .u8 0, .bool false, .int .u64 0, .string (⟨#[]⟩ : ByteArray), .string (⟨#[]⟩ : ByteArray), .int .u64 0, .int .u16 0, .slice none 0 0, .slice none 0 0]] rfl (by (try simp only [List.map_toArray, List.map_cons, List.map_nil]); first | done | rfl | (simp only [List.length_drop, List.length_take]; rfl)) ?_; (refine (tagged_Enc.calls k 11 300 0 false 0 (⟨#[]⟩ : ByteArray) (⟨#[]⟩ : ByteArray) 0 0 _ _ ([] : List (S26)) _ _ ([] : List (S43)) t179 t182 _ ?side1 ?side2 ?side3 ?side4 ?side5 A1.out).mono ?_); (case side1 => exact Kd.C_nil _ _); (case side2 => exact Nat.le_refl _); (case side3 => exact Kd.C_nil _ _); (case side4 => exact Nat.le_refl _); (case side5 => refine tabs_later HTB.out ?_; repeat (first | (with_reducible first | exact HB.out | apply below_alloc | apply pw_below_drewN | apply below_drew1) | exact HB.out)); rintro e w11 ⟨v180, rfl, ho0, hb⟩; refine ⟨_, rfl, ?_⟩; have n0_ := Aside0.mk (Kd.R_lower ho0 (below_size (by repeat (first | (with_reducible first | exact HB.out | apply below_alloc | apply pw_below_drewN | apply below_drew1) | exact HB.out)))); have n1_ := Aside0.mk (below_step (by repeat (first | (with_reducible first | exact HB.out | apply below_alloc | apply pw_below_drewN | apply below_drew1) | exact HB.out)) hb); clear HB; have HO181 := n0_; have HB := n1_; clear n0_ n1_; (try clear hb); (try clear hb2); (try clear hk); (try clear hi); (try clear ho0)) | ((with_reducible refine gate_callee (f := 8) rfl ?_); refine goesL_ (some 16) rfl rfl Tryd.func8 (by kernel_rfl) rfl #[.agg #[.int .i64 11, .int .u32 0, .int .u8 0, .bool false, .int .u64 0, .string (⟨#[]⟩ : ByteArray), .string (⟨#[]⟩ : ByteArray), .int .u64 0, .int .u16 0, .slice none 0 0, .slice none 0 0]] rfl (by (try simp only [List.map_toArray, List.map_cons, List.map_nil]); first | done | rfl | (simp only [List.length_drop, List.length_take]; rfl)) ?_; (refine (tagged_Enc.calls k 11 0 0 false 0 (⟨#[]⟩ : ByteArray) (⟨#[]⟩ : ByteArray) 0 0 _ _ ([] : List (S26)) _ _ ([] : List (S43)) t183 t186 _ ?side1 ?side2 ?side3 ?side4 ?side5 A2.out).mono ?_); (case side1 => exact Kd.C_nil _ _); (case side2 => exact Nat.le_refl _); (case side3 => exact Kd.C_nil _ _); (case side4 => exact Nat.le_refl _); (case side5 => refine tabs_later HTB.out ?_; repeat (first | (with_reducible first | exact HB.out | apply below_alloc | apply pw_below_drewN | apply below_drew1) | exact HB.out)); rintro e w12 ⟨v184, rfl, ho0, hb⟩; refine ⟨_, rfl, ?_⟩; have n0_ := Aside0.mk (Kd.R_elder' (by (with_reducible repeat (first | apply Kd.R_alloc | apply Kd.R_drewN | apply Kd.R_drew)); exact HO181.out) (Kd.R_base ho0) hb); have n1_ := Aside0.mk (Kd.R_lower (Kd.R_new' ho0 (Kd.R_lt (by (with_reducible repeat (first | apply Kd.R_alloc | apply Kd.R_drewN | apply Kd.R_drew)); exact HO181.out))) (below_size (by repeat (first | (with_reducible first | exact HB.out | apply below_alloc | apply pw_below_drewN | apply below_drew1) | exact HB.out)))); have n2_ := Aside0.mk (below_step (by repeat (first | (with_reducible first | exact HB.out | apply below_alloc | apply pw_below_drewN | apply below_drew1) | exact HB.out)) hb); clear HO181; clear HB; have HO181 := n0_; have HO185 := n1_; have HB := n2_; clear n0_ n1_ n2_; (try clear hb); (try clear hb2); (try clear hk); (try clear hi); (try clear ho0)) | ((with_reducible refine gate_dst (N := 20) rfl ?_); refine Kd.R_lit (Kd.int .u8) _ 5 ?hg (N := 20) ?hd (xs := ([11, 1, 0] : List Int)) (inner := [.int .u8 11, .int .u8 1, .int .u8 0]) (ok := fun _ => True) (okp := fun _ => True) ?hr ?hp (fun _ hk => hk) trivial (Below.refl _ _) (Nat.le_refl _) (by simp) ?_; (case hd => rfl); (case hg => rfl); (case hr => first | (go_simp; done) | (go_simp; rfl)); (case hp => exact (Reps.one (show Kd.M (Kd.int .u8) _ _ _ 11 [.int .u8 11] from rfl) (Reps.one (show Kd.M (Kd.int .u8) _ _ _ 1 [.int .u8 1] from rfl) (Reps.one (show Kd.M (Kd.int .u8) _ _ _ 0 [.int .u8 0] from rfl) (Reps.none _ _))))); intro v188 w13 ho14 hb hg_ hnew_; clear hg_ hnew_; (first | rw [← Ny187.out] at ho14 | (simp only [Int.reduceToNat] at ho14; rw [← Ny187.out] at ho14)); have n0_ := Aside0.mk (Kd.R_elder' (by (with_reducible repeat (first | apply Kd.R_alloc | apply Kd.R_drewN | apply Kd.R_drew)); exact HO181.out) (Kd.R_base ho14) hb); have n1_ := Aside0.mk (Kd.R_elder' (by (with_reducible repeat (first | apply Kd.R_alloc | apply Kd.R_drewN | apply Kd.R_drew)); exact HO185.out) (Kd.R_base ho14) hb); have n2_ := Aside0.mk (Kd.R_lower (Kd.R_new' (Kd.R_new' ho14 (Kd.R_lt (by (with_reducible repeat (first | apply Kd.R_alloc | apply Kd.R_drewN | apply Kd.R_drew)); exact HO181.out))) (Kd.R_lt (by (with_reducible repeat (first | apply Kd.R_alloc | apply Kd.R_drewN | apply Kd.R_drew)); exact HO185.out))) (below_size (by repeat (first | (with_reducible first | exact HB.out | apply below_alloc | apply pw_below_drewN | apply below_drew1) | exact HB.out)))); have n3_ := Aside0.mk (below_step (by repeat (first | (with_reducible first | exact HB.out | apply below_alloc | apply pw_below_drewN | apply below_drew1) | exact HB.out)) hb); clear HO181; clear HO185; clear HB; have HO181 := n0_; have HO185 := n1_; have HO189 := n2_; have HB := n3_; clear n0_ n1_ n2_ n3_; clear hb ho14; obtain ⟨Ao15, co15, eo15⟩ := Kd.R_slice HO189.out; subst eo15) | ((with_reducible refine gate_callee (f := 10) rfl ?_); refine goesL_ (some 21) rfl rfl Tryd.func10 (by kernel_rfl) rfl #[.slice Ao15 y187.length co15] rfl (by (try simp only [List.map_toArray, List.map_cons, List.map_nil]); first | done | rfl | (simp only [List.length_drop, List.length_take]; rfl)) ?_; (with_reducible refine (tagged_Dec.calls k _ _ y187 t190 t191 t192 t193 t194 t195 t196 t197 t198 t199 t202 t205 _ ?side1 ?side2 ?side3 A3.out).mono ?_); (case side1 => repeat (first | exact (Kd.R_reads' HO189.out).2.2 | (with_reducible refine Kd.C_alloc ?_ _) | (with_reducible refine Kd.C_drewN ?_ _) | (with_reducible refine Kd.C_drew ?_))); (case side2 => exact (Kd.R_reads' HO189.out).2.1); (case side3 => refine tabs_later HTB.out ?_; repeat (first | (with_reducible first | exact HB.out | apply below_alloc | apply pw_below_drewN | apply below_drew1) | exact HB.out)); rintro e w16 ⟨v200, v203, rfl, ho0, ho1, hb⟩; refine ⟨_, rfl, ?_⟩; have n0_ := Aside0.mk (Kd.R_below (by (with_reducible repeat (first | apply Kd.R_alloc | apply Kd.R_drewN | apply Kd.R_drew)); exact HO181.out) hb); have n1_ := Aside0.mk (Kd.R_below (by (with_reducible repeat (first | apply Kd.R_alloc | apply Kd.R_drewN | apply Kd.R_drew)); exact HO185.out) hb); have n2_ := Aside0.mk (Kd.R_below (by (with_reducible repeat (first | apply Kd.R_alloc | apply Kd.R_drewN | apply Kd.R_drew)); exact HO189.out) hb); have n3_ := Aside0.mk (Kd.R_lower ho0 (below_size (by repeat (first | (with_reducible first | exact HB.out | apply below_alloc | apply pw_below_drewN | apply below_drew1) | exact HB.out)))); have n4_ := Aside0.mk (Kd.R_lower ho1 (below_size (by repeat (first | (with_reducible first | exact HB.out | apply below_alloc | apply pw_below_drewN | apply below_drew1) | exact HB.out)))); have n5_ := Aside0.mk (below_step (by repeat (first | (with_reducible first | exact HB.out | apply below_alloc | apply pw_below_drewN | apply below_drew1) | exact HB.out)) hb); clear HO181; clear HO185; clear HO189; clear HB; have HO181 := n0_; have HO185 := n1_; have HO189 := n2_; have HO201 := n3_; have HO204 := n4_; have HB := n5_; clear n0_ n1_ n2_ n3_ n4_ n5_; (try clear hb); (try clear hb2); (try clear hk); (try clear hi); (try clear ho0); (try clear ho1)) | ((with_reducible refine gate_dst (N := 5) rfl ?_); refine box_event ?hg (N := 5) ?hd (cs := #[.int .i64 0, .int .u32 0, .int .u8 0, .bool false, .int .u64 0, .string (⟨#[]⟩ : ByteArray), .string (⟨#[]⟩ : ByteArray), .int .u64 0, .int .u16 0, .slice none 0 0, .slice none 0 0]) (t := 30) ?hr ?_; (case hd => rfl); (case hg => rfl); (case hr => first | (go_simp; done) | (go_simp; rfl)); intro gb206 hg w17 hbox hb; have n0_ := Aside0.mk (Kd.R_below (by (with_reducible repeat (first | apply Kd.R_alloc | apply Kd.R_drewN | apply Kd.R_drew)); exact HO181.out) hb); have n1_ := Aside0.mk (Kd.R_below (by (with_reducible repeat (first | apply Kd.R_alloc | apply Kd.R_drewN | apply Kd.R_drew)); exact HO185.out) hb); have n2_ := Aside0.mk (Kd.R_below (by (with_reducible repeat (first | apply Kd.R_alloc | apply Kd.R_drewN | apply Kd.R_drew)); exact HO189.out) hb); have n3_ := Aside0.mk (Kd.R_below (by (with_reducible repeat (first | apply Kd.R_alloc | apply Kd.R_drewN | apply Kd.R_drew)); exact HO201.out) hb); have n4_ := Aside0.mk (Kd.R_below (by (with_reducible repeat (first | apply Kd.R_alloc | apply Kd.R_drewN | apply Kd.R_drew)); exact HO204.out) hb); have n5_ := Aside0.mk (below_step (by repeat (first | (with_reducible first | exact HB.out | apply below_alloc | apply pw_below_drewN | apply below_drew1) | exact HB.out)) hb); have n6_ := Aside0.mk (hbox); have n7_ := Aside0.mk ((by rw [hg]; exact (below_size (by repeat (first | (with_reducible first | exact HB.out | apply below_alloc | apply pw_below_drewN | apply below_drew1) | exact HB.out))) : w.heap.size ≤ gb206)); have n8_ := Aside0.mk ((by rw [hg]; exact (below_size (by repeat (first | (with_reducible first | exact HB.out | apply below_alloc | apply pw_below_drewN | apply below_drew1) | exact HB.out))) : w.heap.size ≤ gb206)); clear HO181; clear HO185; clear HO189; clear HO201; clear HO204; clear HB; have HO181 := n0_; have HO185 := n1_; have HO189 := n2_; have HO201 := n3_; have HO204 := n4_; have HB := n5_; have BK206 := n6_; have GW206 := n7_; have GE206 := n8_; clear n0_ n1_ n2_ n3_ n4_ n5_ n6_ n7_ n8_; clear hb hbox hg; have hcz18_0 : w17.cell? ⟨gb206, 0, none⟩ = some (.int .i64 0) := (blk_cell BK206.out 0).trans rfl; have hcz18_1 : w17.cell? ⟨gb206, 1, none⟩ = some (.int .u32 0) := (blk_cell BK206.out 1).trans rfl; have hcz18_2 : w17.cell? ⟨gb206, 2, none⟩ = some (.int .u8 0) := (blk_cell BK206.out 2).trans rfl; have hcz18_3 : w17.cell? ⟨gb206, 3, none⟩ = some (.bool false) := (blk_cell BK206.out 3).trans rfl; have hcz18_4 : w17.cell? ⟨gb206, 4, none⟩ = some (.int .u64 0) := (blk_cell BK206.out 4).trans rfl; have hcz18_5 : w17.cell? ⟨gb206, 5, none⟩ = some (.string (⟨#[]⟩ : ByteArray)) := (blk_cell BK206.out 5).trans rfl; have hcz18_6 : w17.cell? ⟨gb206, 6, none⟩ = some (.string (⟨#[]⟩ : ByteArray)) := (blk_cell BK206.out 6).trans rfl; have hcz18_7 : w17.cell? ⟨gb206, 7, none⟩ = some (.int .u64 0) := (blk_cell BK206.out 7).trans rfl; have hcz18_8 : w17.cell? ⟨gb206, 8, none⟩ = some (.int .u16 0) := (blk_cell BK206.out 8).trans rfl; have hcz18_9 : w17.cell? ⟨gb206, 9, none⟩ = some (.slice none 0 0) := (blk_cell BK206.out 9).trans rfl; have hcz18_10 : w17.cell? ⟨gb206, 10, none⟩ = some (.slice none 0 0) := (blk_cell BK206.out 10).trans rfl; have hfz18_0 := blk_frozen BK206.out 0; have hfz18_1 := blk_frozen BK206.out 1; have hfz18_2 := blk_frozen BK206.out 2; have hfz18_3 := blk_frozen BK206.out 3; have hfz18_4 := blk_frozen BK206.out 4; have hfz18_5 := blk_frozen BK206.out 5; have hfz18_6 := blk_frozen BK206.out 6; have hfz18_7 := blk_frozen BK206.out 7; have hfz18_8 := blk_frozen BK206.out 8; have hfz18_9 := blk_frozen BK206.out 9; have hfz18_10 := blk_frozen BK206.out 10; obtain ⟨Ao19, co19, eo19⟩ := Kd.R_slice HO201.out; subst eo19; obtain ⟨Ao20, co20, eo20⟩ := Kd.R_slice HO204.out; subst eo20; obtain ⟨Ao21, co21, eo21⟩ := Kd.R_slice HO181.out; subst eo21) | ((with_reducible refine gate_callee (f := 10) rfl ?_); refine goesL_ (some 26) rfl rfl Tryd.func10 (by kernel_rfl) rfl #[.slice Ao21 t179.length co21] rfl (by (try simp only [List.map_toArray, List.map_cons, List.map_nil]); first | done | rfl | (simp only [List.length_drop, List.length_take]; rfl)) ?_; (with_reducible refine (tagged_Dec.calls k _ _ t179 t207 t208 t209 t210 t211 t212 t213 t214 t215 t216 t219 t222 _ ?side1 ?side2 ?side3 A4.out).mono ?_); (case side1 => refine (Kd.R_reads' (e := 5) (base := w.heap.size) (ok := fun k_ => ((True ∧ some k_ ≠ (v184 : Value).ownBlock) ∧ some k_ ≠ (.slice Ao15 y187.length co15 : Value).ownBlock)) (n := t179.length) (c := co21) ?_).2.2; exact (by (with_reducible repeat (first | apply Kd.R_alloc | apply Kd.R_drewN | apply Kd.R_drew)); exact (Kd.R_mono (Kd.R_far (p := ⟨gb206, 10, none⟩) (Kd.R_far (p := ⟨gb206, 9, none⟩) (Kd.R_far (p := ⟨gb206, 8, none⟩) (Kd.R_far (p := ⟨gb206, 7, none⟩) (Kd.R_far (p := ⟨gb206, 6, none⟩) (Kd.R_far (p := ⟨gb206, 5, none⟩) (Kd.R_far (p := ⟨gb206, 4, none⟩) (Kd.R_far (p := ⟨gb206, 3, none⟩) (Kd.R_far (p := ⟨gb206, 2, none⟩) (Kd.R_far (p := ⟨gb206, 1, none⟩) (Kd.R_far (p := ⟨gb206, 0, none⟩) (Kd.R_types HO181.out BK206.out (by decide)) (fun _ hk => hk.2) (.int .i64 t190)) (fun _ hk => hk.2) (.int .u32 t191)) (fun _ hk => hk.2) (.int .u8 t192)) (fun _ hk => hk.2) (.bool t193)) (fun _ hk => hk.2) (.int .u64 t194)) (fun _ hk => hk.2) (.string t195)) (fun _ hk => hk.2) (.string t196)) (fun _ hk => hk.2) (.int .u64 t197)) (fun _ hk => hk.2) (.int .u16 t198)) (fun _ hk => hk.2) (.slice Ao19 t199.length co19)) (fun _ hk => hk.2) (.slice Ao20 t202.length co20)) (fun _ h_ => h_.1)))); (case side2 => exact (Kd.R_reads' HO181.out).2.1); (case side3 => refine tabs_later HTB.out ?_; repeat (first | (with_reducible first | exact HB.out | apply below_alloc | apply pw_below_drewN | apply below_drew1 | refine below_set ?_ GE206.out) | exact HB.out)); rintro e w22 ⟨v217, v220, rfl, ho0, ho1, hb⟩; refine ⟨_, rfl, ?_⟩; have n0_ := Aside0.mk (Kd.R_below (by (with_reducible repeat (first | apply Kd.R_alloc | apply Kd.R_drewN | apply Kd.R_drew)); exact (Kd.R_mono (Kd.R_far (p := ⟨gb206, 10, none⟩) (Kd.R_far (p := ⟨gb206, 9, none⟩) (Kd.R_far (p := ⟨gb206, 8, none⟩) (Kd.R_far (p := ⟨gb206, 7, none⟩) (Kd.R_far (p := ⟨gb206, 6, none⟩) (Kd.R_far (p := ⟨gb206, 5, none⟩) (Kd.R_far (p := ⟨gb206, 4, none⟩) (Kd.R_far (p := ⟨gb206, 3, none⟩) (Kd.R_far (p := ⟨gb206, 2, none⟩) (Kd.R_far (p := ⟨gb206, 1, none⟩) (Kd.R_far (p := ⟨gb206, 0, none⟩) (Kd.R_types HO181.out BK206.out (by decide)) (fun _ hk => hk.2) (.int .i64 t190)) (fun _ hk => hk.2) (.int .u32 t191)) (fun _ hk => hk.2) (.int .u8 t192)) (fun _ hk => hk.2) (.bool t193)) (fun _ hk => hk.2) (.int .u64 t194)) (fun _ hk => hk.2) (.string t195)) (fun _ hk => hk.2) (.string t196)) (fun _ hk => hk.2) (.int .u64 t197)) (fun _ hk => hk.2) (.int .u16 t198)) (fun _ hk => hk.2) (.slice Ao19 t199.length co19)) (fun _ hk => hk.2) (.slice Ao20 t202.length co20)) (fun _ h_ => h_.1))) hb); have n1_ := Aside0.mk (Kd.R_below (by (with_reducible repeat (first | apply Kd.R_alloc | apply Kd.R_drewN | apply Kd.R_drew)); exact (Kd.R_mono (Kd.R_far (p := ⟨gb206, 10, none⟩) (Kd.R_far (p := ⟨gb206, 9, none⟩) (Kd.R_far (p := ⟨gb206, 8, none⟩) (Kd.R_far (p := ⟨gb206, 7, none⟩) (Kd.R_far (p := ⟨gb206, 6, none⟩) (Kd.R_far (p := ⟨gb206, 5, none⟩) (Kd.R_far (p := ⟨gb206, 4, none⟩) (Kd.R_far (p := ⟨gb206, 3, none⟩) (Kd.R_far (p := ⟨gb206, 2, none⟩) (Kd.R_far (p := ⟨gb206, 1, none⟩) (Kd.R_far (p := ⟨gb206, 0, none⟩) (Kd.R_types HO185.out BK206.out (by decide)) (fun _ hk => hk.2) (.int .i64 t190)) (fun _ hk => hk.2) (.int .u32 t191)) (fun _ hk => hk.2) (.int .u8 t192)) (fun _ hk => hk.2) (.bool t193)) (fun _ hk => hk.2) (.int .u64 t194)) (fun _ hk => hk.2) (.string t195)) (fun _ hk => hk.2) (.string t196)) (fun _ hk => hk.2) (.int .u64 t197)) (fun _ hk => hk.2) (.int .u16 t198)) (fun _ hk => hk.2) (.slice Ao19 t199.length co19)) (fun _ hk => hk.2) (.slice Ao20 t202.length co20)) (fun _ h_ => h_.1))) hb); have n2_ := Aside0.mk (Kd.R_below (by (with_reducible repeat (first | apply Kd.R_alloc | apply Kd.R_drewN | apply Kd.R_drew)); exact (Kd.R_mono (Kd.R_far (p := ⟨gb206, 10, none⟩) (Kd.R_far (p := ⟨gb206, 9, none⟩) (Kd.R_far (p := ⟨gb206, 8, none⟩) (Kd.R_far (p := ⟨gb206, 7, none⟩) (Kd.R_far (p := ⟨gb206, 6, none⟩) (Kd.R_far (p := ⟨gb206, 5, none⟩) (Kd.R_far (p := ⟨gb206, 4, none⟩) (Kd.R_far (p := ⟨gb206, 3, none⟩) (Kd.R_far (p := ⟨gb206, 2, none⟩) (Kd.R_far (p := ⟨gb206, 1, none⟩) (Kd.R_far (p := ⟨gb206, 0, none⟩) (Kd.R_types HO189.out BK206.out (by decide)) (fun _ hk => hk.2) (.int .i64 t190)) (fun _ hk => hk.2) (.int .u32 t191)) (fun _ hk => hk.2) (.int .u8 t192)) (fun _ hk => hk.2) (.bool t193)) (fun _ hk => hk.2) (.int .u64 t194)) (fun _ hk => hk.2) (.string t195)) (fun _ hk => hk.2) (.string t196)) (fun _ hk => hk.2) (.int .u64 t197)) (fun _ hk => hk.2) (.int .u16 t198)) (fun _ hk => hk.2) (.slice Ao19 t199.length co19)) (fun _ hk => hk.2) (.slice Ao20 t202.length co20)) (fun _ h_ => h_.1))) hb); have n3_ := Aside0.mk (Kd.R_elder' (by (with_reducible repeat (first | apply Kd.R_alloc | apply Kd.R_drewN | apply Kd.R_drew)); exact (Kd.R_mono (Kd.R_far (p := ⟨gb206, 10, none⟩) (Kd.R_far (p := ⟨gb206, 9, none⟩) (Kd.R_far (p := ⟨gb206, 8, none⟩) (Kd.R_far (p := ⟨gb206, 7, none⟩) (Kd.R_far (p := ⟨gb206, 6, none⟩) (Kd.R_far (p := ⟨gb206, 5, none⟩) (Kd.R_far (p := ⟨gb206, 4, none⟩) (Kd.R_far (p := ⟨gb206, 3, none⟩) (Kd.R_far (p := ⟨gb206, 2, none⟩) (Kd.R_far (p := ⟨gb206, 1, none⟩) (Kd.R_far (p := ⟨gb206, 0, none⟩) (Kd.R_types HO201.out BK206.out (by decide)) (fun _ hk => hk.2) (.int .i64 t190)) (fun _ hk => hk.2) (.int .u32 t191)) (fun _ hk => hk.2) (.int .u8 t192)) (fun _ hk => hk.2) (.bool t193)) (fun _ hk => hk.2) (.int .u64 t194)) (fun _ hk => hk.2) (.string t195)) (fun _ hk => hk.2) (.string t196)) (fun _ hk => hk.2) (.int .u64 t197)) (fun _ hk => hk.2) (.int .u16 t198)) (fun _ hk => hk.2) (.slice Ao19 t199.length co19)) (fun _ hk => hk.2) (.slice Ao20 t202.length co20)) (fun _ h_ => h_.1))) (Kd.R_base ho0) hb); have n4_ := Aside0.mk (Kd.R_elder' (by (with_reducible repeat (first | apply Kd.R_alloc | apply Kd.R_drewN | apply Kd.R_drew)); exact (Kd.R_mono (Kd.R_far (p := ⟨gb206, 10, none⟩) (Kd.R_far (p := ⟨gb206, 9, none⟩) (Kd.R_far (p := ⟨gb206, 8, none⟩) (Kd.R_far (p := ⟨gb206, 7, none⟩) (Kd.R_far (p := ⟨gb206, 6, none⟩) (Kd.R_far (p := ⟨gb206, 5, none⟩) (Kd.R_far (p := ⟨gb206, 4, none⟩) (Kd.R_far (p := ⟨gb206, 3, none⟩) (Kd.R_far (p := ⟨gb206, 2, none⟩) (Kd.R_far (p := ⟨gb206, 1, none⟩) (Kd.R_far (p := ⟨gb206, 0, none⟩) (Kd.R_types HO204.out BK206.out (by decide)) (fun _ hk => hk.2) (.int .i64 t190)) (fun _ hk => hk.2) (.int .u32 t191)) (fun _ hk => hk.2) (.int .u8 t192)) (fun _ hk => hk.2) (.bool t193)) (fun _ hk => hk.2) (.int .u64 t194)) (fun _ hk => hk.2) (.string t195)) (fun _ hk => hk.2) (.string t196)) (fun _ hk => hk.2) (.int .u64 t197)) (fun _ hk => hk.2) (.int .u16 t198)) (fun _ hk => hk.2) (.slice Ao19 t199.length co19)) (fun _ hk => hk.2) (.slice Ao20 t202.length co20)) (fun _ h_ => h_.1))) (Kd.R_base ho1) hb); have n5_ := Aside0.mk (Kd.R_lower (Kd.R_new' ho0 (Kd.R_lt (by (with_reducible repeat (first | apply Kd.R_alloc | apply Kd.R_drewN | apply Kd.R_drew)); exact (Kd.R_mono (Kd.R_far (p := ⟨gb206, 10, none⟩) (Kd.R_far (p := ⟨gb206, 9, none⟩) (Kd.R_far (p := ⟨gb206, 8, none⟩) (Kd.R_far (p := ⟨gb206, 7, none⟩) (Kd.R_far (p := ⟨gb206, 6, none⟩) (Kd.R_far (p := ⟨gb206, 5, none⟩) (Kd.R_far (p := ⟨gb206, 4, none⟩) (Kd.R_far (p := ⟨gb206, 3, none⟩) (Kd.R_far (p := ⟨gb206, 2, none⟩) (Kd.R_far (p := ⟨gb206, 1, none⟩) (Kd.R_far (p := ⟨gb206, 0, none⟩) (Kd.R_types HO201.out BK206.out (by decide)) (fun _ hk => hk.2) (.int .i64 t190)) (fun _ hk => hk.2) (.int .u32 t191)) (fun _ hk => hk.2) (.int .u8 t192)) (fun _ hk => hk.2) (.bool t193)) (fun _ hk => hk.2) (.int .u64 t194)) (fun _ hk => hk.2) (.string t195)) (fun _ hk => hk.2) (.string t196)) (fun _ hk => hk.2) (.int .u64 t197)) (fun _ hk => hk.2) (.int .u16 t198)) (fun _ hk => hk.2) (.slice Ao19 t199.length co19)) (fun _ hk => hk.2) (.slice Ao20 t202.length co20)) (fun _ h_ => h_.1))))) (below_size (by repeat (first | (with_reducible first | exact HB.out | apply below_alloc | apply pw_below_drewN | apply below_drew1 | refine below_set ?_ GE206.out) | exact HB.out)))); have n6_ := Aside0.mk (Kd.R_lower (Kd.R_new' ho1 (Kd.R_lt (by (with_reducible repeat (first | apply Kd.R_alloc | apply Kd.R_drewN | apply Kd.R_drew)); exact (Kd.R_mono (Kd.R_far (p := ⟨gb206, 10, none⟩) (Kd.R_far (p := ⟨gb206, 9, none⟩) (Kd.R_far (p := ⟨gb206, 8, none⟩) (Kd.R_far (p := ⟨gb206, 7, none⟩) (Kd.R_far (p := ⟨gb206, 6, none⟩) (Kd.R_far (p := ⟨gb206, 5, none⟩) (Kd.R_far (p := ⟨gb206, 4, none⟩) (Kd.R_far (p := ⟨gb206, 3, none⟩) (Kd.R_far (p := ⟨gb206, 2, none⟩) (Kd.R_far (p := ⟨gb206, 1, none⟩) (Kd.R_far (p := ⟨gb206, 0, none⟩) (Kd.R_types HO204.out BK206.out (by decide)) (fun _ hk => hk.2) (.int .i64 t190)) (fun _ hk => hk.2) (.int .u32 t191)) (fun _ hk => hk.2) (.int .u8 t192)) (fun _ hk => hk.2) (.bool t193)) (fun _ hk => hk.2) (.int .u64 t194)) (fun _ hk => hk.2) (.string t195)) (fun _ hk => hk.2) (.string t196)) (fun _ hk => hk.2) (.int .u64 t197)) (fun _ hk => hk.2) (.int .u16 t198)) (fun _ hk => hk.2) (.slice Ao19 t199.length co19)) (fun _ hk => hk.2) (.slice Ao20 t202.length co20)) (fun _ h_ => h_.1))))) (below_size (by repeat (first | (with_reducible first | exact HB.out | apply below_alloc | apply pw_below_drewN | apply below_drew1 | refine below_set ?_ GE206.out) | exact HB.out)))); have n7_ := Aside0.mk (blk_below (g := gb206) (o := .cells #[.int .i64 t190, .int .u32 t191, .int .u8 t192, .bool t193, .int .u64 t194, .string t195, .string t196, .int .u64 t197, .int .u16 t198, .slice Ao19 t199.length co19, .slice Ao20 t202.length co20] 30 (0, 0)) (by (with_reducible repeat (first | refine blk_drewN ?_ _ | refine blk_drew ?_ | refine blk_alloc ?_ _)); refine blk_put (cs := #[.int .i64 t190, .int .u32 t191, .int .u8 t192, .bool t193, .int .u64 t194, .string t195, .string t196, .int .u64 t197, .int .u16 t198, .slice Ao19 t199.length co19, .slice none 0 0]) ?_ 10 _ rfl; (with_reducible repeat (first | refine blk_drewN ?_ _ | refine blk_drew ?_ | refine blk_alloc ?_ _)); refine blk_put (cs := #[.int .i64 t190, .int .u32 t191, .int .u8 t192, .bool t193, .int .u64 t194, .string t195, .string t196, .int .u64 t197, .int .u16 t198, .slice none 0 0, .slice none 0 0]) ?_ 9 _ rfl; (with_reducible repeat (first | refine blk_drewN ?_ _ | refine blk_drew ?_ | refine blk_alloc ?_ _)); refine blk_put (cs := #[.int .i64 t190, .int .u32 t191, .int .u8 t192, .bool t193, .int .u64 t194, .string t195, .string t196, .int .u64 t197, .int .u16 0, .slice none 0 0, .slice none 0 0]) ?_ 8 _ rfl; (with_reducible repeat (first | refine blk_drewN ?_ _ | refine blk_drew ?_ | refine blk_alloc ?_ _)); refine blk_put (cs := #[.int .i64 t190, .int .u32 t191, .int .u8 t192, .bool t193, .int .u64 t194, .string t195, .string t196, .int .u64 0, .int .u16 0, .slice none 0 0, .slice none 0 0]) ?_ 7 _ rfl; (with_reducible repeat (first | refine blk_drewN ?_ _ | refine blk_drew ?_ | refine blk_alloc ?_ _)); refine blk_put (cs := #[.int .i64 t190, .int .u32 t191, .int .u8 t192, .bool t193, .int .u64 t194, .string t195, .string (⟨#[]⟩ : ByteArray), .int .u64 0, .int .u16 0, .slice none 0 0, .slice none 0 0]) ?_ 6 _ rfl; (with_reducible repeat (first | refine blk_drewN ?_ _ | refine blk_drew ?_ | refine blk_alloc ?_ _)); refine blk_put (cs := #[.int .i64 t190, .int .u32 t191, .int .u8 t192, .bool t193, .int .u64 t194, .string (⟨#[]⟩ : ByteArray), .string (⟨#[]⟩ : ByteArray), .int .u64 0, .int .u16 0, .slice none 0 0, .slice none 0 0]) ?_ 5 _ rfl; (with_reducible repeat (first | refine blk_drewN ?_ _ | refine blk_drew ?_ | refine blk_alloc ?_ _)); refine blk_put (cs := #[.int .i64 t190, .int .u32 t191, .int .u8 t192, .bool t193, .int .u64 0, .string (⟨#[]⟩ : ByteArray), .string (⟨#[]⟩ : ByteArray), .int .u64 0, .int .u16 0, .slice none 0 0, .slice none 0 0]) ?_ 4 _ rfl; (with_reducible repeat (first | refine blk_drewN ?_ _ | refine blk_drew ?_ | refine blk_alloc ?_ _)); refine blk_put (cs := #[.int .i64 t190, .int .u32 t191, .int .u8 t192, .bool false, .int .u64 0, .string (⟨#[]⟩ : ByteArray), .string (⟨#[]⟩ : ByteArray), .int .u64 0, .int .u16 0, .slice none 0 0, .slice none 0 0]) ?_ 3 _ rfl; (with_reducible repeat (first | refine blk_drewN ?_ _ | refine blk_drew ?_ | refine blk_alloc ?_ _)); refine blk_put (cs := #[.int .i64 t190, .int .u32 t191, .int .u8 0, .bool false, .int .u64 0, .string (⟨#[]⟩ : ByteArray), .string (⟨#[]⟩ : ByteArray), .int .u64 0, .int .u16 0, .slice none 0 0, .slice none 0 0]) ?_ 2 _ rfl; (with_reducible repeat (first | refine blk_drewN ?_ _ | refine blk_drew ?_ | refine blk_alloc ?_ _)); refine blk_put (cs := #[.int .i64 t190, .int .u32 0, .int .u8 0, .bool false, .int .u64 0, .string (⟨#[]⟩ : ByteArray), .string (⟨#[]⟩ : ByteArray), .int .u64 0, .int .u16 0, .slice none 0 0, .slice none 0 0]) ?_ 1 _ rfl; (with_reducible repeat (first | refine blk_drewN ?_ _ | refine blk_drew ?_ | refine blk_alloc ?_ _)); refine blk_put (cs := #[.int .i64 0, .int .u32 0, .int .u8 0, .bool false, .int .u64 0, .string (⟨#[]⟩ : ByteArray), .string (⟨#[]⟩ : ByteArray), .int .u64 0, .int .u16 0, .slice none 0 0, .slice none 0 0]) ?_ 0 _ rfl; (with_reducible repeat (first | refine blk_drewN ?_ _ | refine blk_drew ?_ | refine blk_alloc ?_ _)); exact BK206.out) hb); have n8_ := Aside0.mk (below_step (by repeat (first | (with_reducible first | exact HB.out | apply below_alloc | apply pw_below_drewN | apply below_drew1 | refine below_set ?_ GE206.out) | exact HB.out)) hb); clear HO181; clear HO185; clear HO189; clear HO201; clear HO204; clear BK206; clear HB; have HO181 := n0_; have HO185 := n1_; have HO189 := n2_; have HO201 := n3_; have HO204 := n4_; have HO218 := n5_; have HO221 := n6_; have BK206 := n7_; have HB := n8_; clear n0_ n1_ n2_ n3_ n4_ n5_ n6_ n7_ n8_; (try clear hb); (try clear hb2); (try clear hk); (try clear hi); (try clear ho0); (try clear ho1)) | ((with_reducible refine gate_dst (N := 7) rfl ?_); refine box_event ?hg (N := 7) ?hd (cs := #[.int .i64 0, .int .u32 0, .int .u8 0, .bool false, .int .u64 0, .string (⟨#[]⟩ : ByteArray), .string (⟨#[]⟩ : ByteArray), .int .u64 0, .int .u16 0, .slice none 0 0, .slice none 0 0]) (t := 30) ?hr ?_; (case hd => rfl); (case hg => rfl); (case hr => first | (go_simp; done) | (go_simp; rfl)); intro gb223 hg w23 hbox hb; have n0_ := Aside0.mk (Kd.R_below (by (with_reducible repeat (first | apply Kd.R_alloc | apply Kd.R_drewN | apply Kd.R_drew)); exact HO181.out) hb); have n1_ := Aside0.mk (Kd.R_below (by (with_reducible repeat (first | apply Kd.R_alloc | apply Kd.R_drewN | apply Kd.R_drew)); exact HO185.out) hb); have n2_ := Aside0.mk (Kd.R_below (by (with_reducible repeat (first | apply Kd.R_alloc | apply Kd.R_drewN | apply Kd.R_drew)); exact HO189.out) hb); have n3_ := Aside0.mk (Kd.R_below (by (with_reducible repeat (first | apply Kd.R_alloc | apply Kd.R_drewN | apply Kd.R_drew)); exact HO201.out) hb); have n4_ := Aside0.mk (Kd.R_below (by (with_reducible repeat (first | apply Kd.R_alloc | apply Kd.R_drewN | apply Kd.R_drew)); exact HO204.out) hb); have n5_ := Aside0.mk (Kd.R_below (by (with_reducible repeat (first | apply Kd.R_alloc | apply Kd.R_drewN | apply Kd.R_drew)); exact HO218.out) hb); have n6_ := Aside0.mk (Kd.R_below (by (with_reducible repeat (first | apply Kd.R_alloc | apply Kd.R_drewN | apply Kd.R_drew)); exact HO221.out) hb); have n7_ := Aside0.mk (blk_below (g := gb206) (o := .cells #[.int .i64 t190, .int .u32 t191, .int .u8 t192, .bool t193, .int .u64 t194, .string t195, .string t196, .int .u64 t197, .int .u16 t198, .slice Ao19 t199.length co19, .slice Ao20 t202.length co20] 30 (0, 0)) (by (with_reducible repeat (first | refine blk_drewN ?_ _ | refine blk_drew ?_ | refine blk_alloc ?_ _)); exact BK206.out) hb); have n8_ := Aside0.mk (below_step (by repeat (first | (with_reducible first | exact HB.out | apply below_alloc | apply pw_below_drewN | apply below_drew1 | refine below_set ?_ GE206.out) | exact HB.out)) hb); have n9_ := Aside0.mk (hbox); have n10_ := Aside0.mk ((by rw [hg]; exact (below_size (by repeat (first | (with_reducible first | exact HB.out | apply below_alloc | apply pw_below_drewN | apply below_drew1 | refine below_set ?_ GE206.out) | exact HB.out))) : w.heap.size ≤ gb223)); have n11_ := Aside0.mk ((by rw [hg]; exact (below_size (by repeat (first | (with_reducible first | exact HB.out | apply below_alloc | apply pw_below_drewN | apply below_drew1 | refine below_set ?_ GE206.out) | exact HB.out))) : w.heap.size ≤ gb223)); have n12_ := Aside0.mk ((by rw [hg]; exact Nat.ne_of_lt (blk_lt (g := gb206) (o := .cells #[.int .i64 t190, .int .u32 t191, .int .u8 t192, .bool t193, .int .u64 t194, .string t195, .string t196, .int .u64 t197, .int .u16 t198, .slice Ao19 t199.length co19, .slice Ao20 t202.length co20] 30 (0, 0)) (by (with_reducible repeat (first | refine blk_drewN ?_ _ | refine blk_drew ?_ | refine blk_alloc ?_ _)); exact BK206.out)) : gb206 ≠ gb223)); have n13_ := Aside0.mk ((by rw [hg]; exact Nat.ne_of_gt (blk_lt (g := gb206) (o := .cells #[.int .i64 t190, .int .u32 t191, .int .u8 t192, .bool t193, .int .u64 t194, .string t195, .string t196, .int .u64 t197, .int .u16 t198, .slice Ao19 t199.length co19, .slice Ao20 t202.length co20] 30 (0, 0)) (by (with_reducible repeat (first | refine blk_drewN ?_ _ | refine blk_drew ?_ | refine blk_alloc ?_ _)); exact BK206.out)) : gb223 ≠ gb206)); clear HO181; clear HO185; clear HO189; clear HO201; clear HO204; clear HO218; clear HO221; clear BK206; clear HB; have HO181 := n0_; have HO185 := n1_; have HO189 := n2_; have HO201 := n3_; have HO204 := n4_; have HO218 := n5_; have HO221 := n6_; have BK206 := n7_; have HB := n8_; have BK223 := n9_; have GW223 := n10_; have GE223 := n11_; have NB206_223 := n12_; have NB223_206 := n13_; clear n0_ n1_ n2_ n3_ n4_ n5_ n6_ n7_ n8_ n9_ n10_ n11_ n12_ n13_; clear hb hbox hg; have hnb24 := NB223_206.out; have hnc24 := NB206_223.out; have hcz25_0 : w23.cell? ⟨gb223, 0, none⟩ = some (.int .i64 0) := (blk_cell BK223.out 0).trans rfl; have hcz25_1 : w23.cell? ⟨gb223, 1, none⟩ = some (.int .u32 0) := (blk_cell BK223.out 1).trans rfl; have hcz25_2 : w23.cell? ⟨gb223, 2, none⟩ = some (.int .u8 0) := (blk_cell BK223.out 2).trans rfl; have hcz25_3 : w23.cell? ⟨gb223, 3, none⟩ = some (.bool false) := (blk_cell BK223.out 3).trans rfl; have hcz25_4 : w23.cell? ⟨gb223, 4, none⟩ = some (.int .u64 0) := (blk_cell BK223.out 4).trans rfl; have hcz25_5 : w23.cell? ⟨gb223, 5, none⟩ = some (.string (⟨#[]⟩ : ByteArray)) := (blk_cell BK223.out 5).trans rfl; have hcz25_6 : w23.cell? ⟨gb223, 6, none⟩ = some (.string (⟨#[]⟩ : ByteArray)) := (blk_cell BK223.out 6).trans rfl; have hcz25_7 : w23.cell? ⟨gb223, 7, none⟩ = some (.int .u64 0) := (blk_cell BK223.out 7).trans rfl; have hcz25_8 : w23.cell? ⟨gb223, 8, none⟩ = some (.int .u16 0) := (blk_cell BK223.out 8).trans rfl; have hcz25_9 : w23.cell? ⟨gb223, 9, none⟩ = some (.slice none 0 0) := (blk_cell BK223.out 9).trans rfl; have hcz25_10 : w23.cell? ⟨gb223, 10, none⟩ = some (.slice none 0 0) := (blk_cell BK223.out 10).trans rfl; have hfz25_0 := blk_frozen BK223.out 0; have hfz25_1 := blk_frozen BK223.out 1; have hfz25_2 := blk_frozen BK223.out 2; have hfz25_3 := blk_frozen BK223.out 3; have hfz25_4 := blk_frozen BK223.out 4; have hfz25_5 := blk_frozen BK223.out 5; have hfz25_6 := blk_frozen BK223.out 6; have hfz25_7 := blk_frozen BK223.out 7; have hfz25_8 := blk_frozen BK223.out 8; have hfz25_9 := blk_frozen BK223.out 9; have hfz25_10 := blk_frozen BK223.out 10; obtain ⟨Ao26, co26, eo26⟩ := Kd.R_slice HO218.out; subst eo26; obtain ⟨Ao27, co27, eo27⟩ := Kd.R_slice HO221.out; subst eo27; have hcv28 := own_string (P := Tryd.prog) Tryd.underlying33 Tryd.underlying5 Tryd.underlying9 (Kd.own_of_R (Kd.R_far (p := ⟨gb223, 10, none⟩) (Kd.R_far (p := ⟨gb223, 9, none⟩) (Kd.R_far (p := ⟨gb223, 8, none⟩) (Kd.R_far (p := ⟨gb223, 7, none⟩) (Kd.R_far (p := ⟨gb223, 6, none⟩) (Kd.R_far (p := ⟨gb223, 5, none⟩) (Kd.R_far (p := ⟨gb223, 4, none⟩) (Kd.R_far (p := ⟨gb223, 3, none⟩) (Kd.R_far (p := ⟨gb223, 2, none⟩) (Kd.R_far (p := ⟨gb223, 1, none⟩) (Kd.R_far (p := ⟨gb223, 0, none⟩) (Kd.R_types HO181.out BK223.out (by decide)) (fun _ hk => hk.2) (.int .i64 t207)) (fun _ hk => hk.2) (.int .u32 t208)) (fun _ hk => hk.2) (.int .u8 t209)) (fun _ hk => hk.2) (.bool t210)) (fun _ hk => hk.2) (.int .u64 t211)) (fun _ hk => hk.2) (.string t212)) (fun _ hk => hk.2) (.string t213)) (fun _ hk => hk.2) (.int .u64 t214)) (fun _ hk => hk.2) (.int .u16 t215)) (fun _ hk => hk.2) (.slice Ao26 t216.length co26)) (fun _ hk => hk.2) (.slice Ao27 t219.length co27))); have hcv29 := own_string (P := Tryd.prog) Tryd.underlying33 Tryd.underlying5 Tryd.underlying9 (Kd.own_of_R (Kd.R_far (p := ⟨gb223, 10, none⟩) (Kd.R_far (p := ⟨gb223, 9, none⟩) (Kd.R_far (p := ⟨gb223, 8, none⟩) (Kd.R_far (p := ⟨gb223, 7, none⟩) (Kd.R_far (p := ⟨gb223, 6, none⟩) (Kd.R_far (p := ⟨gb223, 5, none⟩) (Kd.R_far (p := ⟨gb223, 4, none⟩) (Kd.R_far (p := ⟨gb223, 3, none⟩) (Kd.R_far (p := ⟨gb223, 2, none⟩) (Kd.R_far (p := ⟨gb223, 1, none⟩) (Kd.R_far (p := ⟨gb223, 0, none⟩) (Kd.R_types HO185.out BK223.out (by decide)) (fun _ hk => hk.2) (.int .i64 t207)) (fun _ hk => hk.2) (.int .u32 t208)) (fun _ hk => hk.2) (.int .u8 t209)) (fun _ hk => hk.2) (.bool t210)) (fun _ hk => hk.2) (.int .u64 t211)) (fun _ hk => hk.2) (.string t212)) (fun _ hk => hk.2) (.string t213)) (fun _ hk => hk.2) (.int .u64 t214)) (fun _ hk => hk.2) (.int .u16 t215)) (fun _ hk => hk.2) (.slice Ao26 t216.length co26)) (fun _ hk => hk.2) (.slice Ao27 t219.length co27)))))
              all_goals go_ret
              all_goals first | (exact ⟨by first | rfl | (simp [errW_none, errW_some] <;> rfl) | (simp [*, errW_none, errW_some] <;> rfl), by repeat (first | (with_reducible first | exact HB.out | apply below_alloc | apply pw_below_drewN | apply below_drew1 | refine below_set ?_ GE206.out | refine below_set ?_ GE223.out) | exact HB.out)⟩) | (exfalso; simp_all; done)
            · rw [if_neg c10] at H
              exact absurd H (by simp)
          · rw [if_neg c9] at H
            exact absurd H (by simp)
        · rw [if_neg c8] at H
          exact absurd H (by simp)
      · rw [if_neg c7] at H
        exact absurd H (by simp)
    · rw [if_neg c6] at H
      exact absurd H (by simp)
  · rw [if_neg c5] at H
    exact absurd H (by simp)

/-! ### annuletref08_Peers: function 33 -/
def annuletref08_Peers.l0 : Nat → List (S26) → List (S26) → Int → Option (Bool)
  | 0, _, _, _ => none
  | k + 1, x0, x1, x5 => if x5 < (x0.length : Int) then (if 0 ≤ x5 then (if x5 < (x1.length : Int) then (if (!(((rd_T26 x0 x5).f0) == ((rd_T26 x1 x5).f0)) || (!(((rd_T26 x0 x5).f1) == ((rd_T26 x1 x5).f1)))) = true then (some false) else (annuletref08_Peers.l0 k x0 x1 (wrap64 (x5 + 1)))) else (none)) else (none)) else (some true)
def annuletref08_Peers.f (k : Nat) (l0 : List (S26)) (l1 : List (S26)) : Option (Bool) := if (l0.length : Int) = (l1.length : Int) then (annuletref08_Peers.l0 k l0 l1 0) else (some false)
theorem annuletref08_Peers.mono_l : ∀ k, (∀ y0 y1 y2, LeO (annuletref08_Peers.l0 k y0 y1 y2) (annuletref08_Peers.l0 (k + 1) y0 y1 y2))
  | 0 => fun _ _ _ r h => by simp [annuletref08_Peers.l0] at h
  | k + 1 => by
    have ih0 := annuletref08_Peers.mono_l k
    · intro y0 y1 y2
      unfold annuletref08_Peers.l0
      repeat' first
      | (with_reducible exact ih0 _ _ _)
      | (with_reducible exact LeO.refl _)
      | (with_reducible exact LeO.none _)
      | (with_reducible refine LeO.ite ?_ ?_)
      | (with_reducible refine LeO.bind ?_ (fun _ => ?_))
      | exact ih0 _ _ _
      | exact LeO.none _
      | refine LeO.ite ?_ ?_
      | refine LeO.bind ?_ (fun _ => ?_)
theorem annuletref08_Peers.mono : ∀ a0 a1 k, LeO (annuletref08_Peers.f k a0 a1) (annuletref08_Peers.f (k + 1) a0 a1) := by
  intro a0 a1 k
  have ih0 := annuletref08_Peers.mono_l k
  unfold annuletref08_Peers.f
  repeat' first
      | (with_reducible exact ih0 _ _ _)
      | (with_reducible exact LeO.refl _)
      | (with_reducible exact LeO.none _)
      | (with_reducible refine LeO.ite ?_ ?_)
      | (with_reducible refine LeO.bind ?_ (fun _ => ?_))
      | exact ih0 _ _ _
      | exact LeO.none _
      | refine LeO.ite ?_ ?_
      | refine LeO.bind ?_ (fun _ => ?_)
set_option maxHeartbeats 3000000 in
set_option maxRecDepth 100000 in
theorem annuletref08_Peers.calls (k : Nat) (A0 : Option Addr) (c0 : Nat) (l0 : List (S26)) (A1 : Option Addr) (c1 : Nat) (l1 : List (S26)) (r : Bool) (w : World) (hr0 : Kd.C k26 w A0 l0.length l0) (hc0 : l0.length ≤ c0) (hr1 : Kd.C k26 w A1 l1.length l1) (hc1 : l1.length ≤ c1) (h : annuletref08_Peers.f k l0 l1 = some r) :
    Calls Tryd.prog 33 #[.slice A0 l0.length c0, .slice A1 l1.length c1] w fun e w' => e = .returned (.bool r) ∧ Drawn0 w w' := by
  have hu26 := Tryd.underlying26
  have HR0 := Aside0.mk hr0
  have HC0 := Aside0.mk hc0
  clear hr0 hc0
  have HR1 := Aside0.mk hr1
  have HC1 := Aside0.mk hc1
  clear hr1 hc1
  have H : (if (l0.length : Int) = (l1.length : Int) then (annuletref08_Peers.l0 k l0 l1 0) else (some false)) = some r := h
  clear h
  by_cases c3 : (l0.length : Int) = (l1.length : Int)
  · rw [if_pos c3] at H
    have c3b0 : ((l0.length : Int) == (l1.length : Int)) = true := beq_iff_eq.mpr c3
    have c3b1 : ((l0.length : Int) != (l1.length : Int)) = false := bne_eq_false_iff_eq.mpr c3
    have c3b2 : (l0.length == l1.length) = true := by first | simpa using c3 | (simp at c3 ⊢; omega)
    clear c3
    have H' := Aside0.mk H
    clear H
    go_enter Tryd.func33, Tryd.ntmps33
    go_wp2
    repeat (go_quiet (fail); try go_wp2)
    go_loopg [5] k (fun kq v5 w' => ∃ (x5_1 : Int), v5 = .int .i64 x5_1 ∧ Aside0 (annuletref08_Peers.l0 kq l0 l1 x5_1 = some r) ∧ Aside0 (kq ≤ k) ∧ Drawn0 w w')
    case atStart => exact ⟨(0), (by first | rfl | (simp; done) | (simp [*]; done)), H', ⟨Nat.le_refl _⟩, by repeat (first | exact Drawn0.refl _ | apply Drawn0.step)⟩
    case round =>
      clear H'
      try clear c1
      try clear p2
      try clear c3
      try clear c3b0
      try clear c3b1
      try clear c3b2
      obtain ⟨x5_1, rfl, HA, HK1, ⟨m1, rfl⟩⟩ := hrel
      cases gk with
      | zero => exact absurd HA.out (by simp [annuletref08_Peers.l0])
      | succ k1 =>
        have H := HA.out
        clear HA
        simp only [annuletref08_Peers.l0] at H
        by_cases c4 : x5_1 < (l0.length : Int)
        · rw [if_pos c4] at H
          have c4b0 : decide (x5_1 < (l0.length : Int)) = true := decide_eq_true c4
          clear c4
          by_cases c5 : 0 ≤ x5_1
          · rw [if_pos c5] at H
            have c5b0 : decide (0 ≤ x5_1) = true := decide_eq_true c5
            clear c5
            by_cases c6 : x5_1 < (l1.length : Int)
            · rw [if_pos c6] at H
              have c6b0 : decide (x5_1 < (l1.length : Int)) = true := decide_eq_true c6
              clear c6
              by_cases c7 : (!(((rd_T26 l0 x5_1).f0) == ((rd_T26 l1 x5_1).f0)) || (!(((rd_T26 l0 x5_1).f1) == ((rd_T26 l1 x5_1).f1)))) = true
              · rw [if_pos c7] at H
                have c7b0 : (!(((rd_T26 l0 x5_1).f0) == ((rd_T26 l1 x5_1).f0)) || (!(((rd_T26 l0 x5_1).f1) == ((rd_T26 l1 x5_1).f1)))) = true := c7
                clear c7
                obtain rfl := Option.some.inj H
                have p224 : 0 ≤ (x5_1 : Int) := of_decide_eq_true (by first | (with_reducible assumption) | assumption)
                have q224 : x5_1 < (l0.length : Int) := of_decide_eq_true (by first | (with_reducible assumption) | assumption)
                obtain ⟨ad224, e224, hx224_0, hx224_1⟩ := at_T26 HR0.out x5_1 p224 q224
                cases e224
                replace p224 := eq_true p224
                replace q224 := eq_true q224
                have p225 : 0 ≤ (x5_1 : Int) := of_decide_eq_true (by first | (with_reducible assumption) | assumption)
                have q225 : x5_1 < (l1.length : Int) := of_decide_eq_true (by first | (with_reducible assumption) | assumption)
                obtain ⟨ad225, e225, hx225_0, hx225_1⟩ := at_T26 HR1.out x5_1 p225 q225
                cases e225
                replace p225 := eq_true p225
                replace q225 := eq_true q225
                go_wp2
                repeat (go_quiet (fail); try go_wp2)
                all_goals go_ret
                all_goals first | (exact ⟨by first | rfl | (simp; done) | (simp [*]; done) | (refine congrArg Ending.returned ?_; show Value.string _ = Value.string _; (first | (congr 2 <;> omega) | (congr 3 <;> omega) | (congr 4 <;> omega))), by repeat (first | exact Drawn0.refl _ | apply Drawn0.step)⟩) | (exfalso; simp_all; done)
              · rw [if_neg c7] at H
                have c7b0 : (!(((rd_T26 l0 x5_1).f0) == ((rd_T26 l1 x5_1).f0)) || (!(((rd_T26 l0 x5_1).f1) == ((rd_T26 l1 x5_1).f1)))) = false := by simpa using c7
                clear c7
                have H' := Aside0.mk H
                clear H
                have p224 : 0 ≤ (x5_1 : Int) := of_decide_eq_true (by first | (with_reducible assumption) | assumption)
                have q224 : x5_1 < (l0.length : Int) := of_decide_eq_true (by first | (with_reducible assumption) | assumption)
                obtain ⟨ad224, e224, hx224_0, hx224_1⟩ := at_T26 HR0.out x5_1 p224 q224
                cases e224
                replace p224 := eq_true p224
                replace q224 := eq_true q224
                have p225 : 0 ≤ (x5_1 : Int) := of_decide_eq_true (by first | (with_reducible assumption) | assumption)
                have q225 : x5_1 < (l1.length : Int) := of_decide_eq_true (by first | (with_reducible assumption) | assumption)
                obtain ⟨ad225, e225, hx225_0, hx225_1⟩ := at_T26 HR1.out x5_1 p225 q225
                cases e225
                replace p225 := eq_true p225
                replace q225 := eq_true q225
                go_wp2
                repeat (go_quiet (fail); try go_wp2)
                go_roundg k1
                case measure => have := HK1.out; omega
                case rel => exact ⟨(wrap64 (x5_1 + 1)), (by first | rfl | (simp; done) | (simp [*]; done)), H', ⟨by have := HK1.out; omega⟩, by repeat (first | exact Drawn0.refl _ | apply Drawn0.step)⟩
            · rw [if_neg c6] at H
              exact absurd H (by simp)
          · rw [if_neg c5] at H
            exact absurd H (by simp)
        · rw [if_neg c4] at H
          have c4b0 : decide (x5_1 < (l0.length : Int)) = false := decide_eq_false c4
          clear c4
          obtain rfl := Option.some.inj H
          go_wp2
          repeat (go_quiet (fail); try go_wp2)
          all_goals go_ret
          all_goals first | (exact ⟨by first | rfl | (simp; done) | (simp [*]; done) | (refine congrArg Ending.returned ?_; show Value.string _ = Value.string _; (first | (congr 2 <;> omega) | (congr 3 <;> omega) | (congr 4 <;> omega))), by repeat (first | exact Drawn0.refl _ | apply Drawn0.step)⟩) | (exfalso; simp_all; done)
  · rw [if_neg c3] at H
    have c3b0 : ((l0.length : Int) == (l1.length : Int)) = false := beq_eq_false_iff_ne.mpr c3
    have c3b1 : ((l0.length : Int) != (l1.length : Int)) = true := bne_iff_ne.mpr c3
    have c3b2 : (l0.length == l1.length) = false := by first | simpa using c3 | (simp at c3 ⊢; omega)
    obtain rfl := Option.some.inj H
    go_enter Tryd.func33, Tryd.ntmps33
    go_wp2
    repeat (go_quiet (fail); try go_wp2)
    all_goals go_ret
    all_goals first | (exact ⟨by first | rfl | (simp; done) | (simp [*]; done) | (refine congrArg Ending.returned ?_; show Value.string _ = Value.string _; (first | (congr 2 <;> omega) | (congr 3 <;> omega) | (congr 4 <;> omega))), by repeat (first | exact Drawn0.refl _ | apply Drawn0.step)⟩) | (exfalso; simp_all; done)

end Go.Proofs.YtmohmmpcadlfkaaDoor.PTaggedBack
