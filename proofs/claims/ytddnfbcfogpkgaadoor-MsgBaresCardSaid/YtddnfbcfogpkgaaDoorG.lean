/- Words of this session's own beside the print's: events of a walk that the print lacks. No condition. -/
import Derived.Test.YtddnfbcfogpkgaaDoorProg
import Derived.Test.YtddnfbcfogpkgaaDoorWMore
import Derived.Lib.SlBytesConst
import Derived.Lib.SliceRun
import Derived.WalkSpells
import Derived.Deep.WholeRow
import Derived.Deep.Heap
import Derived.Shelf.Abstract
set_option linter.unusedVariables false
set_option linter.unusedSimpArgs false
namespace Go.Proofs.YtddnfbcfogpkgaaDoorW.PrintWords
open Go.RowKit
section
variable {P : Program} {ops : Array Oper} {rest : List Oper} {o o1 o2 : Oper} {a : Act} {Q : Exit → Act → World → Prop}
end
section
variable {α : Type} {P : Program} {ops : Array Oper} {rest : List Oper} {o : Oper} {a : Act} {Q : Exit → Act → World → Prop}
end
/-! ### digits -/
/-- the digits of a number -/
def digL (n : Nat) : List Int := if n < 10 then [48 + (n : Int)] else digL (n / 10) ++ [48 + ((n % 10 : Nat) : Int)]
termination_by n
structure DigInv (u0 u i : Nat) (m : Bool) (cs : List Int) : Prop where
  len : cs.length = 20
  le : i ≤ 20
  lt : u < 18446744073709551616
  go : m = true → digL u0 = digL u ++ cs.drop i ∧ (digL u).length ≤ i
  ends : m = false → digL u0 = cs.drop i
structure DigW (T : TypeId) (w wr : World) (cs : List Int) : Prop where
  blk : wr.heap[w.heap.size]? = some (.cells (nums .u8 cs).toArray T (0, 0))
  below : Below w.heap.size w wr
theorem digL_len (m : Nat) : ∀ n, n < 10 ^ (m + 1) → (digL n).length ≤ m + 1 := by
  induction m with
  | zero => intro n h; rw [digL, if_pos (by omega)]; simp
  | succ m ih =>
    intro n h
    rw [digL]
    split
    · simp
    · have := ih (n / 10) (by rw [Nat.pow_succ] at h; omega)
      simp only [List.length_append, List.length_singleton]; omega
theorem drop_set_at (l : List Int) (j : Nat) (x : Int) (h : j < l.length) : (l.set j x).drop j = x :: l.drop (j + 1) := by
  rw [List.drop_eq_getElem_cons (by simpa using h)]
  simp [List.drop_set_of_lt]
theorem digL_small {n : Nat} (h : n < 10) : digL n = [48 + (n : Int)] := by rw [digL, if_pos h]
theorem digL_great {n : Nat} (h : ¬ n < 10) : digL n = digL (n / 10) ++ [48 + ((n % 10 : Nat) : Int)] := by rw [digL, if_neg h]
/-! ### sums -/
/-- a list of n cells, of which the first i are filled -/
def fillL (n : Nat) (f : Nat → Int) (i : Nat) : List Int := (List.range i).map f ++ List.replicate (n - i) 0
theorem fillL_len {n i : Nat} (f : Nat → Int) (h : i ≤ n) : (fillL n f i).length = n := by simp [fillL]; omega
theorem fillL_set {n i : Nat} (f : Nat → Int) (h : i < n) : (fillL n f i).set i (f i) = fillL n f (i + 1) := by
  unfold fillL
  rw [List.set_append_right _ _ (by simp)]
  rw [show n - i = (n - (i + 1)) + 1 by omega, List.replicate_succ]
  simp [List.range_succ]
structure FillW (T n : Nat) (f : Nat → Int) (w wr : World) (i : Nat) : Prop where
  res : wr.heap[w.heap.size]? = some (.cells (nums .u32 (List.replicate n 0)).toArray T (0, 0))
  blk : wr.heap[w.heap.size + 1]? = some (.cells (nums .u32 (fillL n f i)).toArray T (0, 0))
  below : Below w.heap.size w wr
theorem FillW.drawn {T n : Nat} {f : Nat → Int} {w wr wr' : World} {i : Nat} (h : FillW T n f w wr i) (hd : Drawn0 wr wr') : FillW T n f w wr' i := by
  obtain ⟨k, rfl⟩ := hd
  exact ⟨h.res, h.blk, pw_below_drewN h.below k⟩
theorem FillW.cell {T n : Nat} {f : Nat → Int} {w wr : World} {i : Nat} (h : FillW T n f w wr i) (hi : i < n) : wr.cell? ⟨w.heap.size + 1, i, none⟩ = some (.int .u32 ((fillL n f i).getD i 0)) := by
  rw [blk_cell h.blk]
  simp [nums, List.getD, fillL_len f (Nat.le_of_lt hi), hi]
theorem FillW.next {T n : Nat} {f : Nat → Int} {w wr : World} {i : Nat} (h : FillW T n f w wr i) (hi : i < n) : FillW T n f w (wr.setCell ⟨w.heap.size + 1, i, none⟩ (.int .u32 (f i))) (i + 1) := by
  refine ⟨?_, ?_, h.below.setCell (by simp) _⟩
  · rw [Go.Deep.blk_setCell_other _ _ _ _ (by simp)]
    exact h.res
  · rw [blk_set h.blk]
    rw [← fillL_set f hi]
    simp [nums, List.map_set]
theorem alloc_old (w : World) (o : Obj) (i : Nat) (h : i < w.heap.size) : (w.alloc o).heap[i]? = w.heap[i]? := by
  show (w.heap.push o)[i]? = _
  rw [Array.getElem?_push_lt h]
  simp [h]
theorem FillW.first (T n : Nat) (f : Nat → Int) (w : World) (Z : List Int) (hZ : Z = List.replicate n 0) : FillW T n f w ((w.alloc (.cells (nums .u32 Z).toArray T (0, 0))).alloc (.cells (nums .u32 Z).toArray T (0, 0))) 0 := by
  have hs : (w.alloc (.cells (nums .u32 Z).toArray T (0, 0))).heap.size = w.heap.size + 1 := by show (w.heap.push _).size = _; simp
  refine ⟨?_, ?_, below_alloc (below_alloc (Below.refl _ _) _) _⟩
  · rw [alloc_old _ _ _ (by omega), blk_new, hZ]
  · rw [← hs, blk_new, hZ]
    rfl
theorem below_setRow2 {B g : Nat} {w0 w : World} (hb : Below B w0 w) (hBg : B ≤ g) (cs : Array Value) : Below B w0 (w.setRow g cs) :=
  hb.trans ⟨rfl, rfl, rfl, by simp, fun k hk => setRow_other _ _ _ _ (by omega)⟩
structure TabW (T g : Nat) (C : Array Value) (w wr : World) : Prop where
  blk : wr.heap[g]? = some (.cells C T (0, 0))
  below : Below w.heap.size w wr
def timesI (m : List Int) (x : Int) : Nat → Int
  | 0 => 0
  | i + 1 => Go.bits .xor .u32 (timesI m x i) (Go.bits .and .u32 (m[i]?.getD 0) (IntKind.u32.wrap (-(Go.bits .and .u32 (x / 2 ^ i) 1))))
structure ArrW (T g : Nat) (C : Array Value) (w wr : World) : Prop where
  blk : wr.heap[g]? = some (.cells C T (0, 0))
  below : Below w.heap.size w wr
theorem ArrW.drew {T g : Nat} {C : Array Value} {w wr : World} (h : ArrW T g C w wr) : ArrW T g C w wr.drew := ⟨h.blk, below_drew1 h.below⟩
structure SqW (C : Array Value) (T n : Nat) (f : Nat → Int) (w wr : World) (i : Nat) : Prop where
  arg : wr.heap[w.heap.size]? = some (.cells C T (0, 0))
  res : wr.heap[w.heap.size + 1]? = some (.cells (nums .u32 (List.replicate n 0)).toArray T (0, 0))
  blk : wr.heap[w.heap.size + 1 + 1]? = some (.cells (nums .u32 (fillL n f i)).toArray T (0, 0))
  below : Below w.heap.size w wr
section
variable {C : Array Value} {T n : Nat} {f : Nat → Int} {w wr : World} {i : Nat}
theorem SqW.drew (h : SqW C T n f w wr i) : SqW C T n f w wr.drew i := ⟨h.arg, h.res, h.blk, below_drew1 h.below⟩
theorem SqW.after {w3 : World} (h : SqW C T n f w wr i) (hb : Below wr.heap.size wr w3) : SqW C T n f w w3 i := by
  have hlt : w.heap.size + 1 + 1 < wr.heap.size := by
    have := h.blk
    rw [Array.getElem?_eq_some_iff] at this
    exact this.1
  exact ⟨(hb.block _ (by omega)).trans h.arg, (hb.block _ (by omega)).trans h.res, (hb.block _ (by omega)).trans h.blk, h.below.trans ⟨hb.os, hb.tape, hb.output, hb.size, fun k hk => hb.block k (by have := h.below.size; omega)⟩⟩
theorem SqW.cell (h : SqW C T n f w wr i) (hi : i < n) : wr.cell? ⟨w.heap.size + 1 + 1, i, none⟩ = some (.int .u32 ((fillL n f i).getD i 0)) := by
  rw [blk_cell h.blk]
  simp [nums, List.getD, fillL_len f (Nat.le_of_lt hi), hi]
theorem SqW.next (h : SqW C T n f w wr i) (hi : i < n) : SqW C T n f w (wr.setCell ⟨w.heap.size + 1 + 1, i, none⟩ (.int .u32 (f i))) (i + 1) := by
  refine ⟨?_, ?_, ?_, h.below.setCell (by simp <;> omega) _⟩
  · rw [Go.Deep.blk_setCell_other _ _ _ _ (by simp <;> omega)]
    exact h.arg
  · rw [Go.Deep.blk_setCell_other _ _ _ _ (by simp)]
    exact h.res
  · rw [blk_set h.blk]
    rw [← fillL_set f hi]
    simp [nums, List.map_set]
theorem SqW.first (C : Array Value) (T n : Nat) (f : Nat → Int) (w : World) (Z : List Int) (hZ : Z = List.replicate n 0) : SqW C T n f w (((w.alloc (.cells C T (0, 0))).alloc (.cells (nums .u32 Z).toArray T (0, 0))).alloc (.cells (nums .u32 Z).toArray T (0, 0))) 0 := by
  have hs : ∀ (w : World) (o : Obj), (w.alloc o).heap.size = w.heap.size + 1 := fun w o => by show (w.heap.push _).size = _; simp
  refine ⟨?_, ?_, ?_, below_alloc (below_alloc (below_alloc (Below.refl _ _) _) _) _⟩
  · rw [alloc_old _ _ _ (by rw [hs, hs]; omega), alloc_old _ _ _ (by rw [hs]; omega), blk_new]
  · rw [alloc_old _ _ _ (by rw [hs, hs]; omega), ← hs w (.cells C T (0, 0)), blk_new, hZ]
  · rw [show w.heap.size + 1 + 1 = ((w.alloc (.cells C T (0, 0))).alloc (.cells (nums .u32 Z).toArray T (0, 0))).heap.size by rw [hs, hs], blk_new, hZ]
    rfl
end
def sqL (m : List Int) : List Int := fillL 32 (fun i => timesI m (m[i]?.getD 0) 32) 32
def joinL (m : List Int) (a : Int) (n : Nat) : Int := if n = 0 then a else joinL (sqL m) (if n % 2 = 1 then timesI m a 32 else a) (n / 2)
termination_by n
decreasing_by omega
theorem ArrW.after {T g : Nat} {C : Array Value} {w wr w3 : World} (h : ArrW T g C w wr) (hb : Below wr.heap.size wr w3) : ArrW T g C w w3 := by
  have hlt : g < wr.heap.size := by
    have := h.blk
    rw [Array.getElem?_eq_some_iff] at this
    exact this.1
  exact ⟨(hb.block _ (by omega)).trans h.blk, h.below.trans ⟨hb.os, hb.tape, hb.output, hb.size, fun k hk => hb.block k (by have := h.below.size; omega)⟩⟩
theorem ArrW.row {T g : Nat} {C D : Array Value} {w wr : World} (h : ArrW T g C w wr) (hg : w.heap.size ≤ g) : ArrW T g D w (wr.setRow g D) :=
  ⟨setRow_heap _ _ _ _ _ _ h.blk, below_setRow2 h.below hg _⟩
structure JoinW (T g : Nat) (w wr : World) (m : List Int) (r a : Int) (n : Nat) : Prop where
  len : m.length = 32
  lt : n < 9223372036854775808
  arr : ArrW T g (nums .u32 m).toArray w wr
  eq : joinL m a n = r
structure FlipW (e n : Nat) (v : Value) (w wr : World) (L : List Int) : Prop where
  row : (Kd.int .u8).R e wr w.heap.size (fun _ => True) v L
  below : Below w.heap.size w wr
  len : L.length = n
theorem FlipW.put {e n cap g : Nat} {w wr : World} {L : List Int} (h : FlipW e n (.slice (some ⟨g, 0, none⟩) n cap) w wr L) (hg : w.heap.size ≤ g) (j : Int) (x : Int) : FlipW e n (.slice (some ⟨g, 0, none⟩) n cap) w (wr.setCell ⟨g, j.toNat, none⟩ (.int .u8 x)).drew (L.set j.toNat x) :=
  ⟨Kd.R_below (Kd.R_putn h.row j x) (pw_below_drewN (Below.refl _ _) 1), below_drew1 (h.below.setCell hg _), by rw [List.length_set]; exact h.len⟩
theorem FlipW.drew {e n : Nat} {v : Value} {w wr : World} {L : List Int} (h : FlipW e n v w wr L) : FlipW e n v w wr.drew L := ⟨Kd.R_below h.row (pw_below_drewN (Below.refl _ _) 1), below_drew1 h.below, h.len⟩
section
open Go.Proofs.YtddnfbcfogpkgaaDoorW.PrintLast Go.Proofs.YtddnfbcfogpkgaaDoorW.PrintMore
end
/-! ### a reader of bytes: its struct, and what its calls answer -/
section
open Go.Proofs.YtddnfbcfogpkgaaDoorW.PrintLast Go.Proofs.YtddnfbcfogpkgaaDoorW.PrintMore
/-- a reader's struct at block g of W: what is left lay there by w0 -/
structure RdS (T : Nat) (w0 W : World) (g : Nat) (rest : List Int) (met : Int) : Prop where
  ex : ∃ A c, W.heap[g]? = some (.cells #[.bool true, .slice A rest.length c, .int .i64 met] T (0, 0)) ∧ rest.length ≤ c ∧ (Kd.int .u8).C w0 A rest.length rest
  ge : w0.heap.size ≤ g
  small : rest.length < 140737488355328
  bel : Below w0.heap.size w0 W
theorem RdS.later {T : Nat} {w0 W W1 : World} {g : Nat} {rest : List Int} {met : Int} (h : RdS T w0 W g rest met) (hb : Below W.heap.size W W1) : RdS T w0 W1 g rest met := by
  obtain ⟨A, c, hg, hc, hC⟩ := h.ex
  exact ⟨⟨A, c, blk_below hg hb, hc, hC⟩, h.ge, h.small, below_step h.bel hb⟩
end
/-- the first element that meets p, from place i on -/
def idxO {α : Type} (p : α → Option Bool) : List α → Int → Option Int
  | [], _ => some (-1)
  | x :: l, i => (p x).bind fun b => if b = true then some i else idxO p l (i + 1)
/-- what a row of eleven cells holds, cell by cell -/
theorem cells11 {w : World} {g : Nat} {t : TypeId} {x0 x1 x2 x3 x4 x5 x6 x7 x8 x9 x10 : Value} (h : w.heap[g]? = some (.cells #[x0, x1, x2, x3, x4, x5, x6, x7, x8, x9, x10] t (0, 0))) :
    w.cell? ⟨g, 0, none⟩ = some x0 ∧ w.cell? ⟨g, 1, none⟩ = some x1 ∧ w.cell? ⟨g, 2, none⟩ = some x2 ∧ w.cell? ⟨g, 3, none⟩ = some x3 ∧ w.cell? ⟨g, 4, none⟩ = some x4 ∧ w.cell? ⟨g, 5, none⟩ = some x5 ∧ w.cell? ⟨g, 6, none⟩ = some x6 ∧ w.cell? ⟨g, 7, none⟩ = some x7 ∧ w.cell? ⟨g, 8, none⟩ = some x8 ∧ w.cell? ⟨g, 9, none⟩ = some x9 ∧ w.cell? ⟨g, 10, none⟩ = some x10 ∧ w.frozen? ⟨g, 0, none⟩ = false ∧ w.frozen? ⟨g, 1, none⟩ = false ∧ w.frozen? ⟨g, 2, none⟩ = false ∧ w.frozen? ⟨g, 3, none⟩ = false ∧ w.frozen? ⟨g, 4, none⟩ = false ∧ w.frozen? ⟨g, 5, none⟩ = false ∧ w.frozen? ⟨g, 6, none⟩ = false ∧ w.frozen? ⟨g, 7, none⟩ = false ∧ w.frozen? ⟨g, 8, none⟩ = false ∧ w.frozen? ⟨g, 9, none⟩ = false ∧ w.frozen? ⟨g, 10, none⟩ = false :=
  ⟨(blk_cell h 0).trans rfl, (blk_cell h 1).trans rfl, (blk_cell h 2).trans rfl, (blk_cell h 3).trans rfl, (blk_cell h 4).trans rfl, (blk_cell h 5).trans rfl, (blk_cell h 6).trans rfl, (blk_cell h 7).trans rfl, (blk_cell h 8).trans rfl, (blk_cell h 9).trans rfl, (blk_cell h 10).trans rfl, blk_frozen h 0, blk_frozen h 1, blk_frozen h 2, blk_frozen h 3, blk_frozen h 4, blk_frozen h 5, blk_frozen h 6, blk_frozen h 7, blk_frozen h 8, blk_frozen h 9, blk_frozen h 10⟩
end Go.Proofs.YtddnfbcfogpkgaaDoorW.PrintWords
