/- Words of this session's own beside the print's: events of a walk that the print lacks. No condition. -/
import Derived.Test.YtmohmmpcadlfkaaDoorProg
import Derived.Test.YtmohmmpcadlfkaaDoorWMore
import Derived.Lib.SlBytesConst
import Derived.Lib.SliceRun
import Derived.WalkSpells
import Derived.Deep.WholeRow
import Derived.Deep.Heap
import Derived.Shelf.Abstract
import Derived.Laws.Cover1
import Derived.Lib.Bytealg
import Derived.Lib.ConvBytes
set_option linter.unusedVariables false
set_option linter.unusedSimpArgs false
namespace Go.Proofs.YtmohmmpcadlfkaaDoorW.PrintWords
open Go.RowKit
section
variable {P : Program} {ops : Array Oper} {rest : List Oper} {o o1 o2 : Oper} {a : Act} {Q : Exit → Act → World → Prop}
/-- a row whose block bears a mark, behind its last cell: it is read as any other one -/
theorem C_marked (W : World) (e : TypeId) (l : List Int) (fr : Nat × Nat) (hl : l.length ≤ 9223372036854775807) :
    (Kd.int .u8).C (W.alloc (.cells (nums .u8 l).toArray e fr)) (some ⟨W.heap.size, 0, none⟩) l.length l := by
  refine Kd.C_of_reads (h1 := fun _ => rfl) (d := (0 : Int)) ?_
  refine ⟨rfl, hl, fun h => ⟨⟨W.heap.size, 0, none⟩, rfl, fun i hi => ?_⟩⟩
  rw [add_plain, World.cell?_alloc_mark W _ e fr i]
  simp [nums, List.getD, hi]
/-- '[]byte("..")' of a constant: the literal's row and its conversion, as one event: new memory that is read alone -/
theorem bconst_event {W : World} (hg1 : o1.guard = none) (hg2 : o2.guard = none) {N1 N2 : Tmp} (hd1 : o1.dst = some N1) (hd2 : o2.dst = some N2) {l : List Int} {t e : TypeId}
    (ht : P.underlying t = some (.slice e)) (he : P.underlying e = some (.int .u8)) (ho2 : o2.op = .convert t t (.tmp N1)) (hin : N1 < a.tmps.size) (hl : l.length ≤ 9223372036854775807)
    (hrun : (execOp a.eval o1).run P W = .ok (.value (.slice (some ⟨W.heap.size, 0, none⟩) l.length l.length)) (W.alloc (.cells (nums .u8 l).toArray e)))
    (h : ∀ A w1, (Kd.int .u8).C w1 A l.length l → Below W.heap.size W w1 → wpList P ops Q rest ((a.put o1.dst (.slice A l.length l.length)).put o2.dst (.slice A l.length l.length)) w1) : wpList P ops Q (o1 :: o2 :: rest) a W := by
  refine Kd.event_run hg1 hrun ?_
  have hev : (a.put o1.dst (.slice (some ⟨W.heap.size, 0, none⟩) l.length l.length)).eval (.tmp N1) = .slice (some ⟨W.heap.size, 0, none⟩) l.length l.length := by
    rw [hd1]
    simp [Act.put, Act.eval, hin]
  have hr2 : (execOp (a.put o1.dst (.slice (some ⟨W.heap.size, 0, none⟩) l.length l.length)).eval o2).run P (W.alloc (.cells (nums .u8 l).toArray e)) = .ok (.value (.slice (some ⟨W.heap.size, 0, none⟩) l.length l.length)) (W.alloc (.cells (nums .u8 l).toArray e ((nums .u8 l).toArray.size, (nums .u8 l).toArray.size + 1))) := by
    have hc := Lib.run_convert_bytes_const (P := P) W t e (nums .u8 l).toArray l.length l.length ht he
    unfold execOp
    rw [ho2]
    simp [hev, hc, Result.andThen]
  refine Kd.event_run hg2 hr2 (h _ _ (C_marked W e l _ hl) (below_alloc (Below.refl _ _) _))
end
section
variable {α : Type} {P : Program} {ops : Array Oper} {rest : List Oper} {o : Oper} {a : Act} {Q : Exit → Act → World → Prop}
/-- 'make([]T, 0, n)': a row of the call's own, as yet without elements -/
theorem Kd.R_make0 (d : Kd α) {w0 W : World} (base e : Nat) (hgd : o.guard = none) {N : Tmp} (hd : o.dst = some N) (t : TypeId) (x y : Operand) (ho : o.op = .makeSlice t x y) (n : Int) (hx : a.eval x = .int .i64 0) (hy : a.eval y = .int .i64 n)
    (ht : P.underlying t = some (.slice e)) (z : Value) (bytes : Nat) (hinfo : (P.info? e).map (fun i => (i.zero, i.size, i.bytes)) = some (some z, d.sz, bytes)) (hz : z.cells.size = d.sz) (hb0 : 0 < bytes)
    {ok : Nat → Prop} (hfresh : ok W.heap.size) (h0 : 0 ≤ n) (hl : n.toNat * bytes ≤ 281474976710656) (HB : Below base w0 W) (hbase : base ≤ W.heap.size)
    (h : ∀ v1 w1, d.R e w1 base ok v1 [] → Below base w0 w1 → W.grownBy w1 none → (∃ b, v1.ownBlock = some b ∧ W.heap.size ≤ b) → wpList P ops Q rest (a.put o.dst v1) w1) : wpList P ops Q (o :: rest) a W := by
  obtain ⟨m, rfl⟩ := Int.eq_ofNat_of_zero_le h0
  simp only [Int.toNat_natCast] at hl h
  obtain ⟨i0, hi, hzz⟩ := Option.map_eq_some_iff.1 hinfo
  simp only [Prod.mk.injEq] at hzz
  obtain ⟨hz0, hz1, hz2⟩ := hzz
  have hm : m ≤ 281474976710656 := Nat.le_trans (Nat.le_mul_of_pos_right _ hb0) hl
  have hr := run_make (P := P) W t e i0 z ht hi hz0 .i64 .i64 0 (m : Int) (by omega) (by omega)
    (by
      have h3 : ((i0.bytes * m : Nat) : Int) ≤ 281474976710656 := by rw [hz2, Nat.mul_comm]; omega
      rwa [Int.natCast_mul] at h3) (by omega)
  simp only [Int.toNat_natCast] at hr
  rw [hz1] at hr
  have hrun : (execOp a.eval o).run P W = .ok (.value (.slice (some ⟨W.heap.size, 0, none⟩) 0 m)) (W.alloc (.cells (madeCells z.cells (m * d.sz)) e)) := by
    simp [execOp, ho, hx, hy, hr]
  refine Kd.event_run hgd hrun (h _ _ ⟨fun k hk => ?_, [], ⟨by simp, .inr ⟨W.heap.size, m, madeCells z.cells (m * d.sz), rfl, hbase, by simpa using heap_alloc_new W _, Nat.zero_le _, by unfold maxLen; omega, by simp [size_madeCells], by simp⟩⟩, Reps.none _ _⟩ (HB.alloc hbase _) (World.grownBy_alloc W _ none) ⟨W.heap.size, by simp [Value.ownBlock], Nat.le_refl _⟩)
  have : W.heap.size = k := by simpa [Value.ownBlock] using hk
  subst this
  exact hfresh
end
/-! ### digits -/
/-- the digits of a number -/
def digL (n : Nat) : List Int := if n < 10 then [48 + (n : Int)] else digL (n / 10) ++ [48 + ((n % 10 : Nat) : Int)]
termination_by n
structure DigInv (u0 u i : Nat) (m : Bool) (cs : List Int) : Prop where
  len : cs.length = 20
  le : i ≤ 20
  lt : u < 18446744073709551616
  go : m = true → digL u0 = digL u ++ cs.drop i ∧ (digL u).length ≤ i
  ends : m = false → digL u0 = cs.drop i
structure DigW (T : TypeId) (w wr : World) (cs : List Int) : Prop where
  blk : wr.heap[w.heap.size]? = some (.cells (nums .u8 cs).toArray T (0, 0))
  below : Below w.heap.size w wr
theorem digL_pos (n : Nat) : 0 < (digL n).length := by rw [digL]; split <;> simp
theorem digL_len (m : Nat) : ∀ n, n < 10 ^ (m + 1) → (digL n).length ≤ m + 1 := by
  induction m with
  | zero => intro n h; rw [digL, if_pos (by omega)]; simp
  | succ m ih =>
    intro n h
    rw [digL]
    split
    · simp
    · have := ih (n / 10) (by rw [Nat.pow_succ] at h; omega)
      simp only [List.length_append, List.length_singleton]; omega
theorem drop_set_at (l : List Int) (j : Nat) (x : Int) (h : j < l.length) : (l.set j x).drop j = x :: l.drop (j + 1) := by
  rw [List.drop_eq_getElem_cons (by simpa using h)]
  simp [List.drop_set_of_lt]
theorem digL_small {n : Nat} (h : n < 10) : digL n = [48 + (n : Int)] := by rw [digL, if_pos h]
theorem digL_great {n : Nat} (h : ¬ n < 10) : digL n = digL (n / 10) ++ [48 + ((n % 10 : Nat) : Int)] := by rw [digL, if_neg h]
theorem place_at : ∀ d : Fin 10, ((({ data := #[48, 49, 50, 51, 52, 53, 54, 55, 56, 57, 97, 98, 99, 100, 101, 102] } : ByteArray)[d.val]'(by have := d.isLt; show d.val < 16; omega)).toNat : Int) = 48 + (d.val : Int) := by decide
/-! ### sums -/
def bitI (x : Int) : Int := Go.bits .xor .u32 (x / 2) (Go.bits .and .u32 2197175160 ((-(Go.bits .and .u32 x 1)) % 4294967296))
def eightI (x : Int) : Int := bitI (bitI (bitI (bitI (bitI (bitI (bitI (bitI x)))))))
/-- a list of n cells, of which the first i are filled -/
def fillL (n : Nat) (f : Nat → Int) (i : Nat) : List Int := (List.range i).map f ++ List.replicate (n - i) 0
theorem fillL_len {n i : Nat} (f : Nat → Int) (h : i ≤ n) : (fillL n f i).length = n := by simp [fillL]; omega
theorem fillL_set {n i : Nat} (f : Nat → Int) (h : i < n) : (fillL n f i).set i (f i) = fillL n f (i + 1) := by
  unfold fillL
  rw [List.set_append_right _ _ (by simp)]
  rw [show n - i = (n - (i + 1)) + 1 by omega, List.replicate_succ]
  simp [List.range_succ]
structure FillW (T n : Nat) (f : Nat → Int) (w wr : World) (i : Nat) : Prop where
  res : wr.heap[w.heap.size]? = some (.cells (nums .u32 (List.replicate n 0)).toArray T (0, 0))
  blk : wr.heap[w.heap.size + 1]? = some (.cells (nums .u32 (fillL n f i)).toArray T (0, 0))
  below : Below w.heap.size w wr
theorem FillW.drawn {T n : Nat} {f : Nat → Int} {w wr wr' : World} {i : Nat} (h : FillW T n f w wr i) (hd : Drawn0 wr wr') : FillW T n f w wr' i := by
  obtain ⟨k, rfl⟩ := hd
  exact ⟨h.res, h.blk, pw_below_drewN h.below k⟩
theorem FillW.cell {T n : Nat} {f : Nat → Int} {w wr : World} {i : Nat} (h : FillW T n f w wr i) (hi : i < n) : wr.cell? ⟨w.heap.size + 1, i, none⟩ = some (.int .u32 ((fillL n f i).getD i 0)) := by
  rw [blk_cell h.blk]
  simp [nums, List.getD, fillL_len f (Nat.le_of_lt hi), hi]
theorem FillW.next {T n : Nat} {f : Nat → Int} {w wr : World} {i : Nat} (h : FillW T n f w wr i) (hi : i < n) : FillW T n f w (wr.setCell ⟨w.heap.size + 1, i, none⟩ (.int .u32 (f i))) (i + 1) := by
  refine ⟨?_, ?_, h.below.setCell (by simp) _⟩
  · rw [Go.Deep.blk_setCell_other _ _ _ _ (by simp)]
    exact h.res
  · rw [blk_set h.blk]
    rw [← fillL_set f hi]
    simp [nums, List.map_set]
theorem alloc_old (w : World) (o : Obj) (i : Nat) (h : i < w.heap.size) : (w.alloc o).heap[i]? = w.heap[i]? := by
  show (w.heap.push o)[i]? = _
  rw [Array.getElem?_push_lt h]
  simp [h]
theorem FillW.first (T n : Nat) (f : Nat → Int) (w : World) (Z : List Int) (hZ : Z = List.replicate n 0) : FillW T n f w ((w.alloc (.cells (nums .u32 Z).toArray T (0, 0))).alloc (.cells (nums .u32 Z).toArray T (0, 0))) 0 := by
  have hs : (w.alloc (.cells (nums .u32 Z).toArray T (0, 0))).heap.size = w.heap.size + 1 := by show (w.heap.push _).size = _; simp
  refine ⟨?_, ?_, below_alloc (below_alloc (Below.refl _ _) _) _⟩
  · rw [alloc_old _ _ _ (by omega), blk_new, hZ]
  · rw [← hs, blk_new, hZ]
    rfl
theorem run_storeCells_row {P : Program} (w : World) (g : Nat) (t ty : TypeId) (old cells : Array Value) (hg : w.heap[g]? = some (.cells old t (0, 0))) (hi : (P.info? ty).map (·.size) = some cells.size)
    (ho : old.size = cells.size) (h1 : cells.all (·.oneCell') = true) :
    (storeCells ⟨g, 0, none⟩ cells.toList 0).run P w = .ok () (w.setRow g cells) := by
  have := run_storeVar_row (P := P) w g t ty old cells hg hi ho h1
  cases hq : P.info? ty with
  | none => simp [hq] at hi
  | some i =>
    have hs : cells.size = i.size := by simp [hq] at hi; omega
    simpa [storeVar, sizeOf, typeInfo, hq, Value.cells, hs] using this
theorem below_setRow2 {B g : Nat} {w0 w : World} (hb : Below B w0 w) (hBg : B ≤ g) (cs : Array Value) : Below B w0 (w.setRow g cs) :=
  hb.trans ⟨rfl, rfl, rfl, by simp, fun k hk => setRow_other _ _ _ _ (by omega)⟩
def stepSmall (s : Int) (l : List Int) : Int := l.foldl (fun s c => eightI (Go.bits .xor .u32 s (c % 4294967296))) s
def stepTab (s : Int) (l : List Int) : Int := l.foldl (fun s c => Go.bits .xor .u32 (eightI (Go.bits .xor .u8 (s % 256) c)) (s / 256)) s
theorem take_rd (l : List Int) (i : Nat) (h : i < l.length) : l.take (i + 1) = l.take i ++ [rd l (i : Int)] := by
  rw [List.take_add_one]
  simp [rd, List.getD, h]
theorem stepSmall_next (s : Int) (l : List Int) (i : Nat) (h : i < l.length) : stepSmall s (l.take (i + 1)) = eightI (Go.bits .xor .u32 (stepSmall s (l.take i)) (rd l (i : Int) % 4294967296)) := by
  rw [take_rd l i h]
  simp [stepSmall]
theorem stepTab_next (s : Int) (l : List Int) (i : Nat) (h : i < l.length) : stepTab s (l.take (i + 1)) = Go.bits .xor .u32 (eightI (Go.bits .xor .u8 (stepTab s (l.take i) % 256) (rd l (i : Int)))) (stepTab s (l.take i) / 256) := by
  rw [take_rd l i h]
  simp [stepTab]
theorem xor_u8_range (a b : Int) : 0 ≤ Go.bits .xor .u8 a b ∧ Go.bits .xor .u8 a b < 256 := by
  unfold Go.bits
  simp only [IntKind.wrap, IntKind.bits, IntKind.signed]
  simp
  omega
structure TabW (T g : Nat) (C : Array Value) (w wr : World) : Prop where
  blk : wr.heap[g]? = some (.cells C T (0, 0))
  below : Below w.heap.size w wr
theorem fillL_full (n : Nat) (f : Nat → Int) : fillL n f n = (List.range n).map f := by simp [fillL]
theorem fill_cell (n : Nat) (f : Nat → Int) (m : Nat) (h : m < n) : (nums .u32 (fillL n f n)).toArray[m]? = some (.int .u32 (f m)) := by
  rw [fillL_full]
  simp [nums, h]
theorem tab_cell {T g : Nat} {w wr : World} {C : Array Value} (hC : C = (nums .u32 (fillL 256 (fun i => eightI i) 256)).toArray) (h : TabW T g C w wr) (x : Int) (h0 : 0 ≤ x) (h1 : x < 256) : wr.cell? ⟨g, x.toNat, none⟩ = some (.int .u32 (eightI x)) := by
  have := fill_cell 256 (fun i => eightI (i : Int)) x.toNat (by omega)
  rw [← hC] at this
  rw [blk_cell h.blk, this, Int.toNat_of_nonneg h0]
def timesI (m : List Int) (x : Int) : Nat → Int
  | 0 => 0
  | i + 1 => Go.bits .xor .u32 (timesI m x i) (Go.bits .and .u32 (m[i]?.getD 0) (IntKind.u32.wrap (-(Go.bits .and .u32 (x / 2 ^ i) 1))))
structure ArrW (T g : Nat) (C : Array Value) (w wr : World) : Prop where
  blk : wr.heap[g]? = some (.cells C T (0, 0))
  below : Below w.heap.size w wr
theorem nums_cell {C : Array Value} {m : List Int} (hC : C = (nums .u32 m).toArray) {T g : Nat} {w wr : World} (h : ArrW T g C w wr) (i : Nat) (hi : i < m.length) : wr.cell? ⟨g, i, none⟩ = some (.int .u32 (m.getD i 0)) := by
  rw [blk_cell h.blk, hC]
  simp [nums, hi, List.getD]
theorem ArrW.drew {T g : Nat} {C : Array Value} {w wr : World} (h : ArrW T g C w wr) : ArrW T g C w wr.drew := ⟨h.blk, below_drew1 h.below⟩
def shl1 (i : Nat) : Int := 2 ^ i % 4294967296
theorem exec_load_row {P : Program} {o : Oper} {a : Act} {w : World} (ty : TypeId) (x : Operand) (ho : o.op = .load ty x)
    (g : Nat) (hx : a.eval x = .pointer (some ⟨g, 0, none⟩)) (t : TypeId) (cs : Array Value) (fr : Nat × Nat) (d : TypeDesc) (hg : w.heap[g]? = some (.cells cs t fr))
    (hu : P.underlying ty = some d) (hd : (match d with | .struct _ | .array _ _ => true | _ => false) = true) (hi : (P.info? ty).map (·.size) = some cs.size) :
    (execOp a.eval o).run P w = .ok (.value (.agg cs)) w := by
  unfold execOp
  simp only [ho, hx, Instr.loadAt, Instr.sureAddr, Sem.run_bind, Sem.run_pure, Result.andThen_ok, run_loadVar_row w g t ty cs fr d hg hu hd hi]
structure SqW (C : Array Value) (T n : Nat) (f : Nat → Int) (w wr : World) (i : Nat) : Prop where
  arg : wr.heap[w.heap.size]? = some (.cells C T (0, 0))
  res : wr.heap[w.heap.size + 1]? = some (.cells (nums .u32 (List.replicate n 0)).toArray T (0, 0))
  blk : wr.heap[w.heap.size + 1 + 1]? = some (.cells (nums .u32 (fillL n f i)).toArray T (0, 0))
  below : Below w.heap.size w wr
section
variable {C : Array Value} {T n : Nat} {f : Nat → Int} {w wr : World} {i : Nat}
theorem SqW.drew (h : SqW C T n f w wr i) : SqW C T n f w wr.drew i := ⟨h.arg, h.res, h.blk, below_drew1 h.below⟩
theorem SqW.after {w3 : World} (h : SqW C T n f w wr i) (hb : Below wr.heap.size wr w3) : SqW C T n f w w3 i := by
  have hlt : w.heap.size + 1 + 1 < wr.heap.size := by
    have := h.blk
    rw [Array.getElem?_eq_some_iff] at this
    exact this.1
  exact ⟨(hb.block _ (by omega)).trans h.arg, (hb.block _ (by omega)).trans h.res, (hb.block _ (by omega)).trans h.blk, h.below.trans ⟨hb.os, hb.tape, hb.output, hb.size, fun k hk => hb.block k (by have := h.below.size; omega)⟩⟩
theorem SqW.cell (h : SqW C T n f w wr i) (hi : i < n) : wr.cell? ⟨w.heap.size + 1 + 1, i, none⟩ = some (.int .u32 ((fillL n f i).getD i 0)) := by
  rw [blk_cell h.blk]
  simp [nums, List.getD, fillL_len f (Nat.le_of_lt hi), hi]
theorem SqW.argCell {m : List Int} (h : SqW C T n f w wr i) (hC : C = (nums .u32 m).toArray) (j : Nat) (hj : j < m.length) : wr.cell? ⟨w.heap.size, j, none⟩ = some (.int .u32 (m[j]?.getD 0)) := by
  rw [blk_cell h.arg, hC]
  simp [nums, hj]
theorem SqW.next (h : SqW C T n f w wr i) (hi : i < n) : SqW C T n f w (wr.setCell ⟨w.heap.size + 1 + 1, i, none⟩ (.int .u32 (f i))) (i + 1) := by
  refine ⟨?_, ?_, ?_, h.below.setCell (by simp <;> omega) _⟩
  · rw [Go.Deep.blk_setCell_other _ _ _ _ (by simp <;> omega)]
    exact h.arg
  · rw [Go.Deep.blk_setCell_other _ _ _ _ (by simp)]
    exact h.res
  · rw [blk_set h.blk]
    rw [← fillL_set f hi]
    simp [nums, List.map_set]
theorem SqW.first (C : Array Value) (T n : Nat) (f : Nat → Int) (w : World) (Z : List Int) (hZ : Z = List.replicate n 0) : SqW C T n f w (((w.alloc (.cells C T (0, 0))).alloc (.cells (nums .u32 Z).toArray T (0, 0))).alloc (.cells (nums .u32 Z).toArray T (0, 0))) 0 := by
  have hs : ∀ (w : World) (o : Obj), (w.alloc o).heap.size = w.heap.size + 1 := fun w o => by show (w.heap.push _).size = _; simp
  refine ⟨?_, ?_, ?_, below_alloc (below_alloc (below_alloc (Below.refl _ _) _) _) _⟩
  · rw [alloc_old _ _ _ (by rw [hs, hs]; omega), alloc_old _ _ _ (by rw [hs]; omega), blk_new]
  · rw [alloc_old _ _ _ (by rw [hs, hs]; omega), ← hs w (.cells C T (0, 0)), blk_new, hZ]
  · rw [show w.heap.size + 1 + 1 = ((w.alloc (.cells C T (0, 0))).alloc (.cells (nums .u32 Z).toArray T (0, 0))).heap.size by rw [hs, hs], blk_new, hZ]
    rfl
end
def sqL (m : List Int) : List Int := fillL 32 (fun i => timesI m (m[i]?.getD 0) 32) 32
def byteL : List Int := fillL 32 (fun i => eightI (shl1 i)) 32
theorem sqL_len (m : List Int) : (sqL m).length = 32 := fillL_len _ (Nat.le_refl _)
theorem byteL_len : byteL.length = 32 := fillL_len _ (Nat.le_refl _)
def joinL (m : List Int) (a : Int) (n : Nat) : Int := if n = 0 then a else joinL (sqL m) (if n % 2 = 1 then timesI m a 32 else a) (n / 2)
termination_by n
decreasing_by omega
theorem nums_size (m : List Int) (h : m.length = 32) : (nums .u32 m).toArray.size = 32 := by simp [nums, h]
theorem nums_one (m : List Int) : (nums .u32 m).toArray.all (·.oneCell') = true := by
  rw [Array.all_eq_true_iff_forall_mem]
  intro x hx
  simp only [nums, List.mem_toArray, List.mem_map] at hx
  obtain ⟨y, _, rfl⟩ := hx
  rfl
theorem ArrW.after {T g : Nat} {C : Array Value} {w wr w3 : World} (h : ArrW T g C w wr) (hb : Below wr.heap.size wr w3) : ArrW T g C w w3 := by
  have hlt : g < wr.heap.size := by
    have := h.blk
    rw [Array.getElem?_eq_some_iff] at this
    exact this.1
  exact ⟨(hb.block _ (by omega)).trans h.blk, h.below.trans ⟨hb.os, hb.tape, hb.output, hb.size, fun k hk => hb.block k (by have := h.below.size; omega)⟩⟩
theorem ArrW.row {T g : Nat} {C D : Array Value} {w wr : World} (h : ArrW T g C w wr) (hg : w.heap.size ≤ g) : ArrW T g D w (wr.setRow g D) :=
  ⟨setRow_heap _ _ _ _ _ _ h.blk, below_setRow2 h.below hg _⟩
theorem wraps_i63 (n : Int) (h0 : 0 ≤ n) (h1 : n < 2 ^ 63) : IntKind.i64.wrap n = n := by
  simp [IntKind.wrap, IntKind.bits, IntKind.signed] at *
  omega
theorem and1_i64 (k : Nat) (h : k < 9223372036854775808) : Go.bits .and .i64 (k : Int) 1 = (k : Int) % 2 := bits_mask .i64 63 (by decide) wraps_i63 1 (by decide) (k : Int) (by omega) (by omega)
theorem joinL_step (m : List Int) (a : Int) (n : Nat) (h : ¬ n = 0) : joinL m a n = joinL (sqL m) (if n % 2 = 1 then timesI m a 32 else a) (n / 2) := by
  rw [joinL, if_neg h]
structure JoinW (T g : Nat) (w wr : World) (m : List Int) (r a : Int) (n : Nat) : Prop where
  len : m.length = 32
  lt : n < 9223372036854775808
  arr : ArrW T g (nums .u32 m).toArray w wr
  eq : joinL m a n = r
/-- one bit of the mask -/
def flipS (n : Int) (at_ mask : Int) (i : Nat) (L : List Int) : List Int :=
  if Go.bits .and .u32 (mask / 2 ^ i) 1 = 0 ∨ at_ < -(i : Int) ∨ at_ ≥ 8 * n - i then L
  else L.set ((at_ + i) / 8).toNat (Go.bits .xor .u8 (rd L ((at_ + i) / 8)) (IntKind.u8.wrap (2 ^ ((at_ + i) % 8).toNat)))
def flipL (n : Int) (at_ mask : Int) (l : List Int) : Nat → List Int
  | 0 => l
  | i + 1 => flipS n at_ mask i (flipL n at_ mask l i)
theorem flipS_len (n at_ mask : Int) (i : Nat) (L : List Int) : (flipS n at_ mask i L).length = L.length := by
  unfold flipS
  split <;> simp
theorem flipL_len (n at_ mask : Int) (l : List Int) : ∀ i, (flipL n at_ mask l i).length = l.length
  | 0 => rfl
  | i + 1 => by rw [flipL, flipS_len, flipL_len]
structure FlipW (e n : Nat) (v : Value) (w wr : World) (L : List Int) : Prop where
  row : (Kd.int .u8).R e wr w.heap.size (fun _ => True) v L
  below : Below w.heap.size w wr
  len : L.length = n
theorem FlipW.put {e n cap g : Nat} {w wr : World} {L : List Int} (h : FlipW e n (.slice (some ⟨g, 0, none⟩) n cap) w wr L) (hg : w.heap.size ≤ g) (j : Int) (x : Int) : FlipW e n (.slice (some ⟨g, 0, none⟩) n cap) w (wr.setCell ⟨g, j.toNat, none⟩ (.int .u8 x)).drew (L.set j.toNat x) :=
  ⟨Kd.R_below (Kd.R_putn h.row j x) (pw_below_drewN (Below.refl _ _) 1), below_drew1 (h.below.setCell hg _), by rw [List.length_set]; exact h.len⟩
theorem FlipW.drew {e n : Nat} {v : Value} {w wr : World} {L : List Int} (h : FlipW e n v w wr L) : FlipW e n v w wr.drew L := ⟨Kd.R_below h.row (pw_below_drewN (Below.refl _ _) 1), below_drew1 h.below, h.len⟩
section
open Go.Proofs.YtmohmmpcadlfkaaDoorW.PrintLast Go.Proofs.YtmohmmpcadlfkaaDoorW.PrintMore
theorem V_atq {α : Type} {d : Kd α} {e base m : Nat} {ok : Nat → Prop} {w w' : World} {v : Value} {xs : List α} (hq : w.drewN m = w') (h : Kd.V d e w base ok v xs) : Kd.V d e w' base ok v xs := by subst hq; exact Kd.V_drewN h m
end
/-! ### a reader of bytes: its struct, and what its calls answer -/
section
open Go.Proofs.YtmohmmpcadlfkaaDoorW.PrintLast Go.Proofs.YtmohmmpcadlfkaaDoorW.PrintMore
/-- a reader's struct at block g of W: what is left lay there by w0 -/
structure RdS (T : Nat) (w0 W : World) (g : Nat) (rest : List Int) (met : Int) : Prop where
  ex : ∃ A c, W.heap[g]? = some (.cells #[.bool true, .slice A rest.length c, .int .i64 met] T (0, 0)) ∧ rest.length ≤ c ∧ (Kd.int .u8).C w0 A rest.length rest
  ge : w0.heap.size ≤ g
  small : rest.length < 140737488355328
  bel : Below w0.heap.size w0 W
theorem RdS.later {T : Nat} {w0 W W1 : World} {g : Nat} {rest : List Int} {met : Int} (h : RdS T w0 W g rest met) (hb : Below W.heap.size W W1) : RdS T w0 W1 g rest met := by
  obtain ⟨A, c, hg, hc, hC⟩ := h.ex
  exact ⟨⟨A, c, blk_below hg hb, hc, hC⟩, h.ge, h.small, below_step h.bel hb⟩
theorem RdS.put_met {T : Nat} {w0 W : World} {g : Nat} {rest : List Int} {met : Int} (h : RdS T w0 W g rest met) (x : Int) : RdS T w0 (W.setCell ⟨g, 2, none⟩ (.int .i64 x)) g rest x := by
  obtain ⟨A, c, hg, hc, hC⟩ := h.ex
  exact ⟨⟨A, c, by simpa using blk_set hg 2 (.int .i64 x), hc, hC⟩, h.ge, h.small, h.bel.setCell h.ge _⟩
theorem below_self {W W1 : World} (h : Below W.heap.size W W1) (g : Nat) : KeepBut W W1 g none := KeepBut.of_below h g none
def beI : List Int → Int → Int
  | [], n => n
  | c :: l, n => beI l (Go.bits .or .u64 (IntKind.u64.wrap (n * 256)) (IntKind.u64.wrap c))
theorem beI_next : ∀ (l : List Int) (i : Nat) (n : Int), i < l.length → beI (l.take (i + 1)) n = Go.bits .or .u64 (IntKind.u64.wrap (beI (l.take i) n * 256)) (IntKind.u64.wrap (rd l (i : Int)))
  | [], i, n, h => by simp at h
  | c :: l, 0, n, h => by simp [beI, rd]
  | c :: l, i + 1, n, h => by
    have := beI_next l i (Go.bits .or .u64 (IntKind.u64.wrap (n * 256)) (IntKind.u64.wrap c)) (by simpa using h)
    rw [List.take_succ_cons, beI, this, List.take_succ_cons, beI]
    simp [rd]
def fixR (s : Int) (rest : List Int) (met : Int) : Int × List Int × Int :=
  if met ≠ 0 then (0, rest, met) else if s < 1 ∨ 8 < s then (0, rest, 1) else if (rest.length : Int) < s then (0, rest, 2) else (beI (rest.take s.toNat) 0, rest.drop s.toNat, 0)
def takeR (n : Int) (rest : List Int) (met : Int) : List Int × List Int × Int :=
  if met ≠ 0 then ([], rest, met) else if n < 0 then ([], rest, 1) else if (rest.length : Int) < n then ([], rest, 2) else (rest.take n.toNat, rest.drop n.toNat, met)
def endR (rest : List Int) (met : Int) : Int := if met ≠ 0 then met else if rest = [] then 0 else 4
def negoRd (l : List Int) : Int × Bool × Int :=
  if endR (fixR 2 (fixR 1 l 0).2.1 (fixR 1 l 0).2.2).2.1 (fixR 2 (fixR 1 l 0).2.1 (fixR 1 l 0).2.2).2.2 ≠ 0 ∨ ((fixR 1 l 0).1 ≠ 1 ∧ (fixR 1 l 0).1 ≠ 2) then (0, false, 3)
  else (IntKind.u16.wrap (fixR 2 (fixR 1 l 0).2.1 (fixR 1 l 0).2.2).1, (fixR 1 l 0).1 == 2, 0)
end
/-- the first element that meets p, from place i on -/
def idxO {α : Type} (p : α → Option Bool) : List α → Int → Option Int
  | [], _ => some (-1)
  | x :: l, i => (p x).bind fun b => if b = true then some i else idxO p l (i + 1)
/-- what a row of eleven cells holds, cell by cell -/
theorem cells11 {w : World} {g : Nat} {t : TypeId} {x0 x1 x2 x3 x4 x5 x6 x7 x8 x9 x10 : Value} (h : w.heap[g]? = some (.cells #[x0, x1, x2, x3, x4, x5, x6, x7, x8, x9, x10] t (0, 0))) :
    w.cell? ⟨g, 0, none⟩ = some x0 ∧ w.cell? ⟨g, 1, none⟩ = some x1 ∧ w.cell? ⟨g, 2, none⟩ = some x2 ∧ w.cell? ⟨g, 3, none⟩ = some x3 ∧ w.cell? ⟨g, 4, none⟩ = some x4 ∧ w.cell? ⟨g, 5, none⟩ = some x5 ∧ w.cell? ⟨g, 6, none⟩ = some x6 ∧ w.cell? ⟨g, 7, none⟩ = some x7 ∧ w.cell? ⟨g, 8, none⟩ = some x8 ∧ w.cell? ⟨g, 9, none⟩ = some x9 ∧ w.cell? ⟨g, 10, none⟩ = some x10 ∧ w.frozen? ⟨g, 0, none⟩ = false ∧ w.frozen? ⟨g, 1, none⟩ = false ∧ w.frozen? ⟨g, 2, none⟩ = false ∧ w.frozen? ⟨g, 3, none⟩ = false ∧ w.frozen? ⟨g, 4, none⟩ = false ∧ w.frozen? ⟨g, 5, none⟩ = false ∧ w.frozen? ⟨g, 6, none⟩ = false ∧ w.frozen? ⟨g, 7, none⟩ = false ∧ w.frozen? ⟨g, 8, none⟩ = false ∧ w.frozen? ⟨g, 9, none⟩ = false ∧ w.frozen? ⟨g, 10, none⟩ = false :=
  ⟨(blk_cell h 0).trans rfl, (blk_cell h 1).trans rfl, (blk_cell h 2).trans rfl, (blk_cell h 3).trans rfl, (blk_cell h 4).trans rfl, (blk_cell h 5).trans rfl, (blk_cell h 6).trans rfl, (blk_cell h 7).trans rfl, (blk_cell h 8).trans rfl, (blk_cell h 9).trans rfl, (blk_cell h 10).trans rfl, blk_frozen h 0, blk_frozen h 1, blk_frozen h 2, blk_frozen h 3, blk_frozen h 4, blk_frozen h 5, blk_frozen h 6, blk_frozen h 7, blk_frozen h 8, blk_frozen h 9, blk_frozen h 10⟩
/-! ### '[]byte(s)' of a string that is no constant -/
theorem below_bytesWorld (W : World) (e : TypeId) (s : ByteArray) : Below W.heap.size W (Lib.bytesWorld W e s) := by
  refine ⟨?_, ?_, ?_, ?_, fun k hk => Lib.bytesWorld_at_old W e s k hk⟩
  · simp [Lib.bytesWorld, World.freeze, World.alloc, World.drew, -World.alloc_eq, -World.drew_eq]
  · simp [Lib.bytesWorld, World.freeze, World.alloc, World.drew, -World.alloc_eq, -World.drew_eq]
  · simp [Lib.bytesWorld, World.freeze, World.alloc, World.drew, -World.alloc_eq, -World.drew_eq]
  · rw [Lib.bytesWorld_size]; omega
theorem C_bytesWorld (W : World) (e : TypeId) (s : ByteArray) (hl : s.size ≤ 9223372036854775807) : (Kd.int .u8).C (Lib.bytesWorld W e s) (some ⟨W.heap.size, 0, none⟩) (bytesOf s).length (bytesOf s) := by
  have hlen : (bytesOf s).length = s.size := by unfold bytesOf; rw [List.length_map, Array.length_toList]; rfl
  refine Kd.C_of_reads (h1 := fun _ => rfl) (d := (0 : Int)) ?_
  refine ⟨rfl, by omega, fun h => ⟨⟨W.heap.size, 0, none⟩, rfl, fun i hi => ?_⟩⟩
  rw [add_plain, Lib.bytesWorld_cell W e s i (by omega)]
  have hi2 : i < s.data.size := by rw [hlen] at hi; exact hi
  unfold bytesOf
  simp [List.getD, Array.getElem?_eq_getElem hi2]
end Go.Proofs.YtmohmmpcadlfkaaDoorW.PrintWords
