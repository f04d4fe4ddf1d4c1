/- Words of this session's own beside the print's: events of a walk that the print lacks. No condition. -/
import Derived.Test.YtlhmmegiklnppaaProg
import Derived.Test.YtlhmmegiklnppaaWMore
import Derived.Lib.SlBytesConst
import Derived.Lib.SliceRun
import Derived.WalkSpells
set_option linter.unusedVariables false
set_option linter.unusedSimpArgs false
namespace Go.Proofs.YtlhmmegiklnppaaW.PrintWords
open Go.RowKit
section
variable {P : Program} {ops : Array Oper} {rest : List Oper} {o o1 o2 : Oper} {a : Act} {Q : Exit → Act → World → Prop}
/-- a row whose block bears a mark, behind its last cell: it is read as any other one -/
theorem C_marked (W : World) (e : TypeId) (l : List Int) (fr : Nat × Nat) (hl : l.length ≤ 9223372036854775807) :
    (Kd.int .u8).C (W.alloc (.cells (nums .u8 l).toArray e fr)) (some ⟨W.heap.size, 0, none⟩) l.length l := by
  refine Kd.C_of_reads (h1 := fun _ => rfl) (d := (0 : Int)) ?_
  refine ⟨rfl, hl, fun h => ⟨⟨W.heap.size, 0, none⟩, rfl, fun i hi => ?_⟩⟩
  rw [add_plain, World.cell?_alloc_mark W _ e fr i]
  simp [nums, List.getD, hi]
/-- '[]byte("..")' of a constant: the literal's row and its conversion, as one event: new memory that is read alone -/
theorem bconst_event {W : World} (hg1 : o1.guard = none) (hg2 : o2.guard = none) {N1 N2 : Tmp} (hd1 : o1.dst = some N1) (hd2 : o2.dst = some N2) {l : List Int} {t e : TypeId}
    (ht : P.underlying t = some (.slice e)) (he : P.underlying e = some (.int .u8)) (ho2 : o2.op = .convert t t (.tmp N1)) (hin : N1 < a.tmps.size) (hl : l.length ≤ 9223372036854775807)
    (hrun : (execOp a.eval o1).run P W = .ok (.value (.slice (some ⟨W.heap.size, 0, none⟩) l.length l.length)) (W.alloc (.cells (nums .u8 l).toArray e)))
    (h : ∀ A w1, (Kd.int .u8).C w1 A l.length l → Below W.heap.size W w1 → wpList P ops Q rest ((a.put o1.dst (.slice A l.length l.length)).put o2.dst (.slice A l.length l.length)) w1) : wpList P ops Q (o1 :: o2 :: rest) a W := by
  refine Kd.event_run hg1 hrun ?_
  have hev : (a.put o1.dst (.slice (some ⟨W.heap.size, 0, none⟩) l.length l.length)).eval (.tmp N1) = .slice (some ⟨W.heap.size, 0, none⟩) l.length l.length := by
    rw [hd1]
    simp [Act.put, Act.eval, hin]
  have hr2 : (execOp (a.put o1.dst (.slice (some ⟨W.heap.size, 0, none⟩) l.length l.length)).eval o2).run P (W.alloc (.cells (nums .u8 l).toArray e)) = .ok (.value (.slice (some ⟨W.heap.size, 0, none⟩) l.length l.length)) (W.alloc (.cells (nums .u8 l).toArray e ((nums .u8 l).toArray.size, (nums .u8 l).toArray.size + 1))) := by
    have hc := Lib.run_convert_bytes_const (P := P) W t e (nums .u8 l).toArray l.length l.length ht he
    unfold execOp
    rw [ho2]
    simp [hev, hc, Result.andThen]
  refine Kd.event_run hg2 hr2 (h _ _ (C_marked W e l _ hl) (below_alloc (Below.refl _ _) _))
end
section
variable {α : Type} {P : Program} {ops : Array Oper} {rest : List Oper} {o : Oper} {a : Act} {Q : Exit → Act → World → Prop}
/-- 'make([]T, 0, n)': a row of the call's own, as yet without elements -/
theorem Kd.R_make0 (d : Kd α) {w0 W : World} (base e : Nat) (hgd : o.guard = none) {N : Tmp} (hd : o.dst = some N) (t : TypeId) (x y : Operand) (ho : o.op = .makeSlice t x y) (n : Int) (hx : a.eval x = .int .i64 0) (hy : a.eval y = .int .i64 n)
    (ht : P.underlying t = some (.slice e)) (z : Value) (bytes : Nat) (hinfo : (P.info? e).map (fun i => (i.zero, i.size, i.bytes)) = some (some z, d.sz, bytes)) (hz : z.cells.size = d.sz) (hb0 : 0 < bytes)
    {ok : Nat → Prop} (hfresh : ok W.heap.size) (h0 : 0 ≤ n) (hl : n.toNat * bytes ≤ 281474976710656) (HB : Below base w0 W) (hbase : base ≤ W.heap.size)
    (h : ∀ v1 w1, d.R e w1 base ok v1 [] → Below base w0 w1 → W.grownBy w1 none → (∃ b, v1.ownBlock = some b ∧ W.heap.size ≤ b) → wpList P ops Q rest (a.put o.dst v1) w1) : wpList P ops Q (o :: rest) a W := by
  obtain ⟨m, rfl⟩ := Int.eq_ofNat_of_zero_le h0
  simp only [Int.toNat_natCast] at hl h
  obtain ⟨i0, hi, hzz⟩ := Option.map_eq_some_iff.1 hinfo
  simp only [Prod.mk.injEq] at hzz
  obtain ⟨hz0, hz1, hz2⟩ := hzz
  have hm : m ≤ 281474976710656 := Nat.le_trans (Nat.le_mul_of_pos_right _ hb0) hl
  have hr := run_make (P := P) W t e i0 z ht hi hz0 .i64 .i64 0 (m : Int) (by omega) (by omega)
    (by
      have h3 : ((i0.bytes * m : Nat) : Int) ≤ 281474976710656 := by rw [hz2, Nat.mul_comm]; omega
      rwa [Int.natCast_mul] at h3) (by omega)
  simp only [Int.toNat_natCast] at hr
  rw [hz1] at hr
  have hrun : (execOp a.eval o).run P W = .ok (.value (.slice (some ⟨W.heap.size, 0, none⟩) 0 m)) (W.alloc (.cells (madeCells z.cells (m * d.sz)) e)) := by
    simp [execOp, ho, hx, hy, hr]
  refine Kd.event_run hgd hrun (h _ _ ⟨fun k hk => ?_, [], ⟨by simp, .inr ⟨W.heap.size, m, madeCells z.cells (m * d.sz), rfl, hbase, by simpa using heap_alloc_new W _, Nat.zero_le _, by unfold maxLen; omega, by simp [size_madeCells], by simp⟩⟩, Reps.none _ _⟩ (HB.alloc hbase _) (World.grownBy_alloc W _ none) ⟨W.heap.size, by simp [Value.ownBlock], Nat.le_refl _⟩)
  have : W.heap.size = k := by simpa [Value.ownBlock] using hk
  subst this
  exact hfresh
end
/-! ### digits -/
/-- the digits of a number -/
def digL (n : Nat) : List Int := if n < 10 then [48 + (n : Int)] else digL (n / 10) ++ [48 + ((n % 10 : Nat) : Int)]
termination_by n
structure DigInv (u0 u i : Nat) (m : Bool) (cs : List Int) : Prop where
  len : cs.length = 20
  le : i ≤ 20
  lt : u < 18446744073709551616
  go : m = true → digL u0 = digL u ++ cs.drop i ∧ (digL u).length ≤ i
  ends : m = false → digL u0 = cs.drop i
structure DigW (T : TypeId) (w wr : World) (cs : List Int) : Prop where
  blk : wr.heap[w.heap.size]? = some (.cells (nums .u8 cs).toArray T (0, 0))
  below : Below w.heap.size w wr
theorem digL_pos (n : Nat) : 0 < (digL n).length := by rw [digL]; split <;> simp
theorem digL_len (m : Nat) : ∀ n, n < 10 ^ (m + 1) → (digL n).length ≤ m + 1 := by
  induction m with
  | zero => intro n h; rw [digL, if_pos (by omega)]; simp
  | succ m ih =>
    intro n h
    rw [digL]
    split
    · simp
    · have := ih (n / 10) (by rw [Nat.pow_succ] at h; omega)
      simp only [List.length_append, List.length_singleton]; omega
theorem drop_set_at (l : List Int) (j : Nat) (x : Int) (h : j < l.length) : (l.set j x).drop j = x :: l.drop (j + 1) := by
  rw [List.drop_eq_getElem_cons (by simpa using h)]
  simp [List.drop_set_of_lt]
theorem digL_small {n : Nat} (h : n < 10) : digL n = [48 + (n : Int)] := by rw [digL, if_pos h]
theorem digL_great {n : Nat} (h : ¬ n < 10) : digL n = digL (n / 10) ++ [48 + ((n % 10 : Nat) : Int)] := by rw [digL, if_neg h]
theorem place_at : ∀ d : Fin 10, ((({ data := #[48, 49, 50, 51, 52, 53, 54, 55, 56, 57, 97, 98, 99, 100, 101, 102] } : ByteArray)[d.val]'(by have := d.isLt; show d.val < 16; omega)).toNat : Int) = 48 + (d.val : Int) := by decide
end Go.Proofs.YtlhmmegiklnppaaW.PrintWords
