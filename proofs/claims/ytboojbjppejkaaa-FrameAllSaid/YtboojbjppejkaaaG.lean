/- Words of this session's own beside the print's: events of a walk that the print lacks. No condition. -/
import Derived.Test.YtboojbjppejkaaaProg
import Derived.Test.YtboojbjppejkaaaWMore
import Derived.Lib.SlBytesConst
import Derived.Lib.SliceRun
import Derived.WalkSpells
set_option linter.unusedVariables false
set_option linter.unusedSimpArgs false
namespace Go.Proofs.YtboojbjppejkaaaW.PrintWords
open Go.RowKit
section
variable {P : Program} {ops : Array Oper} {rest : List Oper} {o o1 o2 : Oper} {a : Act} {Q : Exit → Act → World → Prop}
/-- a row whose block bears a mark, behind its last cell: it is read as any other one -/
theorem C_marked (W : World) (e : TypeId) (l : List Int) (fr : Nat × Nat) (hl : l.length ≤ 9223372036854775807) :
    (Kd.int .u8).C (W.alloc (.cells (nums .u8 l).toArray e fr)) (some ⟨W.heap.size, 0, none⟩) l.length l := by
  refine Kd.C_of_reads (h1 := fun _ => rfl) (d := (0 : Int)) ?_
  refine ⟨rfl, hl, fun h => ⟨⟨W.heap.size, 0, none⟩, rfl, fun i hi => ?_⟩⟩
  rw [add_plain, World.cell?_alloc_mark W _ e fr i]
  simp [nums, List.getD, hi]
/-- '[]byte("..")' of a constant: the literal's row and its conversion, as one event: new memory that is read alone -/
theorem bconst_event {W : World} (hg1 : o1.guard = none) (hg2 : o2.guard = none) {N1 N2 : Tmp} (hd1 : o1.dst = some N1) (hd2 : o2.dst = some N2) {l : List Int} {t e : TypeId}
    (ht : P.underlying t = some (.slice e)) (he : P.underlying e = some (.int .u8)) (ho2 : o2.op = .convert t t (.tmp N1)) (hin : N1 < a.tmps.size) (hl : l.length ≤ 9223372036854775807)
    (hrun : (execOp a.eval o1).run P W = .ok (.value (.slice (some ⟨W.heap.size, 0, none⟩) l.length l.length)) (W.alloc (.cells (nums .u8 l).toArray e)))
    (h : ∀ A w1, (Kd.int .u8).C w1 A l.length l → Below W.heap.size W w1 → wpList P ops Q rest ((a.put o1.dst (.slice A l.length l.length)).put o2.dst (.slice A l.length l.length)) w1) : wpList P ops Q (o1 :: o2 :: rest) a W := by
  refine Kd.event_run hg1 hrun ?_
  have hev : (a.put o1.dst (.slice (some ⟨W.heap.size, 0, none⟩) l.length l.length)).eval (.tmp N1) = .slice (some ⟨W.heap.size, 0, none⟩) l.length l.length := by
    rw [hd1]
    simp [Act.put, Act.eval, hin]
  have hr2 : (execOp (a.put o1.dst (.slice (some ⟨W.heap.size, 0, none⟩) l.length l.length)).eval o2).run P (W.alloc (.cells (nums .u8 l).toArray e)) = .ok (.value (.slice (some ⟨W.heap.size, 0, none⟩) l.length l.length)) (W.alloc (.cells (nums .u8 l).toArray e ((nums .u8 l).toArray.size, (nums .u8 l).toArray.size + 1))) := by
    have hc := Lib.run_convert_bytes_const (P := P) W t e (nums .u8 l).toArray l.length l.length ht he
    unfold execOp
    rw [ho2]
    simp [hev, hc, Result.andThen]
  refine Kd.event_run hg2 hr2 (h _ _ (C_marked W e l _ hl) (below_alloc (Below.refl _ _) _))
end
end Go.Proofs.YtboojbjppejkaaaW.PrintWords
