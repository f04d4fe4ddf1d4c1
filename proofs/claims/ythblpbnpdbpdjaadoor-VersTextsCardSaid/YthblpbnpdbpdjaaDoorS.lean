/- Written in this session: strings.Split and strings.Join in the print's own form, out of the Shelf's contracts. No condition. -/
import Derived.Test.YthblpbnpdbpdjaaDoorShelf
import Derived.Test.YthblpbnpdbpdjaaDoorG
import Derived.Lib.OthersKept
import Derived.Lib.LaidU8
import Derived.Lib.Strings
import Derived.Lib.SplitLaws
import Derived.Below
import Derived.Handed
import Derived.Shelf.Vars
namespace Go.Proofs.YthblpbnpdbpdjaaDoorW.PrintWords
open Go.RowKit
/-- unicode/utf8's two tables, and the place of bytealg.MaxLen -/
def TabsM (gF gA gM : Nat) (w : World) : Prop := Lib.Utf8Tabs gF gA w ∧ ∃ m, w.cell? ⟨gM, 0, none⟩ = some (.int .i64 m)
theorem tabsM_later {gF gA gM : Nat} {w w' : World} (h : TabsM gF gA gM w) (hb : Below w.heap.size w w') : TabsM gF gA gM w' := by
  obtain ⟨h, m, hm⟩ := h
  refine ⟨⟨fun c hc => (hb.cell (World.block_lt_of_cell? _ _ (h.1 c hc))).trans (h.1 c hc), fun i hi => ⟨(hb.cell (World.block_lt_of_cell? _ _ (h.2 i hi).1)).trans (h.2 i hi).1, (hb.cell (World.block_lt_of_cell? _ _ (h.2 i hi).2)).trans (h.2 i hi).2⟩⟩, m, (hb.cell (World.block_lt_of_cell? _ _ hm)).trans hm⟩
theorem R_strs (w : World) (ss : List ByteArray) (e n : Nat) (hn : n = ss.length) (hl : n ≤ maxLen) : Kd.string.R e (w.alloc (.cells (ss.map Value.string).toArray e)) w.heap.size (fun _ => True) (.slice (some ⟨w.heap.size, 0, none⟩) n n) ss := by
  subst hn
  refine ⟨fun _ _ => trivial, ss.map Value.string, ⟨by simp [Kd.string, Kd.scalar], .inr ⟨w.heap.size, ss.length, (ss.map Value.string).toArray, rfl, Nat.le_refl _, heap_alloc_new w _, Nat.le_refl _, hl, by simp [Kd.string, Kd.scalar], by simp only [Kd.string, Kd.scalar, Nat.mul_one]; exact List.take_of_length_le (by simp)⟩⟩, by simp [Kd.string, Kd.scalar], fun j p hj => ?_⟩
  have hlt := (List.getElem?_eq_some_iff.1 hj).1
  have he := (List.getElem?_eq_some_iff.1 hj).2
  simp [Kd.string, Kd.scalar]
  rw [List.take_one]
  simp [List.head?_drop, hj]
theorem spot_of_R {α : Type} {d : Kd α} {e : Nat} {w : World} {base : Nat} {ok : Nat → Prop} {A : Option Addr} {n c : Nat} {xs : List α} (h : d.R e w base ok (.slice A n c) xs) : ∀ ad, A = some ad → ad.spot = none := by
  intro ad hA
  obtain ⟨_, inner, ⟨_, ho⟩, _⟩ := h
  rcases ho with ⟨hv, _⟩ | ⟨g, cap, cur, hv, _⟩
  · cases hv; cases hA
  · cases hv; cases hA; rfl
theorem C_strs_cells {w : World} {b o n : Nat} {xs : List ByteArray} (h : Kd.string.C w (some ⟨b, o, none⟩) n xs) : ∀ (j : Nat) x, xs[j]? = some x → w.cell? ⟨b, o + j, none⟩ = some (.string x) := by
  intro j x hj
  have hlt := (List.getElem?_eq_some_iff.1 hj).1
  have hn := h.1
  obtain ⟨ad, e, hc⟩ := h.2.2 (by omega)
  cases e
  obtain ⟨c, hl, hk, hcell⟩ := hc j x hj
  have hcx : c = [.string x] := hk
  subst hcx
  have := hcell 0 (.string x) rfl
  rw [← this]
  congr 1
  simp only [Kd.string, Kd.scalar, Addr.add, Nat.mul_one, Nat.add_zero]
  split <;> simp_all
theorem bne_nil_ (l : List UInt8) : (l != []) = !l.isEmpty := by cases l <;> rfl
/-- a call that is handed its arguments in a world whose package variables have their types' form -/
theorem handed_open {H : Type} {enc : TypeId × Value → H} {a : Assume} {C : Checked} {os : Os} {f : FuncId} {fn : Func} {s : ChangeSpec} {conds : List PathCond} {apart fresh handsOn again : Bool} {X : World → Array Value → Prop}
    (hX : ∀ (w w' : World) (args : Array Value), w.heap = w'.heap → X w args → X w' args)
    (own : ownKnob C.prog.godebug = none) (started : os.Started) (noInit : C.prog.inits.idxOf? f = none) (hfn : C.prog.funcs[f]? = some fn)
    (witness : ∃ (w : World) (tape : Tape) (i : Input), w.os = os ∧ (w.forCall tape i).Shaped C.prog ∧ i.vars = [] ∧ Input.okWide C.prog (w.forCall tape i) .any w.heap.size f i ∧
      ((s.pre enc C.prog fn conds apart (w.forCall tape i).memory i.args ∧ X (w.forCall tape i).memory i.args) ∧ sizedMet enc C.prog fn (OpenSpec.ofChange s) apart (w.forCall tape i).memory i.args) ∧ a.holds C.prog (lone (Frame.enter C.prog f i.args .normal) [] (w.forCall tape i)))
    (contract : ∀ (W : World) (base : Nat) (args : Array Value) (ds gs : List (DataW H)) (before : List MemPlace), W.ShapedOpen C.prog →
      (∀ (j : Nat) t v, fn.params[j]? = some t → args[j]? = some v → Value.okWide C.prog W .any base t v) →
      DataW.Whole enc C.prog fn.params.toList s.vars apart W args.toList ds gs before →
      conds.all (PathCond.test C.prog ⟨fn.params.toList, ds, s.plain.varTypes C.prog, gs⟩) = true →
      (DataW.weightsEach C.prog (fn.params.toList ++ s.plain.varTypes C.prog) (ds ++ gs)).all (· ≤ reachBytes) = true → X W args →
      a.holds C.prog (lone (Frame.enter C.prog f args .normal) [] W) →
      Calls C.prog f args W fun e W' => ∃ v, e = .returned v ∧ s.post enc C.prog fn apart fresh handsOn again W args v W') :
    ReturnsInHanded a C os f .any (fun w args => (s.pre enc C.prog fn conds apart w args ∧ X w args) ∧ sizedMet enc C.prog fn (OpenSpec.ofChange s) apart w args) (s.post enc C.prog fn apart fresh handsOn again) := by
  refine returnsInHanded_of_calls own started noInit witness fun w tape i _ hop _ hok hpre hholds => ?_
  have hval := hok.2.2.2
  obtain ⟨⟨⟨ds, gs, before, hw, hc⟩, hx⟩, hz⟩ := hpre
  obtain ⟨fn', hfn', _, _, _, _, hval⟩ := hval
  cases Option.some.inj (hfn'.symm.trans hfn)
  refine (contract (w.forCall tape i) w.heap.size i.args ds gs before hop hval (DataW.Whole.of_heap (w' := w.forCall tape i) (by rfl) hw) hc (hz.weights hw) (hX _ _ _ (by rfl) hx) hholds).mono fun e W' ⟨v, he, hp⟩ => ?_
  rw [he]
  exact ChangeSpec.post_blind hp
end Go.Proofs.YthblpbnpdbpdjaaDoorW.PrintWords
