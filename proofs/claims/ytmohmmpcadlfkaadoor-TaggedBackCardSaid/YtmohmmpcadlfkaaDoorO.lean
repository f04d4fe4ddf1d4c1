/- What lies at a type reads as a value of the print's kinds (whole numbers, bools, strings, slices, structs, in one another), for the rows of laws. No condition. -/
import Derived.Test.YtmohmmpcadlfkaaDoorWMore
import Derived.Deep.Slices
import Derived.ChangeArms
import Derived.WideShapes
import Derived.OpenShut
set_option linter.unusedVariables false
set_option linter.unusedSimpArgs false
namespace Go.Proofs.YtmohmmpcadlfkaaDoorW.PrintWords
open Go.RowKit Go.ChangeShapes Go.WideShapes Go.Deep
/-- What lies at type t reads as a value of the kind d, and G holds of it. -/
def Opn {α : Type} (P : Program) (t : TypeId) (d : Kd α) (G : α → Prop) : Prop :=
  ∀ {H : Type} {enc : TypeId × Value → H} {w : World} {base : Nat} {held : Bool} {fuel : Nat} {cs : List Value} {y : DataW H × List MemPlace},
    DataW.trod enc P w base (fun _ => true) held fuel t cs = some y → ∃ x, d.K w x cs ∧ G x
section
variable {P : Program} {t e : TypeId}
theorem opn_int {k : IntKind} (h : P.underlying t = some (.int k)) : Opn P t (Kd.int k) (fun n => (Lit.int k n).wf = true) := by
  intro H enc w base held fuel cs y hy
  obtain ⟨n, hcs, _, hw⟩ := DataW.trod_int h hy
  exact ⟨n, hcs, hw⟩
theorem opn_bool (h : P.underlying t = some .bool) : Opn P t Kd.bool (fun _ => True) := by
  intro H enc w base held fuel cs y hy
  obtain ⟨b, hcs, _⟩ := DataW.trod_bool h hy
  exact ⟨b, hcs, trivial⟩
theorem opn_string (h : P.underlying t = some .string) : Opn P t Kd.string (fun s => s.size ≤ maxLen) := by
  intro H enc w base held fuel cs y hy
  obtain ⟨s, hcs, _, hs⟩ := DataW.trod_string h hy
  exact ⟨s, hcs, hs⟩
theorem list_of {α : Type} {p : Nat → α → Prop} : ∀ n : Nat, (∀ i, i < n → ∃ x, p i x) → ∃ l : List α, l.length = n ∧ ∀ i x, l[i]? = some x → p i x
  | 0, _ => ⟨[], rfl, fun i x h => by simp at h⟩
  | n + 1, h => by
    obtain ⟨l, hl, hp⟩ := list_of n (fun i hi => h i (by omega))
    obtain ⟨x, hx⟩ := h n (by omega)
    refine ⟨l ++ [x], by simp [hl], fun i z hz => ?_⟩
    rcases Nat.lt_or_ge i l.length with hi | hi
    · rw [List.getElem?_append_left hi] at hz
      exact hp i z hz
    · rw [List.getElem?_append_right hi] at hz
      have h0 : i - l.length = 0 := by
        have := (List.getElem?_eq_some_iff.1 hz).1
        simp at this
        omega
      rw [h0] at hz
      simp at hz
      subst hz
      rw [show i = n by omega]
      exact hx
theorem opn_slice {α : Type} {d : Kd α} {G : α → Prop} (ht : P.underlying t = some (.slice e)) (hc : P.cellsOf e = d.sz) (hd : Opn P e d G) : Opn P t (Kd.slice e d) (fun l => l.length ≤ maxLen ∧ ∀ x ∈ l, G x) := by
  intro H enc w base held fuel cs y hy
  rcases open_slice ht hy with ⟨rfl, _⟩ | ⟨a, len, cap, m, n, D, Pl, rfl, hb, hl, hm, hmm, _, hi⟩
  · exact ⟨[], ⟨none, 0, rfl, Nat.le_refl _, Kd.C_nil d w⟩, Nat.zero_le _, fun x hx => by cases hx⟩
  · simp only [if_true] at hmm
    subst hmm
    obtain ⟨l, hlen, hp⟩ := list_of (p := fun i x => ∃ cs', w.cells? base (a.add (i * d.sz)) d.sz = some cs' ∧ d.K w x cs' ∧ G x) len (fun i hi' => by
      obtain ⟨cs', h1, h2⟩ := hi i (by omega)
      rw [hc] at h1
      obtain ⟨x, hK, hG⟩ := hd h2
      exact ⟨x, cs', h1, hK, hG⟩)
    have hmx : m ≤ 9223372036854775807 := by simpa [maxLen] using hm
    refine ⟨l, ⟨some a, m, by rw [hlen], by omega, ?_⟩, by omega, fun x hx => ?_⟩
    · refine ⟨rfl, by omega, fun _ => ⟨a, rfl, fun j p hj => ?_⟩⟩
      obtain ⟨cs', h1, hK, _⟩ := hp j p hj
      obtain ⟨_, hcl, hat⟩ := World.cells?_some h1
      refine ⟨cs', hcl, hK, fun i u hu => ?_⟩
      have hlt : i < cs'.length := (List.getElem?_eq_some_iff.1 hu).1
      have := hat i (by omega)
      rw [hu] at this
      rw [← Go.Deep.add_add]
      exact this
    · obtain ⟨i, hi'⟩ := List.getElem?_of_mem hx
      obtain ⟨_, _, _, hG⟩ := hp i x hi'
      exact hG
/-- A struct's fields, from one on. -/
def OpnF {α : Type} (P : Program) (fs : List Field) (off : Nat) (d : Kd α) (G : α → Prop) : Prop :=
  ∀ {H : Type} {enc : TypeId × Value → H} {w : World} {base : Nat} {held : Bool} {n : Nat} {cs : List Value} {xs : List (DataW H × List MemPlace)},
    (∀ (i : Nat) (f : Field), fs[i]? = some f → DataW.trod enc P w base (fun _ => true) held n f.type ((cs.drop f.offset).take (P.cellsOf f.type)) = xs[i]?) → xs.length = fs.length →
    ∃ x, d.K w x ((cs.drop off).take d.sz) ∧ G x
theorem opnF_one {α : Type} {d : Kd α} {G : α → Prop} {f : Field} {off : Nat} (h : Opn P f.type d G) (ho : f.offset = off) (hc : P.cellsOf f.type = d.sz) : OpnF P [f] off d G := by
  intro H enc w base held n cs xs hf hl
  match xs, hl with
  | [x0], _ =>
    have := hf 0 f rfl
    rw [ho, hc] at this
    exact h this
theorem opnF_cons {α β : Type} {a : Kd α} {b : Kd β} {G1 : α → Prop} {G2 : β → Prop} {f : Field} {fs : List Field} {off : Nat} (h : Opn P f.type a G1) (ho : f.offset = off) (hc : P.cellsOf f.type = a.sz) (hr : OpnF P fs (off + a.sz) b G2) :
    OpnF P (f :: fs) off (Kd.pair a b) (fun x => G1 x.1 ∧ G2 x.2) := by
  intro H enc w base held n cs xs hf hl
  match xs, hl with
  | x0 :: xs, hl =>
    have h0 := hf 0 f rfl
    rw [ho, hc] at h0
    obtain ⟨x, hK, hG⟩ := h h0
    obtain ⟨z, hK2, hG2⟩ := hr (fun i f' hi => by simpa using hf (i + 1) f' (by simpa using hi)) (by simpa using hl)
    refine ⟨(x, z), ⟨_, _, ?_, hK, hK2⟩, hG, hG2⟩
    show (cs.drop off).take (a.sz + b.sz) = _
    rw [List.take_add, List.drop_drop]
theorem opn_struct {α : Type} {d : Kd α} {G : α → Prop} {fs : Array Field} (ht : P.underlying t = some (.struct fs)) (hc : P.cellsOf t = d.sz) (hF : OpnF P fs.toList 0 d G) : Opn P t d G := by
  intro H enc w base held fuel cs y hy
  obtain ⟨xs, n, _, _, hl, hlen, hf⟩ := DataW.trod_struct ht hy
  obtain ⟨x, hK, hG⟩ := hF (xs := xs) (cs := cs) (fun i f hi => hf i f (by simpa using hi)) (by simpa using hlen)
  refine ⟨x, ?_, hG⟩
  rw [List.drop_zero, List.take_of_length_le (by omega)] at hK
  exact hK
theorem opn_iso {α β : Type} {d : Kd α} {G : α → Prop} (f : β → α) (g : α → β) (hg : ∀ x, f (g x) = x) (h : Opn P t d G) : Opn P t (Kd.iso d f) (fun y => G (f y)) := by
  intro H enc w base held fuel cs y hy
  obtain ⟨x, hK, hG⟩ := h hy
  refine ⟨g x, ?_, ?_⟩
  · show d.K w (f (g x)) cs
    rw [hg]
    exact hK
  · show G (f (g x))
    rw [hg]
    exact hG
/-! the same up to some depth, for structs that hold themselves -/
def OpnU {α : Type} (N : Nat) (P : Program) (t : TypeId) (d : Kd α) (G : α → Prop) : Prop :=
  ∀ {H : Type} {enc : TypeId × Value → H} {w : World} {base : Nat} {held : Bool} {fuel : Nat} {cs : List Value} {y : DataW H × List MemPlace},
    fuel ≤ N → DataW.trod enc P w base (fun _ => true) held fuel t cs = some y → ∃ x, d.K w x cs ∧ G x
theorem Opn.u {α : Type} {d : Kd α} {G : α → Prop} (h : Opn P t d G) (N : Nat) : OpnU N P t d G := fun _ hy => h hy
theorem OpnU.le {α : Type} {d : Kd α} {G : α → Prop} {N M : Nat} (h : OpnU N P t d G) (hn : M ≤ N) : OpnU M P t d G := fun hf hy => h (Nat.le_trans hf hn) hy
theorem opnU_zero {α : Type} {d : Kd α} {G : α → Prop} : OpnU 0 P t d G := by
  intro H enc w base held fuel cs y hf hy
  obtain rfl : fuel = 0 := by omega
  simp [DataW.trod] at hy
theorem opnU_slice {α : Type} {d : Kd α} {G : α → Prop} {N : Nat} (ht : P.underlying t = some (.slice e)) (hc : P.cellsOf e = d.sz) (hd : OpnU N P e d G) : OpnU (N + 1) P t (Kd.slice e d) (fun l => l.length ≤ maxLen ∧ ∀ x ∈ l, G x) := by
  intro H enc w base held fuel cs y hf hy
  rcases DataW.trod_slice ht hy with ⟨rfl, _⟩ | ⟨a, len, cap, elems, rest, n, hn, rfl, _, hb, hl, hm, hlen, hi, _⟩
  · exact ⟨[], ⟨none, 0, rfl, Nat.le_refl _, Kd.C_nil d w⟩, Nat.zero_le _, fun x hx => by cases hx⟩
  · obtain ⟨l, hlen, hp⟩ := list_of (p := fun i x => ∃ cs', w.cells? base (a.add (i * d.sz)) d.sz = some cs' ∧ d.K w x cs' ∧ G x) len (fun i hi' => by
      have hi2 := hi i hi'
      rw [List.getElem?_eq_getElem (show i < elems.length by omega)] at hi2
      obtain ⟨cs', h1, h2⟩ := Option.bind_eq_some_iff.1 hi2
      rw [hc] at h1
      obtain ⟨x, hK, hG⟩ := hd (by omega) h2
      exact ⟨x, cs', h1, hK, hG⟩)
    have hmx : cap ≤ 9223372036854775807 := by simpa [maxLen] using hm
    refine ⟨l, ⟨some a, cap, by rw [hlen], by omega, ?_⟩, by omega, fun x hx => ?_⟩
    · refine ⟨rfl, by omega, fun _ => ⟨a, rfl, fun j p hj => ?_⟩⟩
      obtain ⟨cs', h1, hK, _⟩ := hp j p hj
      obtain ⟨_, hcl, hat⟩ := World.cells?_some h1
      refine ⟨cs', hcl, hK, fun i u hu => ?_⟩
      have hlt : i < cs'.length := (List.getElem?_eq_some_iff.1 hu).1
      have := hat i (by omega)
      rw [hu] at this
      rw [← Go.Deep.add_add]
      exact this
    · obtain ⟨i, hi'⟩ := List.getElem?_of_mem hx
      obtain ⟨_, _, _, hG⟩ := hp i x hi'
      exact hG
def OpnFU {α : Type} (N : Nat) (P : Program) (fs : List Field) (off : Nat) (d : Kd α) (G : α → Prop) : Prop :=
  ∀ {H : Type} {enc : TypeId × Value → H} {w : World} {base : Nat} {held : Bool} {n : Nat} {cs : List Value} {xs : List (DataW H × List MemPlace)}, n ≤ N →
    (∀ (i : Nat) (f : Field), fs[i]? = some f → DataW.trod enc P w base (fun _ => true) held n f.type ((cs.drop f.offset).take (P.cellsOf f.type)) = xs[i]?) → xs.length = fs.length →
    ∃ x, d.K w x ((cs.drop off).take d.sz) ∧ G x
theorem opnFU_one {α : Type} {d : Kd α} {G : α → Prop} {f : Field} {off N : Nat} (h : OpnU N P f.type d G) (ho : f.offset = off) (hc : P.cellsOf f.type = d.sz) : OpnFU N P [f] off d G := by
  intro H enc w base held n cs xs hn hf hl
  match xs, hl with
  | [x0], _ =>
    have := hf 0 f rfl
    rw [ho, hc] at this
    exact h hn this
theorem opnFU_cons {α β : Type} {a : Kd α} {b : Kd β} {G1 : α → Prop} {G2 : β → Prop} {f : Field} {fs : List Field} {off N : Nat} (h : OpnU N P f.type a G1) (ho : f.offset = off) (hc : P.cellsOf f.type = a.sz) (hr : OpnFU N P fs (off + a.sz) b G2) :
    OpnFU N P (f :: fs) off (Kd.pair a b) (fun x => G1 x.1 ∧ G2 x.2) := by
  intro H enc w base held n cs xs hn hf hl
  match xs, hl with
  | x0 :: xs, hl =>
    have h0 := hf 0 f rfl
    rw [ho, hc] at h0
    obtain ⟨x, hK, hG⟩ := h hn h0
    obtain ⟨z, hK2, hG2⟩ := hr hn (fun i f' hi => by simpa using hf (i + 1) f' (by simpa using hi)) (by simpa using hl)
    refine ⟨(x, z), ⟨_, _, ?_, hK, hK2⟩, hG, hG2⟩
    show (cs.drop off).take (a.sz + b.sz) = _
    rw [List.take_add, List.drop_drop]
theorem opnU_struct {α : Type} {d : Kd α} {G : α → Prop} {fs : Array Field} {N : Nat} (ht : P.underlying t = some (.struct fs)) (hc : P.cellsOf t = d.sz) (hF : OpnFU N P fs.toList 0 d G) : OpnU (N + 1) P t d G := by
  intro H enc w base held fuel cs y hfu hy
  obtain ⟨xs, n, hn, _, hl, hlen, hf⟩ := DataW.trod_struct ht hy
  obtain ⟨x, hK, hG⟩ := hF (xs := xs) (cs := cs) (show n ≤ N by omega) (fun i f hi => hf i f (by simpa using hi)) (by simpa using hlen)
  refine ⟨x, ?_, hG⟩
  rw [List.drop_zero, List.take_of_length_le (by omega)] at hK
  exact hK
theorem opnU_iso {α β : Type} {d : Kd α} {G : α → Prop} {N : Nat} (f : β → α) (g : α → β) (hg : ∀ x, f (g x) = x) (h : OpnU N P t d G) : OpnU N P t (Kd.iso d f) (fun y => G (f y)) := by
  intro H enc w base held fuel cs y hfu hy
  obtain ⟨x, hK, hG⟩ := h hfu hy
  refine ⟨g x, ?_, ?_⟩
  · show d.K w (f (g x)) cs
    rw [hg]
    exact hK
  · show G (f (g x))
    rw [hg]
    exact hG
/-- An array of two whole numbers. -/
theorem opn_arr2 {k : IntKind} (ht : P.underlying t = some (.array 2 e)) (he : P.underlying e = some (.int k)) (hce : P.cellsOf e = 1) (hct : P.cellsOf t = 2) :
    Opn P t (Kd.pair (Kd.int k) (Kd.int k)) (fun x => (Lit.int k x.1).wf = true ∧ (Lit.int k x.2).wf = true) := by
  intro H enc w base held fuel cs y hy
  obtain ⟨xs, m, _, _, hl, hlen, hf⟩ := DataW.trod_array ht hy
  rw [hct] at hl
  rw [hce] at hf
  match cs, hl, xs, hlen, hf with
  | [c0, c1], _, [x0, x1], _, hf =>
    have h0 := hf 0 (by omega)
    have h1 := hf 1 (by omega)
    obtain ⟨n0, hc0, _, hw0⟩ := DataW.trod_int he h0
    obtain ⟨n1, hc1, _, hw1⟩ := DataW.trod_int he h1
    refine ⟨(n0, n1), ⟨[c0], [c1], rfl, ?_, ?_⟩, hw0, hw1⟩
    · exact hc0
    · exact hc1
theorem okWide_arr {n : Nat} {w : World} {r : Reach} {base : Nat} {v : Value} (ht : P.underlying t = some (.array n e)) (h : Value.okWide P w r base t v) : ∃ cs, v = .agg cs ∧ cs.size = P.cellsOf t := by
  simp only [Value.okWide, ht] at h
  obtain ⟨cs, h1, h2, _⟩ := h
  exact ⟨cs, h1, h2⟩
end
end Go.Proofs.YtmohmmpcadlfkaaDoorW.PrintWords
