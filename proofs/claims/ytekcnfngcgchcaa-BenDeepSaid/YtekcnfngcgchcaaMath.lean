/- Words and plain mathematics for the pure laws of this seat: rounds that end, whole numbers, lists; no program. -/
import Derived.Test.YtekcnfngcgchcaaWWords
import Derived.Test.YtekcnfngcgchcaaWLast
import Derived.Test.YtekcnfngcgchcaaWMore
import Derived.Laws.BitsLemmas
import Derived.Laws.BitsAllLaws
set_option linter.unusedVariables false
set_option linter.unusedSimpArgs false
namespace Annulet
open Go Go.RowKit Go.Proofs.YtekcnfngcgchcaaW.PrintWords Go.Proofs.YtekcnfngcgchcaaW.PrintLast Go.Proofs.YtekcnfngcgchcaaW.PrintMore

/-! ### rounds -/
theorem ev_succ {α : Type} {g : Nat → Option α} {r : α} (h : Ev (fun k => g (k + 1)) r) : Ev g r := Ev.step (fun _ => rfl) h
theorem ev_bind {α β : Type} {g : Nat → Option α} {f : Nat → α → Option β} {a : α} {r : β} (h : Ev g a) (k : Ev (fun n => f n a) r) : Ev (fun n => (g n).bind (f n)) r := Ev.bind h k
theorem ev_some {α : Type} (r : α) : Ev (fun _ => some r) r := Ev.now r
theorem ev_const {α : Type} {g : Nat → Option α} {r : α} (h : ∀ k, g (k + 1) = some r) : Ev g r := ev_succ (g := g) (by simp only [h]; exact ev_some r)
theorem ev_eq {α : Type} {g : Nat → Option α} {r s : α} (h : Ev g r) (e : r = s) : Ev g s := e ▸ h
theorem ev_uniq {α : Type} {g : Nat → Option α} {r s : α} (h : Ev g r) (h' : Ev g s) : r = s := by
  obtain ⟨K, hK⟩ := h
  obtain ⟨L, hL⟩ := h'
  have a := hK (max K L) (Nat.le_max_left _ _)
  have b := hL (max K L) (Nat.le_max_right _ _)
  exact Option.some.inj (a.symm.trans b)

/-! ### whole numbers -/
theorem w64 {n : Int} (h0 : -9223372036854775808 ≤ n) (h1 : n ≤ 9223372036854775807) : wrap64 n = n := by
  unfold wrap64
  omega
theorem wu64 (n : Int) : IntKind.u64.wrap n = n % 18446744073709551616 := by simp [IntKind.wrap, IntKind.bits, IntKind.signed]
theorem wu64_id {n : Int} (h0 : 0 ≤ n) (h1 : n < 18446744073709551616) : IntKind.u64.wrap n = n := by
  rw [wu64]
  omega
theorem wraps_u64 (n : Int) (h₀ : 0 ≤ n) (h₁ : n < 2 ^ 64) : IntKind.u64.wrap n = n := wu64_id h₀ (by simpa using h₁)
theorem wf_u8 {x : Int} (h : (Lit.int .u8 x).wf = true) : 0 ≤ x ∧ x < 256 := by
  simp [Lit.wf, IntKind.min, IntKind.max, IntKind.bits, IntKind.signed] at h
  omega
theorem wf_u64 {x : Int} (h : (Lit.int .u64 x).wf = true) : 0 ≤ x ∧ x < 18446744073709551616 := by
  simp [Lit.wf, IntKind.min, IntKind.max, IntKind.bits, IntKind.signed] at h
  omega
theorem wf_i64 {x : Int} (h : (Lit.int .i64 x).wf = true) : -9223372036854775808 ≤ x ∧ x < 9223372036854775808 := by
  simp [Lit.wf, IntKind.min, IntKind.max, IntKind.bits, IntKind.signed] at h
  omega
theorem wf_u32 {x : Int} (h : (Lit.int .u32 x).wf = true) : 0 ≤ x ∧ x < 4294967296 := by
  simp [Lit.wf, IntKind.min, IntKind.max, IntKind.bits, IntKind.signed] at h
  omega
theorem wf_u16 {x : Int} (h : (Lit.int .u16 x).wf = true) : 0 ≤ x ∧ x < 65536 := by
  simp [Lit.wf, IntKind.min, IntKind.max, IntKind.bits, IntKind.signed] at h
  omega

theorem or128 {x : Int} (h : 0 ≤ x) : bits .or .u8 (x % 256) 128 = x % 128 + 128 := by
  have e : bits .or .u8 (x % 256) 128 = bits .or .u8 128 (x % 128) := by
    have h1 := (bits_nat .u8 8 (by decide) wraps_u8 (x % 256).toNat 128 (by omega) (by decide)).2
    have h2 := (bits_nat .u8 8 (by decide) wraps_u8 128 (x % 128).toNat (by decide) (by omega)).2
    rw [show ((x % 256).toNat : Int) = x % 256 from by omega] at h1
    rw [show ((x % 128).toNat : Int) = x % 128 from by omega] at h2
    have e128 : ((128 : Nat) : Int) = 128 := rfl
    rw [e128] at h1 h2
    rw [h1, h2]
    have key : ∀ a : Nat, a < 256 → (a ||| 128 : Nat) = (128 ||| a % 128 : Nat) := by decide +kernel
    have := key (x % 256).toNat (by omega)
    rw [this, show (x % 256).toNat % 128 = (x % 128).toNat from by omega]
  rw [e, bits_join .u8 8 (by decide) wraps_u8 7 128 (x % 128) (by decide) (by decide) (by decide) (by omega) (by omega) (by omega)]
  omega
theorem and127 {x : Int} (h : 0 ≤ x) (h' : x < 256) : bits .and .u8 x 127 = x % 128 := bits_mask .u8 8 (by decide) wraps_u8 7 (by decide) x h h'
theorem mod128_step {a b : Int} (h : 0 ≤ a) (h' : a * 128 + b < 18446744073709551616) (hb : 0 ≤ b) (hb' : b < 128) : bits .or .u64 (IntKind.u64.wrap (a * 128)) (IntKind.u64.wrap b) = a * 128 + b := by
  rw [wu64_id (by omega) (by omega), wu64_id (by omega) (by omega)]
  exact bits_join .u64 64 (by decide) wraps_u64 7 (a * 128) b (by omega) (by omega) (by omega) hb (by omega) (by omega)

/-! ### lists -/
def Byte (x : Int) : Prop := 0 ≤ x ∧ x < 256
def Bytes (l : List Int) : Prop := ∀ x ∈ l, Byte x
theorem rd_nat (l : List Int) (i : Nat) : rd l (i : Int) = l.getD i 0 := by simp [rd]
theorem rd_byte {l : List Int} (h : Bytes l) (i : Int) : Byte (rd l i) := by
  unfold rd
  by_cases hi : i.toNat < l.length
  · have e : l.getD i.toNat 0 = l[i.toNat] := by simp [List.getD, hi]
    rw [e]
    exact h _ (List.getElem_mem hi)
  · have e : l.getD i.toNat 0 = 0 := by simp [List.getD, Nat.le_of_not_lt hi]
    rw [e]
    exact ⟨by omega, by omega⟩
theorem bytes_of_wf {l : List Int} (h : ∀ x ∈ l, (Lit.int .u8 x).wf = true) : Bytes l := fun x hx => wf_u8 (h x hx)
theorem bytes_nil : Bytes [] := fun _ h => by cases h
theorem bytes_append {a b : List Int} (ha : Bytes a) (hb : Bytes b) : Bytes (a ++ b) := fun x hx => by
  rcases List.mem_append.1 hx with h | h
  · exact ha x h
  · exact hb x h
theorem bytes_cons {x : Int} {l : List Int} (hx : Byte x) (h : Bytes l) : Bytes (x :: l) := fun y hy => by
  rcases List.mem_cons.1 hy with rfl | h'
  · exact hx
  · exact h y h'
theorem bytes_drop {l : List Int} (h : Bytes l) (n : Nat) : Bytes (l.drop n) := fun x hx => h x (List.mem_of_mem_drop hx)
theorem bytes_take {l : List Int} (h : Bytes l) (n : Nat) : Bytes (l.take n) := fun x hx => h x (List.mem_of_mem_take hx)

/-- how many cells at the head meet p -/
def lead (p : Int → Bool) : List Int → Nat
  | [] => 0
  | x :: l => if p x then lead p l + 1 else 0
theorem lead_le (p : Int → Bool) : ∀ l, lead p l ≤ l.length
  | [] => Nat.le_refl _
  | x :: l => by
    have := lead_le p l
    simp only [lead, List.length_cons]
    split <;> omega
theorem lead_eq (p : Int → Bool) : ∀ (l : List Int) (i : Nat), i ≤ l.length → (∀ j < i, p (l.getD j 0) = true) → (i < l.length → p (l.getD i 0) = false) → lead p l = i
  | [], i, h, _, _ => by simp at h; simp [lead, h]
  | x :: l, 0, _, _, h => by simp [lead, by simpa using h (by simp)]
  | x :: l, i + 1, h, ha, hs => by
    have h0 : p x = true := by simpa using ha 0 (by omega)
    have := lead_eq p l i (by simpa using h) (fun j hj => by simpa using ha (j + 1) (by omega)) (fun hi => by simpa using hs (by simpa using hi))
    simp [lead, h0, this]
theorem lead_at (p : Int → Bool) : ∀ (l : List Int) (j : Nat), j < lead p l → p (l.getD j 0) = true
  | [], j, h => by simp [lead] at h
  | x :: l, j, h => by
    simp only [lead] at h
    split at h
    · rename_i hx
      cases j with
      | zero => simpa using hx
      | succ j => simpa using lead_at p l j (by omega)
    · omega
theorem lead_stop (p : Int → Bool) : ∀ (l : List Int), lead p l < l.length → p (l.getD (lead p l) 0) = false
  | [], h => by simp at h
  | x :: l, h => by
    by_cases hx : p x = true
    · simp only [lead, hx, if_true, List.length_cons] at h ⊢
      simpa using lead_stop p l (by omega)
    · simp only [lead, hx, if_false] at h ⊢
      simpa using hx
theorem getD_take (l : List Int) (m j : Nat) (h : j < m) : (l.take m).getD j 0 = l.getD j 0 := by
  simp [List.getD, List.getElem?_take, h]
theorem getD_drop (l : List Int) (m j : Nat) : (l.drop m).getD j 0 = l.getD (m + j) 0 := by
  simp [List.getD, List.getElem?_drop]

/-! ### the text of bytes -/
theorem str_inj {a b : List Int} (h : a = b) : (strOfNums a).toList = (strOfNums b).toList := by rw [h]
end Annulet
