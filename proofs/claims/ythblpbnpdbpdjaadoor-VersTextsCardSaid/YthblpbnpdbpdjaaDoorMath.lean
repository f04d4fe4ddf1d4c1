/- Words and plain mathematics for the pure laws of this seat: rounds that end, whole numbers, lists; no program. -/
import Derived.Test.YthblpbnpdbpdjaaDoorWWords
import Derived.Test.YthblpbnpdbpdjaaDoorWLast
import Derived.Test.YthblpbnpdbpdjaaDoorWMore
import Derived.Laws.BitsLemmas
import Derived.Laws.BitsAllLaws
import Derived.Test.YthblpbnpdbpdjaaDoorG
import Derived.Lib.BitFns
import Derived.Test.YthblpbnpdbpdjaaDoorS
set_option linter.unusedVariables false
set_option linter.unusedSimpArgs false
namespace Annulet
open Go Go.RowKit Go.Proofs.YthblpbnpdbpdjaaDoorW.PrintWords Go.Proofs.YthblpbnpdbpdjaaDoorW.PrintLast Go.Proofs.YthblpbnpdbpdjaaDoorW.PrintMore

/-! ### rounds -/
theorem ev_succ {α : Type} {g : Nat → Option α} {r : α} (h : Ev (fun k => g (k + 1)) r) : Ev g r := Ev.step (fun _ => rfl) h
theorem ev_bind {α β : Type} {g : Nat → Option α} {f : Nat → α → Option β} {a : α} {r : β} (h : Ev g a) (k : Ev (fun n => f n a) r) : Ev (fun n => (g n).bind (f n)) r := Ev.bind h k
theorem ev_some {α : Type} (r : α) : Ev (fun _ => some r) r := Ev.now r
theorem ev_const {α : Type} {g : Nat → Option α} {r : α} (h : ∀ k, g (k + 1) = some r) : Ev g r := ev_succ (g := g) (by simp only [h]; exact ev_some r)
theorem ev_eq {α : Type} {g : Nat → Option α} {r s : α} (h : Ev g r) (e : r = s) : Ev g s := e ▸ h
theorem ev_uniq {α : Type} {g : Nat → Option α} {r s : α} (h : Ev g r) (h' : Ev g s) : r = s := by
  obtain ⟨K, hK⟩ := h
  obtain ⟨L, hL⟩ := h'
  have a := hK (max K L) (Nat.le_max_left _ _)
  have b := hL (max K L) (Nat.le_max_right _ _)
  exact Option.some.inj (a.symm.trans b)

/-! ### whole numbers -/
theorem w64 {n : Int} (h0 : -9223372036854775808 ≤ n) (h1 : n ≤ 9223372036854775807) : wrap64 n = n := by
  unfold wrap64
  omega
theorem wu64 (n : Int) : IntKind.u64.wrap n = n % 18446744073709551616 := by simp [IntKind.wrap, IntKind.bits, IntKind.signed]
theorem wu64_id {n : Int} (h0 : 0 ≤ n) (h1 : n < 18446744073709551616) : IntKind.u64.wrap n = n := by
  rw [wu64]
  omega
theorem wraps_u64 (n : Int) (h₀ : 0 ≤ n) (h₁ : n < 2 ^ 64) : IntKind.u64.wrap n = n := wu64_id h₀ (by simpa using h₁)
theorem wf_u8 {x : Int} (h : (Lit.int .u8 x).wf = true) : 0 ≤ x ∧ x < 256 := by
  simp [Lit.wf, IntKind.min, IntKind.max, IntKind.bits, IntKind.signed] at h
  omega
theorem wf_u64 {x : Int} (h : (Lit.int .u64 x).wf = true) : 0 ≤ x ∧ x < 18446744073709551616 := by
  simp [Lit.wf, IntKind.min, IntKind.max, IntKind.bits, IntKind.signed] at h
  omega
theorem wf_i64 {x : Int} (h : (Lit.int .i64 x).wf = true) : -9223372036854775808 ≤ x ∧ x < 9223372036854775808 := by
  simp [Lit.wf, IntKind.min, IntKind.max, IntKind.bits, IntKind.signed] at h
  omega
theorem wf_u32 {x : Int} (h : (Lit.int .u32 x).wf = true) : 0 ≤ x ∧ x < 4294967296 := by
  simp [Lit.wf, IntKind.min, IntKind.max, IntKind.bits, IntKind.signed] at h
  omega
theorem wf_u16 {x : Int} (h : (Lit.int .u16 x).wf = true) : 0 ≤ x ∧ x < 65536 := by
  simp [Lit.wf, IntKind.min, IntKind.max, IntKind.bits, IntKind.signed] at h
  omega

theorem or128 {x : Int} (h : 0 ≤ x) : bits .or .u8 (x % 256) 128 = x % 128 + 128 := by
  have e : bits .or .u8 (x % 256) 128 = bits .or .u8 128 (x % 128) := by
    have h1 := (bits_nat .u8 8 (by decide) wraps_u8 (x % 256).toNat 128 (by omega) (by decide)).2
    have h2 := (bits_nat .u8 8 (by decide) wraps_u8 128 (x % 128).toNat (by decide) (by omega)).2
    rw [show ((x % 256).toNat : Int) = x % 256 from by omega] at h1
    rw [show ((x % 128).toNat : Int) = x % 128 from by omega] at h2
    have e128 : ((128 : Nat) : Int) = 128 := rfl
    rw [e128] at h1 h2
    rw [h1, h2]
    have key : ∀ a : Nat, a < 256 → (a ||| 128 : Nat) = (128 ||| a % 128 : Nat) := by decide +kernel
    have := key (x % 256).toNat (by omega)
    rw [this, show (x % 256).toNat % 128 = (x % 128).toNat from by omega]
  rw [e, bits_join .u8 8 (by decide) wraps_u8 7 128 (x % 128) (by decide) (by decide) (by decide) (by omega) (by omega) (by omega)]
  omega
theorem and127 {x : Int} (h : 0 ≤ x) (h' : x < 256) : bits .and .u8 x 127 = x % 128 := bits_mask .u8 8 (by decide) wraps_u8 7 (by decide) x h h'
theorem mod128_step {a b : Int} (h : 0 ≤ a) (h' : a * 128 + b < 18446744073709551616) (hb : 0 ≤ b) (hb' : b < 128) : bits .or .u64 (IntKind.u64.wrap (a * 128)) (IntKind.u64.wrap b) = a * 128 + b := by
  rw [wu64_id (by omega) (by omega), wu64_id (by omega) (by omega)]
  exact bits_join .u64 64 (by decide) wraps_u64 7 (a * 128) b (by omega) (by omega) (by omega) hb (by omega) (by omega)

/-! ### lists -/
def Byte (x : Int) : Prop := 0 ≤ x ∧ x < 256
def Bytes (l : List Int) : Prop := ∀ x ∈ l, Byte x
theorem rd_nat (l : List Int) (i : Nat) : rd l (i : Int) = l.getD i 0 := by simp [rd]
theorem rd_byte {l : List Int} (h : Bytes l) (i : Int) : Byte (rd l i) := by
  unfold rd
  by_cases hi : i.toNat < l.length
  · have e : l.getD i.toNat 0 = l[i.toNat] := by simp [List.getD, hi]
    rw [e]
    exact h _ (List.getElem_mem hi)
  · have e : l.getD i.toNat 0 = 0 := by simp [List.getD, Nat.le_of_not_lt hi]
    rw [e]
    exact ⟨by omega, by omega⟩
theorem bytes_of_wf {l : List Int} (h : ∀ x ∈ l, (Lit.int .u8 x).wf = true) : Bytes l := fun x hx => wf_u8 (h x hx)
theorem bytes_nil : Bytes [] := fun _ h => by cases h
theorem bytes_append {a b : List Int} (ha : Bytes a) (hb : Bytes b) : Bytes (a ++ b) := fun x hx => by
  rcases List.mem_append.1 hx with h | h
  · exact ha x h
  · exact hb x h
theorem bytes_cons {x : Int} {l : List Int} (hx : Byte x) (h : Bytes l) : Bytes (x :: l) := fun y hy => by
  rcases List.mem_cons.1 hy with rfl | h'
  · exact hx
  · exact h y h'
theorem bytes_drop {l : List Int} (h : Bytes l) (n : Nat) : Bytes (l.drop n) := fun x hx => h x (List.mem_of_mem_drop hx)
theorem bytes_take {l : List Int} (h : Bytes l) (n : Nat) : Bytes (l.take n) := fun x hx => h x (List.mem_of_mem_take hx)

/-- how many cells at the head meet p -/
def lead (p : Int → Bool) : List Int → Nat
  | [] => 0
  | x :: l => if p x then lead p l + 1 else 0
theorem lead_le (p : Int → Bool) : ∀ l, lead p l ≤ l.length
  | [] => Nat.le_refl _
  | x :: l => by
    have := lead_le p l
    simp only [lead, List.length_cons]
    split <;> omega
theorem lead_eq (p : Int → Bool) : ∀ (l : List Int) (i : Nat), i ≤ l.length → (∀ j < i, p (l.getD j 0) = true) → (i < l.length → p (l.getD i 0) = false) → lead p l = i
  | [], i, h, _, _ => by simp at h; simp [lead, h]
  | x :: l, 0, _, _, h => by simp [lead, by simpa using h (by simp)]
  | x :: l, i + 1, h, ha, hs => by
    have h0 : p x = true := by simpa using ha 0 (by omega)
    have := lead_eq p l i (by simpa using h) (fun j hj => by simpa using ha (j + 1) (by omega)) (fun hi => by simpa using hs (by simpa using hi))
    simp [lead, h0, this]
theorem lead_at (p : Int → Bool) : ∀ (l : List Int) (j : Nat), j < lead p l → p (l.getD j 0) = true
  | [], j, h => by simp [lead] at h
  | x :: l, j, h => by
    simp only [lead] at h
    split at h
    · rename_i hx
      cases j with
      | zero => simpa using hx
      | succ j => simpa using lead_at p l j (by omega)
    · omega
theorem lead_stop (p : Int → Bool) : ∀ (l : List Int), lead p l < l.length → p (l.getD (lead p l) 0) = false
  | [], h => by simp at h
  | x :: l, h => by
    by_cases hx : p x = true
    · simp only [lead, hx, if_true, List.length_cons] at h ⊢
      simpa using lead_stop p l (by omega)
    · simp only [lead, hx, if_false] at h ⊢
      simpa using hx
theorem getD_take (l : List Int) (m j : Nat) (h : j < m) : (l.take m).getD j 0 = l.getD j 0 := by
  simp [List.getD, List.getElem?_take, h]
theorem getD_drop (l : List Int) (m j : Nat) : (l.drop m).getD j 0 = l.getD (m + j) 0 := by
  simp [List.getD, List.getElem?_drop]

/-! ### the text of bytes -/
theorem str_inj {a b : List Int} (h : a = b) : (strOfNums a).toList = (strOfNums b).toList := by rw [h]

/-! ### layer 1: numbers in as few bytes as can be, by lists -/
/-- the bytes of a number -/
def putL (n : Nat) : List Int := if n < 128 then [(n : Int)] else (((n % 128 + 128 : Nat)) : Int) :: putL (n / 128)
termination_by n
theorem putL_small {n : Nat} (h : n < 128) : putL n = [(n : Int)] := by rw [putL, if_pos h]
theorem putL_great {n : Nat} (h : ¬ n < 128) : putL n = (((n % 128 + 128 : Nat)) : Int) :: putL (n / 128) := by rw [putL, if_neg h]
theorem putL_bytes (n : Nat) : Bytes (putL n) := by
  induction n using putL.induct with
  | case1 n h => rw [putL_small h]; exact bytes_cons ⟨by omega, by omega⟩ bytes_nil
  | case2 n h ih => rw [putL_great h]; exact bytes_cons ⟨by omega, by omega⟩ ih
theorem putL_pos (n : Nat) : 0 < (putL n).length := by
  rw [putL]
  split <;> simp
theorem putL_len (m : Nat) : ∀ n : Nat, n < 128 ^ (m + 1) → (putL n).length ≤ m + 1 := by
  induction m with
  | zero => intro n h; rw [putL_small (by omega)]; simp
  | succ m ih =>
    intro n h
    by_cases hn : n < 128
    · rw [putL_small hn]; simp
    · rw [putL_great hn]
      have := ih (n / 128) (by rw [Nat.pow_succ] at h; omega)
      simp only [List.length_cons]; omega
theorem putL_len10 {n : Nat} (h : n < 18446744073709551616) : (putL n).length ≤ 10 := putL_len 9 n (by omega)
/-- what digits of 7 bits come to -/
def valL : List Int → Int
  | [] => 0
  | x :: l => x % 128 + 128 * valL l
theorem valL_nonneg : ∀ l, 0 ≤ valL l
  | [] => by simp [valL]
  | x :: l => by have := valL_nonneg l; simp only [valL]; omega
theorem valL_lt : ∀ l, valL l < 128 ^ l.length
  | [] => by simp [valL]
  | x :: l => by have := valL_lt l; simp only [valL, List.length_cons, Int.pow_succ]; omega
theorem valL_append : ∀ a b, valL (a ++ b) = valL a + 128 ^ a.length * valL b
  | [], b => by simp [valL]
  | x :: a, b => by
    have := valL_append a b
    simp only [List.cons_append, valL, this, List.length_cons, Int.pow_succ]
    rw [Int.mul_add, ← Int.mul_assoc, Int.mul_comm (128 ^ a.length) 128]; omega
def more128 (x : Int) : Bool := decide (128 ≤ x)
/-- how many bytes ahead of the last one -/
def sizeL (b : List Int) : Nat := lead more128 (b.take 10)
/-- the number with which bytes begin -/
def getL (b : List Int) : Int × Int × Int :=
  if sizeL b = 10 then (0, 0, 3) else if sizeL b = b.length then (0, 0, 2)
  else if (0 < sizeL b ∧ rd b (sizeL b) = 0) ∨ (sizeL b = 9 ∧ rd b (sizeL b) > 1) then (0, 0, 3)
  else (valL (b.take (sizeL b + 1)), (sizeL b : Int) + 1, 0)
theorem sizeL_le (b : List Int) : sizeL b ≤ 10 ∧ sizeL b ≤ b.length := by
  have := lead_le more128 (b.take 10)
  unfold sizeL
  rw [List.length_take] at this
  omega
theorem sizeL_at (b : List Int) (j : Nat) (h : j < sizeL b) : 128 ≤ rd b (j : Int) := by
  have := lead_at more128 (b.take 10) j h
  have := sizeL_le b
  rw [getD_take _ _ _ (by omega)] at *
  rw [rd_nat]
  simpa [more128] using ‹more128 (b.getD j 0) = true›
theorem sizeL_stop (b : List Int) (h : sizeL b < 10) (h' : sizeL b < b.length) : rd b (sizeL b : Int) < 128 := by
  have := lead_stop more128 (b.take 10) (by rw [List.length_take]; unfold sizeL at *; omega)
  rw [getD_take _ _ _ (by unfold sizeL at h; exact h)] at this
  rw [rd_nat]
  simpa [more128, sizeL] using this
theorem sizeL_eq (b : List Int) (i : Nat) (h : i ≤ 10) (h' : i ≤ b.length) (ha : ∀ j < i, 128 ≤ rd b (j : Int)) (hs : i < 10 → i < b.length → rd b (i : Int) < 128) : sizeL b = i := by
  unfold sizeL
  refine lead_eq more128 _ i (by rw [List.length_take]; omega) (fun j hj => ?_) (fun hi => ?_)
  · rw [getD_take _ _ _ (by omega), ← rd_nat]
    simpa [more128] using ha j hj
  · rw [List.length_take] at hi
    rw [getD_take _ _ _ (by omega), ← rd_nat]
    simpa [more128] using hs (by omega) (by omega)
theorem take_succ_rd (l : List Int) (i : Nat) (h : i < l.length) : l.take (i + 1) = l.take i ++ [rd l (i : Int)] := by
  rw [List.take_succ_eq_append_getElem h, rd_nat]
  simp [List.getD, h]
theorem drop_rd (l : List Int) (i : Nat) (h : i < l.length) : l.drop i = rd l (i : Int) :: l.drop (i + 1) := by
  rw [List.drop_eq_getElem_cons h, rd_nat]
  simp [List.getD, h]
/-- what is read is a number of 64 bits -/
theorem getL_val_lt (b : List Int) (hb : Bytes b) (h : ¬ (sizeL b = 9 ∧ rd b (sizeL b) > 1)) (h10 : sizeL b < 10) (hl : sizeL b < b.length) : valL (b.take (sizeL b + 1)) < 18446744073709551616 := by
  rw [take_succ_rd b _ hl, valL_append]
  have hv := valL_lt (b.take (sizeL b))
  have h0 := valL_nonneg (b.take (sizeL b))
  have e : (b.take (sizeL b)).length = sizeL b := by rw [List.length_take]; omega
  rw [e] at hv ⊢
  have hr := rd_byte hb (sizeL b : Int)
  have hs := sizeL_stop b h10 hl
  unfold Byte at hr
  simp only [valL, Int.mul_zero, Int.add_zero]
  have e1 : rd b (sizeL b) % 128 = rd b (sizeL b) := by omega
  rw [e1]
  by_cases h9 : sizeL b = 9
  · have : rd b (sizeL b) ≤ 1 := by omega
    rw [h9] at hv this ⊢
    omega
  · have hlt : sizeL b ≤ 8 := by omega
    have hp : (128 : Int) ^ sizeL b ≤ 128 ^ 8 := by
      have := Nat.pow_le_pow_right (n := 128) (by decide) hlt
      exact_mod_cast this
    have hp0 : (0 : Int) < 128 ^ sizeL b := by exact_mod_cast Nat.pow_pos (by decide : 0 < 128)
    generalize (128 : Int) ^ sizeL b = P at *
    have : P * rd b (sizeL b) ≤ P * 127 := Int.mul_le_mul_of_nonneg_left (by omega) (by omega)
    omega
/-- a number that was put is got -/
theorem putL_sizeL (n : Nat) : ∀ b, (putL n).length ≤ 10 → sizeL (putL n ++ b) = (putL n).length - 1 := by
  suffices H : ∀ (b : List Int), (∀ j : Nat, j + 1 < (putL n).length → 128 ≤ rd (putL n ++ b) (j : Int)) ∧ rd (putL n ++ b) (((putL n).length - 1 : Nat) : Int) < 128 by
    intro b h
    have hp := putL_pos n
    refine sizeL_eq _ _ (by omega) (by rw [List.length_append]; omega) (fun j hj => (H b).1 j (by omega)) (fun _ _ => (H b).2)
  induction n using putL.induct with
  | case1 n h => intro b; rw [putL_small h]; simp [rd]; omega
  | case2 n h ih =>
    intro b
    have hp := putL_pos (n / 128)
    rw [putL_great h]
    refine ⟨fun j hj => ?_, ?_⟩
    · cases j with
      | zero => simp [rd]; omega
      | succ j =>
        have := (ih b).1 j (by simpa using hj)
        rw [rd_nat] at this ⊢
        simpa using this
    · have := (ih b).2
      rw [rd_nat] at this ⊢
      obtain ⟨m, hm⟩ : ∃ m, (putL (n / 128)).length = m + 1 := ⟨(putL (n / 128)).length - 1, by omega⟩
      simp only [List.length_cons, hm, Nat.add_sub_cancel, List.cons_append, List.getD_cons_succ] at this ⊢
      exact this
theorem putL_val (n : Nat) : valL (putL n) = n := by
  induction n using putL.induct with
  | case1 n h => rw [putL_small h]; simp [valL]; omega
  | case2 n h ih => rw [putL_great h]; simp only [valL, ih]; omega
theorem putL_last (n : Nat) : ∀ b, (1 < (putL n).length → 0 < rd (putL n ++ b) (((putL n).length - 1 : Nat) : Int)) := by
  induction n using putL.induct with
  | case1 n h => intro b; rw [putL_small h]; simp
  | case2 n h ih =>
    intro b _
    have hp := putL_pos (n / 128)
    have := ih b
    rw [putL_great h]
    rw [rd_nat] at this ⊢
    obtain ⟨m, hm⟩ : ∃ m, (putL (n / 128)).length = m + 1 := ⟨(putL (n / 128)).length - 1, by omega⟩
    simp only [List.length_cons, hm, Nat.add_sub_cancel, List.cons_append, List.getD_cons_succ] at this ⊢
    cases m with
    | succ m => exact this (by omega)
    | zero =>
      have h2 : n / 128 < 128 := by
        apply Decidable.byContradiction
        intro hc
        rw [putL_great hc] at hm
        have := putL_pos (n / 128 / 128)
        simp only [List.length_cons] at hm
        omega
      rw [putL_small h2]
      simp
      omega
theorem get_put (n : Nat) (hn : n < 18446744073709551616) (b : List Int) : getL (putL n ++ b) = ((n : Int), ((putL n).length : Int), 0) := by
  have h10 := putL_len10 hn
  have hp := putL_pos n
  have hs := putL_sizeL n b h10
  unfold getL
  rw [hs, if_neg (by omega), if_neg (by rw [List.length_append]; omega)]
  have e : (putL n).length - 1 + 1 = (putL n).length := by omega
  rw [if_neg, e, List.take_left, putL_val]
  · congr 2
    omega
  · rintro (⟨h1, h2⟩ | ⟨h1, h2⟩)
    · have := putL_last n b (by omega)
      omega
    · have hv := putL_val n
      have hl : (putL n).length = 10 := by omega
      have e2 : rd (putL n ++ b) (((putL n).length - 1 : Nat) : Int) = rd (putL n) (9 : Nat) := by
        rw [hl, rd_nat, rd_nat]
        simp [List.getD, List.getElem?_append, hl]
      rw [e2] at h2
      have e3 := take_succ_rd (putL n) 9 (by omega)
      rw [List.take_of_length_le (by omega)] at e3
      have hb := rd_byte (putL_bytes n) (9 : Nat)
      unfold Byte at hb
      have hlt : rd (putL n) (9 : Nat) < 128 := by
        have := sizeL_stop (putL n ++ []) (by rw [putL_sizeL n [] h10]; omega) (by rw [putL_sizeL n [] h10]; simp; omega)
        rw [putL_sizeL n [] h10, hl] at this
        simpa using this
      rw [e3, valL_append] at hv
      have e4 : ((putL n).take 9).length = 9 := by rw [List.length_take]; omega
      have h0 := valL_nonneg ((putL n).take 9)
      rw [e4] at hv
      simp only [valL, Int.mul_zero, Int.add_zero] at hv
      omega
/-- what was got is put as it was -/
theorem put_val : ∀ (l : List Int), Bytes l → l ≠ [] → (∀ j : Nat, j + 1 < l.length → 128 ≤ rd l (j : Int)) → rd l ((l.length - 1 : Nat) : Int) < 128 → (1 < l.length → 0 < rd l ((l.length - 1 : Nat) : Int)) → putL (valL l).toNat = l := by
  intro l
  induction l with
  | nil => intro _ h; exact absurd rfl h
  | cons x l ih =>
    intro hb _ hj hl h0
    have hx := hb x (by simp)
    unfold Byte at hx
    cases l with
    | nil =>
      simp [rd] at hl
      simp only [valL, Int.mul_zero, Int.add_zero]
      rw [putL_small (by omega)]
      congr 1
      omega
    | cons y l =>
      have hx1 := hj 0 (by simp)
      simp [rd] at hx1
      have key := ih (fun z hz => hb z (by simp [hz])) (by simp) (fun j hj' => by
        have := hj (j + 1) (by simpa using hj')
        rw [rd_nat] at this ⊢
        simpa using this) (by
        rw [rd_nat] at hl ⊢
        simpa using hl) (fun h => by
        have := h0 (by simp)
        rw [rd_nat] at this ⊢
        simpa using this)
      have hv : 0 < valL (y :: l) := by
        cases l with
        | nil =>
          have := h0 (by simp)
          simp [rd] at this hl
          simp [valL]; omega
        | cons z l =>
          have := putL_val (valL (y :: z :: l)).toNat
          have hn := valL_nonneg (y :: z :: l)
          apply Decidable.byContradiction
          intro hc
          have : valL (y :: z :: l) = 0 := by omega
          rw [this] at key
          rw [show (0 : Int).toNat = 0 from rfl, putL_small (by omega)] at key
          simp at key
      have e : valL (x :: y :: l) = x % 128 + 128 * valL (y :: l) := rfl
      rw [e, putL_great (by omega)]
      have e1 : (x % 128 + 128 * valL (y :: l)).toNat / 128 = (valL (y :: l)).toNat := by omega
      rw [e1, key]
      congr 1
      omega
theorem put_get (b : List Int) (hb : Bytes b) (n m : Int) (h : getL b = (n, m, 0)) : 0 ≤ n ∧ n < 18446744073709551616 ∧ 0 < m ∧ m ≤ 10 ∧ m ≤ b.length ∧ putL n.toNat = b.take m.toNat := by
  have hs := sizeL_le b
  unfold getL at h
  by_cases h1 : sizeL b = 10
  · rw [if_pos h1] at h; simp at h
  rw [if_neg h1] at h
  by_cases h2 : sizeL b = b.length
  · rw [if_pos h2] at h; simp at h
  rw [if_neg h2] at h
  by_cases h3 : (0 < sizeL b ∧ rd b (sizeL b) = 0) ∨ (sizeL b = 9 ∧ rd b (sizeL b) > 1)
  · rw [if_pos h3] at h; simp at h
  rw [if_neg h3] at h
  simp only [Prod.mk.injEq] at h
  obtain ⟨rfl, rfl, -⟩ := h
  have hv := getL_val_lt b hb (fun h => h3 (.inr h)) (by omega) (by omega)
  have h0 := valL_nonneg (b.take (sizeL b + 1))
  have el : (b.take (sizeL b + 1)).length = sizeL b + 1 := by rw [List.length_take]; omega
  have hr := rd_byte hb (sizeL b : Int)
  unfold Byte at hr
  refine ⟨h0, hv, by omega, by omega, by omega, ?_⟩
  rw [show ((sizeL b : Int) + 1).toNat = sizeL b + 1 from by omega]
  have same : ∀ j : Nat, j ≤ sizeL b → rd (b.take (sizeL b + 1)) (j : Int) = rd b (j : Int) := fun j hj => by
    rw [rd_nat, rd_nat, getD_take _ _ _ (by omega)]
  refine put_val _ (bytes_take hb _) (fun h => by rw [h] at el; simp at el) (fun j hj => ?_) ?_ (fun hl => ?_)
  · rw [el] at hj
    rw [same j (by omega)]
    exact sizeL_at b j (by omega)
  · rw [el, Nat.add_sub_cancel, same _ (Nat.le_refl _)]
    exact sizeL_stop b (by omega) (by omega)
  · rw [el] at hl
    rw [el, Nat.add_sub_cancel, same _ (Nat.le_refl _)]
    have : ¬ rd b (sizeL b : Int) = 0 := fun h => h3 (.inl ⟨by omega, h⟩)
    omega
/-- what is got is in bounds -/
theorem getL_range (b : List Int) (hb : Bytes b) : 0 ≤ (getL b).1 ∧ (getL b).1 < 18446744073709551616 ∧ 0 ≤ (getL b).2.1 ∧ (getL b).2.1 ≤ b.length ∧ ((getL b).2.2 = 0 ∨ (getL b).2.2 = 2 ∨ (getL b).2.2 = 3) ∧ ((getL b).2.2 = 0 → 0 < (getL b).2.1) := by
  have hs := sizeL_le b
  unfold getL
  split
  · simp
  split
  · simp
  split
  · simp
  · rename_i h1 h2 h3
    have hv := getL_val_lt b hb (fun h => h3 (.inr h)) (by omega) (by omega)
    have h0 := valL_nonneg (b.take (sizeL b + 1))
    exact ⟨h0, hv, by simp; omega, by simp; omega, .inl rfl, fun _ => by show (0 : Int) < (sizeL b : Int) + 1; omega⟩
theorem strOfNums_append (a b : List Int) : strOfNums a ++ strOfNums b = strOfNums (a ++ b) := by
  apply ByteArray.ext
  apply Array.toList_inj.1
  simp [strOfNums]
theorem tdiv_nat {x m : Int} (h : 0 ≤ x) : Int.tdiv x m = x / m := Int.tdiv_eq_ediv_of_nonneg h
theorem tmod_nat {x m : Int} (h : 0 ≤ x) : Int.tmod x m = x % m := Int.tmod_eq_emod_of_nonneg h
/-- the numbers that bytes are -/
def getAllL (fuel : Nat) (b : List Int) (acc : List Int) (at_ : Int) : List Int × Int × Int :=
  match fuel with
  | 0 => (acc, at_, 0)
  | f + 1 => if b = [] then (acc, at_, 0) else
    if (getL b).2.2 = 0 then getAllL f (b.drop (getL b).2.1.toNat) (acc ++ [(getL b).1]) (at_ + (getL b).2.1) else ([], at_, (getL b).2.2)
def putAllL : List Int → List Int
  | [] => []
  | x :: l => putL x.toNat ++ putAllL l
theorem putAllL_snoc : ∀ l x, putAllL (l ++ [x]) = putAllL l ++ putL x.toNat
  | [], x => by simp [putAllL]
  | y :: l, x => by simp [putAllL, putAllL_snoc l x]
theorem putAllL_len (l : List Int) (h : ∀ x ∈ l, (Lit.int .u64 x).wf = true) : (putAllL l).length ≤ 10 * l.length := by
  induction l with
  | nil => simp [putAllL]
  | cons x l ih =>
    have := ih (fun y hy => h y (by simp [hy]))
    have hx := wf_u64 (h x (by simp))
    have := putL_len10 (n := x.toNat) (by omega)
    simp only [putAllL, List.length_append, List.length_cons]; omega
theorem getL_bad {b : List Int} (h10 : sizeL b < 10) (hl : sizeL b < b.length) (h : (0 < sizeL b ∧ rd b (sizeL b) = 0) ∨ (sizeL b = 9 ∧ rd b (sizeL b) > 1)) : getL b = (0, 0, 3) := by
  unfold getL
  rw [if_neg (by omega), if_neg (by omega), if_pos h]
theorem getL_ok {b : List Int} (h10 : sizeL b < 10) (hl : sizeL b < b.length) (h0 : ¬ (0 < sizeL b ∧ rd b (sizeL b) = 0)) (h9 : ¬ (sizeL b = 9 ∧ rd b (sizeL b) > 1)) : getL b = (valL (b.take (sizeL b + 1)), (sizeL b : Int) + 1, 0) := by
  unfold getL
  rw [if_neg (by omega), if_neg (by omega), if_neg (fun hc => hc.elim h0 h9)]

/-! ### layer 7: numbers and bytes as texts, by lists -/
def placesS : ByteArray := ⟨#[48, 49, 50, 51, 52, 53, 54, 55, 56, 57, 97, 98, 99, 100, 101, 102]⟩
def place (d : Int) : Int := if d < 10 then 48 + d else 87 + d
theorem bt_place (d : Int) (h : 0 ≤ d) (h' : d < 16) : bt placesS d = place d := by
  have key : ∀ i : Fin 16, bt placesS ((i.val : Nat) : Int) = place ((i.val : Nat) : Int) := by decide +kernel
  have := key ⟨d.toNat, by omega⟩
  rw [show ((d.toNat : Nat) : Int) = d by omega] at this
  exact this
theorem place_byte {d : Int} (h : 0 ≤ d) (h' : d < 16) : Byte (place d) := by unfold place Byte; split <;> omega
theorem place_inj {a b : Int} (ha : 0 ≤ a) (ha' : a < 16) (hb : 0 ≤ b) (hb' : b < 16) (h : place a = place b) : a = b := by
  unfold place at h
  split at h <;> split at h <;> omega
theorem strOfNums_nil : strOfNums [] = (⟨#[]⟩ : ByteArray) := rfl
theorem toList_data (s : ByteArray) : s.toList = s.data.toList := by
  have loop : ∀ (n i : Nat) (r : List UInt8), s.size - i = n → ByteArray.toList.loop s i r = r.reverse ++ s.data.toList.drop i := by
    intro n
    induction n with
    | zero =>
      intro i r h
      rw [ByteArray.toList.loop]
      rw [if_neg (by omega), List.drop_eq_nil_of_le (by simp; have : s.size = s.data.size := rfl; omega)]
      simp
    | succ n ih =>
      intro i r h
      rw [ByteArray.toList.loop]
      have hi : i < s.size := by omega
      rw [if_pos hi, ih (i + 1) _ (by omega)]
      have hd : i < s.data.toList.length := by simp; exact hi
      rw [List.drop_eq_getElem_cons hd]
      have : i < s.data.size := hi
      simp [ByteArray.get!, hi, Array.getElem!_eq_getD, Array.getD]
  have := loop _ 0 [] rfl
  unfold ByteArray.toList
  rw [this]
  simp
theorem bytes_eq_of_toList {a b : ByteArray} (h : a.toList = b.toList) : a = b := by
  rw [toList_data, toList_data] at h
  apply ByteArray.ext
  exact Array.toList_inj.1 h
theorem strOfNums_inj {a b : List Int} (ha : Bytes a) (hb : Bytes b) (h : strOfNums a = strOfNums b) : a = b := by
  have h1 := congrArg (fun s : ByteArray => s.data.toList) h
  simp only [strOfNums_data] at h1
  have h2 := congrArg (List.map fun c : UInt8 => ((c.toNat : Nat) : Int)) h1
  simp only [List.map_map] at h2
  have key : ∀ l : List Int, Bytes l → l.map ((fun c : UInt8 => ((c.toNat : Nat) : Int)) ∘ fun n : Int => UInt8.ofNat n.toNat) = l := by
    intro l hl
    induction l with
    | nil => rfl
    | cons x l ih =>
      have hx := hl x (by simp)
      unfold Byte at hx
      rw [List.map_cons, ih (fun y hy => hl y (by simp [hy]))]
      congr 1
      simp
      omega
  rw [key a ha, key b hb] at h2
  exact h2
theorem bytesOf_str {a : List Int} (ha : Bytes a) : bytesOf (strOfNums a) = a := by
  unfold bytesOf
  rw [strOfNums_data, List.map_map]
  induction a with
  | nil => rfl
  | cons x l ih =>
    have hx := ha x (by simp)
    unfold Byte at hx
    rw [List.map_cons, ih (fun y hy => ha y (by simp [hy]))]
    congr 1
    simp
    omega
theorem str_bytesOf (s : ByteArray) : strOfNums (bytesOf s) = s := by
  apply ByteArray.ext
  apply Array.toList_inj.1
  rw [strOfNums_data, bytesOf, List.map_map]
  conv => rhs; rw [← List.map_id s.data.toList]
  apply List.map_congr_left
  intro c _
  simp
theorem bytesOf_bytes (s : ByteArray) : Bytes (bytesOf s) := by
  intro x hx
  unfold bytesOf at hx
  obtain ⟨c, _, rfl⟩ := List.mem_map.1 hx
  have := c.toNat_lt
  exact ⟨by omega, by omega⟩
/-- a number's text -/
def numL (n : Int) : List Int := if n < 0 then 45 :: digL (-n).toNat else digL n.toNat
theorem digL_bytes (n : Nat) : Bytes (digL n) := by
  induction n using digL.induct with
  | case1 n h => rw [digL_small h]; exact bytes_cons ⟨by omega, by omega⟩ bytes_nil
  | case2 n h ih => rw [digL_great h]; exact bytes_append ih (bytes_cons ⟨by omega, by omega⟩ bytes_nil)
theorem numL_bytes (n : Int) : Bytes (numL n) := by
  unfold numL
  split
  · exact bytes_cons ⟨by omega, by omega⟩ (digL_bytes _)
  · exact digL_bytes _
theorem digL_len20 {n : Nat} (h : n < 18446744073709551616) : (digL n).length ≤ 20 := digL_len 19 n (by omega)
/-- so many digits to the base 16 -/
def hexL : Nat → Nat → List Int
  | 0, _ => []
  | n + 1, u => hexL n (u / 16) ++ [place ((u % 16 : Nat) : Int)]
theorem hexL_len : ∀ n u, (hexL n u).length = n
  | 0, _ => rfl
  | n + 1, u => by simp [hexL, hexL_len n]
theorem hexL_bytes : ∀ n u, Bytes (hexL n u)
  | 0, _ => bytes_nil
  | n + 1, u => bytes_append (hexL_bytes n _) (bytes_cons (place_byte (by omega) (by omega)) bytes_nil)
theorem hexL_add : ∀ m n u, hexL (m + n) u = hexL m (u / 16 ^ n) ++ hexL n u
  | m, 0, u => by simp [hexL]
  | m, n + 1, u => by
    rw [← Nat.add_assoc]
    show hexL (m + n) (u / 16) ++ _ = _
    rw [hexL_add m n (u / 16), Nat.div_div_eq_div_mul, ← Nat.pow_succ']
    simp [hexL]
theorem hexL_mod (n : Nat) : ∀ u k, hexL n (u % 16 ^ (n + k)) = hexL n u := by
  induction n with
  | zero => intro u k; rfl
  | succ n ih =>
    intro u k
    simp only [hexL]
    have e1 : u % 16 ^ (n + 1 + k) / 16 = u / 16 % 16 ^ (n + k) := by
      rw [show n + 1 + k = (n + k) + 1 by omega, Nat.pow_succ, Nat.mul_comm, Nat.mod_mul_right_div_self]
    have e2 : u % 16 ^ (n + 1 + k) % 16 = u % 16 := by
      rw [show n + 1 + k = (n + k) + 1 by omega, Nat.pow_succ, Nat.mul_comm]
      exact Nat.mod_mul_right_mod u 16 (16 ^ (n + k))
    rw [e1, e2, ih]
/-- bytes as digits -/
def twoL (c : Int) : List Int := [place (c / 16), place (c % 16)]
def bytesL : List Int → List Int
  | [] => []
  | c :: l => twoL c ++ bytesL l
theorem bytesL_append : ∀ a b, bytesL (a ++ b) = bytesL a ++ bytesL b
  | [], b => rfl
  | x :: a, b => by simp [bytesL, bytesL_append a b]
theorem twoL_bytes {c : Int} (h : Byte c) : Bytes (twoL c) := by
  unfold Byte at h
  exact bytes_cons (place_byte (by omega) (by omega)) (bytes_cons (place_byte (by omega) (by omega)) bytes_nil)
theorem bytesL_bytes : ∀ {l : List Int}, Bytes l → Bytes (bytesL l)
  | [], _ => bytes_nil
  | c :: l, h => bytes_append (twoL_bytes (h c (by simp))) (bytesL_bytes (fun x hx => h x (by simp [hx])))
theorem bytesL_len : ∀ l : List Int, (bytesL l).length = 2 * l.length
  | [] => rfl
  | c :: l => by simp [bytesL, twoL, bytesL_len l]; omega
theorem and15 {x : Int} (h : 0 ≤ x) (h' : x < 256) : bits .and .u8 x 15 = x % 16 := bits_mask .u8 8 (by decide) wraps_u8 4 (by decide) x h h'
theorem and15_u64 {x : Int} (h : 0 ≤ x) (h' : x < 18446744073709551616) : bits .and .u64 x 15 = x % 16 := bits_mask .u64 64 (by decide) wraps_u64 4 (by decide) x h (by omega)
theorem shr_u64 (x : Int) (n : Nat) (h : n ≤ 64) : shr .u64 x (n : Int) = x / 2 ^ n := by
  unfold shr
  rw [show (IntKind.u64).bits = 64 from rfl, Int.toNat_natCast, Nat.min_eq_left h]
theorem set_snoc (l : List Int) (i : Nat) (x : Int) (h : i < l.length) : (l.set i x).drop i = x :: l.drop (i + 1) := drop_set_at l i x h

/-! ### texts as lists of bytes -/
theorem str_toList (l : List Int) : (strOfNums l).toList = l.map fun n => UInt8.ofNat n.toNat := by rw [toList_data, strOfNums_data]
theorem str_of (s : ByteArray) : ∃ l, Bytes l ∧ s = strOfNums l := ⟨bytesOf s, bytesOf_bytes s, (str_bytesOf s).symm⟩
theorem str_eq {a b : List Int} (ha : Bytes a) (hb : Bytes b) : ((strOfNums a).toList = (strOfNums b).toList) = (a = b) := by
  apply propext
  constructor
  · intro h
    exact strOfNums_inj ha hb (bytes_eq_of_toList h)
  · intro h
    rw [h]
theorem str_nil (l : List Int) : ((strOfNums l).toList = ([] : List UInt8)) = (l = []) := by
  apply propext
  rw [str_toList]
  cases l <;> simp
theorem bt_str {l : List Int} (h : Bytes l) (i : Int) : bt (strOfNums l) i = rd l i := by
  unfold bt rd
  by_cases hi : i.toNat < l.length
  · rw [dif_pos (by rw [strOfNums_size]; exact hi)]
    have e : l.getD i.toNat 0 = l[i.toNat] := by simp [List.getD, hi]
    rw [e]
    have hb := h _ (List.getElem_mem hi)
    unfold Byte at hb
    have : (strOfNums l)[i.toNat]'(by rw [strOfNums_size]; exact hi) = UInt8.ofNat (l[i.toNat]).toNat := by
      show (strOfNums l).data[i.toNat]'_ = _
      simp [strOfNums]
    rw [this]
    simp
    omega
  · rw [dif_neg (by rw [strOfNums_size]; exact hi)]
    simp [List.getD, Nat.le_of_not_lt hi]
theorem str_extract (l : List Int) (a b : Nat) : (strOfNums l).extract a b = strOfNums ((l.take b).drop a) := by
  unfold strOfNums
  rw [show (({ data := (l.map fun n => UInt8.ofNat n.toNat).toArray } : ByteArray).extract a b) = ⟨((((l.map fun n => UInt8.ofNat n.toNat)).drop a).take (b - a)).toArray⟩ from ByteArray.extract_mk _ _ _]
  rw [List.drop_take, List.map_take, List.map_drop]
theorem str_beq {a b : List Int} (ha : Bytes a) (hb : Bytes b) : ((strOfNums a).toList == (strOfNums b).toList) = decide (a = b) := by
  by_cases h : a = b
  · simp [h]
  · rw [decide_eq_false h]
    have : ¬ (strOfNums a).toList = (strOfNums b).toList := by rw [str_eq ha hb]; exact h
    simpa using this

/-! ### the greatest version of two sets -/
theorem mod_succ_add (x i : Nat) : x % 2 ^ (i + 1) = x % 2 ^ i + if x.testBit i = true then 2 ^ i else 0 := by
  rw [Nat.pow_succ, Nat.mod_mul, Nat.testBit_eq_decide_div_mod_eq]
  rcases Nat.mod_two_eq_zero_or_one (x / 2 ^ i) with h | h <;> simp [h]
theorem wu16_id {n : Int} (h0 : 0 ≤ n) (h1 : n < 65536) : IntKind.u16.wrap n = n := by
  simp [IntKind.wrap, IntKind.bits, IntKind.signed]
  omega
/-- the greatest version that two sets have -/
def bestN (a b : Nat) : Nat := Lib.bitLen (a &&& b)
theorem bitLen_top (v x : Nat) (h : x.testBit v = true) (hx : x < 2 ^ (v + 1)) (hv : v < 63) : Lib.bitLen x = v + 1 := by
  have h1 : 2 ^ v ≤ x := Nat.ge_two_pow_of_testBit h
  have h64 : x < 2 ^ 64 := Nat.lt_of_lt_of_le hx (Nat.pow_le_pow_right (by omega) (by omega))
  rw [Lib.bitLen_shift v x h1 h64]
  have : x / 2 ^ v = 1 := by
    rw [Nat.pow_succ] at hx
    exact Nat.div_eq_of_lt_le (by omega) (by omega)
  rw [this]
  rfl
theorem bitLen_mod_succ (v x : Nat) (hv : v < 63) : Lib.bitLen (x % 2 ^ (v + 1)) = if x.testBit v = true then v + 1 else Lib.bitLen (x % 2 ^ v) := by
  by_cases h : x.testBit v = true
  · rw [if_pos h]
    exact bitLen_top v _ (by rw [Nat.testBit_mod_two_pow]; simp [h]) (Nat.mod_lt _ (Nat.two_pow_pos _)) hv
  · rw [if_neg h, mod_succ_add, if_neg h, Nat.add_zero]
theorem bestN_pos (a b : Nat) : bestN a b = 0 ↔ a &&& b = 0 := by
  unfold bestN
  constructor
  · intro h
    cases hq : Nat.decEq (a &&& b) 0 with
    | isTrue e => exact e
    | isFalse e =>
      exfalso
      rw [Lib.bitLen] at h
      simp [Lib.bitLenAux, e] at h
  · intro h
    rw [h]
    rfl
theorem bestN_comm (a b : Nat) : bestN a b = bestN b a := by unfold bestN; rw [Nat.and_comm]
theorem bestN_le (a b : Nat) (ha : a < 65536) : bestN a b ≤ 16 := Lib.bitLen_le _ 16 (by omega) (Nat.lt_of_le_of_lt Nat.and_le_left ha)
theorem u16_and_nat (a b : Nat) (ha : a < 65536) (hb : b < 65536) : Go.bits .and .u16 (a : Int) (b : Int) = ((a &&& b : Nat) : Int) := by
  have := (bits_nat .u16 16 (by decide) (fun n h0 h1 => wu16_id h0 (by simpa using h1)) a b ha hb).1
  exact this
theorem bestN_has (a b : Nat) (ha : a < 65536) (h : bestN a b ≠ 0) : 1 ≤ bestN a b ∧ a.testBit (bestN a b - 1) = true ∧ b.testBit (bestN a b - 1) = true := by
  have hle : a &&& b ≤ a := Nat.and_le_left
  have key : ∀ m : Nat, m ≤ 16 → Lib.bitLen ((a &&& b) % 2 ^ m) ≠ 0 → 1 ≤ Lib.bitLen ((a &&& b) % 2 ^ m) ∧ (a &&& b).testBit (Lib.bitLen ((a &&& b) % 2 ^ m) - 1) = true := by
    intro m
    induction m with
    | zero => intro _ h; rw [Nat.pow_zero, Nat.mod_one] at h; exact absurd rfl h
    | succ m ih =>
      intro hm h
      rw [bitLen_mod_succ m _ (by omega)] at h ⊢
      split
      · rename_i hb; exact ⟨by omega, by rw [Nat.add_sub_cancel]; exact hb⟩
      · rename_i hb; rw [if_neg hb] at h; exact ih (by omega) h
  have := key 16 (by omega)
  rw [Nat.mod_eq_of_lt (by omega)] at this
  have := this h
  rw [Nat.testBit_and, Bool.and_eq_true] at this
  exact this

/-! ### numbers out of digits -/
def Digits (l : List Int) : Prop := ∀ c ∈ l, 48 ≤ c ∧ c ≤ 57
instance (l : List Int) : Decidable (Digits l) := by unfold Digits; infer_instance
def decL (l : List Int) : Int := l.foldl (fun n c => n * 10 + (c - 48)) 0
theorem decL_snoc (l : List Int) (c : Int) : decL (l ++ [c]) = decL l * 10 + (c - 48) := by simp [decL]
theorem digits_snoc {l : List Int} {c : Int} : Digits (l ++ [c]) ↔ Digits l ∧ 48 ≤ c ∧ c ≤ 57 := by
  unfold Digits
  constructor
  · intro h
    exact ⟨fun x hx => h x (by simp [hx]), h c (by simp)⟩
  · rintro ⟨h, hc⟩ x hx
    rcases List.mem_append.1 hx with h' | h'
    · exact h x h'
    · rw [List.mem_singleton.1 h']; exact hc
theorem digL_digits (n : Nat) : Digits (digL n) := by
  induction n using digL.induct with
  | case1 n h => rw [digL_small h]; intro x hx; rw [List.mem_singleton.1 hx]; omega
  | case2 n h ih => rw [digL_great h]; exact digits_snoc.2 ⟨ih, by omega⟩
theorem decL_digL (n : Nat) : decL (digL n) = n := by
  induction n using digL.induct with
  | case1 n h => rw [digL_small h]; simp [decL]; omega
  | case2 n h ih => rw [digL_great h, decL_snoc, ih]; omega
theorem list_snoc_ind {P : List Int → Prop} (h0 : P []) (h1 : ∀ l c, P l → P (l ++ [c])) : ∀ l, P l := by
  have : ∀ l : List Int, P l.reverse := by
    intro l
    induction l with
    | nil => exact h0
    | cons x l ih => rw [List.reverse_cons]; exact h1 _ _ ih
  intro l
  have := this l.reverse
  rwa [List.reverse_reverse] at this
theorem decL_range (l : List Int) : Digits l → 0 ≤ decL l ∧ decL l < 10 ^ l.length := by
  induction l using list_snoc_ind with
  | h0 => intro _; simp [decL]
  | h1 l c ih =>
    intro h
    have hd := digits_snoc.1 h
    have := ih hd.1
    rw [decL_snoc, List.length_append, List.length_singleton, Int.pow_succ]
    omega
theorem digL_head (n : Nat) : rd (digL n) 0 = 48 → n = 0 := by
  induction n using digL.induct with
  | case1 n h => rw [digL_small h]; simp [rd]; omega
  | case2 n h ih =>
    rw [digL_great h]
    have := digL_pos (n / 10)
    rcases hd : digL (n / 10) with _ | ⟨x, r⟩
    · rw [hd] at this; simp at this
    · intro h'
      have := ih (by rw [hd]; simpa [rd] using h')
      omega
theorem rd_snoc {l : List Int} (c : Int) (h : l ≠ []) : rd (l ++ [c]) 0 = rd l 0 := by
  cases l with
  | nil => exact absurd rfl h
  | cons x l => simp [rd]
theorem digL_decL (l : List Int) : Digits l → l ≠ [] → (rd l 0 = 48 → l = [48]) → digL (decL l).toNat = l := by
  induction l using list_snoc_ind with
  | h0 => intro _ h; exact absurd rfl h
  | h1 l c ih =>
    intro h _ h48
    have hd := digits_snoc.1 h
    by_cases hl : l = []
    · subst hl
      rw [digL_small (by simp [decL]; omega)]
      simp [decL]
      omega
    · have hne : rd l 0 ≠ 48 := by
        intro h'
        have := h48 (by rw [rd_snoc c hl]; exact h')
        have hlen := congrArg List.length this
        simp at hlen
        exact hl hlen
      have e := ih hd.1 hl (fun h' => absurd h' hne)
      have hr := decL_range l hd.1
      have hpos : decL l ≠ 0 := by
        intro h0
        rw [h0] at e
        apply hne
        rw [← e, show Int.toNat 0 = 0 from rfl, digL_small (by omega)]
        rfl
      rw [decL_snoc, digL_great (by omega)]
      rw [show (decL l * 10 + (c - 48)).toNat / 10 = (decL l).toNat by omega, e]
      congr 1
      congr 1
      omega
theorem digL_zero (n : Nat) : rd (digL n) 0 = 48 → digL n = [48] := by
  intro h
  rw [digL_head n h, digL_small (by omega)]
  rfl
theorem rd0_digit (n : Nat) : 48 ≤ rd (digL n) 0 := by
  have hp := digL_pos n
  have hd := digL_digits n
  rcases h : digL n with _ | ⟨x, r⟩
  · rw [h] at hp; simp at hp
  · rw [h] at hd; exact (hd x (by simp)).1
theorem numL_neg (n : Int) : rd (numL n) 0 = 45 ↔ n < 0 := by
  unfold numL
  split
  · rename_i h; simp [rd, h]
  · rename_i h
    have := rd0_digit n.toNat
    constructor
    · intro h'; omega
    · intro h'; omega
theorem numL_inj {a b : Int} (h : numL a = numL b) : a = b := by
  have hs : a < 0 ↔ b < 0 := by rw [← numL_neg, ← numL_neg, h]
  unfold numL at h
  split at h <;> split at h
  · have := congrArg decL (List.cons.inj h).2
    rw [decL_digL, decL_digL] at this
    omega
  · omega
  · omega
  · have := congrArg decL h
    rw [decL_digL, decL_digL] at this
    omega
theorem numL_ne (n : Int) : numL n ≠ [] := by
  unfold numL
  split
  · simp
  · have := digL_pos n.toNat
    intro h
    rw [h] at this
    simp at this
/-- what Get answers -/
def InI (n : Int) : Prop := -9223372036854775808 ≤ n ∧ n < 9223372036854775808
def IsGet (l : List Int) (r : Int × Int) : Prop :=
  (l = [] ∧ r = (0, 2)) ∨ (∃ n, InI n ∧ numL n = l ∧ r = (n, 0)) ∨ (l ≠ [] ∧ (∀ n, InI n → numL n ≠ l) ∧ r = (0, 3))
theorem isGet_uniq {l : List Int} {r s : Int × Int} (h : IsGet l r) (h' : IsGet l s) : r = s := by
  rcases h with ⟨h1, h2⟩ | ⟨n, h1, h2, h3⟩ | ⟨h1, h2, h3⟩ <;> rcases h' with ⟨g1, g2⟩ | ⟨m, g1, g2, g3⟩ | ⟨g1, g2, g3⟩
  · rw [h2, g2]
  · exact absurd (g2.trans h1) (numL_ne _)
  · exact absurd h1 g1
  · exact absurd (h2.trans g1) (numL_ne _)
  · rw [h3, g3, numL_inj (h2.trans g2.symm)]
  · exact absurd h2 (g2 n h1)
  · exact absurd g1 h1
  · exact absurd g2 (h2 m g1)
  · rw [h3, g3]

/-! ### bytes out of digits -/
def hx (c : Int) : Int := if 48 ≤ c ∧ c ≤ 57 then c - 48 else if 97 ≤ c ∧ c ≤ 102 then c - 87 else -1
theorem hx_place {d : Int} (h : 0 ≤ d) (h' : d < 16) : hx (place d) = d := by
  unfold hx place
  split <;> split <;> omega
theorem place_hx {c : Int} (h : 0 ≤ hx c) : place (hx c) = c := by
  unfold hx at h ⊢
  unfold place
  split
  · split <;> omega
  · rename_i h1
    rw [if_neg h1] at h
    split
    · split <;> omega
    · rename_i h2
      rw [if_neg h2] at h
      omega
theorem hx_range (c : Int) : -1 ≤ hx c ∧ hx c < 16 := by
  unfold hx
  split
  · omega
  · split <;> omega
def pairsL : List Int → Option (List Int)
  | [] => some []
  | [_] => none
  | x :: y :: l => if hx x < 0 ∨ hx y < 0 then none else (pairsL l).map fun b => (16 * hx x + hx y) :: b
theorem pairsL_bytesL : ∀ b : List Int, Bytes b → pairsL (bytesL b) = some b
  | [], _ => rfl
  | c :: b, h => by
    have hc := h c (by simp)
    unfold Byte at hc
    show pairsL (place (c / 16) :: place (c % 16) :: bytesL b) = _
    rw [pairsL, hx_place (by omega) (by omega), hx_place (by omega) (by omega), if_neg (by omega), pairsL_bytesL b (fun x hx => h x (by simp [hx]))]
    simp
    omega
theorem bytesL_pairsL : ∀ (l b : List Int), pairsL l = some b → bytesL b = l ∧ Bytes b
  | [], b, h => by
    simp [pairsL] at h
    subst h
    exact ⟨rfl, bytes_nil⟩
  | [_], b, h => by simp [pairsL] at h
  | x :: y :: l, b, h => by
    rw [pairsL] at h
    split at h
    · simp at h
    · rename_i hn
      simp only [Option.map_eq_some_iff] at h
      obtain ⟨c, hc, rfl⟩ := h
      have ih := bytesL_pairsL l c hc
      have hx1 := hx_range x
      have hx2 := hx_range y
      refine ⟨?_, bytes_cons ⟨by omega, by omega⟩ ih.2⟩
      show place ((16 * hx x + hx y) / 16) :: place ((16 * hx x + hx y) % 16) :: bytesL c = _
      rw [show (16 * hx x + hx y) / 16 = hx x by omega, show (16 * hx x + hx y) % 16 = hx y by omega, place_hx (by omega), place_hx (by omega), ih.1]
def unbL (l : List Int) : List Int × Int :=
  if l = [45] then ([], 0) else if l = [] then ([], 3) else match pairsL l with
    | none => ([], 3)
    | some b => (b, 0)
theorem unbL_back (b : List Int) (h : Bytes b) : unbL (if b.length = 0 then [45] else bytesL b) = (b, 0) := by
  by_cases h0 : b.length = 0
  · rw [if_pos h0]
    have : b = [] := by cases b <;> simp_all
    rw [this]
    rfl
  · rw [if_neg h0]
    have hl := bytesL_len b
    unfold unbL
    rw [if_neg (by intro h'; rw [h'] at hl; simp at hl; omega), if_neg (by intro h'; rw [h'] at hl; simp at hl; omega), pairsL_bytesL b h]
theorem unbL_forth {l b : List Int} {e : Int} (h : unbL l = (b, e)) (h0 : e = 0) : Bytes b ∧ (if b.length = 0 then [45] else bytesL b) = l := by
  subst h0
  unfold unbL at h
  split at h
  · rename_i h1
    have : b = [] := (congrArg Prod.fst h).symm
    subst this
    exact ⟨bytes_nil, h1.symm⟩
  · split at h
    · simp at h
    · rename_i h1 h2
      split at h
      · simp at h
      · rename_i c hc
        have : b = c := (congrArg Prod.fst h).symm
        subst this
        have := bytesL_pairsL l b hc
        refine ⟨this.2, ?_⟩
        rw [if_neg, this.1]
        intro h0
        have : b = [] := by cases b <;> simp_all
        subst this
        exact h2 (by rw [← this.1]; rfl)
theorem unbL_bytes (l : List Int) : Bytes (unbL l).1 := by
  unfold unbL
  split
  · exact bytes_nil
  · split
    · exact bytes_nil
    · split
      · exact bytes_nil
      · rename_i b h; exact (bytesL_pairsL l b h).2

/-! ### eight bytes as a number -/
def beL : Nat → Nat → List Int
  | 0, _ => []
  | m + 1, u => beL m (u / 256) ++ [((u % 256 : Nat) : Int)]
def valB (l : List Int) : Int := l.foldl (fun n c => n * 256 + c) 0
theorem valB_snoc (l : List Int) (c : Int) : valB (l ++ [c]) = valB l * 256 + c := by simp [valB]
theorem beL_len : ∀ m u, (beL m u).length = m
  | 0, _ => rfl
  | m + 1, u => by simp [beL, beL_len m]
theorem beL_bytes : ∀ m u, Bytes (beL m u)
  | 0, _ => bytes_nil
  | m + 1, u => bytes_append (beL_bytes m _) (bytes_cons ⟨by omega, by omega⟩ bytes_nil)
theorem valB_beL : ∀ m u, valB (beL m u) = ((u % 256 ^ m : Nat) : Int)
  | 0, u => by simp [beL, valB, Nat.mod_one]
  | m + 1, u => by
    rw [beL, valB_snoc, valB_beL m, show 256 ^ (m + 1) = 256 * 256 ^ m by rw [Nat.pow_succ, Nat.mul_comm], Nat.mod_mul]
    generalize u / 256 % 256 ^ m = v
    omega
theorem valB_range (l : List Int) : Bytes l → 0 ≤ valB l ∧ valB l < 256 ^ l.length := by
  induction l using list_snoc_ind with
  | h0 => intro _; simp [valB]
  | h1 l c ih =>
    intro h
    have hc := h c (by simp)
    unfold Byte at hc
    have := ih (fun x hx => h x (by simp [hx]))
    rw [valB_snoc, List.length_append, List.length_singleton, Int.pow_succ]
    omega
theorem beL_valB (l : List Int) : Bytes l → beL l.length (valB l).toNat = l := by
  induction l using list_snoc_ind with
  | h0 => intro _; rfl
  | h1 l c ih =>
    intro h
    have hc := h c (by simp)
    unfold Byte at hc
    have hb : Bytes l := fun x hx => h x (by simp [hx])
    have := valB_range l hb
    rw [valB_snoc, List.length_append, List.length_singleton, beL, show (valB l * 256 + c).toNat / 256 = (valB l).toNat by omega, ih hb]
    congr 1
    congr 1
    omega
theorem hexL_beL : ∀ m u, hexL (2 * m) u = bytesL (beL m u)
  | 0, _ => rfl
  | m + 1, u => by
    rw [show 2 * (m + 1) = 2 * m + 2 by omega, hexL_add (2 * m) 2 u, beL, bytesL_append, show 16 ^ 2 = 256 from rfl, hexL_beL m]
    congr 1
    simp only [hexL, bytesL, twoL, List.nil_append, List.cons_append]
    rw [show ((u / 16 % 16 : Nat) : Int) = ((u % 256 : Nat) : Int) / 16 by omega, show ((u % 16 : Nat) : Int) = ((u % 256 : Nat) : Int) % 16 by omega]
/-- what Unhex answers -/
def unhL (l : List Int) : Int × Int := if (unbL l).2 = 0 ∧ (unbL l).1.length = 8 then (valB (unbL l).1, 0) else (0, 3)
theorem unhL_hit (u : Nat) (h : u < 18446744073709551616) : unhL (hexL 16 u) = ((u : Int), 0) := by
  have e := unbL_back (beL 8 u) (beL_bytes 8 u)
  rw [if_neg (by rw [beL_len]; omega), ← hexL_beL] at e
  unfold unhL
  rw [e, if_pos ⟨rfl, beL_len 8 u⟩, valB_beL]
  rw [Nat.mod_eq_of_lt (by omega)]
theorem unhL_ok {l : List Int} (h : (unhL l).2 = 0) : 0 ≤ (unhL l).1 ∧ (unhL l).1 < 18446744073709551616 ∧ hexL 16 (unhL l).1.toNat = l := by
  unfold unhL at h ⊢
  split
  · rename_i hc
    have hb := unbL_bytes l
    have hr := valB_range _ hb
    rw [hc.2] at hr
    refine ⟨hr.1, Int.lt_of_lt_of_le hr.2 (by decide), ?_⟩
    have hf := (unbL_forth (l := l) (b := (unbL l).1) (e := (unbL l).2) rfl hc.1).2
    rw [if_neg (by rw [hc.2]; omega)] at hf
    have hv := beL_valB _ hb
    rw [hc.2] at hv
    rw [show 16 = 2 * 8 from rfl, hexL_beL, hv, hf]
  · rename_i hc
    rw [if_neg hc] at h
    simp at h
theorem unhL_miss {l : List Int} (h : (unhL l).2 ≠ 0) : unhL l = (0, 3) ∧ ∀ u : Nat, u < 18446744073709551616 → hexL 16 u ≠ l := by
  constructor
  · unfold unhL at h ⊢
    split
    · rename_i hc; rw [if_pos hc] at h; exact absurd rfl h
    · rfl
  · intro u hu h'
    rw [← h', unhL_hit u hu] at h
    exact h rfl

/-! ### layer 24: sets of versions, by bits and lists -/
def bitsU (x : Nat) : Nat → List Int
  | 0 => []
  | m + 1 => bitsU x m ++ (if x.testBit m = true then [(m : Int) + 1] else [])
def setR (l : List Int) : Nat → Nat
  | 0 => 0
  | m + 1 => setR l m + (if ((m : Int) + 1) ∈ l then 2 ^ m else 0)
theorem setR_lt (l : List Int) : ∀ m, setR l m < 2 ^ m
  | 0 => by simp [setR]
  | m + 1 => by
    have := setR_lt l m
    rw [setR, Nat.pow_succ]
    split <;> omega
theorem setR_bit (l : List Int) : ∀ m j, (setR l m).testBit j = decide (j < m ∧ ((j : Int) + 1) ∈ l)
  | 0, j => by simp [setR]
  | m + 1, j => by
    have ih := setR_bit l m
    have hlt := setR_lt l m
    rw [setR]
    by_cases hm : ((m : Int) + 1) ∈ l
    · rw [if_pos hm, Nat.add_comm]
      rcases Nat.lt_trichotomy j m with h | h | h
      · rw [Nat.testBit_two_pow_add_gt h, ih]
        simp [h, Nat.lt_succ_of_lt h]
      · subst h
        rw [Nat.testBit_two_pow_add_eq, ih]
        simp [hm]
      · rw [Nat.testBit_lt_two_pow]
        · rw [eq_comm, decide_eq_false_iff_not]
          intro h'; omega
        · have : 2 ^ (m + 1) ≤ 2 ^ j := Nat.pow_le_pow_right (by omega) (by omega)
          rw [Nat.pow_succ] at this
          omega
    · rw [if_neg hm, Nat.add_zero, ih]
      apply decide_eq_decide.2
      constructor
      · rintro ⟨h, h'⟩; exact ⟨by omega, h'⟩
      · rintro ⟨h, h'⟩
        refine ⟨?_, h'⟩
        have : j ≠ m := by intro e; subst e; exact hm h'
        omega
theorem setR_eq {x : Nat} (l : List Int) (hx : x < 65536) (h : ∀ j, j < 16 → x.testBit j = decide (((j : Int) + 1) ∈ l)) : x = setR l 16 := by
  apply Nat.eq_of_testBit_eq
  intro j
  rw [setR_bit]
  by_cases hj : j < 16
  · rw [h j hj]; simp [hj]
  · rw [Nat.testBit_lt_two_pow]
    · simp [hj]
    · exact Nat.lt_of_lt_of_le hx (show 2 ^ 16 ≤ 2 ^ j from Nat.pow_le_pow_right (by omega) (by omega))
theorem setR_cong (l l' : List Int) (h : ∀ v : Int, 1 ≤ v → v ≤ 16 → (v ∈ l ↔ v ∈ l')) : setR l 16 = setR l' 16 := by
  refine setR_eq l' (setR_lt l 16) fun j hj => ?_
  rw [setR_bit]
  have := h ((j : Int) + 1) (by omega) (by omega)
  simp [hj, this]
def setP (s : Nat) (v : Int) : Nat := if 1 ≤ v ∧ v ≤ 16 then s ||| 2 ^ (v - 1).toNat else s
theorem setP_lt {s : Nat} (v : Int) (h : s < 65536) : setP s v < 65536 := by
  unfold setP
  split
  · rename_i hv
    exact Nat.or_lt_two_pow (n := 16) h (Nat.pow_lt_pow_right (by omega) (by omega))
  · exact h
theorem setP_bit (s : Nat) (v : Int) (j : Nat) (hj : j < 16) : (setP s v).testBit j = (s.testBit j || decide (v = (j : Int) + 1)) := by
  unfold setP
  split
  · rename_i hv
    rw [Nat.testBit_or, Nat.testBit_two_pow]
    congr 1
    apply decide_eq_decide.2
    omega
  · rename_i hv
    have : ¬ v = (j : Int) + 1 := by omega
    simp [this]
theorem setF (l : List Int) : ∀ s, s < 65536 → (l.foldl setP s) < 65536 ∧ ∀ j, j < 16 → (l.foldl setP s).testBit j = (s.testBit j || decide (((j : Int) + 1) ∈ l)) := by
  induction l with
  | nil => intro s h; exact ⟨h, fun j _ => by simp⟩
  | cons v l ih =>
    intro s h
    have := ih (setP s v) (setP_lt v h)
    refine ⟨this.1, fun j hj => ?_⟩
    rw [List.foldl_cons, this.2 j hj, setP_bit s v j hj, Bool.or_assoc]
    congr 1
    rw [Bool.eq_iff_iff, Bool.or_eq_true, decide_eq_true_iff, decide_eq_true_iff, decide_eq_true_iff, List.mem_cons]
    constructor
    · rintro (h | h)
      · exact Or.inl h.symm
      · exact Or.inr h
    · rintro (h | h)
      · exact Or.inl h.symm
      · exact Or.inr h
theorem setF_eq (l : List Int) : l.foldl setP 0 = setR l 16 := by
  have := setF l 0 (by omega)
  exact setR_eq l this.1 fun j hj => by rw [this.2 j hj]; simp
theorem bitsU_mem (x : Nat) : ∀ m (v : Int), v ∈ bitsU x m ↔ ∃ j : Nat, j < m ∧ v = (j : Int) + 1 ∧ x.testBit j = true
  | 0, v => by simp [bitsU]
  | m + 1, v => by
    rw [bitsU, List.mem_append, bitsU_mem x m v]
    constructor
    · rintro (⟨j, h1, h2, h3⟩ | h)
      · exact ⟨j, by omega, h2, h3⟩
      · by_cases hb : x.testBit m = true
        · rw [if_pos hb] at h
          exact ⟨m, by omega, by simpa using h, hb⟩
        · rw [if_neg hb] at h; simp at h
    · rintro ⟨j, h1, h2, h3⟩
      by_cases hj : j = m
      · subst hj
        right
        rw [if_pos h3]; simp [h2]
      · exact Or.inl ⟨j, by omega, h2, h3⟩
theorem bitsU_len (x : Nat) : ∀ m, (bitsU x m).length ≤ m
  | 0 => by simp [bitsU]
  | m + 1 => by
    have := bitsU_len x m
    rw [bitsU, List.length_append]
    split <;> simp <;> omega
theorem bitsU_pre (x m : Nat) (d : Nat) : ∃ r, bitsU x (m + d) = bitsU x m ++ r := by
  induction d with
  | zero => exact ⟨[], by simp⟩
  | succ d ih =>
    obtain ⟨r, hr⟩ := ih
    exact ⟨r ++ (if x.testBit (m + d) = true then [((m + d : Nat) : Int) + 1] else []), by rw [← Nat.add_assoc, bitsU, hr, List.append_assoc]⟩
theorem bitsU_at (x m : Nat) (hm : m < 16) (h : x.testBit m = true) : (bitsU x m).length < (bitsU x 16).length ∧ rd (bitsU x 16) ((bitsU x m).length : Int) = (m : Int) + 1 := by
  obtain ⟨r, hr⟩ := bitsU_pre x (m + 1) (15 - m)
  have e1 : bitsU x (m + 1) = bitsU x m ++ [(m : Int) + 1] := by rw [bitsU, if_pos h]
  rw [show m + 1 + (15 - m) = 16 by omega, e1] at hr
  rw [hr]
  simp [rd]
theorem setR_bitsU (x : Nat) (hx : x < 65536) : setR (bitsU x 16) 16 = x := by
  symm
  refine setR_eq _ hx fun j hj => ?_
  rw [Bool.eq_iff_iff, decide_eq_true_iff, bitsU_mem]
  constructor
  · intro h; exact ⟨j, hj, rfl, h⟩
  · rintro ⟨i, h1, h2, h3⟩
    obtain rfl : j = i := by omega
    exact h3
theorem u16_or_nat (a b : Nat) (ha : a < 65536) (hb : b < 65536) : Go.bits .or .u16 (a : Int) (b : Int) = ((a ||| b : Nat) : Int) :=
  (bits_nat .u16 16 (by decide) (fun n h0 h1 => wu16_id h0 (by simpa using h1)) a b ha hb).2
theorem shl1_u16 (y : Nat) (h : y < 16) : shl .u16 1 (y : Int) = ((2 ^ y : Nat) : Int) := by
  have key : ∀ y : Fin 16, shl .u16 1 ((y.val : Nat) : Int) = ((2 ^ y.val : Nat) : Int) := by decide +kernel
  exact key ⟨y, h⟩
theorem shr_u16 (x y : Nat) (h : y < 16) : shr .u16 (x : Int) (y : Int) = ((x / 2 ^ y : Nat) : Int) := by
  unfold shr
  rw [Int.toNat_natCast, show min y (IntKind.u16.bits) = y by simp [IntKind.bits]; omega]
  simp
theorem bit_u16 (x y : Nat) (hx : x < 65536) (h : y < 16) : Go.bits .and .u16 (shr .u16 (x : Int) (y : Int)) 1 = if x.testBit y = true then 1 else 0 := by
  rw [shr_u16 x y h]
  have hle : x / 2 ^ y ≤ x := Nat.div_le_self _ _
  have := u16_and_nat (x / 2 ^ y) 1 (by omega) (by omega)
  rw [show ((1 : Nat) : Int) = 1 from rfl] at this
  rw [this, Nat.and_one_is_mod, Nat.testBit_eq_decide_div_mod_eq]
  by_cases hq : x / 2 ^ y % 2 = 1
  · simp [hq]
  · have : x / 2 ^ y % 2 = 0 := by omega
    simp [this]
/-! ### words between commas -/
def wordsA (acc : List Int) : List Int → List (List Int)
  | [] => [acc]
  | c :: l => if c = 44 then acc :: wordsA [] l else wordsA (acc ++ [c]) l
theorem wordsA_bytes : ∀ (l acc : List Int), Bytes acc → Bytes l → ∀ w ∈ wordsA acc l, Bytes w
  | [], acc, ha, _, w, h => by
    have := List.mem_singleton.1 h
    rw [this]; exact ha
  | c :: l, acc, ha, hl, w, h => by
    rw [wordsA] at h
    have hl' : Bytes l := fun x hx => hl x (by simp [hx])
    split at h
    · rcases List.mem_cons.1 h with rfl | h
      · exact ha
      · exact wordsA_bytes l [] bytes_nil hl' w h
    · exact wordsA_bytes l _ (bytes_append ha (bytes_cons (hl c (by simp)) bytes_nil)) hl' w h
theorem wordsA_len : ∀ (l acc : List Int), (wordsA acc l).length ≤ l.length + 1
  | [], acc => by simp [wordsA]
  | c :: l, acc => by
    rw [wordsA]
    split
    · have := wordsA_len l []; simp; omega
    · have := wordsA_len l (acc ++ [c]); simp at this ⊢; omega
theorem wordsA_wlen : ∀ (l acc : List Int), ∀ w ∈ wordsA acc l, w.length ≤ acc.length + l.length
  | [], acc, w, h => by
    rw [List.mem_singleton.1 h]; simp
  | c :: l, acc, w, h => by
    rw [wordsA] at h
    split at h
    · rcases List.mem_cons.1 h with rfl | h
      · simp
      · have := wordsA_wlen l [] w h; simp at this ⊢; omega
    · have := wordsA_wlen l _ w h; simp at this ⊢; omega
theorem wordsA_free (q : List Int) : ∀ (p acc : List Int), (44 : Int) ∉ p → wordsA acc (p ++ 44 :: q) = (acc ++ p) :: wordsA [] q
  | [], acc, _ => by simp [wordsA]
  | c :: p, acc, h => by
    have hc : ¬ c = 44 := fun e => h (by simp [e])
    have ih := wordsA_free q p (acc ++ [c]) (fun h' => h (by simp [h']))
    simp only [List.cons_append, wordsA, if_neg hc, ih]
    simp
theorem wordsA_last : ∀ (p acc : List Int), (44 : Int) ∉ p → wordsA acc p = [acc ++ p]
  | [], acc, _ => by simp [wordsA]
  | c :: p, acc, h => by
    have hc : ¬ c = 44 := fun e => h (by simp [e])
    have ih := wordsA_last p (acc ++ [c]) (fun h' => h (by simp [h']))
    simp only [wordsA, if_neg hc, ih]
    simp
def numsU (l : List UInt8) : List Int := l.map fun b => ((b.toNat : Nat) : Int)
theorem numsU_mem44 (l : List UInt8) : (44 : Int) ∈ numsU l ↔ (44 : UInt8) ∈ l := by
  unfold numsU
  constructor
  · intro h
    obtain ⟨b, hb, he⟩ := List.mem_map.1 h
    have : b = 44 := by
      apply UInt8.toNat_inj.1
      have : b.toNat = 44 := by omega
      rw [this]; rfl
    rw [← this]; exact hb
  · intro h
    exact List.mem_map.2 ⟨44, h, rfl⟩
theorem splitK_words : ∀ (n : Nat) (l : List UInt8), l.length ≤ n → (Lib.splitK [44] 0 (Lib.count l [44]) l).map numsU = wordsA [] (numsU l)
  | n, l, hn => by
    rcases Int.lt_or_le (Lib.indexByte l 44) 0 with hm | hm
    · have hm1 : Lib.indexByte l 44 = -1 := by have := Lib.indexByte_ge l 44; omega
      have hno := Lib.indexByte_none hm1
      rw [Lib.count_miss (by rw [Lib.index_one]; exact hm1)]
      have : (44 : Int) ∉ numsU l := by
        rw [numsU_mem44]
        intro h
        obtain ⟨k, hk⟩ := List.getElem?_of_mem h
        exact hno k hk
      rw [wordsA_last _ _ this]
      rfl
    · obtain ⟨o, ho⟩ := Int.eq_ofNat_of_zero_le hm
      have hix : Lib.index l [44] = (o : Int) := by rw [Lib.index_one]; exact ho
      obtain ⟨h1, h2⟩ := Lib.indexByte_some ho
      have hlt := (List.getElem?_eq_some_iff.1 h1).1
      match n, hn with
      | 0, hn => omega
      | n + 1, hn =>
        have e : l = l.take o ++ 44 :: l.drop (o + 1) := by
          conv => lhs; rw [← List.take_append_drop o l]
          rw [List.drop_eq_getElem_cons hlt]
          congr 2
          exact (List.getElem?_eq_some_iff.1 h1).2
        have hfree : (44 : Int) ∉ numsU (l.take o) := by
          rw [numsU_mem44]
          intro h
          obtain ⟨k, hk⟩ := List.getElem?_of_mem h
          rw [List.getElem?_take] at hk
          split at hk
          · rename_i hko; exact h2 k hko hk
          · simp at hk
        have ih := splitK_words n (l.drop (o + 1)) (by rw [List.length_drop]; omega)
        rw [Lib.count_hit (by simp) hix, Nat.add_comm, Lib.splitK]
        simp only [hix, List.length_singleton, Int.toNat_natCast, Nat.add_zero]
        rw [if_neg (by simp), List.map_cons, ih]
        conv => rhs; rw [e]
        rw [show numsU (l.take o ++ 44 :: l.drop (o + 1)) = numsU (l.take o) ++ 44 :: numsU (l.drop (o + 1)) by simp [numsU], wordsA_free _ _ _ hfree, List.nil_append]
theorem splitB_words (l : List Int) (hb : Bytes l) : Lib.splitB ⟨#[44]⟩ 0 (Lib.countB (strOfNums l) ⟨#[44]⟩) (strOfNums l) = (wordsA [] l).map strOfNums := by
  have h1 := Lib.splitB_data ⟨#[44]⟩ 0 (Lib.countB (strOfNums l) ⟨#[44]⟩) (strOfNums l)
  have h2 := splitK_words _ (strOfNums l).data.toList (Nat.le_refl _)
  have h3 : numsU (strOfNums l).data.toList = l := bytesOf_str hb
  rw [h3] at h2
  rw [← h2]
  have h4 : Lib.splitK [44] 0 (Lib.count (strOfNums l).data.toList [44]) (strOfNums l).data.toList = (Lib.splitB ⟨#[44]⟩ 0 (Lib.countB (strOfNums l) ⟨#[44]⟩) (strOfNums l)).map (·.data.toList) := h1.symm
  rw [h4, List.map_map, List.map_map]
  conv => lhs; rw [← List.map_id (Lib.splitB ⟨#[44]⟩ 0 (Lib.countB (strOfNums l) ⟨#[44]⟩) (strOfNums l))]
  apply List.map_congr_left
  intro s _
  exact (str_bytesOf s).symm
/-! ### texts of sets -/
def commaL : List (List Int) → List Int
  | [] => []
  | w :: r => w ++ (r.map fun v => 44 :: v).flatten
theorem commaL_snoc (ws : List (List Int)) (w : List Int) : commaL (ws ++ [w]) = if ws = [] then w else commaL ws ++ 44 :: w := by
  cases ws with
  | nil => simp [commaL]
  | cons x r => simp [commaL]
theorem commaL_words : ∀ (r : List (List Int)) (w : List Int), (∀ v ∈ w :: r, (44 : Int) ∉ v) → wordsA [] (commaL (w :: r)) = w :: r
  | [], w, h => by
    have : commaL [w] = w := by simp [commaL]
    rw [this, wordsA_last _ _ (h w (by simp))]
    rfl
  | v :: r, w, h => by
    have e : commaL (w :: v :: r) = w ++ 44 :: commaL (v :: r) := by simp [commaL]
    rw [e, wordsA_free _ _ _ (h w (by simp)), commaL_words r v (fun u hu => h u (by simp [List.mem_cons.1 hu]))]
    rfl
def versT (x : Nat) : List Int := if bitsU x 16 = [] then [45] else commaL ((bitsU x 16).map numL)
theorem commaL_bytes : ∀ ws : List (List Int), (∀ w ∈ ws, Bytes w) → Bytes (commaL ws)
  | [], _ => bytes_nil
  | w :: r, h => by
    refine bytes_append (h w (by simp)) ?_
    intro x hx
    obtain ⟨u, hu, hxu⟩ := List.mem_flatten.1 hx
    obtain ⟨v, hv, rfl⟩ := List.mem_map.1 hu
    rcases List.mem_cons.1 hxu with rfl | hxv
    · exact ⟨by omega, by omega⟩
    · exact h v (by simp [hv]) x hxv
theorem versT_bytes (x : Nat) : Bytes (versT x) := by
  unfold versT
  split
  · exact bytes_cons ⟨by omega, by omega⟩ bytes_nil
  · exact commaL_bytes _ (fun w hw => by obtain ⟨v, _, rfl⟩ := List.mem_map.1 hw; exact numL_bytes v)
theorem digL_no44 (n : Nat) : (44 : Int) ∉ digL n := fun h => by have := digL_digits n 44 h; omega
theorem numL_no44 (v : Int) (h : 0 ≤ v) : (44 : Int) ∉ numL v := by
  unfold numL
  rw [if_neg (by omega)]
  exact digL_no44 _
theorem numL_small (v : Int) (h1 : 1 ≤ v) (h2 : v ≤ 16) : (numL v).length ≤ 2 := by
  unfold numL
  rw [if_neg (by omega)]
  exact digL_len 1 _ (by omega)
/-- which versions' texts stand in a text -/
def foundL (l : List Int) : List Int := (bitsU (2 ^ 16 - 1) 16).filter fun v => decide (numL v ∈ wordsA [] l)
theorem all_bits : bitsU (2 ^ 16 - 1) 16 = [1, 2, 3, 4, 5, 6, 7, 8, 9, 10, 11, 12, 13, 14, 15, 16] := by decide +kernel
theorem foundL_mem (l : List Int) (v : Int) (h1 : 1 ≤ v) (h2 : v ≤ 16) : v ∈ foundL l ↔ numL v ∈ wordsA [] l := by
  unfold foundL
  rw [List.mem_filter, all_bits]
  have : v ∈ ([1, 2, 3, 4, 5, 6, 7, 8, 9, 10, 11, 12, 13, 14, 15, 16] : List Int) := by
    simp; omega
  simp [this]
def readS (l : List Int) : Nat := setR (foundL l) 16
def readR (l : List Int) : Int × Int := if versT (readS l) = l then (((readS l : Nat) : Int), 0) else (0, 3)
theorem readS_versT (x : Nat) (hx : x < 65536) : readS (versT x) = x := by
  have e : readS (versT x) = setR (bitsU x 16) 16 := by
    refine setR_cong _ _ fun v h1 h2 => ?_
    rw [foundL_mem _ v h1 h2]
    unfold versT
    by_cases hb : bitsU x 16 = []
    · rw [if_pos hb, hb]
      have : wordsA [] [45] = [[45]] := by decide
      rw [this]
      have hne : ¬ numL v = [45] := by
        unfold numL
        rw [if_neg (by omega)]
        intro h
        have := digL_digits v.toNat 45 (by rw [h]; simp)
        omega
      simp [hne]
    · rw [if_neg hb]
      have hw : wordsA [] (commaL ((bitsU x 16).map numL)) = (bitsU x 16).map numL := by
        cases hq : (bitsU x 16).map numL with
        | nil => exact absurd (List.map_eq_nil_iff.1 hq) hb
        | cons w r =>
          refine commaL_words r w fun u hu => ?_
          rw [← hq] at hu
          obtain ⟨v', hv', rfl⟩ := List.mem_map.1 hu
          obtain ⟨j, _, hj, _⟩ := (bitsU_mem x 16 v').1 hv'
          exact numL_no44 v' (by omega)
      rw [hw, List.mem_map]
      constructor
      · rintro ⟨v', hv', he⟩
        rw [← numL_inj he]; exact hv'
      · intro h; exact ⟨v, h, rfl⟩
  rw [e, setR_bitsU x hx]
theorem readR_versT (x : Nat) (hx : x < 65536) : readR (versT x) = (((x : Nat) : Int), 0) := by
  unfold readR
  rw [readS_versT x hx, if_pos rfl]
theorem commaL_len : ∀ (ws : List (List Int)), (∀ w ∈ ws, w.length ≤ 2) → (commaL ws).length ≤ 3 * ws.length
  | [], _ => by simp [commaL]
  | w :: r, h => by
    have hf : ∀ r : List (List Int), (∀ w ∈ r, w.length ≤ 2) → ((r.map fun v => 44 :: v).flatten).length ≤ 3 * r.length := by
      intro r
      induction r with
      | nil => intro _; simp
      | cons v r ih =>
        intro hr
        have := ih (fun u hu => hr u (by simp [hu]))
        have hv := hr v (by simp)
        simp at this ⊢
        omega
    have := hf r (fun u hu => h u (by simp [hu]))
    have hw := h w (by simp)
    rw [commaL, List.length_append]
    simp at this ⊢
    omega
theorem join_comma : ∀ (ws : List (List Int)), Lib.join ((ws.map strOfNums).map (·.data.toList)) [44] = (strOfNums (commaL ws)).data.toList
  | [] => by rw [strOfNums_data]; rfl
  | w :: r => by
    simp only [List.map_cons]
    rw [Lib.join_cons, strOfNums_data, strOfNums_data, commaL, List.map_append]
    congr 1
    unfold Lib.joinTail
    induction r with
    | nil => simp
    | cons v r ih =>
      simp only [List.map_cons, List.flatten_cons, List.map_append] at ih ⊢
      rw [ih, strOfNums_data]
      rfl
end Annulet
