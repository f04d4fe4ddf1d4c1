/- Words and plain mathematics for the pure laws of this seat: rounds that end, whole numbers, lists; no program. -/
import Derived.Test.YtmohmmpcadlfkaaDoorWWords
import Derived.Test.YtmohmmpcadlfkaaDoorWLast
import Derived.Test.YtmohmmpcadlfkaaDoorWMore
import Derived.Laws.BitsLemmas
import Derived.Laws.BitsAllLaws
import Derived.Test.YtmohmmpcadlfkaaDoorG
set_option linter.unusedVariables false
set_option linter.unusedSimpArgs false
namespace Annulet
open Go Go.RowKit Go.Proofs.YtmohmmpcadlfkaaDoorW.PrintWords Go.Proofs.YtmohmmpcadlfkaaDoorW.PrintLast Go.Proofs.YtmohmmpcadlfkaaDoorW.PrintMore

/-! ### rounds -/
theorem ev_succ {α : Type} {g : Nat → Option α} {r : α} (h : Ev (fun k => g (k + 1)) r) : Ev g r := Ev.step (fun _ => rfl) h
theorem ev_bind {α β : Type} {g : Nat → Option α} {f : Nat → α → Option β} {a : α} {r : β} (h : Ev g a) (k : Ev (fun n => f n a) r) : Ev (fun n => (g n).bind (f n)) r := Ev.bind h k
theorem ev_some {α : Type} (r : α) : Ev (fun _ => some r) r := Ev.now r
theorem ev_const {α : Type} {g : Nat → Option α} {r : α} (h : ∀ k, g (k + 1) = some r) : Ev g r := ev_succ (g := g) (by simp only [h]; exact ev_some r)
theorem ev_eq {α : Type} {g : Nat → Option α} {r s : α} (h : Ev g r) (e : r = s) : Ev g s := e ▸ h
theorem ev_uniq {α : Type} {g : Nat → Option α} {r s : α} (h : Ev g r) (h' : Ev g s) : r = s := by
  obtain ⟨K, hK⟩ := h
  obtain ⟨L, hL⟩ := h'
  have a := hK (max K L) (Nat.le_max_left _ _)
  have b := hL (max K L) (Nat.le_max_right _ _)
  exact Option.some.inj (a.symm.trans b)

/-! ### whole numbers -/
theorem w64 {n : Int} (h0 : -9223372036854775808 ≤ n) (h1 : n ≤ 9223372036854775807) : wrap64 n = n := by
  unfold wrap64
  omega
theorem wu64 (n : Int) : IntKind.u64.wrap n = n % 18446744073709551616 := by simp [IntKind.wrap, IntKind.bits, IntKind.signed]
theorem wu64_id {n : Int} (h0 : 0 ≤ n) (h1 : n < 18446744073709551616) : IntKind.u64.wrap n = n := by
  rw [wu64]
  omega
theorem wraps_u64 (n : Int) (h₀ : 0 ≤ n) (h₁ : n < 2 ^ 64) : IntKind.u64.wrap n = n := wu64_id h₀ (by simpa using h₁)
theorem wf_u8 {x : Int} (h : (Lit.int .u8 x).wf = true) : 0 ≤ x ∧ x < 256 := by
  simp [Lit.wf, IntKind.min, IntKind.max, IntKind.bits, IntKind.signed] at h
  omega
theorem wf_u64 {x : Int} (h : (Lit.int .u64 x).wf = true) : 0 ≤ x ∧ x < 18446744073709551616 := by
  simp [Lit.wf, IntKind.min, IntKind.max, IntKind.bits, IntKind.signed] at h
  omega
theorem wf_i64 {x : Int} (h : (Lit.int .i64 x).wf = true) : -9223372036854775808 ≤ x ∧ x < 9223372036854775808 := by
  simp [Lit.wf, IntKind.min, IntKind.max, IntKind.bits, IntKind.signed] at h
  omega
theorem wf_u32 {x : Int} (h : (Lit.int .u32 x).wf = true) : 0 ≤ x ∧ x < 4294967296 := by
  simp [Lit.wf, IntKind.min, IntKind.max, IntKind.bits, IntKind.signed] at h
  omega
theorem wf_u16 {x : Int} (h : (Lit.int .u16 x).wf = true) : 0 ≤ x ∧ x < 65536 := by
  simp [Lit.wf, IntKind.min, IntKind.max, IntKind.bits, IntKind.signed] at h
  omega

theorem or128 {x : Int} (h : 0 ≤ x) : bits .or .u8 (x % 256) 128 = x % 128 + 128 := by
  have e : bits .or .u8 (x % 256) 128 = bits .or .u8 128 (x % 128) := by
    have h1 := (bits_nat .u8 8 (by decide) wraps_u8 (x % 256).toNat 128 (by omega) (by decide)).2
    have h2 := (bits_nat .u8 8 (by decide) wraps_u8 128 (x % 128).toNat (by decide) (by omega)).2
    rw [show ((x % 256).toNat : Int) = x % 256 from by omega] at h1
    rw [show ((x % 128).toNat : Int) = x % 128 from by omega] at h2
    have e128 : ((128 : Nat) : Int) = 128 := rfl
    rw [e128] at h1 h2
    rw [h1, h2]
    have key : ∀ a : Nat, a < 256 → (a ||| 128 : Nat) = (128 ||| a % 128 : Nat) := by decide +kernel
    have := key (x % 256).toNat (by omega)
    rw [this, show (x % 256).toNat % 128 = (x % 128).toNat from by omega]
  rw [e, bits_join .u8 8 (by decide) wraps_u8 7 128 (x % 128) (by decide) (by decide) (by decide) (by omega) (by omega) (by omega)]
  omega
theorem and127 {x : Int} (h : 0 ≤ x) (h' : x < 256) : bits .and .u8 x 127 = x % 128 := bits_mask .u8 8 (by decide) wraps_u8 7 (by decide) x h h'
theorem mod128_step {a b : Int} (h : 0 ≤ a) (h' : a * 128 + b < 18446744073709551616) (hb : 0 ≤ b) (hb' : b < 128) : bits .or .u64 (IntKind.u64.wrap (a * 128)) (IntKind.u64.wrap b) = a * 128 + b := by
  rw [wu64_id (by omega) (by omega), wu64_id (by omega) (by omega)]
  exact bits_join .u64 64 (by decide) wraps_u64 7 (a * 128) b (by omega) (by omega) (by omega) hb (by omega) (by omega)

/-! ### lists -/
def Byte (x : Int) : Prop := 0 ≤ x ∧ x < 256
def Bytes (l : List Int) : Prop := ∀ x ∈ l, Byte x
theorem rd_nat (l : List Int) (i : Nat) : rd l (i : Int) = l.getD i 0 := by simp [rd]
theorem rd_byte {l : List Int} (h : Bytes l) (i : Int) : Byte (rd l i) := by
  unfold rd
  by_cases hi : i.toNat < l.length
  · have e : l.getD i.toNat 0 = l[i.toNat] := by simp [List.getD, hi]
    rw [e]
    exact h _ (List.getElem_mem hi)
  · have e : l.getD i.toNat 0 = 0 := by simp [List.getD, Nat.le_of_not_lt hi]
    rw [e]
    exact ⟨by omega, by omega⟩
theorem bytes_of_wf {l : List Int} (h : ∀ x ∈ l, (Lit.int .u8 x).wf = true) : Bytes l := fun x hx => wf_u8 (h x hx)
theorem bytes_nil : Bytes [] := fun _ h => by cases h
theorem bytes_append {a b : List Int} (ha : Bytes a) (hb : Bytes b) : Bytes (a ++ b) := fun x hx => by
  rcases List.mem_append.1 hx with h | h
  · exact ha x h
  · exact hb x h
theorem bytes_cons {x : Int} {l : List Int} (hx : Byte x) (h : Bytes l) : Bytes (x :: l) := fun y hy => by
  rcases List.mem_cons.1 hy with rfl | h'
  · exact hx
  · exact h y h'
theorem bytes_drop {l : List Int} (h : Bytes l) (n : Nat) : Bytes (l.drop n) := fun x hx => h x (List.mem_of_mem_drop hx)
theorem bytes_take {l : List Int} (h : Bytes l) (n : Nat) : Bytes (l.take n) := fun x hx => h x (List.mem_of_mem_take hx)

/-- how many cells at the head meet p -/
def lead (p : Int → Bool) : List Int → Nat
  | [] => 0
  | x :: l => if p x then lead p l + 1 else 0
theorem lead_le (p : Int → Bool) : ∀ l, lead p l ≤ l.length
  | [] => Nat.le_refl _
  | x :: l => by
    have := lead_le p l
    simp only [lead, List.length_cons]
    split <;> omega
theorem lead_eq (p : Int → Bool) : ∀ (l : List Int) (i : Nat), i ≤ l.length → (∀ j < i, p (l.getD j 0) = true) → (i < l.length → p (l.getD i 0) = false) → lead p l = i
  | [], i, h, _, _ => by simp at h; simp [lead, h]
  | x :: l, 0, _, _, h => by simp [lead, by simpa using h (by simp)]
  | x :: l, i + 1, h, ha, hs => by
    have h0 : p x = true := by simpa using ha 0 (by omega)
    have := lead_eq p l i (by simpa using h) (fun j hj => by simpa using ha (j + 1) (by omega)) (fun hi => by simpa using hs (by simpa using hi))
    simp [lead, h0, this]
theorem lead_at (p : Int → Bool) : ∀ (l : List Int) (j : Nat), j < lead p l → p (l.getD j 0) = true
  | [], j, h => by simp [lead] at h
  | x :: l, j, h => by
    simp only [lead] at h
    split at h
    · rename_i hx
      cases j with
      | zero => simpa using hx
      | succ j => simpa using lead_at p l j (by omega)
    · omega
theorem lead_stop (p : Int → Bool) : ∀ (l : List Int), lead p l < l.length → p (l.getD (lead p l) 0) = false
  | [], h => by simp at h
  | x :: l, h => by
    by_cases hx : p x = true
    · simp only [lead, hx, if_true, List.length_cons] at h ⊢
      simpa using lead_stop p l (by omega)
    · simp only [lead, hx, if_false] at h ⊢
      simpa using hx
theorem getD_take (l : List Int) (m j : Nat) (h : j < m) : (l.take m).getD j 0 = l.getD j 0 := by
  simp [List.getD, List.getElem?_take, h]
theorem getD_drop (l : List Int) (m j : Nat) : (l.drop m).getD j 0 = l.getD (m + j) 0 := by
  simp [List.getD, List.getElem?_drop]

/-! ### the text of bytes -/
theorem str_inj {a b : List Int} (h : a = b) : (strOfNums a).toList = (strOfNums b).toList := by rw [h]

/-! ### layer 1: numbers in as few bytes as can be, by lists -/
/-- the bytes of a number -/
def putL (n : Nat) : List Int := if n < 128 then [(n : Int)] else (((n % 128 + 128 : Nat)) : Int) :: putL (n / 128)
termination_by n
theorem putL_small {n : Nat} (h : n < 128) : putL n = [(n : Int)] := by rw [putL, if_pos h]
theorem putL_great {n : Nat} (h : ¬ n < 128) : putL n = (((n % 128 + 128 : Nat)) : Int) :: putL (n / 128) := by rw [putL, if_neg h]
theorem putL_bytes (n : Nat) : Bytes (putL n) := by
  induction n using putL.induct with
  | case1 n h => rw [putL_small h]; exact bytes_cons ⟨by omega, by omega⟩ bytes_nil
  | case2 n h ih => rw [putL_great h]; exact bytes_cons ⟨by omega, by omega⟩ ih
theorem putL_pos (n : Nat) : 0 < (putL n).length := by
  rw [putL]
  split <;> simp
theorem putL_len (m : Nat) : ∀ n : Nat, n < 128 ^ (m + 1) → (putL n).length ≤ m + 1 := by
  induction m with
  | zero => intro n h; rw [putL_small (by omega)]; simp
  | succ m ih =>
    intro n h
    by_cases hn : n < 128
    · rw [putL_small hn]; simp
    · rw [putL_great hn]
      have := ih (n / 128) (by rw [Nat.pow_succ] at h; omega)
      simp only [List.length_cons]; omega
theorem putL_len10 {n : Nat} (h : n < 18446744073709551616) : (putL n).length ≤ 10 := putL_len 9 n (by omega)
/-- what digits of 7 bits come to -/
def valL : List Int → Int
  | [] => 0
  | x :: l => x % 128 + 128 * valL l
theorem valL_nonneg : ∀ l, 0 ≤ valL l
  | [] => by simp [valL]
  | x :: l => by have := valL_nonneg l; simp only [valL]; omega
theorem valL_lt : ∀ l, valL l < 128 ^ l.length
  | [] => by simp [valL]
  | x :: l => by have := valL_lt l; simp only [valL, List.length_cons, Int.pow_succ]; omega
theorem valL_append : ∀ a b, valL (a ++ b) = valL a + 128 ^ a.length * valL b
  | [], b => by simp [valL]
  | x :: a, b => by
    have := valL_append a b
    simp only [List.cons_append, valL, this, List.length_cons, Int.pow_succ]
    rw [Int.mul_add, ← Int.mul_assoc, Int.mul_comm (128 ^ a.length) 128]; omega
def more128 (x : Int) : Bool := decide (128 ≤ x)
/-- how many bytes ahead of the last one -/
def sizeL (b : List Int) : Nat := lead more128 (b.take 10)
/-- the number with which bytes begin -/
def getL (b : List Int) : Int × Int × Int :=
  if sizeL b = 10 then (0, 0, 3) else if sizeL b = b.length then (0, 0, 2)
  else if (0 < sizeL b ∧ rd b (sizeL b) = 0) ∨ (sizeL b = 9 ∧ rd b (sizeL b) > 1) then (0, 0, 3)
  else (valL (b.take (sizeL b + 1)), (sizeL b : Int) + 1, 0)
theorem sizeL_le (b : List Int) : sizeL b ≤ 10 ∧ sizeL b ≤ b.length := by
  have := lead_le more128 (b.take 10)
  unfold sizeL
  rw [List.length_take] at this
  omega
theorem sizeL_at (b : List Int) (j : Nat) (h : j < sizeL b) : 128 ≤ rd b (j : Int) := by
  have := lead_at more128 (b.take 10) j h
  have := sizeL_le b
  rw [getD_take _ _ _ (by omega)] at *
  rw [rd_nat]
  simpa [more128] using ‹more128 (b.getD j 0) = true›
theorem sizeL_stop (b : List Int) (h : sizeL b < 10) (h' : sizeL b < b.length) : rd b (sizeL b : Int) < 128 := by
  have := lead_stop more128 (b.take 10) (by rw [List.length_take]; unfold sizeL at *; omega)
  rw [getD_take _ _ _ (by unfold sizeL at h; exact h)] at this
  rw [rd_nat]
  simpa [more128, sizeL] using this
theorem sizeL_eq (b : List Int) (i : Nat) (h : i ≤ 10) (h' : i ≤ b.length) (ha : ∀ j < i, 128 ≤ rd b (j : Int)) (hs : i < 10 → i < b.length → rd b (i : Int) < 128) : sizeL b = i := by
  unfold sizeL
  refine lead_eq more128 _ i (by rw [List.length_take]; omega) (fun j hj => ?_) (fun hi => ?_)
  · rw [getD_take _ _ _ (by omega), ← rd_nat]
    simpa [more128] using ha j hj
  · rw [List.length_take] at hi
    rw [getD_take _ _ _ (by omega), ← rd_nat]
    simpa [more128] using hs (by omega) (by omega)
theorem take_succ_rd (l : List Int) (i : Nat) (h : i < l.length) : l.take (i + 1) = l.take i ++ [rd l (i : Int)] := by
  rw [List.take_succ_eq_append_getElem h, rd_nat]
  simp [List.getD, h]
theorem drop_rd (l : List Int) (i : Nat) (h : i < l.length) : l.drop i = rd l (i : Int) :: l.drop (i + 1) := by
  rw [List.drop_eq_getElem_cons h, rd_nat]
  simp [List.getD, h]
/-- what is read is a number of 64 bits -/
theorem getL_val_lt (b : List Int) (hb : Bytes b) (h : ¬ (sizeL b = 9 ∧ rd b (sizeL b) > 1)) (h10 : sizeL b < 10) (hl : sizeL b < b.length) : valL (b.take (sizeL b + 1)) < 18446744073709551616 := by
  rw [take_succ_rd b _ hl, valL_append]
  have hv := valL_lt (b.take (sizeL b))
  have h0 := valL_nonneg (b.take (sizeL b))
  have e : (b.take (sizeL b)).length = sizeL b := by rw [List.length_take]; omega
  rw [e] at hv ⊢
  have hr := rd_byte hb (sizeL b : Int)
  have hs := sizeL_stop b h10 hl
  unfold Byte at hr
  simp only [valL, Int.mul_zero, Int.add_zero]
  have e1 : rd b (sizeL b) % 128 = rd b (sizeL b) := by omega
  rw [e1]
  by_cases h9 : sizeL b = 9
  · have : rd b (sizeL b) ≤ 1 := by omega
    rw [h9] at hv this ⊢
    omega
  · have hlt : sizeL b ≤ 8 := by omega
    have hp : (128 : Int) ^ sizeL b ≤ 128 ^ 8 := by
      have := Nat.pow_le_pow_right (n := 128) (by decide) hlt
      exact_mod_cast this
    have hp0 : (0 : Int) < 128 ^ sizeL b := by exact_mod_cast Nat.pow_pos (by decide : 0 < 128)
    generalize (128 : Int) ^ sizeL b = P at *
    have : P * rd b (sizeL b) ≤ P * 127 := Int.mul_le_mul_of_nonneg_left (by omega) (by omega)
    omega
/-- a number that was put is got -/
theorem putL_sizeL (n : Nat) : ∀ b, (putL n).length ≤ 10 → sizeL (putL n ++ b) = (putL n).length - 1 := by
  suffices H : ∀ (b : List Int), (∀ j : Nat, j + 1 < (putL n).length → 128 ≤ rd (putL n ++ b) (j : Int)) ∧ rd (putL n ++ b) (((putL n).length - 1 : Nat) : Int) < 128 by
    intro b h
    have hp := putL_pos n
    refine sizeL_eq _ _ (by omega) (by rw [List.length_append]; omega) (fun j hj => (H b).1 j (by omega)) (fun _ _ => (H b).2)
  induction n using putL.induct with
  | case1 n h => intro b; rw [putL_small h]; simp [rd]; omega
  | case2 n h ih =>
    intro b
    have hp := putL_pos (n / 128)
    rw [putL_great h]
    refine ⟨fun j hj => ?_, ?_⟩
    · cases j with
      | zero => simp [rd]; omega
      | succ j =>
        have := (ih b).1 j (by simpa using hj)
        rw [rd_nat] at this ⊢
        simpa using this
    · have := (ih b).2
      rw [rd_nat] at this ⊢
      obtain ⟨m, hm⟩ : ∃ m, (putL (n / 128)).length = m + 1 := ⟨(putL (n / 128)).length - 1, by omega⟩
      simp only [List.length_cons, hm, Nat.add_sub_cancel, List.cons_append, List.getD_cons_succ] at this ⊢
      exact this
theorem putL_val (n : Nat) : valL (putL n) = n := by
  induction n using putL.induct with
  | case1 n h => rw [putL_small h]; simp [valL]; omega
  | case2 n h ih => rw [putL_great h]; simp only [valL, ih]; omega
theorem putL_last (n : Nat) : ∀ b, (1 < (putL n).length → 0 < rd (putL n ++ b) (((putL n).length - 1 : Nat) : Int)) := by
  induction n using putL.induct with
  | case1 n h => intro b; rw [putL_small h]; simp
  | case2 n h ih =>
    intro b _
    have hp := putL_pos (n / 128)
    have := ih b
    rw [putL_great h]
    rw [rd_nat] at this ⊢
    obtain ⟨m, hm⟩ : ∃ m, (putL (n / 128)).length = m + 1 := ⟨(putL (n / 128)).length - 1, by omega⟩
    simp only [List.length_cons, hm, Nat.add_sub_cancel, List.cons_append, List.getD_cons_succ] at this ⊢
    cases m with
    | succ m => exact this (by omega)
    | zero =>
      have h2 : n / 128 < 128 := by
        apply Decidable.byContradiction
        intro hc
        rw [putL_great hc] at hm
        have := putL_pos (n / 128 / 128)
        simp only [List.length_cons] at hm
        omega
      rw [putL_small h2]
      simp
      omega
theorem get_put (n : Nat) (hn : n < 18446744073709551616) (b : List Int) : getL (putL n ++ b) = ((n : Int), ((putL n).length : Int), 0) := by
  have h10 := putL_len10 hn
  have hp := putL_pos n
  have hs := putL_sizeL n b h10
  unfold getL
  rw [hs, if_neg (by omega), if_neg (by rw [List.length_append]; omega)]
  have e : (putL n).length - 1 + 1 = (putL n).length := by omega
  rw [if_neg, e, List.take_left, putL_val]
  · congr 2
    omega
  · rintro (⟨h1, h2⟩ | ⟨h1, h2⟩)
    · have := putL_last n b (by omega)
      omega
    · have hv := putL_val n
      have hl : (putL n).length = 10 := by omega
      have e2 : rd (putL n ++ b) (((putL n).length - 1 : Nat) : Int) = rd (putL n) (9 : Nat) := by
        rw [hl, rd_nat, rd_nat]
        simp [List.getD, List.getElem?_append, hl]
      rw [e2] at h2
      have e3 := take_succ_rd (putL n) 9 (by omega)
      rw [List.take_of_length_le (by omega)] at e3
      have hb := rd_byte (putL_bytes n) (9 : Nat)
      unfold Byte at hb
      have hlt : rd (putL n) (9 : Nat) < 128 := by
        have := sizeL_stop (putL n ++ []) (by rw [putL_sizeL n [] h10]; omega) (by rw [putL_sizeL n [] h10]; simp; omega)
        rw [putL_sizeL n [] h10, hl] at this
        simpa using this
      rw [e3, valL_append] at hv
      have e4 : ((putL n).take 9).length = 9 := by rw [List.length_take]; omega
      have h0 := valL_nonneg ((putL n).take 9)
      rw [e4] at hv
      simp only [valL, Int.mul_zero, Int.add_zero] at hv
      omega
/-- what was got is put as it was -/
theorem put_val : ∀ (l : List Int), Bytes l → l ≠ [] → (∀ j : Nat, j + 1 < l.length → 128 ≤ rd l (j : Int)) → rd l ((l.length - 1 : Nat) : Int) < 128 → (1 < l.length → 0 < rd l ((l.length - 1 : Nat) : Int)) → putL (valL l).toNat = l := by
  intro l
  induction l with
  | nil => intro _ h; exact absurd rfl h
  | cons x l ih =>
    intro hb _ hj hl h0
    have hx := hb x (by simp)
    unfold Byte at hx
    cases l with
    | nil =>
      simp [rd] at hl
      simp only [valL, Int.mul_zero, Int.add_zero]
      rw [putL_small (by omega)]
      congr 1
      omega
    | cons y l =>
      have hx1 := hj 0 (by simp)
      simp [rd] at hx1
      have key := ih (fun z hz => hb z (by simp [hz])) (by simp) (fun j hj' => by
        have := hj (j + 1) (by simpa using hj')
        rw [rd_nat] at this ⊢
        simpa using this) (by
        rw [rd_nat] at hl ⊢
        simpa using hl) (fun h => by
        have := h0 (by simp)
        rw [rd_nat] at this ⊢
        simpa using this)
      have hv : 0 < valL (y :: l) := by
        cases l with
        | nil =>
          have := h0 (by simp)
          simp [rd] at this hl
          simp [valL]; omega
        | cons z l =>
          have := putL_val (valL (y :: z :: l)).toNat
          have hn := valL_nonneg (y :: z :: l)
          apply Decidable.byContradiction
          intro hc
          have : valL (y :: z :: l) = 0 := by omega
          rw [this] at key
          rw [show (0 : Int).toNat = 0 from rfl, putL_small (by omega)] at key
          simp at key
      have e : valL (x :: y :: l) = x % 128 + 128 * valL (y :: l) := rfl
      rw [e, putL_great (by omega)]
      have e1 : (x % 128 + 128 * valL (y :: l)).toNat / 128 = (valL (y :: l)).toNat := by omega
      rw [e1, key]
      congr 1
      omega
theorem put_get (b : List Int) (hb : Bytes b) (n m : Int) (h : getL b = (n, m, 0)) : 0 ≤ n ∧ n < 18446744073709551616 ∧ 0 < m ∧ m ≤ 10 ∧ m ≤ b.length ∧ putL n.toNat = b.take m.toNat := by
  have hs := sizeL_le b
  unfold getL at h
  by_cases h1 : sizeL b = 10
  · rw [if_pos h1] at h; simp at h
  rw [if_neg h1] at h
  by_cases h2 : sizeL b = b.length
  · rw [if_pos h2] at h; simp at h
  rw [if_neg h2] at h
  by_cases h3 : (0 < sizeL b ∧ rd b (sizeL b) = 0) ∨ (sizeL b = 9 ∧ rd b (sizeL b) > 1)
  · rw [if_pos h3] at h; simp at h
  rw [if_neg h3] at h
  simp only [Prod.mk.injEq] at h
  obtain ⟨rfl, rfl, -⟩ := h
  have hv := getL_val_lt b hb (fun h => h3 (.inr h)) (by omega) (by omega)
  have h0 := valL_nonneg (b.take (sizeL b + 1))
  have el : (b.take (sizeL b + 1)).length = sizeL b + 1 := by rw [List.length_take]; omega
  have hr := rd_byte hb (sizeL b : Int)
  unfold Byte at hr
  refine ⟨h0, hv, by omega, by omega, by omega, ?_⟩
  rw [show ((sizeL b : Int) + 1).toNat = sizeL b + 1 from by omega]
  have same : ∀ j : Nat, j ≤ sizeL b → rd (b.take (sizeL b + 1)) (j : Int) = rd b (j : Int) := fun j hj => by
    rw [rd_nat, rd_nat, getD_take _ _ _ (by omega)]
  refine put_val _ (bytes_take hb _) (fun h => by rw [h] at el; simp at el) (fun j hj => ?_) ?_ (fun hl => ?_)
  · rw [el] at hj
    rw [same j (by omega)]
    exact sizeL_at b j (by omega)
  · rw [el, Nat.add_sub_cancel, same _ (Nat.le_refl _)]
    exact sizeL_stop b (by omega) (by omega)
  · rw [el] at hl
    rw [el, Nat.add_sub_cancel, same _ (Nat.le_refl _)]
    have : ¬ rd b (sizeL b : Int) = 0 := fun h => h3 (.inl ⟨by omega, h⟩)
    omega
/-- what is got is in bounds -/
theorem getL_range (b : List Int) (hb : Bytes b) : 0 ≤ (getL b).1 ∧ (getL b).1 < 18446744073709551616 ∧ 0 ≤ (getL b).2.1 ∧ (getL b).2.1 ≤ b.length ∧ ((getL b).2.2 = 0 ∨ (getL b).2.2 = 2 ∨ (getL b).2.2 = 3) ∧ ((getL b).2.2 = 0 → 0 < (getL b).2.1) := by
  have hs := sizeL_le b
  unfold getL
  split
  · simp
  split
  · simp
  split
  · simp
  · rename_i h1 h2 h3
    have hv := getL_val_lt b hb (fun h => h3 (.inr h)) (by omega) (by omega)
    have h0 := valL_nonneg (b.take (sizeL b + 1))
    exact ⟨h0, hv, by simp; omega, by simp; omega, .inl rfl, fun _ => by show (0 : Int) < (sizeL b : Int) + 1; omega⟩
theorem strOfNums_append (a b : List Int) : strOfNums a ++ strOfNums b = strOfNums (a ++ b) := by
  apply ByteArray.ext
  apply Array.toList_inj.1
  simp [strOfNums]
theorem tdiv_nat {x m : Int} (h : 0 ≤ x) : Int.tdiv x m = x / m := Int.tdiv_eq_ediv_of_nonneg h
theorem tmod_nat {x m : Int} (h : 0 ≤ x) : Int.tmod x m = x % m := Int.tmod_eq_emod_of_nonneg h
/-- the numbers that bytes are -/
def getAllL (fuel : Nat) (b : List Int) (acc : List Int) (at_ : Int) : List Int × Int × Int :=
  match fuel with
  | 0 => (acc, at_, 0)
  | f + 1 => if b = [] then (acc, at_, 0) else
    if (getL b).2.2 = 0 then getAllL f (b.drop (getL b).2.1.toNat) (acc ++ [(getL b).1]) (at_ + (getL b).2.1) else ([], at_, (getL b).2.2)
def putAllL : List Int → List Int
  | [] => []
  | x :: l => putL x.toNat ++ putAllL l
theorem putAllL_snoc : ∀ l x, putAllL (l ++ [x]) = putAllL l ++ putL x.toNat
  | [], x => by simp [putAllL]
  | y :: l, x => by simp [putAllL, putAllL_snoc l x]
theorem putAllL_len (l : List Int) (h : ∀ x ∈ l, (Lit.int .u64 x).wf = true) : (putAllL l).length ≤ 10 * l.length := by
  induction l with
  | nil => simp [putAllL]
  | cons x l ih =>
    have := ih (fun y hy => h y (by simp [hy]))
    have hx := wf_u64 (h x (by simp))
    have := putL_len10 (n := x.toNat) (by omega)
    simp only [putAllL, List.length_append, List.length_cons]; omega
theorem getL_bad {b : List Int} (h10 : sizeL b < 10) (hl : sizeL b < b.length) (h : (0 < sizeL b ∧ rd b (sizeL b) = 0) ∨ (sizeL b = 9 ∧ rd b (sizeL b) > 1)) : getL b = (0, 0, 3) := by
  unfold getL
  rw [if_neg (by omega), if_neg (by omega), if_pos h]
theorem getL_ok {b : List Int} (h10 : sizeL b < 10) (hl : sizeL b < b.length) (h0 : ¬ (0 < sizeL b ∧ rd b (sizeL b) = 0)) (h9 : ¬ (sizeL b = 9 ∧ rd b (sizeL b) > 1)) : getL b = (valL (b.take (sizeL b + 1)), (sizeL b : Int) + 1, 0) := by
  unfold getL
  rw [if_neg (by omega), if_neg (by omega), if_neg (fun hc => hc.elim h0 h9)]

/-! ### layer 7: numbers and bytes as texts, by lists -/
def placesS : ByteArray := ⟨#[48, 49, 50, 51, 52, 53, 54, 55, 56, 57, 97, 98, 99, 100, 101, 102]⟩
def place (d : Int) : Int := if d < 10 then 48 + d else 87 + d
theorem bt_place (d : Int) (h : 0 ≤ d) (h' : d < 16) : bt placesS d = place d := by
  have key : ∀ i : Fin 16, bt placesS ((i.val : Nat) : Int) = place ((i.val : Nat) : Int) := by decide +kernel
  have := key ⟨d.toNat, by omega⟩
  rw [show ((d.toNat : Nat) : Int) = d by omega] at this
  exact this
theorem place_byte {d : Int} (h : 0 ≤ d) (h' : d < 16) : Byte (place d) := by unfold place Byte; split <;> omega
theorem place_inj {a b : Int} (ha : 0 ≤ a) (ha' : a < 16) (hb : 0 ≤ b) (hb' : b < 16) (h : place a = place b) : a = b := by
  unfold place at h
  split at h <;> split at h <;> omega
theorem strOfNums_nil : strOfNums [] = (⟨#[]⟩ : ByteArray) := rfl
theorem toList_data (s : ByteArray) : s.toList = s.data.toList := by
  have loop : ∀ (n i : Nat) (r : List UInt8), s.size - i = n → ByteArray.toList.loop s i r = r.reverse ++ s.data.toList.drop i := by
    intro n
    induction n with
    | zero =>
      intro i r h
      rw [ByteArray.toList.loop]
      rw [if_neg (by omega), List.drop_eq_nil_of_le (by simp; have : s.size = s.data.size := rfl; omega)]
      simp
    | succ n ih =>
      intro i r h
      rw [ByteArray.toList.loop]
      have hi : i < s.size := by omega
      rw [if_pos hi, ih (i + 1) _ (by omega)]
      have hd : i < s.data.toList.length := by simp; exact hi
      rw [List.drop_eq_getElem_cons hd]
      have : i < s.data.size := hi
      simp [ByteArray.get!, hi, Array.getElem!_eq_getD, Array.getD]
  have := loop _ 0 [] rfl
  unfold ByteArray.toList
  rw [this]
  simp
theorem bytes_eq_of_toList {a b : ByteArray} (h : a.toList = b.toList) : a = b := by
  rw [toList_data, toList_data] at h
  apply ByteArray.ext
  exact Array.toList_inj.1 h
theorem strOfNums_inj {a b : List Int} (ha : Bytes a) (hb : Bytes b) (h : strOfNums a = strOfNums b) : a = b := by
  have h1 := congrArg (fun s : ByteArray => s.data.toList) h
  simp only [strOfNums_data] at h1
  have h2 := congrArg (List.map fun c : UInt8 => ((c.toNat : Nat) : Int)) h1
  simp only [List.map_map] at h2
  have key : ∀ l : List Int, Bytes l → l.map ((fun c : UInt8 => ((c.toNat : Nat) : Int)) ∘ fun n : Int => UInt8.ofNat n.toNat) = l := by
    intro l hl
    induction l with
    | nil => rfl
    | cons x l ih =>
      have hx := hl x (by simp)
      unfold Byte at hx
      rw [List.map_cons, ih (fun y hy => hl y (by simp [hy]))]
      congr 1
      simp
      omega
  rw [key a ha, key b hb] at h2
  exact h2
theorem bytesOf_str {a : List Int} (ha : Bytes a) : bytesOf (strOfNums a) = a := by
  unfold bytesOf
  rw [strOfNums_data, List.map_map]
  induction a with
  | nil => rfl
  | cons x l ih =>
    have hx := ha x (by simp)
    unfold Byte at hx
    rw [List.map_cons, ih (fun y hy => ha y (by simp [hy]))]
    congr 1
    simp
    omega
theorem str_bytesOf (s : ByteArray) : strOfNums (bytesOf s) = s := by
  apply ByteArray.ext
  apply Array.toList_inj.1
  rw [strOfNums_data, bytesOf, List.map_map]
  conv => rhs; rw [← List.map_id s.data.toList]
  apply List.map_congr_left
  intro c _
  simp
theorem bytesOf_bytes (s : ByteArray) : Bytes (bytesOf s) := by
  intro x hx
  unfold bytesOf at hx
  obtain ⟨c, _, rfl⟩ := List.mem_map.1 hx
  have := c.toNat_lt
  exact ⟨by omega, by omega⟩
/-- a number's text -/
def numL (n : Int) : List Int := if n < 0 then 45 :: digL (-n).toNat else digL n.toNat
theorem digL_bytes (n : Nat) : Bytes (digL n) := by
  induction n using digL.induct with
  | case1 n h => rw [digL_small h]; exact bytes_cons ⟨by omega, by omega⟩ bytes_nil
  | case2 n h ih => rw [digL_great h]; exact bytes_append ih (bytes_cons ⟨by omega, by omega⟩ bytes_nil)
theorem numL_bytes (n : Int) : Bytes (numL n) := by
  unfold numL
  split
  · exact bytes_cons ⟨by omega, by omega⟩ (digL_bytes _)
  · exact digL_bytes _
theorem digL_len20 {n : Nat} (h : n < 18446744073709551616) : (digL n).length ≤ 20 := digL_len 19 n (by omega)
/-- so many digits to the base 16 -/
def hexL : Nat → Nat → List Int
  | 0, _ => []
  | n + 1, u => hexL n (u / 16) ++ [place ((u % 16 : Nat) : Int)]
theorem hexL_len : ∀ n u, (hexL n u).length = n
  | 0, _ => rfl
  | n + 1, u => by simp [hexL, hexL_len n]
theorem hexL_bytes : ∀ n u, Bytes (hexL n u)
  | 0, _ => bytes_nil
  | n + 1, u => bytes_append (hexL_bytes n _) (bytes_cons (place_byte (by omega) (by omega)) bytes_nil)
theorem hexL_add : ∀ m n u, hexL (m + n) u = hexL m (u / 16 ^ n) ++ hexL n u
  | m, 0, u => by simp [hexL]
  | m, n + 1, u => by
    rw [← Nat.add_assoc]
    show hexL (m + n) (u / 16) ++ _ = _
    rw [hexL_add m n (u / 16), Nat.div_div_eq_div_mul, ← Nat.pow_succ']
    simp [hexL]
theorem hexL_mod (n : Nat) : ∀ u k, hexL n (u % 16 ^ (n + k)) = hexL n u := by
  induction n with
  | zero => intro u k; rfl
  | succ n ih =>
    intro u k
    simp only [hexL]
    have e1 : u % 16 ^ (n + 1 + k) / 16 = u / 16 % 16 ^ (n + k) := by
      rw [show n + 1 + k = (n + k) + 1 by omega, Nat.pow_succ, Nat.mul_comm, Nat.mod_mul_right_div_self]
    have e2 : u % 16 ^ (n + 1 + k) % 16 = u % 16 := by
      rw [show n + 1 + k = (n + k) + 1 by omega, Nat.pow_succ, Nat.mul_comm]
      exact Nat.mod_mul_right_mod u 16 (16 ^ (n + k))
    rw [e1, e2, ih]
/-- bytes as digits -/
def twoL (c : Int) : List Int := [place (c / 16), place (c % 16)]
def bytesL : List Int → List Int
  | [] => []
  | c :: l => twoL c ++ bytesL l
theorem bytesL_append : ∀ a b, bytesL (a ++ b) = bytesL a ++ bytesL b
  | [], b => rfl
  | x :: a, b => by simp [bytesL, bytesL_append a b]
theorem twoL_bytes {c : Int} (h : Byte c) : Bytes (twoL c) := by
  unfold Byte at h
  exact bytes_cons (place_byte (by omega) (by omega)) (bytes_cons (place_byte (by omega) (by omega)) bytes_nil)
theorem bytesL_bytes : ∀ {l : List Int}, Bytes l → Bytes (bytesL l)
  | [], _ => bytes_nil
  | c :: l, h => bytes_append (twoL_bytes (h c (by simp))) (bytesL_bytes (fun x hx => h x (by simp [hx])))
theorem bytesL_len : ∀ l : List Int, (bytesL l).length = 2 * l.length
  | [] => rfl
  | c :: l => by simp [bytesL, twoL, bytesL_len l]; omega
theorem and15 {x : Int} (h : 0 ≤ x) (h' : x < 256) : bits .and .u8 x 15 = x % 16 := bits_mask .u8 8 (by decide) wraps_u8 4 (by decide) x h h'
theorem and15_u64 {x : Int} (h : 0 ≤ x) (h' : x < 18446744073709551616) : bits .and .u64 x 15 = x % 16 := bits_mask .u64 64 (by decide) wraps_u64 4 (by decide) x h (by omega)
theorem shr_u64 (x : Int) (n : Nat) (h : n ≤ 64) : shr .u64 x (n : Int) = x / 2 ^ n := by
  unfold shr
  rw [show (IntKind.u64).bits = 64 from rfl, Int.toNat_natCast, Nat.min_eq_left h]
theorem set_snoc (l : List Int) (i : Nat) (x : Int) (h : i < l.length) : (l.set i x).drop i = x :: l.drop (i + 1) := drop_set_at l i x h

/-! ### texts as lists of bytes -/
theorem str_toList (l : List Int) : (strOfNums l).toList = l.map fun n => UInt8.ofNat n.toNat := by rw [toList_data, strOfNums_data]
theorem str_of (s : ByteArray) : ∃ l, Bytes l ∧ s = strOfNums l := ⟨bytesOf s, bytesOf_bytes s, (str_bytesOf s).symm⟩
theorem str_eq {a b : List Int} (ha : Bytes a) (hb : Bytes b) : ((strOfNums a).toList = (strOfNums b).toList) = (a = b) := by
  apply propext
  constructor
  · intro h
    exact strOfNums_inj ha hb (bytes_eq_of_toList h)
  · intro h
    rw [h]
theorem str_nil (l : List Int) : ((strOfNums l).toList = ([] : List UInt8)) = (l = []) := by
  apply propext
  rw [str_toList]
  cases l <;> simp
theorem bt_str {l : List Int} (h : Bytes l) (i : Int) : bt (strOfNums l) i = rd l i := by
  unfold bt rd
  by_cases hi : i.toNat < l.length
  · rw [dif_pos (by rw [strOfNums_size]; exact hi)]
    have e : l.getD i.toNat 0 = l[i.toNat] := by simp [List.getD, hi]
    rw [e]
    have hb := h _ (List.getElem_mem hi)
    unfold Byte at hb
    have : (strOfNums l)[i.toNat]'(by rw [strOfNums_size]; exact hi) = UInt8.ofNat (l[i.toNat]).toNat := by
      show (strOfNums l).data[i.toNat]'_ = _
      simp [strOfNums]
    rw [this]
    simp
    omega
  · rw [dif_neg (by rw [strOfNums_size]; exact hi)]
    simp [List.getD, Nat.le_of_not_lt hi]
theorem str_extract (l : List Int) (a b : Nat) : (strOfNums l).extract a b = strOfNums ((l.take b).drop a) := by
  unfold strOfNums
  rw [show (({ data := (l.map fun n => UInt8.ofNat n.toNat).toArray } : ByteArray).extract a b) = ⟨((((l.map fun n => UInt8.ofNat n.toNat)).drop a).take (b - a)).toArray⟩ from ByteArray.extract_mk _ _ _]
  rw [List.drop_take, List.map_take, List.map_drop]
theorem str_beq {a b : List Int} (ha : Bytes a) (hb : Bytes b) : ((strOfNums a).toList == (strOfNums b).toList) = decide (a = b) := by
  by_cases h : a = b
  · simp [h]
  · rw [decide_eq_false h]
    have : ¬ (strOfNums a).toList = (strOfNums b).toList := by rw [str_eq ha hb]; exact h
    simpa using this
end Annulet
