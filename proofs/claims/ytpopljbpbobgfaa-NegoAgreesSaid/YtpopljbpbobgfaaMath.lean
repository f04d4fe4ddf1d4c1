/- Words and plain mathematics for the pure laws of this seat: rounds that end, whole numbers, lists; no program. -/
import Derived.Test.YtpopljbpbobgfaaWWords
import Derived.Test.YtpopljbpbobgfaaWLast
import Derived.Test.YtpopljbpbobgfaaWMore
import Derived.Laws.BitsLemmas
import Derived.Laws.BitsAllLaws
import Derived.Test.YtpopljbpbobgfaaG
import Derived.Lib.BitFns
set_option linter.unusedVariables false
set_option linter.unusedSimpArgs false
namespace Annulet
open Go Go.RowKit Go.Proofs.YtpopljbpbobgfaaW.PrintWords Go.Proofs.YtpopljbpbobgfaaW.PrintLast Go.Proofs.YtpopljbpbobgfaaW.PrintMore

/-! ### rounds -/
theorem ev_succ {α : Type} {g : Nat → Option α} {r : α} (h : Ev (fun k => g (k + 1)) r) : Ev g r := Ev.step (fun _ => rfl) h
theorem ev_bind {α β : Type} {g : Nat → Option α} {f : Nat → α → Option β} {a : α} {r : β} (h : Ev g a) (k : Ev (fun n => f n a) r) : Ev (fun n => (g n).bind (f n)) r := Ev.bind h k
theorem ev_some {α : Type} (r : α) : Ev (fun _ => some r) r := Ev.now r
theorem ev_const {α : Type} {g : Nat → Option α} {r : α} (h : ∀ k, g (k + 1) = some r) : Ev g r := ev_succ (g := g) (by simp only [h]; exact ev_some r)
theorem ev_eq {α : Type} {g : Nat → Option α} {r s : α} (h : Ev g r) (e : r = s) : Ev g s := e ▸ h
theorem ev_uniq {α : Type} {g : Nat → Option α} {r s : α} (h : Ev g r) (h' : Ev g s) : r = s := by
  obtain ⟨K, hK⟩ := h
  obtain ⟨L, hL⟩ := h'
  have a := hK (max K L) (Nat.le_max_left _ _)
  have b := hL (max K L) (Nat.le_max_right _ _)
  exact Option.some.inj (a.symm.trans b)

/-! ### whole numbers -/
theorem w64 {n : Int} (h0 : -9223372036854775808 ≤ n) (h1 : n ≤ 9223372036854775807) : wrap64 n = n := by
  unfold wrap64
  omega
theorem wu64 (n : Int) : IntKind.u64.wrap n = n % 18446744073709551616 := by simp [IntKind.wrap, IntKind.bits, IntKind.signed]
theorem wu64_id {n : Int} (h0 : 0 ≤ n) (h1 : n < 18446744073709551616) : IntKind.u64.wrap n = n := by
  rw [wu64]
  omega
theorem wraps_u64 (n : Int) (h₀ : 0 ≤ n) (h₁ : n < 2 ^ 64) : IntKind.u64.wrap n = n := wu64_id h₀ (by simpa using h₁)
theorem wf_u8 {x : Int} (h : (Lit.int .u8 x).wf = true) : 0 ≤ x ∧ x < 256 := by
  simp [Lit.wf, IntKind.min, IntKind.max, IntKind.bits, IntKind.signed] at h
  omega
theorem wf_u64 {x : Int} (h : (Lit.int .u64 x).wf = true) : 0 ≤ x ∧ x < 18446744073709551616 := by
  simp [Lit.wf, IntKind.min, IntKind.max, IntKind.bits, IntKind.signed] at h
  omega
theorem wf_i64 {x : Int} (h : (Lit.int .i64 x).wf = true) : -9223372036854775808 ≤ x ∧ x < 9223372036854775808 := by
  simp [Lit.wf, IntKind.min, IntKind.max, IntKind.bits, IntKind.signed] at h
  omega
theorem wf_u32 {x : Int} (h : (Lit.int .u32 x).wf = true) : 0 ≤ x ∧ x < 4294967296 := by
  simp [Lit.wf, IntKind.min, IntKind.max, IntKind.bits, IntKind.signed] at h
  omega
theorem wf_u16 {x : Int} (h : (Lit.int .u16 x).wf = true) : 0 ≤ x ∧ x < 65536 := by
  simp [Lit.wf, IntKind.min, IntKind.max, IntKind.bits, IntKind.signed] at h
  omega

theorem or128 {x : Int} (h : 0 ≤ x) : bits .or .u8 (x % 256) 128 = x % 128 + 128 := by
  have e : bits .or .u8 (x % 256) 128 = bits .or .u8 128 (x % 128) := by
    have h1 := (bits_nat .u8 8 (by decide) wraps_u8 (x % 256).toNat 128 (by omega) (by decide)).2
    have h2 := (bits_nat .u8 8 (by decide) wraps_u8 128 (x % 128).toNat (by decide) (by omega)).2
    rw [show ((x % 256).toNat : Int) = x % 256 from by omega] at h1
    rw [show ((x % 128).toNat : Int) = x % 128 from by omega] at h2
    have e128 : ((128 : Nat) : Int) = 128 := rfl
    rw [e128] at h1 h2
    rw [h1, h2]
    have key : ∀ a : Nat, a < 256 → (a ||| 128 : Nat) = (128 ||| a % 128 : Nat) := by decide +kernel
    have := key (x % 256).toNat (by omega)
    rw [this, show (x % 256).toNat % 128 = (x % 128).toNat from by omega]
  rw [e, bits_join .u8 8 (by decide) wraps_u8 7 128 (x % 128) (by decide) (by decide) (by decide) (by omega) (by omega) (by omega)]
  omega
theorem and127 {x : Int} (h : 0 ≤ x) (h' : x < 256) : bits .and .u8 x 127 = x % 128 := bits_mask .u8 8 (by decide) wraps_u8 7 (by decide) x h h'
theorem mod128_step {a b : Int} (h : 0 ≤ a) (h' : a * 128 + b < 18446744073709551616) (hb : 0 ≤ b) (hb' : b < 128) : bits .or .u64 (IntKind.u64.wrap (a * 128)) (IntKind.u64.wrap b) = a * 128 + b := by
  rw [wu64_id (by omega) (by omega), wu64_id (by omega) (by omega)]
  exact bits_join .u64 64 (by decide) wraps_u64 7 (a * 128) b (by omega) (by omega) (by omega) hb (by omega) (by omega)

/-! ### lists -/
def Byte (x : Int) : Prop := 0 ≤ x ∧ x < 256
def Bytes (l : List Int) : Prop := ∀ x ∈ l, Byte x
theorem rd_nat (l : List Int) (i : Nat) : rd l (i : Int) = l.getD i 0 := by simp [rd]
theorem rd_byte {l : List Int} (h : Bytes l) (i : Int) : Byte (rd l i) := by
  unfold rd
  by_cases hi : i.toNat < l.length
  · have e : l.getD i.toNat 0 = l[i.toNat] := by simp [List.getD, hi]
    rw [e]
    exact h _ (List.getElem_mem hi)
  · have e : l.getD i.toNat 0 = 0 := by simp [List.getD, Nat.le_of_not_lt hi]
    rw [e]
    exact ⟨by omega, by omega⟩
theorem bytes_of_wf {l : List Int} (h : ∀ x ∈ l, (Lit.int .u8 x).wf = true) : Bytes l := fun x hx => wf_u8 (h x hx)
theorem bytes_nil : Bytes [] := fun _ h => by cases h
theorem bytes_append {a b : List Int} (ha : Bytes a) (hb : Bytes b) : Bytes (a ++ b) := fun x hx => by
  rcases List.mem_append.1 hx with h | h
  · exact ha x h
  · exact hb x h
theorem bytes_cons {x : Int} {l : List Int} (hx : Byte x) (h : Bytes l) : Bytes (x :: l) := fun y hy => by
  rcases List.mem_cons.1 hy with rfl | h'
  · exact hx
  · exact h y h'
theorem bytes_drop {l : List Int} (h : Bytes l) (n : Nat) : Bytes (l.drop n) := fun x hx => h x (List.mem_of_mem_drop hx)
theorem bytes_take {l : List Int} (h : Bytes l) (n : Nat) : Bytes (l.take n) := fun x hx => h x (List.mem_of_mem_take hx)

/-- how many cells at the head meet p -/
def lead (p : Int → Bool) : List Int → Nat
  | [] => 0
  | x :: l => if p x then lead p l + 1 else 0
theorem lead_le (p : Int → Bool) : ∀ l, lead p l ≤ l.length
  | [] => Nat.le_refl _
  | x :: l => by
    have := lead_le p l
    simp only [lead, List.length_cons]
    split <;> omega
theorem lead_eq (p : Int → Bool) : ∀ (l : List Int) (i : Nat), i ≤ l.length → (∀ j < i, p (l.getD j 0) = true) → (i < l.length → p (l.getD i 0) = false) → lead p l = i
  | [], i, h, _, _ => by simp at h; simp [lead, h]
  | x :: l, 0, _, _, h => by simp [lead, by simpa using h (by simp)]
  | x :: l, i + 1, h, ha, hs => by
    have h0 : p x = true := by simpa using ha 0 (by omega)
    have := lead_eq p l i (by simpa using h) (fun j hj => by simpa using ha (j + 1) (by omega)) (fun hi => by simpa using hs (by simpa using hi))
    simp [lead, h0, this]
theorem lead_at (p : Int → Bool) : ∀ (l : List Int) (j : Nat), j < lead p l → p (l.getD j 0) = true
  | [], j, h => by simp [lead] at h
  | x :: l, j, h => by
    simp only [lead] at h
    split at h
    · rename_i hx
      cases j with
      | zero => simpa using hx
      | succ j => simpa using lead_at p l j (by omega)
    · omega
theorem lead_stop (p : Int → Bool) : ∀ (l : List Int), lead p l < l.length → p (l.getD (lead p l) 0) = false
  | [], h => by simp at h
  | x :: l, h => by
    by_cases hx : p x = true
    · simp only [lead, hx, if_true, List.length_cons] at h ⊢
      simpa using lead_stop p l (by omega)
    · simp only [lead, hx, if_false] at h ⊢
      simpa using hx
theorem getD_take (l : List Int) (m j : Nat) (h : j < m) : (l.take m).getD j 0 = l.getD j 0 := by
  simp [List.getD, List.getElem?_take, h]
theorem getD_drop (l : List Int) (m j : Nat) : (l.drop m).getD j 0 = l.getD (m + j) 0 := by
  simp [List.getD, List.getElem?_drop]

/-! ### the text of bytes -/
theorem str_inj {a b : List Int} (h : a = b) : (strOfNums a).toList = (strOfNums b).toList := by rw [h]

/-! ### layer 1: numbers in as few bytes as can be, by lists -/
/-- the bytes of a number -/
def putL (n : Nat) : List Int := if n < 128 then [(n : Int)] else (((n % 128 + 128 : Nat)) : Int) :: putL (n / 128)
termination_by n
theorem putL_small {n : Nat} (h : n < 128) : putL n = [(n : Int)] := by rw [putL, if_pos h]
theorem putL_great {n : Nat} (h : ¬ n < 128) : putL n = (((n % 128 + 128 : Nat)) : Int) :: putL (n / 128) := by rw [putL, if_neg h]
theorem putL_bytes (n : Nat) : Bytes (putL n) := by
  induction n using putL.induct with
  | case1 n h => rw [putL_small h]; exact bytes_cons ⟨by omega, by omega⟩ bytes_nil
  | case2 n h ih => rw [putL_great h]; exact bytes_cons ⟨by omega, by omega⟩ ih
theorem putL_pos (n : Nat) : 0 < (putL n).length := by
  rw [putL]
  split <;> simp
theorem putL_len (m : Nat) : ∀ n : Nat, n < 128 ^ (m + 1) → (putL n).length ≤ m + 1 := by
  induction m with
  | zero => intro n h; rw [putL_small (by omega)]; simp
  | succ m ih =>
    intro n h
    by_cases hn : n < 128
    · rw [putL_small hn]; simp
    · rw [putL_great hn]
      have := ih (n / 128) (by rw [Nat.pow_succ] at h; omega)
      simp only [List.length_cons]; omega
theorem putL_len10 {n : Nat} (h : n < 18446744073709551616) : (putL n).length ≤ 10 := putL_len 9 n (by omega)
/-- what digits of 7 bits come to -/
def valL : List Int → Int
  | [] => 0
  | x :: l => x % 128 + 128 * valL l
theorem valL_nonneg : ∀ l, 0 ≤ valL l
  | [] => by simp [valL]
  | x :: l => by have := valL_nonneg l; simp only [valL]; omega
theorem valL_lt : ∀ l, valL l < 128 ^ l.length
  | [] => by simp [valL]
  | x :: l => by have := valL_lt l; simp only [valL, List.length_cons, Int.pow_succ]; omega
theorem valL_append : ∀ a b, valL (a ++ b) = valL a + 128 ^ a.length * valL b
  | [], b => by simp [valL]
  | x :: a, b => by
    have := valL_append a b
    simp only [List.cons_append, valL, this, List.length_cons, Int.pow_succ]
    rw [Int.mul_add, ← Int.mul_assoc, Int.mul_comm (128 ^ a.length) 128]; omega
def more128 (x : Int) : Bool := decide (128 ≤ x)
/-- how many bytes ahead of the last one -/
def sizeL (b : List Int) : Nat := lead more128 (b.take 10)
/-- the number with which bytes begin -/
def getL (b : List Int) : Int × Int × Int :=
  if sizeL b = 10 then (0, 0, 3) else if sizeL b = b.length then (0, 0, 2)
  else if (0 < sizeL b ∧ rd b (sizeL b) = 0) ∨ (sizeL b = 9 ∧ rd b (sizeL b) > 1) then (0, 0, 3)
  else (valL (b.take (sizeL b + 1)), (sizeL b : Int) + 1, 0)
theorem sizeL_le (b : List Int) : sizeL b ≤ 10 ∧ sizeL b ≤ b.length := by
  have := lead_le more128 (b.take 10)
  unfold sizeL
  rw [List.length_take] at this
  omega
theorem sizeL_at (b : List Int) (j : Nat) (h : j < sizeL b) : 128 ≤ rd b (j : Int) := by
  have := lead_at more128 (b.take 10) j h
  have := sizeL_le b
  rw [getD_take _ _ _ (by omega)] at *
  rw [rd_nat]
  simpa [more128] using ‹more128 (b.getD j 0) = true›
theorem sizeL_stop (b : List Int) (h : sizeL b < 10) (h' : sizeL b < b.length) : rd b (sizeL b : Int) < 128 := by
  have := lead_stop more128 (b.take 10) (by rw [List.length_take]; unfold sizeL at *; omega)
  rw [getD_take _ _ _ (by unfold sizeL at h; exact h)] at this
  rw [rd_nat]
  simpa [more128, sizeL] using this
theorem sizeL_eq (b : List Int) (i : Nat) (h : i ≤ 10) (h' : i ≤ b.length) (ha : ∀ j < i, 128 ≤ rd b (j : Int)) (hs : i < 10 → i < b.length → rd b (i : Int) < 128) : sizeL b = i := by
  unfold sizeL
  refine lead_eq more128 _ i (by rw [List.length_take]; omega) (fun j hj => ?_) (fun hi => ?_)
  · rw [getD_take _ _ _ (by omega), ← rd_nat]
    simpa [more128] using ha j hj
  · rw [List.length_take] at hi
    rw [getD_take _ _ _ (by omega), ← rd_nat]
    simpa [more128] using hs (by omega) (by omega)
theorem take_succ_rd (l : List Int) (i : Nat) (h : i < l.length) : l.take (i + 1) = l.take i ++ [rd l (i : Int)] := by
  rw [List.take_succ_eq_append_getElem h, rd_nat]
  simp [List.getD, h]
theorem drop_rd (l : List Int) (i : Nat) (h : i < l.length) : l.drop i = rd l (i : Int) :: l.drop (i + 1) := by
  rw [List.drop_eq_getElem_cons h, rd_nat]
  simp [List.getD, h]
/-- what is read is a number of 64 bits -/
theorem getL_val_lt (b : List Int) (hb : Bytes b) (h : ¬ (sizeL b = 9 ∧ rd b (sizeL b) > 1)) (h10 : sizeL b < 10) (hl : sizeL b < b.length) : valL (b.take (sizeL b + 1)) < 18446744073709551616 := by
  rw [take_succ_rd b _ hl, valL_append]
  have hv := valL_lt (b.take (sizeL b))
  have h0 := valL_nonneg (b.take (sizeL b))
  have e : (b.take (sizeL b)).length = sizeL b := by rw [List.length_take]; omega
  rw [e] at hv ⊢
  have hr := rd_byte hb (sizeL b : Int)
  have hs := sizeL_stop b h10 hl
  unfold Byte at hr
  simp only [valL, Int.mul_zero, Int.add_zero]
  have e1 : rd b (sizeL b) % 128 = rd b (sizeL b) := by omega
  rw [e1]
  by_cases h9 : sizeL b = 9
  · have : rd b (sizeL b) ≤ 1 := by omega
    rw [h9] at hv this ⊢
    omega
  · have hlt : sizeL b ≤ 8 := by omega
    have hp : (128 : Int) ^ sizeL b ≤ 128 ^ 8 := by
      have := Nat.pow_le_pow_right (n := 128) (by decide) hlt
      exact_mod_cast this
    have hp0 : (0 : Int) < 128 ^ sizeL b := by exact_mod_cast Nat.pow_pos (by decide : 0 < 128)
    generalize (128 : Int) ^ sizeL b = P at *
    have : P * rd b (sizeL b) ≤ P * 127 := Int.mul_le_mul_of_nonneg_left (by omega) (by omega)
    omega
/-- a number that was put is got -/
theorem putL_sizeL (n : Nat) : ∀ b, (putL n).length ≤ 10 → sizeL (putL n ++ b) = (putL n).length - 1 := by
  suffices H : ∀ (b : List Int), (∀ j : Nat, j + 1 < (putL n).length → 128 ≤ rd (putL n ++ b) (j : Int)) ∧ rd (putL n ++ b) (((putL n).length - 1 : Nat) : Int) < 128 by
    intro b h
    have hp := putL_pos n
    refine sizeL_eq _ _ (by omega) (by rw [List.length_append]; omega) (fun j hj => (H b).1 j (by omega)) (fun _ _ => (H b).2)
  induction n using putL.induct with
  | case1 n h => intro b; rw [putL_small h]; simp [rd]; omega
  | case2 n h ih =>
    intro b
    have hp := putL_pos (n / 128)
    rw [putL_great h]
    refine ⟨fun j hj => ?_, ?_⟩
    · cases j with
      | zero => simp [rd]; omega
      | succ j =>
        have := (ih b).1 j (by simpa using hj)
        rw [rd_nat] at this ⊢
        simpa using this
    · have := (ih b).2
      rw [rd_nat] at this ⊢
      obtain ⟨m, hm⟩ : ∃ m, (putL (n / 128)).length = m + 1 := ⟨(putL (n / 128)).length - 1, by omega⟩
      simp only [List.length_cons, hm, Nat.add_sub_cancel, List.cons_append, List.getD_cons_succ] at this ⊢
      exact this
theorem putL_val (n : Nat) : valL (putL n) = n := by
  induction n using putL.induct with
  | case1 n h => rw [putL_small h]; simp [valL]; omega
  | case2 n h ih => rw [putL_great h]; simp only [valL, ih]; omega
theorem putL_last (n : Nat) : ∀ b, (1 < (putL n).length → 0 < rd (putL n ++ b) (((putL n).length - 1 : Nat) : Int)) := by
  induction n using putL.induct with
  | case1 n h => intro b; rw [putL_small h]; simp
  | case2 n h ih =>
    intro b _
    have hp := putL_pos (n / 128)
    have := ih b
    rw [putL_great h]
    rw [rd_nat] at this ⊢
    obtain ⟨m, hm⟩ : ∃ m, (putL (n / 128)).length = m + 1 := ⟨(putL (n / 128)).length - 1, by omega⟩
    simp only [List.length_cons, hm, Nat.add_sub_cancel, List.cons_append, List.getD_cons_succ] at this ⊢
    cases m with
    | succ m => exact this (by omega)
    | zero =>
      have h2 : n / 128 < 128 := by
        apply Decidable.byContradiction
        intro hc
        rw [putL_great hc] at hm
        have := putL_pos (n / 128 / 128)
        simp only [List.length_cons] at hm
        omega
      rw [putL_small h2]
      simp
      omega
theorem get_put (n : Nat) (hn : n < 18446744073709551616) (b : List Int) : getL (putL n ++ b) = ((n : Int), ((putL n).length : Int), 0) := by
  have h10 := putL_len10 hn
  have hp := putL_pos n
  have hs := putL_sizeL n b h10
  unfold getL
  rw [hs, if_neg (by omega), if_neg (by rw [List.length_append]; omega)]
  have e : (putL n).length - 1 + 1 = (putL n).length := by omega
  rw [if_neg, e, List.take_left, putL_val]
  · congr 2
    omega
  · rintro (⟨h1, h2⟩ | ⟨h1, h2⟩)
    · have := putL_last n b (by omega)
      omega
    · have hv := putL_val n
      have hl : (putL n).length = 10 := by omega
      have e2 : rd (putL n ++ b) (((putL n).length - 1 : Nat) : Int) = rd (putL n) (9 : Nat) := by
        rw [hl, rd_nat, rd_nat]
        simp [List.getD, List.getElem?_append, hl]
      rw [e2] at h2
      have e3 := take_succ_rd (putL n) 9 (by omega)
      rw [List.take_of_length_le (by omega)] at e3
      have hb := rd_byte (putL_bytes n) (9 : Nat)
      unfold Byte at hb
      have hlt : rd (putL n) (9 : Nat) < 128 := by
        have := sizeL_stop (putL n ++ []) (by rw [putL_sizeL n [] h10]; omega) (by rw [putL_sizeL n [] h10]; simp; omega)
        rw [putL_sizeL n [] h10, hl] at this
        simpa using this
      rw [e3, valL_append] at hv
      have e4 : ((putL n).take 9).length = 9 := by rw [List.length_take]; omega
      have h0 := valL_nonneg ((putL n).take 9)
      rw [e4] at hv
      simp only [valL, Int.mul_zero, Int.add_zero] at hv
      omega
/-- what was got is put as it was -/
theorem put_val : ∀ (l : List Int), Bytes l → l ≠ [] → (∀ j : Nat, j + 1 < l.length → 128 ≤ rd l (j : Int)) → rd l ((l.length - 1 : Nat) : Int) < 128 → (1 < l.length → 0 < rd l ((l.length - 1 : Nat) : Int)) → putL (valL l).toNat = l := by
  intro l
  induction l with
  | nil => intro _ h; exact absurd rfl h
  | cons x l ih =>
    intro hb _ hj hl h0
    have hx := hb x (by simp)
    unfold Byte at hx
    cases l with
    | nil =>
      simp [rd] at hl
      simp only [valL, Int.mul_zero, Int.add_zero]
      rw [putL_small (by omega)]
      congr 1
      omega
    | cons y l =>
      have hx1 := hj 0 (by simp)
      simp [rd] at hx1
      have key := ih (fun z hz => hb z (by simp [hz])) (by simp) (fun j hj' => by
        have := hj (j + 1) (by simpa using hj')
        rw [rd_nat] at this ⊢
        simpa using this) (by
        rw [rd_nat] at hl ⊢
        simpa using hl) (fun h => by
        have := h0 (by simp)
        rw [rd_nat] at this ⊢
        simpa using this)
      have hv : 0 < valL (y :: l) := by
        cases l with
        | nil =>
          have := h0 (by simp)
          simp [rd] at this hl
          simp [valL]; omega
        | cons z l =>
          have := putL_val (valL (y :: z :: l)).toNat
          have hn := valL_nonneg (y :: z :: l)
          apply Decidable.byContradiction
          intro hc
          have : valL (y :: z :: l) = 0 := by omega
          rw [this] at key
          rw [show (0 : Int).toNat = 0 from rfl, putL_small (by omega)] at key
          simp at key
      have e : valL (x :: y :: l) = x % 128 + 128 * valL (y :: l) := rfl
      rw [e, putL_great (by omega)]
      have e1 : (x % 128 + 128 * valL (y :: l)).toNat / 128 = (valL (y :: l)).toNat := by omega
      rw [e1, key]
      congr 1
      omega
theorem put_get (b : List Int) (hb : Bytes b) (n m : Int) (h : getL b = (n, m, 0)) : 0 ≤ n ∧ n < 18446744073709551616 ∧ 0 < m ∧ m ≤ 10 ∧ m ≤ b.length ∧ putL n.toNat = b.take m.toNat := by
  have hs := sizeL_le b
  unfold getL at h
  by_cases h1 : sizeL b = 10
  · rw [if_pos h1] at h; simp at h
  rw [if_neg h1] at h
  by_cases h2 : sizeL b = b.length
  · rw [if_pos h2] at h; simp at h
  rw [if_neg h2] at h
  by_cases h3 : (0 < sizeL b ∧ rd b (sizeL b) = 0) ∨ (sizeL b = 9 ∧ rd b (sizeL b) > 1)
  · rw [if_pos h3] at h; simp at h
  rw [if_neg h3] at h
  simp only [Prod.mk.injEq] at h
  obtain ⟨rfl, rfl, -⟩ := h
  have hv := getL_val_lt b hb (fun h => h3 (.inr h)) (by omega) (by omega)
  have h0 := valL_nonneg (b.take (sizeL b + 1))
  have el : (b.take (sizeL b + 1)).length = sizeL b + 1 := by rw [List.length_take]; omega
  have hr := rd_byte hb (sizeL b : Int)
  unfold Byte at hr
  refine ⟨h0, hv, by omega, by omega, by omega, ?_⟩
  rw [show ((sizeL b : Int) + 1).toNat = sizeL b + 1 from by omega]
  have same : ∀ j : Nat, j ≤ sizeL b → rd (b.take (sizeL b + 1)) (j : Int) = rd b (j : Int) := fun j hj => by
    rw [rd_nat, rd_nat, getD_take _ _ _ (by omega)]
  refine put_val _ (bytes_take hb _) (fun h => by rw [h] at el; simp at el) (fun j hj => ?_) ?_ (fun hl => ?_)
  · rw [el] at hj
    rw [same j (by omega)]
    exact sizeL_at b j (by omega)
  · rw [el, Nat.add_sub_cancel, same _ (Nat.le_refl _)]
    exact sizeL_stop b (by omega) (by omega)
  · rw [el] at hl
    rw [el, Nat.add_sub_cancel, same _ (Nat.le_refl _)]
    have : ¬ rd b (sizeL b : Int) = 0 := fun h => h3 (.inl ⟨by omega, h⟩)
    omega
/-- what is got is in bounds -/
theorem getL_range (b : List Int) (hb : Bytes b) : 0 ≤ (getL b).1 ∧ (getL b).1 < 18446744073709551616 ∧ 0 ≤ (getL b).2.1 ∧ (getL b).2.1 ≤ b.length ∧ ((getL b).2.2 = 0 ∨ (getL b).2.2 = 2 ∨ (getL b).2.2 = 3) ∧ ((getL b).2.2 = 0 → 0 < (getL b).2.1) := by
  have hs := sizeL_le b
  unfold getL
  split
  · simp
  split
  · simp
  split
  · simp
  · rename_i h1 h2 h3
    have hv := getL_val_lt b hb (fun h => h3 (.inr h)) (by omega) (by omega)
    have h0 := valL_nonneg (b.take (sizeL b + 1))
    exact ⟨h0, hv, by simp; omega, by simp; omega, .inl rfl, fun _ => by show (0 : Int) < (sizeL b : Int) + 1; omega⟩
theorem strOfNums_append (a b : List Int) : strOfNums a ++ strOfNums b = strOfNums (a ++ b) := by
  apply ByteArray.ext
  apply Array.toList_inj.1
  simp [strOfNums]
theorem tdiv_nat {x m : Int} (h : 0 ≤ x) : Int.tdiv x m = x / m := Int.tdiv_eq_ediv_of_nonneg h
theorem tmod_nat {x m : Int} (h : 0 ≤ x) : Int.tmod x m = x % m := Int.tmod_eq_emod_of_nonneg h
/-- the numbers that bytes are -/
def getAllL (fuel : Nat) (b : List Int) (acc : List Int) (at_ : Int) : List Int × Int × Int :=
  match fuel with
  | 0 => (acc, at_, 0)
  | f + 1 => if b = [] then (acc, at_, 0) else
    if (getL b).2.2 = 0 then getAllL f (b.drop (getL b).2.1.toNat) (acc ++ [(getL b).1]) (at_ + (getL b).2.1) else ([], at_, (getL b).2.2)
def putAllL : List Int → List Int
  | [] => []
  | x :: l => putL x.toNat ++ putAllL l
theorem putAllL_snoc : ∀ l x, putAllL (l ++ [x]) = putAllL l ++ putL x.toNat
  | [], x => by simp [putAllL]
  | y :: l, x => by simp [putAllL, putAllL_snoc l x]
theorem putAllL_len (l : List Int) (h : ∀ x ∈ l, (Lit.int .u64 x).wf = true) : (putAllL l).length ≤ 10 * l.length := by
  induction l with
  | nil => simp [putAllL]
  | cons x l ih =>
    have := ih (fun y hy => h y (by simp [hy]))
    have hx := wf_u64 (h x (by simp))
    have := putL_len10 (n := x.toNat) (by omega)
    simp only [putAllL, List.length_append, List.length_cons]; omega
theorem getL_bad {b : List Int} (h10 : sizeL b < 10) (hl : sizeL b < b.length) (h : (0 < sizeL b ∧ rd b (sizeL b) = 0) ∨ (sizeL b = 9 ∧ rd b (sizeL b) > 1)) : getL b = (0, 0, 3) := by
  unfold getL
  rw [if_neg (by omega), if_neg (by omega), if_pos h]
theorem getL_ok {b : List Int} (h10 : sizeL b < 10) (hl : sizeL b < b.length) (h0 : ¬ (0 < sizeL b ∧ rd b (sizeL b) = 0)) (h9 : ¬ (sizeL b = 9 ∧ rd b (sizeL b) > 1)) : getL b = (valL (b.take (sizeL b + 1)), (sizeL b : Int) + 1, 0) := by
  unfold getL
  rw [if_neg (by omega), if_neg (by omega), if_neg (fun hc => hc.elim h0 h9)]

/-! ### layer 7: numbers and bytes as texts, by lists -/
def placesS : ByteArray := ⟨#[48, 49, 50, 51, 52, 53, 54, 55, 56, 57, 97, 98, 99, 100, 101, 102]⟩
def place (d : Int) : Int := if d < 10 then 48 + d else 87 + d
theorem bt_place (d : Int) (h : 0 ≤ d) (h' : d < 16) : bt placesS d = place d := by
  have key : ∀ i : Fin 16, bt placesS ((i.val : Nat) : Int) = place ((i.val : Nat) : Int) := by decide +kernel
  have := key ⟨d.toNat, by omega⟩
  rw [show ((d.toNat : Nat) : Int) = d by omega] at this
  exact this
theorem place_byte {d : Int} (h : 0 ≤ d) (h' : d < 16) : Byte (place d) := by unfold place Byte; split <;> omega
theorem place_inj {a b : Int} (ha : 0 ≤ a) (ha' : a < 16) (hb : 0 ≤ b) (hb' : b < 16) (h : place a = place b) : a = b := by
  unfold place at h
  split at h <;> split at h <;> omega
theorem strOfNums_nil : strOfNums [] = (⟨#[]⟩ : ByteArray) := rfl
theorem toList_data (s : ByteArray) : s.toList = s.data.toList := by
  have loop : ∀ (n i : Nat) (r : List UInt8), s.size - i = n → ByteArray.toList.loop s i r = r.reverse ++ s.data.toList.drop i := by
    intro n
    induction n with
    | zero =>
      intro i r h
      rw [ByteArray.toList.loop]
      rw [if_neg (by omega), List.drop_eq_nil_of_le (by simp; have : s.size = s.data.size := rfl; omega)]
      simp
    | succ n ih =>
      intro i r h
      rw [ByteArray.toList.loop]
      have hi : i < s.size := by omega
      rw [if_pos hi, ih (i + 1) _ (by omega)]
      have hd : i < s.data.toList.length := by simp; exact hi
      rw [List.drop_eq_getElem_cons hd]
      have : i < s.data.size := hi
      simp [ByteArray.get!, hi, Array.getElem!_eq_getD, Array.getD]
  have := loop _ 0 [] rfl
  unfold ByteArray.toList
  rw [this]
  simp
theorem bytes_eq_of_toList {a b : ByteArray} (h : a.toList = b.toList) : a = b := by
  rw [toList_data, toList_data] at h
  apply ByteArray.ext
  exact Array.toList_inj.1 h
theorem strOfNums_inj {a b : List Int} (ha : Bytes a) (hb : Bytes b) (h : strOfNums a = strOfNums b) : a = b := by
  have h1 := congrArg (fun s : ByteArray => s.data.toList) h
  simp only [strOfNums_data] at h1
  have h2 := congrArg (List.map fun c : UInt8 => ((c.toNat : Nat) : Int)) h1
  simp only [List.map_map] at h2
  have key : ∀ l : List Int, Bytes l → l.map ((fun c : UInt8 => ((c.toNat : Nat) : Int)) ∘ fun n : Int => UInt8.ofNat n.toNat) = l := by
    intro l hl
    induction l with
    | nil => rfl
    | cons x l ih =>
      have hx := hl x (by simp)
      unfold Byte at hx
      rw [List.map_cons, ih (fun y hy => hl y (by simp [hy]))]
      congr 1
      simp
      omega
  rw [key a ha, key b hb] at h2
  exact h2
theorem bytesOf_str {a : List Int} (ha : Bytes a) : bytesOf (strOfNums a) = a := by
  unfold bytesOf
  rw [strOfNums_data, List.map_map]
  induction a with
  | nil => rfl
  | cons x l ih =>
    have hx := ha x (by simp)
    unfold Byte at hx
    rw [List.map_cons, ih (fun y hy => ha y (by simp [hy]))]
    congr 1
    simp
    omega
theorem str_bytesOf (s : ByteArray) : strOfNums (bytesOf s) = s := by
  apply ByteArray.ext
  apply Array.toList_inj.1
  rw [strOfNums_data, bytesOf, List.map_map]
  conv => rhs; rw [← List.map_id s.data.toList]
  apply List.map_congr_left
  intro c _
  simp
theorem bytesOf_bytes (s : ByteArray) : Bytes (bytesOf s) := by
  intro x hx
  unfold bytesOf at hx
  obtain ⟨c, _, rfl⟩ := List.mem_map.1 hx
  have := c.toNat_lt
  exact ⟨by omega, by omega⟩
/-- a number's text -/
def numL (n : Int) : List Int := if n < 0 then 45 :: digL (-n).toNat else digL n.toNat
theorem digL_bytes (n : Nat) : Bytes (digL n) := by
  induction n using digL.induct with
  | case1 n h => rw [digL_small h]; exact bytes_cons ⟨by omega, by omega⟩ bytes_nil
  | case2 n h ih => rw [digL_great h]; exact bytes_append ih (bytes_cons ⟨by omega, by omega⟩ bytes_nil)
theorem numL_bytes (n : Int) : Bytes (numL n) := by
  unfold numL
  split
  · exact bytes_cons ⟨by omega, by omega⟩ (digL_bytes _)
  · exact digL_bytes _
theorem digL_len20 {n : Nat} (h : n < 18446744073709551616) : (digL n).length ≤ 20 := digL_len 19 n (by omega)
/-- so many digits to the base 16 -/
def hexL : Nat → Nat → List Int
  | 0, _ => []
  | n + 1, u => hexL n (u / 16) ++ [place ((u % 16 : Nat) : Int)]
theorem hexL_len : ∀ n u, (hexL n u).length = n
  | 0, _ => rfl
  | n + 1, u => by simp [hexL, hexL_len n]
theorem hexL_bytes : ∀ n u, Bytes (hexL n u)
  | 0, _ => bytes_nil
  | n + 1, u => bytes_append (hexL_bytes n _) (bytes_cons (place_byte (by omega) (by omega)) bytes_nil)
theorem hexL_add : ∀ m n u, hexL (m + n) u = hexL m (u / 16 ^ n) ++ hexL n u
  | m, 0, u => by simp [hexL]
  | m, n + 1, u => by
    rw [← Nat.add_assoc]
    show hexL (m + n) (u / 16) ++ _ = _
    rw [hexL_add m n (u / 16), Nat.div_div_eq_div_mul, ← Nat.pow_succ']
    simp [hexL]
theorem hexL_mod (n : Nat) : ∀ u k, hexL n (u % 16 ^ (n + k)) = hexL n u := by
  induction n with
  | zero => intro u k; rfl
  | succ n ih =>
    intro u k
    simp only [hexL]
    have e1 : u % 16 ^ (n + 1 + k) / 16 = u / 16 % 16 ^ (n + k) := by
      rw [show n + 1 + k = (n + k) + 1 by omega, Nat.pow_succ, Nat.mul_comm, Nat.mod_mul_right_div_self]
    have e2 : u % 16 ^ (n + 1 + k) % 16 = u % 16 := by
      rw [show n + 1 + k = (n + k) + 1 by omega, Nat.pow_succ, Nat.mul_comm]
      exact Nat.mod_mul_right_mod u 16 (16 ^ (n + k))
    rw [e1, e2, ih]
/-- bytes as digits -/
def twoL (c : Int) : List Int := [place (c / 16), place (c % 16)]
def bytesL : List Int → List Int
  | [] => []
  | c :: l => twoL c ++ bytesL l
theorem bytesL_append : ∀ a b, bytesL (a ++ b) = bytesL a ++ bytesL b
  | [], b => rfl
  | x :: a, b => by simp [bytesL, bytesL_append a b]
theorem twoL_bytes {c : Int} (h : Byte c) : Bytes (twoL c) := by
  unfold Byte at h
  exact bytes_cons (place_byte (by omega) (by omega)) (bytes_cons (place_byte (by omega) (by omega)) bytes_nil)
theorem bytesL_bytes : ∀ {l : List Int}, Bytes l → Bytes (bytesL l)
  | [], _ => bytes_nil
  | c :: l, h => bytes_append (twoL_bytes (h c (by simp))) (bytesL_bytes (fun x hx => h x (by simp [hx])))
theorem bytesL_len : ∀ l : List Int, (bytesL l).length = 2 * l.length
  | [] => rfl
  | c :: l => by simp [bytesL, twoL, bytesL_len l]; omega
theorem and15 {x : Int} (h : 0 ≤ x) (h' : x < 256) : bits .and .u8 x 15 = x % 16 := bits_mask .u8 8 (by decide) wraps_u8 4 (by decide) x h h'
theorem and15_u64 {x : Int} (h : 0 ≤ x) (h' : x < 18446744073709551616) : bits .and .u64 x 15 = x % 16 := bits_mask .u64 64 (by decide) wraps_u64 4 (by decide) x h (by omega)
theorem shr_u64 (x : Int) (n : Nat) (h : n ≤ 64) : shr .u64 x (n : Int) = x / 2 ^ n := by
  unfold shr
  rw [show (IntKind.u64).bits = 64 from rfl, Int.toNat_natCast, Nat.min_eq_left h]
theorem set_snoc (l : List Int) (i : Nat) (x : Int) (h : i < l.length) : (l.set i x).drop i = x :: l.drop (i + 1) := drop_set_at l i x h

/-! ### texts as lists of bytes -/
theorem str_toList (l : List Int) : (strOfNums l).toList = l.map fun n => UInt8.ofNat n.toNat := by rw [toList_data, strOfNums_data]
theorem str_of (s : ByteArray) : ∃ l, Bytes l ∧ s = strOfNums l := ⟨bytesOf s, bytesOf_bytes s, (str_bytesOf s).symm⟩
theorem str_eq {a b : List Int} (ha : Bytes a) (hb : Bytes b) : ((strOfNums a).toList = (strOfNums b).toList) = (a = b) := by
  apply propext
  constructor
  · intro h
    exact strOfNums_inj ha hb (bytes_eq_of_toList h)
  · intro h
    rw [h]
theorem str_nil (l : List Int) : ((strOfNums l).toList = ([] : List UInt8)) = (l = []) := by
  apply propext
  rw [str_toList]
  cases l <;> simp
theorem bt_str {l : List Int} (h : Bytes l) (i : Int) : bt (strOfNums l) i = rd l i := by
  unfold bt rd
  by_cases hi : i.toNat < l.length
  · rw [dif_pos (by rw [strOfNums_size]; exact hi)]
    have e : l.getD i.toNat 0 = l[i.toNat] := by simp [List.getD, hi]
    rw [e]
    have hb := h _ (List.getElem_mem hi)
    unfold Byte at hb
    have : (strOfNums l)[i.toNat]'(by rw [strOfNums_size]; exact hi) = UInt8.ofNat (l[i.toNat]).toNat := by
      show (strOfNums l).data[i.toNat]'_ = _
      simp [strOfNums]
    rw [this]
    simp
    omega
  · rw [dif_neg (by rw [strOfNums_size]; exact hi)]
    simp [List.getD, Nat.le_of_not_lt hi]
theorem str_extract (l : List Int) (a b : Nat) : (strOfNums l).extract a b = strOfNums ((l.take b).drop a) := by
  unfold strOfNums
  rw [show (({ data := (l.map fun n => UInt8.ofNat n.toNat).toArray } : ByteArray).extract a b) = ⟨((((l.map fun n => UInt8.ofNat n.toNat)).drop a).take (b - a)).toArray⟩ from ByteArray.extract_mk _ _ _]
  rw [List.drop_take, List.map_take, List.map_drop]
theorem str_beq {a b : List Int} (ha : Bytes a) (hb : Bytes b) : ((strOfNums a).toList == (strOfNums b).toList) = decide (a = b) := by
  by_cases h : a = b
  · simp [h]
  · rw [decide_eq_false h]
    have : ¬ (strOfNums a).toList = (strOfNums b).toList := by rw [str_eq ha hb]; exact h
    simpa using this

/-! ### sums: a register's steps, on whole numbers -/
def bitN (x : Nat) : Nat := x / 2 ^^^ (if x % 2 = 1 then 2197175160 else 0)
def iterN (f : Nat → Nat) : Nat → Nat → Nat
  | 0, x => x
  | k + 1, x => iterN f k (f x)
theorem iterN_add (f : Nat → Nat) : ∀ a b x, iterN f (a + b) x = iterN f b (iterN f a x)
  | 0, b, x => by simp [iterN]
  | a + 1, b, x => by rw [show a + 1 + b = (a + b) + 1 by omega, iterN, iterN, iterN_add f a b]
theorem iterN_succ (f : Nat → Nat) (k x : Nat) : iterN f (k + 1) x = f (iterN f k x) := by
  rw [iterN_add f k 1]
  rfl
/-- f is additive for ^^^ -/
def Lin (f : Nat → Nat) : Prop := ∀ x y, f (x ^^^ y) = f x ^^^ f y
theorem lin_zero {f : Nat → Nat} (h : Lin f) : f 0 = 0 := by
  have := h 0 0
  rw [Nat.xor_self] at this
  rw [this, Nat.xor_self]
theorem xor_half (x y : Nat) : (x ^^^ y) / 2 = x / 2 ^^^ y / 2 := by
  have := Nat.shiftRight_xor_distrib (a := x) (b := y) (i := 1)
  simpa [Nat.shiftRight_eq_div_pow] using this
theorem xor_low (x y : Nat) : (x ^^^ y) % 2 = (x % 2 + y % 2) % 2 := by
  have := Nat.xor_mod_two_pow (a := x) (b := y) (n := 1)
  rw [show 2 ^ 1 = 2 from rfl] at this
  rw [this]
  rcases Nat.mod_two_eq_zero_or_one x with h | h <;> rcases Nat.mod_two_eq_zero_or_one y with h' | h' <;> rw [h, h'] <;> rfl
theorem xor_swap (x y z : Nat) : x ^^^ (y ^^^ z) = y ^^^ (x ^^^ z) := by rw [← Nat.xor_assoc, Nat.xor_comm x y, Nat.xor_assoc]
theorem xor_zero_eq {x y : Nat} (h : x ^^^ y = 0) : x = y := by
  have := congrArg (· ^^^ y) h
  simpa [Nat.xor_assoc] using this
theorem bitN_lin : Lin bitN := by
  intro x y
  unfold bitN
  rw [xor_half, xor_low]
  rcases Nat.mod_two_eq_zero_or_one x with h | h <;> rcases Nat.mod_two_eq_zero_or_one y with h' | h' <;> simp only [h, h']
  · simp
  · simp [Nat.xor_assoc]
  · simp only [Nat.add_zero, if_true, show (1 : Nat) % 2 = 1 from rfl, show ¬ (0 : Nat) = 1 by decide, if_false, Nat.xor_zero]
    rw [Nat.xor_assoc, Nat.xor_assoc, Nat.xor_comm (y / 2)]
  · simp only [if_true, show ¬ ((1 + 1) % 2 = 1) by decide, if_false, Nat.xor_zero]
    rw [Nat.xor_assoc, Nat.xor_comm 2197175160 (y / 2 ^^^ 2197175160), Nat.xor_assoc (y / 2), Nat.xor_self, Nat.xor_zero]
theorem iterN_lin {f : Nat → Nat} (h : Lin f) : ∀ k, Lin (iterN f k)
  | 0 => fun _ _ => rfl
  | k + 1 => fun x y => by rw [iterN, h, iterN_lin h k]; rfl
theorem bitN_even (h : Nat) : bitN (2 * h) = h := by
  unfold bitN
  rw [show 2 * h / 2 = h by omega, if_neg (by omega), Nat.xor_zero]
theorem bitN_shift : ∀ k h, iterN bitN k (2 ^ k * h) = h
  | 0, h => by simp [iterN]
  | k + 1, h => by rw [iterN, show 2 ^ (k + 1) * h = 2 * (2 ^ k * h) by rw [Nat.pow_succ, Nat.mul_comm (2 ^ k) 2, Nat.mul_assoc], bitN_even, bitN_shift k]
theorem bitN_lt {x : Nat} (h : x < 4294967296) : bitN x < 4294967296 := by
  unfold bitN
  have : (if x % 2 = 1 then 2197175160 else 0) < 2 ^ 32 := by split <;> decide
  exact Nat.xor_lt_two_pow (n := 32) (by omega) this
theorem iterN_lt {x : Nat} (h : x < 4294967296) : ∀ k, iterN bitN k x < 4294967296
  | 0 => h
  | k + 1 => by rw [iterN_succ]; exact bitN_lt (iterN_lt h k)
theorem bitN_zero {x : Nat} (h : x < 4294967296) (h0 : bitN x = 0) : x = 0 := by
  unfold bitN at h0
  have e := xor_zero_eq h0
  split at e <;> omega
theorem iterN_zero {x : Nat} (h : x < 4294967296) : ∀ k, iterN bitN k x = 0 → x = 0
  | 0, h0 => h0
  | k + 1, h0 => by
    rw [iterN_succ] at h0
    exact iterN_zero h k (bitN_zero (iterN_lt h k) h0)
/-- the document's step -/
def refN (s : Nat) (b : Bool) : Nat := s / 2 ^^^ (if (s % 2 = 1) ≠ (b = true) then 2197175160 else 0)
theorem bitN_ref (s c : Nat) : bitN (s ^^^ c) = refN s (decide (c % 2 = 1)) ^^^ c / 2 := by
  unfold bitN refN
  rw [xor_half, xor_low]
  rcases Nat.mod_two_eq_zero_or_one s with h | h <;> rcases Nat.mod_two_eq_zero_or_one c with h' | h' <;> simp only [h, h']
  · simp
  · simp
    rw [Nat.xor_assoc, Nat.xor_assoc, Nat.xor_comm (c / 2)]
  · simp
    rw [Nat.xor_assoc, Nat.xor_assoc, Nat.xor_comm (c / 2)]
  · simp
/-- k steps, by the bits of c -/
def refIt : Nat → Nat → Nat → Nat
  | 0, s, _ => s
  | k + 1, s, c => refIt k (refN s (decide (c % 2 = 1))) (c / 2)
theorem refIt_eq : ∀ k s c, iterN bitN k (s ^^^ c) = refIt k s c ^^^ c / 2 ^ k
  | 0, s, c => by simp [iterN, refIt]
  | k + 1, s, c => by rw [iterN, bitN_ref, refIt_eq k, refIt, Nat.div_div_eq_div_mul, Nat.pow_succ, Nat.mul_comm 2]
/-! a text as one number, its first byte the lowest -/
def numB : List Int → Nat
  | [] => 0
  | c :: l => c.toNat + 256 * numB l
def stepN (s : Nat) : List Int → Nat
  | [] => s
  | c :: l => stepN (iterN bitN 8 (s ^^^ c.toNat)) l
theorem low_xor (a b : Nat) (h : a < 256) : a + 256 * b = a ^^^ (256 * b) := by
  have := Nat.two_pow_add_eq_or_of_lt (i := 8) (b := a) (by omega) b
  rw [show 2 ^ 8 = 256 from rfl] at this
  rw [Nat.add_comm, this]
  apply Nat.eq_of_testBit_eq
  intro i
  rw [Nat.testBit_or, Nat.testBit_xor]
  by_cases hi : i < 8
  · have : (256 * b).testBit i = false := by rw [show 256 = 2 ^ 8 from rfl, Nat.testBit_two_pow_mul]; simp; omega
    rw [this]; simp
  · have : a.testBit i = false := Nat.testBit_lt_two_pow (Nat.lt_of_lt_of_le h (by rw [show 256 = 2 ^ 8 from rfl]; exact Nat.pow_le_pow_right (by omega) (by omega)))
    rw [this]; simp
theorem stepN_num : ∀ (l : List Int), Bytes l → ∀ s, stepN s l = iterN bitN (8 * l.length) (s ^^^ numB l)
  | [], _, s => by simp [stepN, numB, iterN]
  | c :: l, h, s => by
    have hc := h c (by simp)
    unfold Byte at hc
    rw [stepN, stepN_num l (fun x hx => h x (by simp [hx])), numB, low_xor _ _ (by omega), List.length_cons, show 8 * (l.length + 1) = 8 + 8 * l.length by omega, iterN_add, ← Nat.xor_assoc]
    rw [iterN_lin bitN_lin 8 (s ^^^ c.toNat), show 256 = 2 ^ 8 from rfl, bitN_shift]
theorem stepN_lt : ∀ (l : List Int), Bytes l → ∀ s, s < 4294967296 → stepN s l < 4294967296
  | [], _, s, h => h
  | c :: l, hb, s, h => by
    have hc := hb c (by simp)
    unfold Byte at hc
    rw [stepN]
    exact stepN_lt l (fun x hx => hb x (by simp [hx])) _ (iterN_lt (Nat.xor_lt_two_pow (n := 32) (by omega) (by omega)) 8)
theorem stepN_append : ∀ (a b : List Int) s, stepN s (a ++ b) = stepN (stepN s a) b
  | [], b, s => rfl
  | c :: a, b, s => by rw [List.cons_append, stepN, stepN, stepN_append a b]
theorem stepN_xor : ∀ (l : List Int) s t, stepN (s ^^^ t) l = stepN s l ^^^ iterN (iterN bitN 8) l.length t
  | [], s, t => rfl
  | c :: l, s, t => by
    rw [stepN, stepN, List.length_cons, show iterN (iterN bitN 8) (l.length + 1) t = iterN (iterN bitN 8) l.length (iterN bitN 8 t) from rfl, ← stepN_xor l]
    congr 1
    rw [show s ^^^ t ^^^ c.toNat = (s ^^^ c.toNat) ^^^ t by rw [Nat.xor_assoc, Nat.xor_comm t, ← Nat.xor_assoc], iterN_lin bitN_lin 8 (s ^^^ c.toNat)]
/-! the printed words come to these -/
theorem bitI_nat (x : Nat) (h : x < 4294967296) : bitI (x : Int) = ((bitN x : Nat) : Int) := by
  unfold bitI bitN
  have h1 : bits .and .u32 (x : Int) 1 = (x : Int) % 2 := by
    have := u32_and_nat x 1 h (by omega)
    rw [show ((1 : Nat) : Int) = 1 from rfl] at this
    rw [this, Nat.and_one_is_mod]
    omega
  rw [h1]
  rcases Nat.mod_two_eq_zero_or_one x with h0 | h0
  · rw [if_neg (by omega), show (-((x : Int) % 2)) % 4294967296 = ((0 : Nat) : Int) by omega, show (2197175160 : Int) = ((2197175160 : Nat) : Int) from rfl, u32_and_nat _ _ (by omega) (by omega), show (x : Int) / 2 = ((x / 2 : Nat) : Int) by omega, u32_xor_nat _ _ (by omega) (by decide)]
    rfl
  · rw [if_pos h0, show (-((x : Int) % 2)) % 4294967296 = ((4294967295 : Nat) : Int) by omega, show (2197175160 : Int) = ((2197175160 : Nat) : Int) from rfl, u32_and_nat _ _ (by omega) (by omega), show (x : Int) / 2 = ((x / 2 : Nat) : Int) by omega, show (2197175160 &&& 4294967295 : Nat) = 2197175160 by decide, u32_xor_nat _ _ (by omega) (by decide)]
theorem eightI_nat (x : Nat) (h : x < 4294967296) : eightI (x : Int) = ((iterN bitN 8 x : Nat) : Int) := by
  unfold eightI
  have e : iterN bitN 8 x = bitN (bitN (bitN (bitN (bitN (bitN (bitN (bitN x))))))) := rfl
  rw [e]
  have l1 := bitN_lt h
  have l2 := bitN_lt l1
  have l3 := bitN_lt l2
  have l4 := bitN_lt l3
  have l5 := bitN_lt l4
  have l6 := bitN_lt l5
  have l7 := bitN_lt l6
  rw [bitI_nat x h, bitI_nat _ l1, bitI_nat _ l2, bitI_nat _ l3, bitI_nat _ l4, bitI_nat _ l5, bitI_nat _ l6, bitI_nat _ l7]
theorem stepSmall_nat : ∀ (l : List Int), Bytes l → ∀ s : Nat, s < 4294967296 → stepSmall (s : Int) l = ((stepN s l : Nat) : Int)
  | [], _, s, _ => rfl
  | c :: l, hb, s, h => by
    have hc := hb c (by simp)
    unfold Byte at hc
    have hl : s ^^^ c.toNat < 4294967296 := Nat.xor_lt_two_pow (n := 32) (by omega) (by omega)
    have e : Go.bits .xor .u32 (s : Int) (c % 4294967296) = ((s ^^^ c.toNat : Nat) : Int) := by
      rw [show c % 4294967296 = ((c.toNat : Nat) : Int) by omega, u32_xor_nat _ _ h (by omega)]
    show stepSmall (eightI (Go.bits .xor .u32 (s : Int) (c % 4294967296))) l = _
    rw [e, eightI_nat _ hl, stepSmall_nat l (fun x hx => hb x (by simp [hx])) _ (iterN_lt hl 8), stepN]
theorem eight_low (s c : Nat) (hc : c < 256) : iterN bitN 8 (s ^^^ c) = iterN bitN 8 (s % 256 ^^^ c) ^^^ s / 256 := by
  have e : s = s % 256 ^^^ (256 * (s / 256)) := by rw [← low_xor _ _ (by omega)]; omega
  conv => lhs; rw [e]
  rw [show s % 256 ^^^ (256 * (s / 256)) ^^^ c = (s % 256 ^^^ c) ^^^ (256 * (s / 256)) by rw [Nat.xor_assoc, Nat.xor_comm (256 * (s / 256)), ← Nat.xor_assoc]]
  rw [iterN_lin bitN_lin 8 (s % 256 ^^^ c), show 256 * (s / 256) = 2 ^ 8 * (s / 256) from rfl, bitN_shift]
theorem stepTab_nat : ∀ (l : List Int), Bytes l → ∀ s : Nat, s < 4294967296 → stepTab (s : Int) l = ((stepN s l : Nat) : Int)
  | [], _, s, _ => rfl
  | c :: l, hb, s, h => by
    have hc := hb c (by simp)
    unfold Byte at hc
    have hl : s ^^^ c.toNat < 4294967296 := Nat.xor_lt_two_pow (n := 32) (by omega) (by omega)
    have hl2 : s % 256 ^^^ c.toNat < 256 := Nat.xor_lt_two_pow (n := 8) (by omega) (by omega)
    have e1 : Go.bits .xor .u8 ((s : Int) % 256) c = ((s % 256 ^^^ c.toNat : Nat) : Int) := by
      have := u8_xor_nat (s % 256) c.toNat (by omega) (by omega)
      rw [show ((s % 256 : Nat) : Int) = (s : Int) % 256 by omega, show ((c.toNat : Nat) : Int) = c by omega] at this
      exact this
    show stepTab (Go.bits .xor .u32 (eightI (Go.bits .xor .u8 ((s : Int) % 256) c)) ((s : Int) / 256)) l = _
    rw [e1, eightI_nat _ (by omega), show (s : Int) / 256 = ((s / 256 : Nat) : Int) by omega, u32_xor_nat _ _ (iterN_lt (by omega) 8) (by omega), ← eight_low s c.toNat (by omega)]
    rw [stepTab_nat l (fun x hx => hb x (by simp [hx])) _ (iterN_lt hl 8), stepN]
theorem xor_full {x : Nat} (h : x < 4294967296) : 4294967295 ^^^ x = 4294967295 - x := by
  have e : 4294967295 - x = 2 ^ 32 - (x + 1) := by omega
  apply Nat.eq_of_testBit_eq
  intro i
  rw [e, Nat.testBit_xor, Nat.testBit_two_pow_sub_succ (by omega), show 4294967295 = 2 ^ 32 - 1 from rfl, Nat.testBit_two_pow_sub_one]
  by_cases hi : i < 32
  · simp [hi]
  · have : x.testBit i = false := Nat.testBit_lt_two_pow (Nat.lt_of_lt_of_le (show x < 2 ^ 32 by omega) (Nat.pow_le_pow_right (by omega) (by omega)))
    simp [hi, this]
theorem refIt_byte (s c : Nat) (h : c < 256) : refIt 8 s c = iterN bitN 8 (s ^^^ c) := by
  rw [refIt_eq, show c / 2 ^ 8 = 0 from Nat.div_eq_of_lt (by omega), Nat.xor_zero]
theorem refN_lt {s : Nat} (h : s < 4294967296) (b : Bool) : refN s b < 4294967296 := by
  unfold refN
  have : (if (s % 2 = 1) ≠ (b = true) then 2197175160 else 0) < 2 ^ 32 := by split <;> decide
  exact Nat.xor_lt_two_pow (n := 32) (by omega) this
/-- the sum -/
def sumN (l : List Int) : Nat := 4294967295 ^^^ stepN 4294967295 l
theorem sumN_lt (l : List Int) (h : Bytes l) : sumN l < 4294967296 := Nat.xor_lt_two_pow (n := 32) (by decide) (stepN_lt l h _ (by decide))

/-! ### sums joined: a matrix is what a linear step makes of each bit -/
structure Good (f : Nat → Nat) : Prop where
  lin : Lin f
  lt : ∀ x, x < 4294967296 → f x < 4294967296
def matOf (f : Nat → Nat) : List Int := (List.range 32).map fun i => ((f (2 ^ i) : Nat) : Int)
theorem matOf_get (f : Nat → Nat) (i : Nat) (h : i < 32) : (matOf f)[i]?.getD 0 = ((f (2 ^ i) : Nat) : Int) := by
  unfold matOf
  simp [h]
theorem fill_full (n : Nat) (g : Nat → Int) : fillL n g n = (List.range n).map g := by simp [fillL]
theorem pow_lt32 {i : Nat} (h : i < 32) : 2 ^ i < 4294967296 := by
  have : 2 ^ i < 2 ^ 32 := Nat.pow_lt_pow_right (by omega) h
  omega
theorem byteL_mat : byteL = matOf (iterN bitN 8) := by
  unfold byteL matOf
  rw [fill_full]
  apply List.map_congr_left
  intro i hi
  have hi : i < 32 := List.mem_range.1 hi
  have e : shl1 i = ((2 ^ i : Nat) : Int) := by
    unfold shl1
    have hp := pow_lt32 hi
    rw [show (2 : Int) ^ i = ((2 ^ i : Nat) : Int) by rw [Int.natCast_pow]; rfl]
    generalize 2 ^ i = p at hp ⊢
    omega
  rw [e, eightI_nat _ (pow_lt32 hi)]
theorem good_bit8 : Good (iterN bitN 8) := ⟨iterN_lin bitN_lin 8, fun x h => iterN_lt h 8⟩
theorem split_xor (a b i : Nat) (h : a < 2 ^ i) : a + 2 ^ i * b = a ^^^ (2 ^ i * b) := by
  have := Nat.two_pow_add_eq_or_of_lt h b
  rw [Nat.add_comm, this]
  apply Nat.eq_of_testBit_eq
  intro j
  rw [Nat.testBit_or, Nat.testBit_xor]
  by_cases hj : j < i
  · have : (2 ^ i * b).testBit j = false := by rw [Nat.testBit_two_pow_mul]; simp; omega
    rw [this]; simp
  · have : a.testBit j = false := Nat.testBit_lt_two_pow (Nat.lt_of_lt_of_le h (Nat.pow_le_pow_right (by omega) (by omega)))
    rw [this]; simp
theorem mod_succ_xor (x i : Nat) : x % 2 ^ (i + 1) = x % 2 ^ i ^^^ (if x / 2 ^ i % 2 = 1 then 2 ^ i else 0) := by
  have hp : 0 < 2 ^ i := Nat.two_pow_pos i
  have e : x % 2 ^ (i + 1) = x % 2 ^ i + 2 ^ i * (x / 2 ^ i % 2) := by rw [Nat.pow_succ, Nat.mod_mul]
  rw [e, split_xor _ _ _ (Nat.mod_lt _ hp)]
  rcases Nat.mod_two_eq_zero_or_one (x / 2 ^ i) with h | h
  · rw [h, if_neg (by omega), Nat.mul_zero]
  · rw [h, if_pos rfl, Nat.mul_one]
theorem timesI_mat {f : Nat → Nat} (hf : Good f) (x : Nat) (hx : x < 4294967296) : ∀ i, i ≤ 32 → timesI (matOf f) (x : Int) i = ((f (x % 2 ^ i) : Nat) : Int)
  | 0, _ => by
    rw [timesI, show x % 2 ^ 0 = 0 by simp [Nat.mod_one], lin_zero hf.lin]
    rfl
  | i + 1, hi => by
    have hi32 : i < 32 := by omega
    have hp := pow_lt32 hi32
    have hfl := hf.lt _ hp
    have hm : x % 2 ^ i < 4294967296 := Nat.lt_of_le_of_lt (Nat.mod_le _ _) hx
    rw [timesI, timesI_mat hf x hx i (by omega), matOf_get f i hi32, mod_succ_xor, hf.lin]
    have ed : (x : Int) / 2 ^ i = ((x / 2 ^ i : Nat) : Int) := by
      rw [show (2 : Int) ^ i = ((2 ^ i : Nat) : Int) by rw [Int.natCast_pow]; rfl]
      rfl
    have hq : x / 2 ^ i < 4294967296 := Nat.lt_of_le_of_lt (Nat.div_le_self _ _) hx
    rw [ed]
    generalize x / 2 ^ i = q at *
    have h1 : bits .and .u32 (q : Int) 1 = ((q % 2 : Nat) : Int) := by
      have := u32_and_nat q 1 hq (by omega)
      rw [show ((1 : Nat) : Int) = 1 from rfl] at this
      rw [this, Nat.and_one_is_mod]
    rw [h1]
    have hw : IntKind.u32.wrap (-((q % 2 : Nat) : Int)) = (-((q % 2 : Nat) : Int)) % 4294967296 := by simp [IntKind.wrap, IntKind.bits, IntKind.signed]
    rw [hw]
    rcases Nat.mod_two_eq_zero_or_one q with h0 | h0
    · rw [h0, if_neg (by omega), show (-((0 : Nat) : Int)) % 4294967296 = ((0 : Nat) : Int) from rfl, u32_and_nat _ _ hfl (by omega), Nat.and_zero, u32_xor_nat _ _ (hf.lt _ hm) (by omega), lin_zero hf.lin]
    · rw [h0, if_pos rfl, show (-((1 : Nat) : Int)) % 4294967296 = ((4294967295 : Nat) : Int) by decide, u32_and_nat _ _ hfl (by omega), show (4294967295 : Nat) = 2 ^ 32 - 1 from rfl, Nat.and_two_pow_sub_one_eq_mod, Nat.mod_eq_of_lt (show f (2 ^ i) < 2 ^ 32 from hfl), u32_xor_nat _ _ (hf.lt _ hm) hfl]
theorem timesI_eq {f : Nat → Nat} (hf : Good f) (x : Nat) (hx : x < 4294967296) : timesI (matOf f) (x : Int) 32 = ((f x : Nat) : Int) := by
  rw [timesI_mat hf x hx 32 (by omega), Nat.mod_eq_of_lt (by omega)]
theorem sqL_mat {f : Nat → Nat} (hf : Good f) : sqL (matOf f) = matOf (fun x => f (f x)) := by
  unfold sqL
  rw [fill_full]
  conv => rhs; unfold matOf
  apply List.map_congr_left
  intro i hi
  have hi : i < 32 := List.mem_range.1 hi
  rw [matOf_get f i hi, timesI_eq hf _ (hf.lt _ (pow_lt32 hi))]
theorem good_twice {f : Nat → Nat} (hf : Good f) : Good (fun x => f (f x)) := ⟨fun x y => by show f (f _) = _; rw [hf.lin, hf.lin], fun x h => hf.lt _ (hf.lt _ h)⟩
theorem iterN_twice (f : Nat → Nat) : ∀ k x, iterN (fun x => f (f x)) k x = iterN f (2 * k) x
  | 0, x => rfl
  | k + 1, x => by
    rw [show 2 * (k + 1) = 2 * k + 1 + 1 by omega]
    show iterN _ k (f (f x)) = iterN f (2 * k) (f (f x))
    exact iterN_twice f k _
theorem joinL_eq (n : Nat) : ∀ {f : Nat → Nat}, Good f → ∀ a : Nat, a < 4294967296 → joinL (matOf f) (a : Int) n = ((iterN f n a : Nat) : Int) := by
  induction n using Nat.strongRecOn with
  | ind n ih =>
    intro f hf a ha
    by_cases h0 : n = 0
    · subst h0
      rw [joinL, if_pos rfl]
      rfl
    · rw [joinL, if_neg h0, sqL_mat hf, timesI_eq hf a ha]
      by_cases h2 : n % 2 = 1
      · rw [if_pos h2, ih (n / 2) (by omega) (good_twice hf) _ (hf.lt _ ha), iterN_twice]
        conv => rhs; rw [show n = 2 * (n / 2) + 1 by omega]
        rfl
      · rw [if_neg h2, ih (n / 2) (by omega) (good_twice hf) _ ha, iterN_twice, show 2 * (n / 2) = n by omega]
theorem iterN_lt8 {x : Nat} (h : x < 4294967296) : ∀ k, iterN (iterN bitN 8) k x < 4294967296
  | 0 => h
  | k + 1 => iterN_lt8 (iterN_lt h 8) k
/-- two parts' sums make the whole's -/
theorem sum_parts (a b : List Int) (ha : Bytes a) (hb : Bytes b) : sumN (a ++ b) = iterN (iterN bitN 8) b.length (sumN a) ^^^ sumN b := by
  unfold sumN
  rw [stepN_append]
  have h := stepN_xor b 4294967295 (4294967295 ^^^ stepN 4294967295 a)
  rw [show 4294967295 ^^^ (4294967295 ^^^ stepN 4294967295 a) = stepN 4294967295 a by rw [← Nat.xor_assoc, Nat.xor_self, Nat.zero_xor]] at h
  rw [h, Nat.xor_comm (stepN 4294967295 b), xor_swap]

/-! ### bits turned -/
theorem u8_xor_natI (a b : Int) (ha : 0 ≤ a) (ha' : a < 256) (hb : 0 ≤ b) (hb' : b < 256) : Go.bits .xor .u8 a b = ((a.toNat ^^^ b.toNat : Nat) : Int) := by
  have := u8_xor_nat a.toNat b.toNat (by omega) (by omega)
  rw [show ((a.toNat : Nat) : Int) = a by omega, show ((b.toNat : Nat) : Int) = b by omega] at this
  exact this
theorem numB_lt : ∀ (l : List Int), Bytes l → numB l < 256 ^ l.length
  | [], _ => by simp [numB]
  | c :: l, h => by
    have hc := h c (by simp)
    unfold Byte at hc
    have := numB_lt l (fun x hx => h x (by simp [hx]))
    rw [numB, List.length_cons, Nat.pow_succ]
    omega
theorem numB_inj : ∀ (a b : List Int), Bytes a → Bytes b → a.length = b.length → numB a = numB b → a = b
  | [], [], _, _, _, _ => rfl
  | [], _ :: _, _, _, h, _ => by simp at h
  | _ :: _, [], _, _, h, _ => by simp at h
  | x :: a, y :: b, ha, hb, hl, h => by
    have hx := ha x (by simp)
    have hy := hb y (by simp)
    unfold Byte at hx hy
    rw [numB, numB] at h
    have e1 : x = y := by omega
    have e2 : numB a = numB b := by omega
    rw [e1, numB_inj a b (fun z hz => ha z (by simp [hz])) (fun z hz => hb z (by simp [hz])) (by simpa using hl) e2]
theorem numB_bit : ∀ (l : List Int), Bytes l → ∀ i : Nat, (numB l).testBit i = (l.getD (i / 8) 0).toNat.testBit (i % 8)
  | [], _, i => by simp [numB]
  | c :: l, h, i => by
    have hc := h c (by simp)
    unfold Byte at hc
    have hl : Bytes l := fun x hx => h x (by simp [hx])
    rw [numB, low_xor _ _ (by omega), Nat.testBit_xor, show 256 = 2 ^ 8 from rfl, Nat.testBit_two_pow_mul]
    by_cases hi : i < 8
    · rw [show i / 8 = 0 by omega, show i % 8 = i by omega]
      simp [show ¬ 8 ≤ i by omega]
    · have : c.toNat.testBit i = false := Nat.testBit_lt_two_pow (Nat.lt_of_lt_of_le (show c.toNat < 2 ^ 8 by omega) (Nat.pow_le_pow_right (by omega) (by omega)))
      rw [this, numB_bit l hl, show i / 8 = (i - 8) / 8 + 1 by omega, show i % 8 = (i - 8) % 8 by omega]
      simp [show 8 ≤ i by omega]
/-- is the bit at place j of a text of n bytes turned by the first k bits of a mask? -/
def tb (n : Nat) (at_ mask : Int) (k j : Nat) : Bool := decide (at_ ≤ (j : Int) ∧ (j : Int) - at_ < k ∧ j < 8 * n) && mask.toNat.testBit ((j : Int) - at_).toNat
theorem mask_bit (mask : Int) (h0 : 0 ≤ mask) (h1 : mask < 4294967296) (k : Nat) : (Go.bits .and .u32 (mask / 2 ^ k) 1 = 0) ↔ mask.toNat.testBit k = false := by
  obtain ⟨m, rfl⟩ := Int.eq_ofNat_of_zero_le h0
  have e : (m : Int) / 2 ^ k = ((m / 2 ^ k : Nat) : Int) := by
    rw [show (2 : Int) ^ k = ((2 ^ k : Nat) : Int) by rw [Int.natCast_pow]; rfl]
    rfl
  have hq : m / 2 ^ k < 4294967296 := Nat.lt_of_le_of_lt (Nat.div_le_self _ _) (by omega)
  have := u32_and_nat (m / 2 ^ k) 1 hq (by omega)
  rw [show ((1 : Nat) : Int) = 1 from rfl] at this
  rw [e, this, Nat.and_one_is_mod, Int.toNat_natCast, Nat.testBit_eq_decide_div_mod_eq]
  rcases Nat.mod_two_eq_zero_or_one (m / 2 ^ k) with h | h <;> simp [h]
theorem tb_zero (n : Nat) (at_ mask : Int) (j : Nat) : tb n at_ mask 0 j = false := by
  unfold tb
  have : decide (at_ ≤ (j : Int) ∧ (j : Int) - at_ < (0 : Nat) ∧ j < 8 * n) = false := by simp; omega
  rw [this]; rfl
theorem tb_skip (n : Nat) (at_ mask : Int) (k j : Nat) (h : (mask.toNat.testBit k = false) ∨ at_ < -(k : Int) ∨ at_ ≥ 8 * (n : Int) - k) : tb n at_ mask (k + 1) j = tb n at_ mask k j := by
  unfold tb
  by_cases hj : (j : Int) - at_ = k
  · have e1 : ((j : Int) - at_).toNat = k := by omega
    rw [e1]
    rcases h with h | h | h
    · rw [h]; simp
    · exfalso; omega
    · have a : decide (at_ ≤ (j : Int) ∧ (j : Int) - at_ < ((k + 1 : Nat) : Int) ∧ j < 8 * n) = false := by simp; omega
      have b : decide (at_ ≤ (j : Int) ∧ (j : Int) - at_ < ((k : Nat) : Int) ∧ j < 8 * n) = false := by simp; omega
      rw [a, b]
  · congr 1
    apply decide_eq_decide.2
    omega
theorem tb_step (n : Nat) (at_ mask : Int) (k j : Nat) (h1 : mask.toNat.testBit k = true) (h2 : ¬ at_ < -(k : Int)) (h3 : ¬ at_ ≥ 8 * (n : Int) - k) : tb n at_ mask (k + 1) j = (tb n at_ mask k j ^^ decide ((j : Int) = at_ + k)) := by
  unfold tb
  by_cases hj : (j : Int) - at_ = k
  · have e1 : ((j : Int) - at_).toNat = k := by omega
    rw [e1, h1]
    have a : decide (at_ ≤ (j : Int) ∧ (j : Int) - at_ < ((k + 1 : Nat) : Int) ∧ j < 8 * n) = true := by simp; omega
    have b : decide (at_ ≤ (j : Int) ∧ (j : Int) - at_ < ((k : Nat) : Int) ∧ j < 8 * n) = false := by simp; omega
    have c : decide ((j : Int) = at_ + k) = true := by simp; omega
    rw [a, b, c]; rfl
  · have c : decide ((j : Int) = at_ + k) = false := by simp; omega
    rw [c, Bool.xor_false]
    congr 1
    apply decide_eq_decide.2
    omega
theorem getD_set (l : List Int) (p : Nat) (x : Int) (q : Nat) (h : p < l.length) : (l.set p x).getD q 0 = if q = p then x else l.getD q 0 := by
  simp only [List.getD, List.getElem?_set]
  by_cases hq : q = p
  · subst hq
    simp [h]
  · simp [hq, show ¬ p = q from fun e => hq e.symm]
theorem getD_byte {l : List Int} (h : Bytes l) (i : Nat) : 0 ≤ l.getD i 0 ∧ l.getD i 0 < 256 := by
  have := rd_byte h (i : Int)
  rw [rd_nat] at this
  exact this
theorem flipL_bit (l : List Int) (hb : Bytes l) (at_ mask : Int) (h0 : 0 ≤ mask) (h1 : mask < 4294967296) : ∀ k : Nat, k ≤ 32 → Bytes (flipL l.length at_ mask l k) ∧ ∀ j, (numB (flipL l.length at_ mask l k)).testBit j = ((numB l).testBit j ^^ tb l.length at_ mask k j)
  | 0, _ => ⟨hb, fun j => by rw [flipL, tb_zero, Bool.xor_false]⟩
  | k + 1, hk => by
    obtain ⟨hB, hJ⟩ := flipL_bit l hb at_ mask h0 h1 k (by omega)
    have hL := flipL_len l.length at_ mask l k
    rw [flipL]
    generalize flipL l.length at_ mask l k = L at hB hJ hL ⊢
    unfold flipS
    by_cases hc : Go.bits .and .u32 (mask / 2 ^ k) 1 = 0 ∨ at_ < -(k : Int) ∨ at_ ≥ 8 * (l.length : Int) - k
    · rw [if_pos hc]
      refine ⟨hB, fun j => ?_⟩
      rw [hJ, tb_skip]
      rcases hc with h | h
      · exact Or.inl ((mask_bit mask h0 h1 k).1 h)
      · exact Or.inr h
    · rw [if_neg hc]
      have c1 : mask.toNat.testBit k = true := by
        cases hq : mask.toNat.testBit k with
        | true => rfl
        | false => exact absurd (Or.inl ((mask_bit mask h0 h1 k).2 hq)) hc
      have c2 : ¬ at_ < -(k : Int) := fun h => hc (Or.inr (Or.inl h))
      have c3 : ¬ at_ ≥ 8 * (l.length : Int) - k := fun h => hc (Or.inr (Or.inr h))
      obtain ⟨m, hm⟩ := Int.eq_ofNat_of_zero_le (show 0 ≤ at_ + k by omega)
      have e1 : (at_ + k) / 8 = ((m / 8 : Nat) : Int) := by omega
      have e2 : ((at_ + k) % 8).toNat = m % 8 := by omega
      have hg := getD_byte hB (m / 8)
      have hp : 2 ^ (m % 8) < 256 := by
        have : 2 ^ (m % 8) ≤ 2 ^ 7 := Nat.pow_le_pow_right (by omega) (by omega)
        omega
      have hw : IntKind.u8.wrap (2 ^ (m % 8)) = ((2 ^ (m % 8) : Nat) : Int) := by
        rw [show (2 : Int) ^ (m % 8) = ((2 ^ (m % 8) : Nat) : Int) by rw [Int.natCast_pow]; rfl]
        generalize 2 ^ (m % 8) = p at hp ⊢
        exact wraps_u8 _ (by omega) (by omega)
      have hpI : ((2 ^ (m % 8) : Nat) : Int) < 256 := Int.ofNat_lt.2 hp
      rw [e1, e2, rd_nat, Int.toNat_natCast, hw, u8_xor_natI _ _ hg.1 hg.2 (Int.natCast_nonneg _) hpI, Int.toNat_natCast]
      have hx : (L.getD (m / 8) 0).toNat ^^^ 2 ^ (m % 8) < 256 := Nat.xor_lt_two_pow (n := 8) (by omega) (by omega)
      have hlt : m / 8 < L.length := by omega
      have hB' : Bytes (L.set (m / 8) (((L.getD (m / 8) 0).toNat ^^^ 2 ^ (m % 8) : Nat) : Int)) := fun x hx' => by
        rcases List.mem_or_eq_of_mem_set hx' with h | h
        · exact hB x h
        · rw [h]; exact ⟨by omega, by omega⟩
      refine ⟨hB', fun j => ?_⟩
      rw [numB_bit _ hB', getD_set _ _ _ _ hlt, tb_step _ _ _ _ _ c1 c2 c3, ← Bool.xor_assoc, ← hJ, numB_bit _ hB]
      by_cases hj : j / 8 = m / 8
      · rw [if_pos hj, Int.toNat_natCast, Nat.testBit_xor, ← hj, Nat.testBit_two_pow]
        congr 1
        apply decide_eq_decide.2
        omega
      · rw [if_neg hj]
        have : decide ((j : Int) = at_ + k) = false := by simp; omega
        rw [this, Bool.xor_false]
theorem flipL_bytes (l : List Int) (hb : Bytes l) (at_ mask : Int) (h0 : 0 ≤ mask) (h1 : mask < 4294967296) : Bytes (flipL l.length at_ mask l 32) := (flipL_bit l hb at_ mask h0 h1 32 (by omega)).1
theorem flipL_num (l : List Int) (hb : Bytes l) (at_ mask : Int) (h0 : 0 ≤ mask) (h1 : mask < 4294967296) (j : Nat) : (numB (flipL l.length at_ mask l 32)).testBit j = ((numB l).testBit j ^^ tb l.length at_ mask 32 j) := (flipL_bit l hb at_ mask h0 h1 32 (by omega)).2 j
theorem flipL_twice (l : List Int) (hb : Bytes l) (at_ mask : Int) (h0 : 0 ≤ mask) (h1 : mask < 4294967296) : flipL l.length at_ mask (flipL l.length at_ mask l 32) 32 = l := by
  have hB := flipL_bytes l hb at_ mask h0 h1
  have hL := flipL_len l.length at_ mask l 32
  have hB2 := flipL_bytes _ hB at_ mask h0 h1
  have hN := fun j => flipL_num _ hB at_ mask h0 h1 j
  rw [hL] at hB2 hN
  refine numB_inj _ _ hB2 hb (by rw [flipL_len, hL]) (Nat.eq_of_testBit_eq fun j => ?_)
  rw [hN, flipL_num l hb at_ mask h0 h1, Bool.xor_assoc, Bool.xor_self, Bool.xor_false]
/-- all that a mask turns lies within 32 bits: if it leaves a register as it was, nothing is turned -/
theorem burst_zero (n : Nat) (at_ mask : Int) (D : Nat) (hD : ∀ j, D.testBit j = tb n at_ mask 32 j) (h : iterN bitN (8 * n) D = 0) : D = 0 := by
  have hbit : ∀ j, D.testBit j = true → at_.toNat ≤ j ∧ j < at_.toNat + 32 ∧ j < 8 * n := fun j hj => by
    rw [hD] at hj
    unfold tb at hj
    rw [Bool.and_eq_true, decide_eq_true_eq] at hj
    omega
  have hlow : D % 2 ^ at_.toNat = 0 := by
    apply Nat.eq_of_testBit_eq
    intro j
    rw [Nat.testBit_mod_two_pow, Nat.zero_testBit]
    by_cases hj : j < at_.toNat
    · cases hq : D.testBit j with
      | false => simp
      | true => exact absurd (hbit j hq).1 (by omega)
    · simp [hj]
  have hdiv : D = 2 ^ at_.toNat * (D / 2 ^ at_.toNat) := by
    have := Nat.div_add_mod D (2 ^ at_.toNat)
    omega
  have hc : D / 2 ^ at_.toNat < 4294967296 := by
    show _ < 2 ^ 32
    apply Nat.lt_pow_two_of_testBit
    intro j hj
    cases hq : (D / 2 ^ at_.toNat).testBit j with
    | false => rfl
    | true =>
      rw [Nat.testBit_div_two_pow] at hq
      have := hbit _ hq
      omega
  by_cases h0 : D = 0
  · exact h0
  obtain ⟨j, hj⟩ := Nat.exists_testBit_of_ne_zero h0
  have hj := hbit j hj
  rw [hdiv, show 8 * n = at_.toNat + (8 * n - at_.toNat) by omega, iterN_add, bitN_shift] at h
  rw [hdiv, iterN_zero hc _ h, Nat.mul_zero]
theorem flip_sum (l : List Int) (hb : Bytes l) (at_ mask : Int) (h0 : 0 ≤ mask) (h1 : mask < 4294967296) (h : sumN (flipL l.length at_ mask l 32) = sumN l) : flipL l.length at_ mask l 32 = l := by
  have hB := flipL_bytes l hb at_ mask h0 h1
  have hL := flipL_len l.length at_ mask l 32
  refine numB_inj _ _ hB hb hL ?_
  unfold sumN at h
  have h := congrArg (4294967295 ^^^ ·) h
  simp only [← Nat.xor_assoc, Nat.xor_self, Nat.zero_xor] at h
  rw [stepN_num _ hB, stepN_num _ hb, hL, iterN_lin bitN_lin, iterN_lin bitN_lin] at h
  have h := congrArg (iterN bitN (8 * l.length) 4294967295 ^^^ ·) h
  simp only [← Nat.xor_assoc, Nat.xor_self, Nat.zero_xor] at h
  have hz := burst_zero l.length at_ mask (numB (flipL l.length at_ mask l 32) ^^^ numB l) (fun j => by
    rw [Nat.testBit_xor, flipL_num l hb at_ mask h0 h1, Bool.xor_comm (Nat.testBit (numB l) j), Bool.xor_assoc, Bool.xor_self, Bool.xor_false]) (by
    rw [iterN_lin bitN_lin, h, Nat.xor_self])
  exact xor_zero_eq hz
/-- how many of the first i bits are turned -/
def cntT (n : Nat) (at_ mask : Int) : Nat → Nat
  | 0 => 0
  | i + 1 => cntT n at_ mask i + if tb n at_ mask 32 i = true then 1 else 0
theorem cntT_le (n : Nat) (at_ mask : Int) : ∀ i, cntT n at_ mask i ≤ i
  | 0 => Nat.le_refl _
  | i + 1 => by
    have := cntT_le n at_ mask i
    rw [cntT]
    split <;> omega
theorem cntT_zero (n : Nat) (at_ mask : Int) : ∀ i, cntT n at_ mask i = 0 → ∀ j, j < i → tb n at_ mask 32 j = false
  | 0, _, j, hj => absurd hj (by omega)
  | i + 1, h, j, hj => by
    rw [cntT] at h
    by_cases e : j = i
    · subst e
      cases hq : tb n at_ mask 32 j with
      | false => rfl
      | true => rw [hq, if_pos rfl] at h; omega
    · exact cntT_zero n at_ mask i (by omega) j (by omega)
theorem cntT_none (n : Nat) (at_ mask : Int) (h : ∀ j, tb n at_ mask 32 j = false) : ∀ i, cntT n at_ mask i = 0
  | 0 => rfl
  | i + 1 => by rw [cntT, cntT_none n at_ mask h i, h i]; rfl
theorem tb_out (n : Nat) (at_ mask : Int) (j : Nat) (h : ¬ j < 8 * n) : tb n at_ mask 32 j = false := by
  unfold tb
  have : decide (at_ ≤ (j : Int) ∧ (j : Int) - at_ < (32 : Nat) ∧ j < 8 * n) = false := by simp; omega
  rw [this]; rfl
/-- nothing is turned just if the text stays as it was -/
theorem cntT_same (l : List Int) (hb : Bytes l) (at_ mask : Int) (h0 : 0 ≤ mask) (h1 : mask < 4294967296) : cntT l.length at_ mask (8 * l.length) = 0 ↔ flipL l.length at_ mask l 32 = l := by
  constructor
  · intro h
    refine numB_inj _ _ (flipL_bytes l hb at_ mask h0 h1) hb (flipL_len _ _ _ _ _) (Nat.eq_of_testBit_eq fun j => ?_)
    rw [flipL_num l hb at_ mask h0 h1]
    have : tb l.length at_ mask 32 j = false := by
      by_cases hj : j < 8 * l.length
      · exact cntT_zero _ _ _ _ h j hj
      · exact tb_out _ _ _ _ hj
    rw [this, Bool.xor_false]
  · intro h
    refine cntT_none _ _ _ (fun j => ?_) _
    have hn := flipL_num l hb at_ mask h0 h1 j
    rw [h] at hn
    cases hq : tb l.length at_ mask 32 j with
    | false => rfl
    | true => rw [hq] at hn; cases (numB l).testBit j <;> simp at hn
theorem numB_set_add : ∀ (l : List Int) (j : Nat) (x : Int), j < l.length → numB (l.set j x) + 256 ^ j * (l.getD j 0).toNat = numB l + 256 ^ j * x.toNat
  | [], j, x, h => by simp at h
  | c :: l, 0, x, _ => by simp [numB]; omega
  | c :: l, j + 1, x, h => by
    have := numB_set_add l j x (by simpa using h)
    rw [List.set_cons_succ, numB, numB, show (c :: l).getD (j + 1) 0 = l.getD j 0 by simp, show 256 ^ (j + 1) = 256 * 256 ^ j by rw [Nat.pow_succ, Nat.mul_comm], Nat.mul_assoc, Nat.mul_assoc]
    omega
theorem shr_bit (k : IntKind) (x : Int) (y : Nat) (h0 : 0 ≤ x) (hy : y ≤ k.bits) : (Int.tmod (shr k x (y : Int)) 2 == 1) = x.toNat.testBit y := by
  obtain ⟨n, rfl⟩ := Int.eq_ofNat_of_zero_le h0
  unfold shr
  simp only [Int.toNat_natCast]
  rw [Nat.min_eq_left hy, Nat.testBit_eq_decide_div_mod_eq]
  rw [show (n : Int) / 2 ^ y = ((n / 2 ^ y : Nat) : Int) by rw [show (2 : Int) ^ y = ((2 ^ y : Nat) : Int) by rw [Int.natCast_pow]; rfl]; rfl]
  rw [tmod_nat (Int.natCast_nonneg _)]
  generalize n / 2 ^ y = q
  rw [Bool.eq_iff_iff]
  simp
  omega
theorem shl8_one (y : Nat) (hy : y < 8) : shl .u8 1 (y : Int) = ((2 ^ y : Nat) : Int) := by
  unfold shl
  rw [Int.toNat_natCast, Nat.min_eq_left (by show y ≤ 8; omega), Int.one_mul, show (2 : Int) ^ y = ((2 ^ y : Nat) : Int) by rw [Int.natCast_pow]; rfl]
  have hp : 2 ^ y < 256 := by
    have : 2 ^ y ≤ 2 ^ 7 := Nat.pow_le_pow_right (by omega) (by omega)
    omega
  generalize 2 ^ y = p at hp ⊢
  exact wraps_u8 _ (by omega) (by omega)
/-- a byte of a text whose number is below 2^i -/
theorem low_byte (l : List Int) (hb : Bytes l) (i : Nat) (h : numB l < 2 ^ i) : (l.getD (i / 8) 0).toNat < 2 ^ (i % 8) := by
  apply Nat.lt_pow_two_of_testBit
  intro k hk
  by_cases h8 : k < 8
  · have e := numB_bit l hb (8 * (i / 8) + k)
    rw [show (8 * (i / 8) + k) / 8 = i / 8 by omega, show (8 * (i / 8) + k) % 8 = k by omega] at e
    rw [← e]
    exact Nat.testBit_lt_two_pow (Nat.lt_of_lt_of_le h (Nat.pow_le_pow_right (by omega) (by omega)))
  · have := getD_byte hb (i / 8)
    exact Nat.testBit_lt_two_pow (Nat.lt_of_lt_of_le (show (l.getD (i / 8) 0).toNat < 2 ^ 8 by omega) (Nat.pow_le_pow_right (by omega) (by omega)))
theorem pow_256 (i : Nat) : 256 ^ (i / 8) * 2 ^ (i % 8) = 2 ^ i := by
  rw [show 256 = 2 ^ 8 from rfl, ← Nat.pow_mul, ← Nat.pow_add]
  congr 1
  omega
/-- one more bit of a text that is laid bit by bit -/
theorem bit_more (l : List Int) (hb : Bytes l) (i : Nat) (h : numB l < 2 ^ i) (hi : i < 8 * l.length) :
    Bytes (l.set (i / 8) ((l.getD (i / 8) 0 + ((2 ^ (i % 8) : Nat) : Int)) % 256)) ∧ numB (l.set (i / 8) ((l.getD (i / 8) 0 + ((2 ^ (i % 8) : Nat) : Int)) % 256)) = numB l + 2 ^ i := by
  have hlo := low_byte l hb i h
  have hg := getD_byte hb (i / 8)
  have hs : 2 ^ (i % 8) + 2 ^ (i % 8) ≤ 256 := by
    have : 2 ^ (i % 8 + 1) ≤ 2 ^ 8 := Nat.pow_le_pow_right (by omega) (by omega)
    rw [Nat.pow_succ] at this
    omega
  have hadd := numB_set_add l (i / 8) ((l.getD (i / 8) 0 + ((2 ^ (i % 8) : Nat) : Int)) % 256) (by omega)
  have hp := pow_256 i
  generalize l.getD (i / 8) 0 = c at *
  generalize 2 ^ (i % 8) = p at *
  have ex : ((c + (p : Int)) % 256).toNat = c.toNat + p := by omega
  refine ⟨fun x hx' => ?_, ?_⟩
  · rcases List.mem_or_eq_of_mem_set hx' with h | h
    · exact hb x h
    · rw [h]; exact ⟨by omega, by omega⟩
  · rw [ex, Nat.mul_add, hp] at hadd
    omega
theorem mod_succ_add (x i : Nat) : x % 2 ^ (i + 1) = x % 2 ^ i + if x.testBit i = true then 2 ^ i else 0 := by
  rw [Nat.pow_succ, Nat.mod_mul, Nat.testBit_eq_decide_div_mod_eq]
  rcases Nat.mod_two_eq_zero_or_one (x / 2 ^ i) with h | h <;> simp [h]

/-! ### numbers as bytes, the greatest byte first, or the lowest; a datagram's bytes -/
def beL : Nat → Nat → List Int
  | 0, _ => []
  | s + 1, x => beL s (x / 256) ++ [((x % 256 : Nat) : Int)]
def leL : Nat → Nat → List Int
  | 0, _ => []
  | s + 1, x => ((x % 256 : Nat) : Int) :: leL s (x / 256)
theorem beL_len : ∀ s x, (beL s x).length = s
  | 0, _ => rfl
  | s + 1, x => by rw [beL, List.length_append, beL_len s]; rfl
theorem leL_len : ∀ s x, (leL s x).length = s
  | 0, _ => rfl
  | s + 1, x => by rw [leL, List.length_cons, leL_len s]
theorem beL_head : ∀ s x, beL (s + 1) x = ((x / 256 ^ s % 256 : Nat) : Int) :: beL s x
  | 0, x => by simp [beL]
  | s + 1, x => by
    rw [beL, beL_head s (x / 256), Nat.div_div_eq_div_mul, beL, Nat.pow_succ, Nat.mul_comm 256]
    rfl
theorem beL_bytes : ∀ s x, Bytes (beL s x)
  | 0, _ => bytes_nil
  | s + 1, x => bytes_append (beL_bytes s _) (bytes_cons ⟨by omega, by omega⟩ bytes_nil)
theorem leL_bytes : ∀ s x, Bytes (leL s x)
  | 0, _ => bytes_nil
  | s + 1, x => bytes_cons ⟨by omega, by omega⟩ (leL_bytes s _)
theorem leL_rev : ∀ s x, leL s x = (beL s x).reverse
  | 0, _ => rfl
  | s + 1, x => by rw [leL, beL, leL_rev s, List.reverse_append]; rfl
/-- the number that bytes are, the greatest byte first -/
def ofBe : List Int → Nat → Nat
  | [], n => n
  | c :: l, n => ofBe l (n * 256 + c.toNat)
theorem ofBe_append : ∀ (a b : List Int) n, ofBe (a ++ b) n = ofBe b (ofBe a n)
  | [], b, n => rfl
  | c :: a, b, n => by rw [List.cons_append, ofBe, ofBe, ofBe_append a b]
theorem ofBe_be : ∀ s x n, ofBe (beL s x) n = n * 256 ^ s + x % 256 ^ s
  | 0, x, n => by simp [beL, ofBe, Nat.mod_one]
  | s + 1, x, n => by
    rw [beL, ofBe_append, ofBe_be s (x / 256) n, ofBe, ofBe, Int.toNat_natCast, Nat.pow_succ, Nat.mul_comm (256 ^ s) 256, Nat.mod_mul, Nat.add_mul, Nat.mul_assoc n, Nat.mul_comm (256 ^ s) 256]
    omega
theorem ofBe_lt : ∀ (l : List Int), Bytes l → ∀ n, ofBe l n < (n + 1) * 256 ^ l.length
  | [], _, n => by simp [ofBe]
  | c :: l, h, n => by
    have hc := h c (by simp)
    unfold Byte at hc
    have := ofBe_lt l (fun x hx => h x (by simp [hx])) (n * 256 + c.toNat)
    rw [ofBe, List.length_cons, Nat.pow_succ]
    refine Nat.lt_of_lt_of_le this ?_
    rw [Nat.mul_comm (256 ^ l.length) 256, ← Nat.mul_assoc]
    exact Nat.mul_le_mul_right _ (by omega)
/-- bytes are those of the number that they are -/
theorem be_ofBe : ∀ (l : List Int), Bytes l → beL l.length (ofBe l 0) = l := by
  intro l
  induction h : l.length generalizing l with
  | zero => intro _; rw [List.length_eq_zero_iff.1 h]; rfl
  | succ s ih =>
    intro hb
    obtain ⟨a, c, rfl⟩ : ∃ a c, l = a ++ [c] := ⟨l.dropLast, l.getLast (by intro e; rw [e] at h; simp at h), (List.dropLast_concat_getLast _).symm⟩
    have hc := hb c (by simp)
    unfold Byte at hc
    rw [List.length_append, List.length_singleton] at h
    have := ih a (by omega) (fun x hx => hb x (by simp [hx]))
    rw [ofBe_append, ofBe, ofBe, beL, show (ofBe a 0 * 256 + c.toNat) / 256 = ofBe a 0 by omega, this, show (((ofBe a 0 * 256 + c.toNat) % 256 : Nat) : Int) = c by omega]
theorem shr8_byte (x : Nat) (i : Nat) (hi : i < 8) : shr .u64 (x : Int) (8 * (i : Int)) % 256 = ((x / 256 ^ i % 256 : Nat) : Int) := by
  unfold shr
  rw [show (8 * (i : Int)).toNat = 8 * i by omega, Nat.min_eq_left (by show 8 * i ≤ 64; omega)]
  rw [show (x : Int) / 2 ^ (8 * i) = ((x / 2 ^ (8 * i) : Nat) : Int) by rw [show (2 : Int) ^ (8 * i) = ((2 ^ (8 * i) : Nat) : Int) by rw [Int.natCast_pow]; rfl]; rfl]
  rw [Nat.pow_mul]
  rfl
/-- a datagram's bytes ahead of its sum -/
def headG (k v e i x c : Int) : List Int := [167, 78, k, v] ++ beL 4 e.toNat ++ beL 4 i.toNat ++ beL 2 x.toNat ++ beL 2 c.toNat
def bytesG (k v e i x c : Int) (body : List Int) : List Int := headG k v e i x c ++ body ++ leL 4 (sumN (headG k v e i x c ++ body))
theorem headG_len (k v e i x c : Int) : (headG k v e i x c).length = 16 := by simp [headG, beL_len]
theorem headG_bytes {k v : Int} (hk : Byte k) (hv : Byte v) (e i x c : Int) : Bytes (headG k v e i x c) := by
  unfold headG
  refine bytes_append (bytes_append (bytes_append (bytes_append ?_ (beL_bytes _ _)) (beL_bytes _ _)) (beL_bytes _ _)) (beL_bytes _ _)
  exact bytes_cons ⟨by omega, by omega⟩ (bytes_cons ⟨by omega, by omega⟩ (bytes_cons hk (bytes_cons hv bytes_nil)))
theorem bytesG_len (k v e i x c : Int) (body : List Int) : (bytesG k v e i x c body).length = body.length + 20 := by
  unfold bytesG
  rw [List.length_append, List.length_append, headG_len, leL_len]
  omega
theorem bytesG_bytes {k v : Int} (hk : Byte k) (hv : Byte v) (e i x c : Int) {body : List Int} (hb : Bytes body) : Bytes (bytesG k v e i x c body) :=
  bytes_append (bytes_append (headG_bytes hk hv e i x c) hb) (leL_bytes _ _)
/-- why a datagram may not be -/
def rightG (k x c : Int) (n : Nat) : Int := if k < 1 ∨ 2 < k then 9 else if c ≤ x then 1 else if 65487 < n then 5 else 0
theorem wu16_id {n : Int} (h0 : 0 ≤ n) (h1 : n < 65536) : IntKind.u16.wrap n = n := by
  simp [IntKind.wrap, IntKind.bits, IntKind.signed]
  omega

/-! ### what a reader reads -/
theorem beI_ofBe : ∀ (l : List Int), Bytes l → ∀ n : Nat, (n + 1) * 256 ^ l.length ≤ 18446744073709551616 → beI l (n : Int) = ((ofBe l n : Nat) : Int)
  | [], _, n, _ => rfl
  | c :: l, hb, n, h => by
    have hc := hb c (by simp)
    unfold Byte at hc
    have hl : Bytes l := fun x hx => hb x (by simp [hx])
    rw [List.length_cons, Nat.pow_succ, Nat.mul_comm (256 ^ l.length) 256, ← Nat.mul_assoc] at h
    have hp : 1 ≤ 256 ^ l.length := Nat.pow_pos (by omega)
    have hn : (n + 1) * 256 ≤ 18446744073709551616 := Nat.le_trans (Nat.le_mul_of_pos_right _ hp) h
    have e : Go.bits .or .u64 (IntKind.u64.wrap ((n : Int) * 256)) (IntKind.u64.wrap c) = ((n * 256 + c.toNat : Nat) : Int) := by
      rw [wu64_id (n := (n : Int) * 256) (by omega) (by omega), wu64_id (n := c) (by omega) (by omega)]
      have := bits_join .u64 64 (by decide) wraps_u64 8 ((n : Int) * 256) c (by omega) (by omega) (by omega) (by omega) (by omega) (by omega)
      rw [this]
      omega
    rw [beI, e, beI_ofBe l hl, ofBe]
    refine Nat.le_trans (Nat.mul_le_mul_right _ ?_) h
    omega
theorem beI_zero (l : List Int) (hb : Bytes l) (h : l.length ≤ 8) : beI l 0 = ((ofBe l 0 : Nat) : Int) := by
  have := beI_ofBe l hb 0 (by
    rw [Nat.zero_add, Nat.one_mul]
    exact Nat.pow_le_pow_right (by omega) h)
  exact this

/-! ### hellos, and the greatest version of two sets -/
theorem negoRd_three (a b c : Int) (ha : Byte a) (hb : Byte b) (hc : Byte c) : negoRd [a, b, c] = if a < 1 ∨ 2 < a then (0, false, 3) else (b * 256 + c, a == 2, 0) := by
  unfold Byte at ha hb hc
  have e1 : beI [a] 0 = a := by
    rw [beI_zero [a] (bytes_cons ha bytes_nil) (by simp)]
    simp [ofBe]
    omega
  have e2 : beI [b, c] 0 = b * 256 + c := by
    rw [beI_zero [b, c] (bytes_cons hb (bytes_cons hc bytes_nil)) (by simp)]
    simp [ofBe]
    omega
  have f1 : fixR 1 [a, b, c] 0 = (a, [b, c], 0) := by simp [fixR, e1]
  have f2 : fixR 2 [b, c] 0 = (b * 256 + c, [], 0) := by simp [fixR, e2]
  unfold negoRd
  simp only [f1, f2, endR]
  rw [wu16_id (by omega) (by omega)]
  by_cases h : a < 1 ∨ 2 < a
  · rw [if_pos h, if_pos (Or.inr ⟨by omega, by omega⟩)]
  · rw [if_neg h, if_neg (by simp; omega)]
theorem negoRd_other (l : List Int) (h : l.length ≠ 3) : negoRd l = (0, false, 3) := by
  unfold negoRd
  rw [if_pos]
  refine Or.inl ?_
  match l with
  | [] => simp [fixR, endR]
  | [a] => simp [fixR, endR]
  | [a, b] => simp [fixR, endR]
  | [a, b, c] => exact absurd rfl h
  | a :: b :: c :: d :: l =>
    have h2 : ¬ ((l.length : Int) + 1 + 1 + 1 < 2) := by omega
    have h1 : ¬ ((l.length : Int) + 1 + 1 + 1 + 1 < 1) := by omega
    simp [fixR, endR, h1, h2]
/-- the greatest version that two sets have -/
def bestN (a b : Nat) : Nat := Lib.bitLen (a &&& b)
theorem bitLen_top (v x : Nat) (h : x.testBit v = true) (hx : x < 2 ^ (v + 1)) (hv : v < 63) : Lib.bitLen x = v + 1 := by
  have h1 : 2 ^ v ≤ x := Nat.ge_two_pow_of_testBit h
  have h64 : x < 2 ^ 64 := Nat.lt_of_lt_of_le hx (Nat.pow_le_pow_right (by omega) (by omega))
  rw [Lib.bitLen_shift v x h1 h64]
  have : x / 2 ^ v = 1 := by
    rw [Nat.pow_succ] at hx
    exact Nat.div_eq_of_lt_le (by omega) (by omega)
  rw [this]
  rfl
theorem bitLen_mod_succ (v x : Nat) (hv : v < 63) : Lib.bitLen (x % 2 ^ (v + 1)) = if x.testBit v = true then v + 1 else Lib.bitLen (x % 2 ^ v) := by
  by_cases h : x.testBit v = true
  · rw [if_pos h]
    exact bitLen_top v _ (by rw [Nat.testBit_mod_two_pow]; simp [h]) (Nat.mod_lt _ (Nat.two_pow_pos _)) hv
  · rw [if_neg h, mod_succ_add, if_neg h, Nat.add_zero]
theorem bestN_pos (a b : Nat) : bestN a b = 0 ↔ a &&& b = 0 := by
  unfold bestN
  constructor
  · intro h
    cases hq : Nat.decEq (a &&& b) 0 with
    | isTrue e => exact e
    | isFalse e =>
      exfalso
      rw [Lib.bitLen] at h
      simp [Lib.bitLenAux, e] at h
  · intro h
    rw [h]
    rfl
theorem bestN_comm (a b : Nat) : bestN a b = bestN b a := by unfold bestN; rw [Nat.and_comm]
theorem bestN_le (a b : Nat) (ha : a < 65536) : bestN a b ≤ 16 := Lib.bitLen_le _ 16 (by omega) (Nat.lt_of_le_of_lt Nat.and_le_left ha)
theorem u16_and_nat (a b : Nat) (ha : a < 65536) (hb : b < 65536) : Go.bits .and .u16 (a : Int) (b : Int) = ((a &&& b : Nat) : Int) := by
  have := (bits_nat .u16 16 (by decide) (fun n h0 h1 => wu16_id h0 (by simpa using h1)) a b ha hb).1
  exact this
end Annulet
