/- Words and plain mathematics for the pure laws of this seat: rounds that end, whole numbers, lists; no program. -/
import Derived.Test.YtddnfbcfogpkgaaDoorWWords
import Derived.Test.YtddnfbcfogpkgaaDoorWLast
import Derived.Test.YtddnfbcfogpkgaaDoorWMore
import Derived.Laws.BitsLemmas
import Derived.Laws.BitsAllLaws
import Derived.Test.YtddnfbcfogpkgaaDoorG
import Derived.Test.YtddnfbcfogpkgaaDoorU
set_option linter.unusedVariables false
set_option linter.unusedSimpArgs false
namespace Annulet
open Go Go.RowKit Go.Proofs.YtddnfbcfogpkgaaDoorW.PrintWords Go.Proofs.YtddnfbcfogpkgaaDoorW.PrintLast Go.Proofs.YtddnfbcfogpkgaaDoorW.PrintMore

/-! ### rounds -/
theorem ev_succ {α : Type} {g : Nat → Option α} {r : α} (h : Ev (fun k => g (k + 1)) r) : Ev g r := Ev.step (fun _ => rfl) h
theorem ev_bind {α β : Type} {g : Nat → Option α} {f : Nat → α → Option β} {a : α} {r : β} (h : Ev g a) (k : Ev (fun n => f n a) r) : Ev (fun n => (g n).bind (f n)) r := Ev.bind h k
theorem ev_some {α : Type} (r : α) : Ev (fun _ => some r) r := Ev.now r
theorem ev_const {α : Type} {g : Nat → Option α} {r : α} (h : ∀ k, g (k + 1) = some r) : Ev g r := ev_succ (g := g) (by simp only [h]; exact ev_some r)
theorem ev_eq {α : Type} {g : Nat → Option α} {r s : α} (h : Ev g r) (e : r = s) : Ev g s := e ▸ h
theorem ev_uniq {α : Type} {g : Nat → Option α} {r s : α} (h : Ev g r) (h' : Ev g s) : r = s := by
  obtain ⟨K, hK⟩ := h
  obtain ⟨L, hL⟩ := h'
  have a := hK (max K L) (Nat.le_max_left _ _)
  have b := hL (max K L) (Nat.le_max_right _ _)
  exact Option.some.inj (a.symm.trans b)

/-! ### whole numbers -/
theorem w64 {n : Int} (h0 : -9223372036854775808 ≤ n) (h1 : n ≤ 9223372036854775807) : wrap64 n = n := by
  unfold wrap64
  omega
theorem wu64 (n : Int) : IntKind.u64.wrap n = n % 18446744073709551616 := by simp [IntKind.wrap, IntKind.bits, IntKind.signed]
theorem wu64_id {n : Int} (h0 : 0 ≤ n) (h1 : n < 18446744073709551616) : IntKind.u64.wrap n = n := by
  rw [wu64]
  omega
theorem wraps_u64 (n : Int) (h₀ : 0 ≤ n) (h₁ : n < 2 ^ 64) : IntKind.u64.wrap n = n := wu64_id h₀ (by simpa using h₁)
theorem wf_u8 {x : Int} (h : (Lit.int .u8 x).wf = true) : 0 ≤ x ∧ x < 256 := by
  simp [Lit.wf, IntKind.min, IntKind.max, IntKind.bits, IntKind.signed] at h
  omega
theorem wf_u64 {x : Int} (h : (Lit.int .u64 x).wf = true) : 0 ≤ x ∧ x < 18446744073709551616 := by
  simp [Lit.wf, IntKind.min, IntKind.max, IntKind.bits, IntKind.signed] at h
  omega
theorem wf_i64 {x : Int} (h : (Lit.int .i64 x).wf = true) : -9223372036854775808 ≤ x ∧ x < 9223372036854775808 := by
  simp [Lit.wf, IntKind.min, IntKind.max, IntKind.bits, IntKind.signed] at h
  omega
theorem wf_u32 {x : Int} (h : (Lit.int .u32 x).wf = true) : 0 ≤ x ∧ x < 4294967296 := by
  simp [Lit.wf, IntKind.min, IntKind.max, IntKind.bits, IntKind.signed] at h
  omega
theorem wf_u16 {x : Int} (h : (Lit.int .u16 x).wf = true) : 0 ≤ x ∧ x < 65536 := by
  simp [Lit.wf, IntKind.min, IntKind.max, IntKind.bits, IntKind.signed] at h
  omega

theorem or128 {x : Int} (h : 0 ≤ x) : bits .or .u8 (x % 256) 128 = x % 128 + 128 := by
  have e : bits .or .u8 (x % 256) 128 = bits .or .u8 128 (x % 128) := by
    have h1 := (bits_nat .u8 8 (by decide) wraps_u8 (x % 256).toNat 128 (by omega) (by decide)).2
    have h2 := (bits_nat .u8 8 (by decide) wraps_u8 128 (x % 128).toNat (by decide) (by omega)).2
    rw [show ((x % 256).toNat : Int) = x % 256 from by omega] at h1
    rw [show ((x % 128).toNat : Int) = x % 128 from by omega] at h2
    have e128 : ((128 : Nat) : Int) = 128 := rfl
    rw [e128] at h1 h2
    rw [h1, h2]
    have key : ∀ a : Nat, a < 256 → (a ||| 128 : Nat) = (128 ||| a % 128 : Nat) := by decide +kernel
    have := key (x % 256).toNat (by omega)
    rw [this, show (x % 256).toNat % 128 = (x % 128).toNat from by omega]
  rw [e, bits_join .u8 8 (by decide) wraps_u8 7 128 (x % 128) (by decide) (by decide) (by decide) (by omega) (by omega) (by omega)]
  omega
theorem and127 {x : Int} (h : 0 ≤ x) (h' : x < 256) : bits .and .u8 x 127 = x % 128 := bits_mask .u8 8 (by decide) wraps_u8 7 (by decide) x h h'
theorem mod128_step {a b : Int} (h : 0 ≤ a) (h' : a * 128 + b < 18446744073709551616) (hb : 0 ≤ b) (hb' : b < 128) : bits .or .u64 (IntKind.u64.wrap (a * 128)) (IntKind.u64.wrap b) = a * 128 + b := by
  rw [wu64_id (by omega) (by omega), wu64_id (by omega) (by omega)]
  exact bits_join .u64 64 (by decide) wraps_u64 7 (a * 128) b (by omega) (by omega) (by omega) hb (by omega) (by omega)

/-! ### lists -/
def Byte (x : Int) : Prop := 0 ≤ x ∧ x < 256
def Bytes (l : List Int) : Prop := ∀ x ∈ l, Byte x
theorem rd_nat (l : List Int) (i : Nat) : rd l (i : Int) = l.getD i 0 := by simp [rd]
theorem rd_byte {l : List Int} (h : Bytes l) (i : Int) : Byte (rd l i) := by
  unfold rd
  by_cases hi : i.toNat < l.length
  · have e : l.getD i.toNat 0 = l[i.toNat] := by simp [List.getD, hi]
    rw [e]
    exact h _ (List.getElem_mem hi)
  · have e : l.getD i.toNat 0 = 0 := by simp [List.getD, Nat.le_of_not_lt hi]
    rw [e]
    exact ⟨by omega, by omega⟩
theorem bytes_of_wf {l : List Int} (h : ∀ x ∈ l, (Lit.int .u8 x).wf = true) : Bytes l := fun x hx => wf_u8 (h x hx)
theorem bytes_nil : Bytes [] := fun _ h => by cases h
theorem bytes_append {a b : List Int} (ha : Bytes a) (hb : Bytes b) : Bytes (a ++ b) := fun x hx => by
  rcases List.mem_append.1 hx with h | h
  · exact ha x h
  · exact hb x h
theorem bytes_cons {x : Int} {l : List Int} (hx : Byte x) (h : Bytes l) : Bytes (x :: l) := fun y hy => by
  rcases List.mem_cons.1 hy with rfl | h'
  · exact hx
  · exact h y h'
theorem bytes_drop {l : List Int} (h : Bytes l) (n : Nat) : Bytes (l.drop n) := fun x hx => h x (List.mem_of_mem_drop hx)
theorem bytes_take {l : List Int} (h : Bytes l) (n : Nat) : Bytes (l.take n) := fun x hx => h x (List.mem_of_mem_take hx)

/-- how many cells at the head meet p -/
def lead (p : Int → Bool) : List Int → Nat
  | [] => 0
  | x :: l => if p x then lead p l + 1 else 0
theorem lead_le (p : Int → Bool) : ∀ l, lead p l ≤ l.length
  | [] => Nat.le_refl _
  | x :: l => by
    have := lead_le p l
    simp only [lead, List.length_cons]
    split <;> omega
theorem lead_eq (p : Int → Bool) : ∀ (l : List Int) (i : Nat), i ≤ l.length → (∀ j < i, p (l.getD j 0) = true) → (i < l.length → p (l.getD i 0) = false) → lead p l = i
  | [], i, h, _, _ => by simp at h; simp [lead, h]
  | x :: l, 0, _, _, h => by simp [lead, by simpa using h (by simp)]
  | x :: l, i + 1, h, ha, hs => by
    have h0 : p x = true := by simpa using ha 0 (by omega)
    have := lead_eq p l i (by simpa using h) (fun j hj => by simpa using ha (j + 1) (by omega)) (fun hi => by simpa using hs (by simpa using hi))
    simp [lead, h0, this]
theorem lead_at (p : Int → Bool) : ∀ (l : List Int) (j : Nat), j < lead p l → p (l.getD j 0) = true
  | [], j, h => by simp [lead] at h
  | x :: l, j, h => by
    simp only [lead] at h
    split at h
    · rename_i hx
      cases j with
      | zero => simpa using hx
      | succ j => simpa using lead_at p l j (by omega)
    · omega
theorem lead_stop (p : Int → Bool) : ∀ (l : List Int), lead p l < l.length → p (l.getD (lead p l) 0) = false
  | [], h => by simp at h
  | x :: l, h => by
    by_cases hx : p x = true
    · simp only [lead, hx, if_true, List.length_cons] at h ⊢
      simpa using lead_stop p l (by omega)
    · simp only [lead, hx, if_false] at h ⊢
      simpa using hx
theorem getD_take (l : List Int) (m j : Nat) (h : j < m) : (l.take m).getD j 0 = l.getD j 0 := by
  simp [List.getD, List.getElem?_take, h]
theorem getD_drop (l : List Int) (m j : Nat) : (l.drop m).getD j 0 = l.getD (m + j) 0 := by
  simp [List.getD, List.getElem?_drop]

/-! ### the text of bytes -/
theorem str_inj {a b : List Int} (h : a = b) : (strOfNums a).toList = (strOfNums b).toList := by rw [h]

/-! ### layer 7: numbers and bytes as texts, by lists -/
def placesS : ByteArray := ⟨#[48, 49, 50, 51, 52, 53, 54, 55, 56, 57, 97, 98, 99, 100, 101, 102]⟩
def place (d : Int) : Int := if d < 10 then 48 + d else 87 + d
theorem bt_place (d : Int) (h : 0 ≤ d) (h' : d < 16) : bt placesS d = place d := by
  have key : ∀ i : Fin 16, bt placesS ((i.val : Nat) : Int) = place ((i.val : Nat) : Int) := by decide +kernel
  have := key ⟨d.toNat, by omega⟩
  rw [show ((d.toNat : Nat) : Int) = d by omega] at this
  exact this
theorem place_byte {d : Int} (h : 0 ≤ d) (h' : d < 16) : Byte (place d) := by unfold place Byte; split <;> omega
theorem place_inj {a b : Int} (ha : 0 ≤ a) (ha' : a < 16) (hb : 0 ≤ b) (hb' : b < 16) (h : place a = place b) : a = b := by
  unfold place at h
  split at h <;> split at h <;> omega
theorem strOfNums_nil : strOfNums [] = (⟨#[]⟩ : ByteArray) := rfl
theorem toList_data (s : ByteArray) : s.toList = s.data.toList := by
  have loop : ∀ (n i : Nat) (r : List UInt8), s.size - i = n → ByteArray.toList.loop s i r = r.reverse ++ s.data.toList.drop i := by
    intro n
    induction n with
    | zero =>
      intro i r h
      rw [ByteArray.toList.loop]
      rw [if_neg (by omega), List.drop_eq_nil_of_le (by simp; have : s.size = s.data.size := rfl; omega)]
      simp
    | succ n ih =>
      intro i r h
      rw [ByteArray.toList.loop]
      have hi : i < s.size := by omega
      rw [if_pos hi, ih (i + 1) _ (by omega)]
      have hd : i < s.data.toList.length := by simp; exact hi
      rw [List.drop_eq_getElem_cons hd]
      have : i < s.data.size := hi
      simp [ByteArray.get!, hi, Array.getElem!_eq_getD, Array.getD]
  have := loop _ 0 [] rfl
  unfold ByteArray.toList
  rw [this]
  simp
theorem bytes_eq_of_toList {a b : ByteArray} (h : a.toList = b.toList) : a = b := by
  rw [toList_data, toList_data] at h
  apply ByteArray.ext
  exact Array.toList_inj.1 h
theorem strOfNums_inj {a b : List Int} (ha : Bytes a) (hb : Bytes b) (h : strOfNums a = strOfNums b) : a = b := by
  have h1 := congrArg (fun s : ByteArray => s.data.toList) h
  simp only [strOfNums_data] at h1
  have h2 := congrArg (List.map fun c : UInt8 => ((c.toNat : Nat) : Int)) h1
  simp only [List.map_map] at h2
  have key : ∀ l : List Int, Bytes l → l.map ((fun c : UInt8 => ((c.toNat : Nat) : Int)) ∘ fun n : Int => UInt8.ofNat n.toNat) = l := by
    intro l hl
    induction l with
    | nil => rfl
    | cons x l ih =>
      have hx := hl x (by simp)
      unfold Byte at hx
      rw [List.map_cons, ih (fun y hy => hl y (by simp [hy]))]
      congr 1
      simp
      omega
  rw [key a ha, key b hb] at h2
  exact h2
theorem bytesOf_str {a : List Int} (ha : Bytes a) : bytesOf (strOfNums a) = a := by
  unfold bytesOf
  rw [strOfNums_data, List.map_map]
  induction a with
  | nil => rfl
  | cons x l ih =>
    have hx := ha x (by simp)
    unfold Byte at hx
    rw [List.map_cons, ih (fun y hy => ha y (by simp [hy]))]
    congr 1
    simp
    omega
theorem str_bytesOf (s : ByteArray) : strOfNums (bytesOf s) = s := by
  apply ByteArray.ext
  apply Array.toList_inj.1
  rw [strOfNums_data, bytesOf, List.map_map]
  conv => rhs; rw [← List.map_id s.data.toList]
  apply List.map_congr_left
  intro c _
  simp
theorem bytesOf_bytes (s : ByteArray) : Bytes (bytesOf s) := by
  intro x hx
  unfold bytesOf at hx
  obtain ⟨c, _, rfl⟩ := List.mem_map.1 hx
  have := c.toNat_lt
  exact ⟨by omega, by omega⟩
/-- a number's text -/
def numL (n : Int) : List Int := if n < 0 then 45 :: digL (-n).toNat else digL n.toNat
theorem digL_bytes (n : Nat) : Bytes (digL n) := by
  induction n using digL.induct with
  | case1 n h => rw [digL_small h]; exact bytes_cons ⟨by omega, by omega⟩ bytes_nil
  | case2 n h ih => rw [digL_great h]; exact bytes_append ih (bytes_cons ⟨by omega, by omega⟩ bytes_nil)
theorem numL_bytes (n : Int) : Bytes (numL n) := by
  unfold numL
  split
  · exact bytes_cons ⟨by omega, by omega⟩ (digL_bytes _)
  · exact digL_bytes _
theorem digL_len20 {n : Nat} (h : n < 18446744073709551616) : (digL n).length ≤ 20 := digL_len 19 n (by omega)
/-- so many digits to the base 16 -/
def hexL : Nat → Nat → List Int
  | 0, _ => []
  | n + 1, u => hexL n (u / 16) ++ [place ((u % 16 : Nat) : Int)]
theorem hexL_len : ∀ n u, (hexL n u).length = n
  | 0, _ => rfl
  | n + 1, u => by simp [hexL, hexL_len n]
theorem hexL_bytes : ∀ n u, Bytes (hexL n u)
  | 0, _ => bytes_nil
  | n + 1, u => bytes_append (hexL_bytes n _) (bytes_cons (place_byte (by omega) (by omega)) bytes_nil)
theorem hexL_add : ∀ m n u, hexL (m + n) u = hexL m (u / 16 ^ n) ++ hexL n u
  | m, 0, u => by simp [hexL]
  | m, n + 1, u => by
    rw [← Nat.add_assoc]
    show hexL (m + n) (u / 16) ++ _ = _
    rw [hexL_add m n (u / 16), Nat.div_div_eq_div_mul, ← Nat.pow_succ']
    simp [hexL]
theorem hexL_mod (n : Nat) : ∀ u k, hexL n (u % 16 ^ (n + k)) = hexL n u := by
  induction n with
  | zero => intro u k; rfl
  | succ n ih =>
    intro u k
    simp only [hexL]
    have e1 : u % 16 ^ (n + 1 + k) / 16 = u / 16 % 16 ^ (n + k) := by
      rw [show n + 1 + k = (n + k) + 1 by omega, Nat.pow_succ, Nat.mul_comm, Nat.mod_mul_right_div_self]
    have e2 : u % 16 ^ (n + 1 + k) % 16 = u % 16 := by
      rw [show n + 1 + k = (n + k) + 1 by omega, Nat.pow_succ, Nat.mul_comm]
      exact Nat.mod_mul_right_mod u 16 (16 ^ (n + k))
    rw [e1, e2, ih]
/-- bytes as digits -/
def twoL (c : Int) : List Int := [place (c / 16), place (c % 16)]
def bytesL : List Int → List Int
  | [] => []
  | c :: l => twoL c ++ bytesL l
theorem bytesL_append : ∀ a b, bytesL (a ++ b) = bytesL a ++ bytesL b
  | [], b => rfl
  | x :: a, b => by simp [bytesL, bytesL_append a b]
theorem twoL_bytes {c : Int} (h : Byte c) : Bytes (twoL c) := by
  unfold Byte at h
  exact bytes_cons (place_byte (by omega) (by omega)) (bytes_cons (place_byte (by omega) (by omega)) bytes_nil)
theorem bytesL_bytes : ∀ {l : List Int}, Bytes l → Bytes (bytesL l)
  | [], _ => bytes_nil
  | c :: l, h => bytes_append (twoL_bytes (h c (by simp))) (bytesL_bytes (fun x hx => h x (by simp [hx])))
theorem bytesL_len : ∀ l : List Int, (bytesL l).length = 2 * l.length
  | [] => rfl
  | c :: l => by simp [bytesL, twoL, bytesL_len l]; omega
theorem and15 {x : Int} (h : 0 ≤ x) (h' : x < 256) : bits .and .u8 x 15 = x % 16 := bits_mask .u8 8 (by decide) wraps_u8 4 (by decide) x h h'
theorem and15_u64 {x : Int} (h : 0 ≤ x) (h' : x < 18446744073709551616) : bits .and .u64 x 15 = x % 16 := bits_mask .u64 64 (by decide) wraps_u64 4 (by decide) x h (by omega)
theorem shr_u64 (x : Int) (n : Nat) (h : n ≤ 64) : shr .u64 x (n : Int) = x / 2 ^ n := by
  unfold shr
  rw [show (IntKind.u64).bits = 64 from rfl, Int.toNat_natCast, Nat.min_eq_left h]
theorem set_snoc (l : List Int) (i : Nat) (x : Int) (h : i < l.length) : (l.set i x).drop i = x :: l.drop (i + 1) := drop_set_at l i x h

/-! ### texts as lists of bytes -/
theorem str_toList (l : List Int) : (strOfNums l).toList = l.map fun n => UInt8.ofNat n.toNat := by rw [toList_data, strOfNums_data]
theorem str_of (s : ByteArray) : ∃ l, Bytes l ∧ s = strOfNums l := ⟨bytesOf s, bytesOf_bytes s, (str_bytesOf s).symm⟩
theorem str_eq {a b : List Int} (ha : Bytes a) (hb : Bytes b) : ((strOfNums a).toList = (strOfNums b).toList) = (a = b) := by
  apply propext
  constructor
  · intro h
    exact strOfNums_inj ha hb (bytes_eq_of_toList h)
  · intro h
    rw [h]
theorem str_nil (l : List Int) : ((strOfNums l).toList = ([] : List UInt8)) = (l = []) := by
  apply propext
  rw [str_toList]
  cases l <;> simp
theorem bt_str {l : List Int} (h : Bytes l) (i : Int) : bt (strOfNums l) i = rd l i := by
  unfold bt rd
  by_cases hi : i.toNat < l.length
  · rw [dif_pos (by rw [strOfNums_size]; exact hi)]
    have e : l.getD i.toNat 0 = l[i.toNat] := by simp [List.getD, hi]
    rw [e]
    have hb := h _ (List.getElem_mem hi)
    unfold Byte at hb
    have : (strOfNums l)[i.toNat]'(by rw [strOfNums_size]; exact hi) = UInt8.ofNat (l[i.toNat]).toNat := by
      show (strOfNums l).data[i.toNat]'_ = _
      simp [strOfNums]
    rw [this]
    simp
    omega
  · rw [dif_neg (by rw [strOfNums_size]; exact hi)]
    simp [List.getD, Nat.le_of_not_lt hi]
theorem str_extract (l : List Int) (a b : Nat) : (strOfNums l).extract a b = strOfNums ((l.take b).drop a) := by
  unfold strOfNums
  rw [show (({ data := (l.map fun n => UInt8.ofNat n.toNat).toArray } : ByteArray).extract a b) = ⟨((((l.map fun n => UInt8.ofNat n.toNat)).drop a).take (b - a)).toArray⟩ from ByteArray.extract_mk _ _ _]
  rw [List.drop_take, List.map_take, List.map_drop]
theorem str_beq {a b : List Int} (ha : Bytes a) (hb : Bytes b) : ((strOfNums a).toList == (strOfNums b).toList) = decide (a = b) := by
  by_cases h : a = b
  · simp [h]
  · rw [decide_eq_false h]
    have : ¬ (strOfNums a).toList = (strOfNums b).toList := by rw [str_eq ha hb]; exact h
    simpa using this

/-! ### layer 4: texts rune by rune, by lists -/
def TL (b : Int) : Prop := 128 ≤ b ∧ b ≤ 191
instance (b : Int) : Decidable (TL b) := by unfold TL; exact inferInstance
/-- how many bytes the rune has that begins so (n bytes are left); 0: a stray byte -/
def wid (n c b1 b2 b3 : Int) : Int :=
  if c < 128 then 1
  else if 194 ≤ c ∧ c ≤ 223 ∧ 1 < n ∧ TL b1 then 2
  else if 224 ≤ c ∧ c ≤ 239 ∧ 2 < n ∧ TL b1 ∧ TL b2 then (if (c = 224 ∧ b1 < 160) ∨ (c = 237 ∧ 159 < b1) then 0 else 3)
  else if 240 ≤ c ∧ c ≤ 244 ∧ 3 < n ∧ TL b1 ∧ TL b2 ∧ TL b3 then (if (c = 240 ∧ b1 < 144) ∨ (c = 244 ∧ 143 < b1) then 0 else 4)
  else 0
theorem wid_cases (n c b1 b2 b3 : Int) : wid n c b1 b2 b3 = 0 ∨ wid n c b1 b2 b3 = 1 ∨ wid n c b1 b2 b3 = 2 ∨ wid n c b1 b2 b3 = 3 ∨ wid n c b1 b2 b3 = 4 := by
  unfold wid
  split
  · simp
  split
  · simp
  split
  · split <;> simp
  split
  · split <;> simp
  simp
theorem wid_le {n c b1 b2 b3 : Int} (hn : 1 ≤ n) : wid n c b1 b2 b3 ≤ n := by
  unfold wid
  split
  · omega
  split
  · omega
  split
  · split <;> omega
  split
  · split <;> omega
  omega
/-- the model's decoder: the same width; its rune is the bytes' own -/
theorem decodeN_wid (n c b1 b2 b3 : Nat) (hc : c < 256) (h1 : b1 < 256) (h2 : b2 < 256) (h3 : b3 < 256) :
    (wid n c b1 b2 b3 = 0 → Lib.decodeN n c b1 b2 b3 = (65533, 1)) ∧
    (wid n c b1 b2 b3 ≠ 0 → ((Lib.decodeN n c b1 b2 b3).2 : Int) = wid n c b1 b2 b3 ∧ ((Lib.decodeN n c b1 b2 b3).1 < 128 ↔ c < 128) ∧ (c < 128 → (Lib.decodeN n c b1 b2 b3).1 = c) ∧ ((Lib.decodeN n c b1 b2 b3).2 = 1 → c < 128) ∧
      Lib.encodeRuneZ (((Lib.decodeN n c b1 b2 b3).1 : Nat) : Int) = [(c : Int), b1, b2, b3].take (wid n c b1 b2 b3).toNat) := by
  have key : wid n c b1 b2 b3 = 0 ∧ Lib.decodeN n c b1 b2 b3 = (65533, 1) ∨
      wid n c b1 b2 b3 = 1 ∧ c < 128 ∧ Lib.decodeN n c b1 b2 b3 = (c, 1) ∨
      wid n c b1 b2 b3 = 2 ∧ ¬ c < 128 ∧ TL b1 ∧ 194 ≤ c ∧ c ≤ 223 ∧ Lib.decodeN n c b1 b2 b3 = (c % 32 * 64 + b1 % 64, 2) ∨
      wid n c b1 b2 b3 = 3 ∧ ¬ c < 128 ∧ TL b1 ∧ TL b2 ∧ 224 ≤ c ∧ c ≤ 239 ∧ ¬ (c = 224 ∧ b1 < 160) ∧ ¬ (c = 237 ∧ 159 < b1) ∧ Lib.decodeN n c b1 b2 b3 = (c % 16 * 4096 + b1 % 64 * 64 + b2 % 64, 3) ∨
      wid n c b1 b2 b3 = 4 ∧ ¬ c < 128 ∧ TL b1 ∧ TL b2 ∧ TL b3 ∧ 240 ≤ c ∧ c ≤ 244 ∧ ¬ (c = 240 ∧ b1 < 144) ∧ ¬ (c = 244 ∧ 143 < b1) ∧ Lib.decodeN n c b1 b2 b3 = (c % 8 * 262144 + b1 % 64 * 4096 + b2 % 64 * 64 + b3 % 64, 4) := by
    unfold wid Lib.decodeN TL
    split
    · right; left
      rw [if_pos (by omega)]
      exact ⟨rfl, by omega, rfl⟩
    rename_i a1
    rw [if_neg (by omega : ¬ c < 128)]
    split
    · rename_i a2
      right; right; left
      rw [if_pos (by omega), if_pos (by omega)]
      exact ⟨rfl, by omega, by omega, by omega, by omega, rfl⟩
    rename_i a2
    split
    · rename_i a3
      rw [if_neg (by omega : ¬ (c / 32 = 6 ∧ (1 < n ∧ b1 / 64 = 2))), if_pos (by omega : c / 16 = 14 ∧ (1 < n ∧ b1 / 64 = 2) ∧ (2 < n ∧ b2 / 64 = 2))]
      split
      · rename_i a4
        left
        rw [if_neg (by omega)]
        exact ⟨rfl, rfl⟩
      · rename_i a4
        right; right; right; left
        rw [if_pos (by omega)]
        exact ⟨rfl, by omega, by omega, by omega, by omega, by omega, by omega, by omega, rfl⟩
    rename_i a3
    split
    · rename_i a4
      rw [if_neg (by omega : ¬ (c / 32 = 6 ∧ (1 < n ∧ b1 / 64 = 2))), if_neg (by omega : ¬ (c / 16 = 14 ∧ (1 < n ∧ b1 / 64 = 2) ∧ (2 < n ∧ b2 / 64 = 2))), if_pos (by omega : c / 8 = 30 ∧ (1 < n ∧ b1 / 64 = 2) ∧ (2 < n ∧ b2 / 64 = 2) ∧ (3 < n ∧ b3 / 64 = 2))]
      split
      · rename_i a5
        left
        rw [if_neg (by omega)]
        exact ⟨rfl, rfl⟩
      · rename_i a5
        right; right; right; right
        rw [if_pos (by omega)]
        exact ⟨rfl, by omega, by omega, by omega, by omega, by omega, by omega, by omega, by omega, rfl⟩
    · rename_i a4
      left
      refine ⟨rfl, ?_⟩
      split
      · rw [if_neg (by omega)]
      split
      · exact absurd ‹_› (by omega)
      split
      · rw [if_neg (by omega)]
      rfl
  unfold TL at key
  rcases key with ⟨k0, k1⟩ | ⟨k0, kc, k1⟩ | ⟨k0, kc, t1, l1, l2, k1⟩ | ⟨k0, kc, t1, t2, l1, l2, o1, o2, k1⟩ | ⟨k0, kc, t1, t2, t3, l1, l2, o1, o2, k1⟩
  · exact ⟨fun _ => k1, fun h => absurd k0 h⟩
  · rw [k0, k1]
    refine ⟨fun h => by omega, fun _ => ⟨rfl, Iff.rfl, fun _ => rfl, fun _ => kc, ?_⟩⟩
    rw [Lib.encodeRuneZ_one (by omega) (by omega)]
    rfl
  · rw [k0, k1]
    refine ⟨fun h => by omega, fun _ => ⟨rfl, by dsimp only; omega, fun h => absurd h kc, fun h => by simp at h, ?_⟩⟩
    dsimp only
    rw [Lib.encodeRuneZ_two (by omega) (by omega)]
    show _ = [(c : Int), (b1 : Int)]
    rw [show (192 : Int) + ((c % 32 * 64 + b1 % 64 : Nat) : Int) / 64 = c by omega, show (128 : Int) + ((c % 32 * 64 + b1 % 64 : Nat) : Int) % 64 = b1 by omega]
  · rw [k0, k1]
    refine ⟨fun h => by omega, fun _ => ⟨rfl, by dsimp only; omega, fun h => absurd h kc, fun h => by simp at h, ?_⟩⟩
    dsimp only
    rw [Lib.encodeRuneZ_three (by omega)]
    show _ = [(c : Int), (b1 : Int), (b2 : Int)]
    rw [show (224 : Int) + ((c % 16 * 4096 + b1 % 64 * 64 + b2 % 64 : Nat) : Int) / 4096 = c by omega, show (128 : Int) + ((c % 16 * 4096 + b1 % 64 * 64 + b2 % 64 : Nat) : Int) / 64 % 64 = b1 by omega, show (128 : Int) + ((c % 16 * 4096 + b1 % 64 * 64 + b2 % 64 : Nat) : Int) % 64 = b2 by omega]
  · rw [k0, k1]
    refine ⟨fun h => by omega, fun _ => ⟨rfl, by dsimp only; omega, fun h => absurd h kc, fun h => by simp at h, ?_⟩⟩
    dsimp only
    rw [Lib.encodeRuneZ_four (by omega) (by omega)]
    show _ = [(c : Int), (b1 : Int), (b2 : Int), (b3 : Int)]
    rw [show (240 : Int) + ((c % 8 * 262144 + b1 % 64 * 4096 + b2 % 64 * 64 + b3 % 64 : Nat) : Int) / 262144 = c by omega, show (128 : Int) + ((c % 8 * 262144 + b1 % 64 * 4096 + b2 % 64 * 64 + b3 % 64 : Nat) : Int) / 4096 % 64 = b1 by omega, show (128 : Int) + ((c % 8 * 262144 + b1 % 64 * 4096 + b2 % 64 * 64 + b3 % 64 : Nat) : Int) / 64 % 64 = b2 by omega, show (128 : Int) + ((c % 8 * 262144 + b1 % 64 * 4096 + b2 % 64 * 64 + b3 % 64 : Nat) : Int) % 64 = b3 by omega]

theorem wid_cut (n c b1 b2 b3 p : Int) (hp : 1 ≤ p) (hw : wid n c b1 b2 b3 ≤ p) (hn : 1 ≤ n) :
    wid (min p n) c (if 1 < p then b1 else 0) (if 2 < p then b2 else 0) (if 3 < p then b3 else 0) = wid n c b1 b2 b3 := by
  by_cases h4 : 4 ≤ p
  · rw [if_pos (by omega), if_pos (by omega), if_pos (by omega)]
    have e1 : (1 < min p n) = (1 < n) := propext (by omega)
    have e2 : (2 < min p n) = (2 < n) := propext (by omega)
    have e3 : (3 < min p n) = (3 < n) := propext (by omega)
    unfold wid
    simp only [e1, e2, e3]
  · rw [if_neg (by omega : ¬ 3 < p)]
    have e3 : ¬ TL 0 := by unfold TL; omega
    by_cases h3 : p = 3
    · subst h3
      rw [if_pos (by omega), if_pos (by omega)]
      have e1 : (1 < min 3 n) = (1 < n) := propext (by omega)
      have e2 : (2 < min 3 n) = (2 < n) := propext (by omega)
      unfold wid at hw ⊢
      simp only [e1, e2, e3, and_false, if_false]
      split at hw <;> rename_i a1
      · rw [if_pos a1, if_pos a1]
      rw [if_neg a1, if_neg a1]
      split at hw <;> rename_i a2
      · rw [if_pos a2, if_pos a2]
      rw [if_neg a2, if_neg a2]
      split at hw <;> rename_i a3
      · rw [if_pos a3, if_pos a3]
      rw [if_neg a3, if_neg a3]
      split at hw <;> rename_i a4
      · rw [if_pos a4]
        split at hw <;> rename_i a5
        · rw [if_pos a5]
        · omega
      · rw [if_neg a4]
    · rw [if_neg (by omega : ¬ 2 < p)]
      by_cases h2 : p = 2
      · subst h2
        rw [if_pos (by omega)]
        have e1 : (1 < min 2 n) = (1 < n) := propext (by omega)
        unfold wid at hw ⊢
        simp only [e1, e3, and_false, if_false]
        split at hw <;> rename_i a1
        · rw [if_pos a1, if_pos a1]
        rw [if_neg a1, if_neg a1]
        split at hw <;> rename_i a2
        · rw [if_pos a2, if_pos a2]
        rw [if_neg a2, if_neg a2]
        split at hw <;> rename_i a3
        · rw [if_pos a3]
          split at hw <;> rename_i a5
          · rw [if_pos a5]
          · omega
        rw [if_neg a3]
        split at hw <;> rename_i a4
        · rw [if_pos a4]
          split at hw <;> rename_i a5
          · rw [if_pos a5]
          · omega
        · rw [if_neg a4]
      · have h1 : p = 1 := by omega
        subst h1
        rw [if_neg (by omega)]
        unfold wid at hw ⊢
        simp only [e3, false_and, and_false, if_false]
        split at hw <;> rename_i a1
        · rw [if_pos a1, if_pos a1]
        rw [if_neg a1, if_neg a1]
        split at hw <;> rename_i a2
        · omega
        rw [if_neg a2]
        split at hw <;> rename_i a3
        · rw [if_pos a3]
          split at hw <;> rename_i a5
          · rw [if_pos a5]
          · omega
        rw [if_neg a3]
        split at hw <;> rename_i a4
        · rw [if_pos a4]
          split at hw <;> rename_i a5
          · rw [if_pos a5]
          · omega
        · rw [if_neg a4]
/-- the width at the head of a list: 0: a stray byte -/
def wd (m : List Int) : Nat := (wid m.length (m.getD 0 0) (m.getD 1 0) (m.getD 2 0) (m.getD 3 0)).toNat
/-- how many bytes are taken at the head -/
def stp (m : List Int) : Nat := if wd m = 0 then 1 else wd m
theorem wd_int (m : List Int) : ((wd m : Nat) : Int) = wid m.length (m.getD 0 0) (m.getD 1 0) (m.getD 2 0) (m.getD 3 0) := by
  unfold wd
  rcases wid_cases m.length (m.getD 0 0) (m.getD 1 0) (m.getD 2 0) (m.getD 3 0) with h | h | h | h | h <;> rw [h] <;> rfl
theorem wd_le4 (m : List Int) : wd m ≤ 4 := by
  have := wd_int m
  rcases wid_cases m.length (m.getD 0 0) (m.getD 1 0) (m.getD 2 0) (m.getD 3 0) with h | h | h | h | h <;> omega
theorem len_pos {m : List Int} (h : m ≠ []) : 1 ≤ m.length := by
  cases m with
  | nil => exact absurd rfl h
  | cons a l => simp
theorem wd_le {m : List Int} (h : m ≠ []) : wd m ≤ m.length := by
  have := wd_int m
  have := len_pos h
  have := wid_le (n := m.length) (c := m.getD 0 0) (b1 := m.getD 1 0) (b2 := m.getD 2 0) (b3 := m.getD 3 0) (by omega)
  omega
theorem stp_pos (m : List Int) : 1 ≤ stp m := by unfold stp; split <;> omega
theorem stp_le {m : List Int} (h : m ≠ []) : stp m ≤ m.length := by
  have := wd_le h
  have := len_pos h
  unfold stp
  split <;> omega
theorem take_getD (m : List Int) (p i : Nat) : (m.take p).getD i 0 = if i < p then m.getD i 0 else 0 := by
  simp only [List.getD, List.getElem?_take]
  split <;> simp_all
theorem wd_pre {m : List Int} (h : m ≠ []) {p : Nat} (hp : stp m ≤ p) : wd (m.take p) = wd m := by
  have h1 := stp_pos m
  have hl := len_pos h
  have hw : wd m ≤ p := by unfold stp at hp; split at hp <;> omega
  have a := wd_int (m.take p)
  have b := wd_int m
  have c := wid_cut m.length (m.getD 0 0) (m.getD 1 0) (m.getD 2 0) (m.getD 3 0) p (by omega) (by rw [← b]; omega) (by omega)
  rw [List.length_take, take_getD, take_getD, take_getD, take_getD, if_pos (by omega : 0 < p)] at a
  have e1 : ((if 1 < p then m.getD 1 0 else 0 : Int)) = (if (1 : Int) < (p : Int) then m.getD 1 0 else 0) := by
    by_cases q : 1 < p
    · rw [if_pos q, if_pos (by omega)]
    · rw [if_neg q, if_neg (by omega)]
  have e2 : ((if 2 < p then m.getD 2 0 else 0 : Int)) = (if (2 : Int) < (p : Int) then m.getD 2 0 else 0) := by
    by_cases q : 2 < p
    · rw [if_pos q, if_pos (by omega)]
    · rw [if_neg q, if_neg (by omega)]
  have e3 : ((if 3 < p then m.getD 3 0 else 0 : Int)) = (if (3 : Int) < (p : Int) then m.getD 3 0 else 0) := by
    by_cases q : 3 < p
    · rw [if_pos q, if_pos (by omega)]
    · rw [if_neg q, if_neg (by omega)]
  rw [e1, e2, e3, show ((min p m.length : Nat) : Int) = min (p : Int) (m.length : Int) by omega, c, ← b] at a
  exact Int.ofNat.inj a
theorem stp_pre {m : List Int} (h : m ≠ []) {p : Nat} (hp : stp m ≤ p) : stp (m.take p) = stp m := by
  unfold stp
  rw [wd_pre h hp]
def partsL (m : List Int) : List (List Int) := if h : m = [] then [] else m.take (stp m) :: partsL (m.drop (stp m))
termination_by m.length
decreasing_by
  have := stp_pos m
  have := len_pos h
  rw [List.length_drop]
  omega
theorem partsL_nil : partsL [] = [] := by rw [partsL, dif_pos rfl]
theorem partsL_cons {m : List Int} (h : m ≠ []) : partsL m = m.take (stp m) :: partsL (m.drop (stp m)) := by rw [partsL, dif_neg h]
theorem parts_ind {P : List Int → Prop} (h0 : P []) (h1 : ∀ m, m ≠ [] → P (m.drop (stp m)) → P m) : ∀ m, P m := by
  intro m
  induction hn : m.length using Nat.strongRecOn generalizing m with
  | _ n ih =>
    by_cases h : m = []
    · subst h; exact h0
    · refine h1 m h (ih _ ?_ _ rfl)
      have := stp_pos m
      have := len_pos h
      rw [List.length_drop]
      omega
theorem take_ne {m : List Int} (h : m ≠ []) {p : Nat} (hp : 1 ≤ p) : m.take p ≠ [] := by
  intro e
  have h2 := congrArg List.length e
  have := len_pos h
  rw [List.length_take, List.length_nil] at h2
  omega
theorem wd_part {m : List Int} (h : m ≠ []) : wd (m.take (stp m)) = wd m := wd_pre h (Nat.le_refl _)
theorem stp_part {m : List Int} (h : m ≠ []) : stp (m.take (stp m)) = stp m := stp_pre h (Nat.le_refl _)
theorem head_part {m : List Int} (h : m ≠ []) : (m.take (stp m)).getD 0 0 = m.getD 0 0 := by
  rw [take_getD, if_pos (by have := stp_pos m; omega)]
/-- what a part is as a word -/
def qt (m : List Int) : List Int := if wd m ≠ 0 ∧ 32 < m.getD 0 0 ∧ m.getD 0 0 ≠ 127 ∧ m.getD 0 0 ≠ 37 then m.take (stp m) else [37, place (m.getD 0 0 / 16), place (m.getD 0 0 % 16)]
theorem qt_part {m : List Int} (h : m ≠ []) : qt (m.take (stp m)) = qt m := by
  unfold qt
  rw [wd_part h, head_part h, stp_part h, List.take_take, Nat.min_self]
def quoteL (m : List Int) : List Int := (partsL m).flatMap qt
theorem quoteL_nil : quoteL [] = [] := by unfold quoteL; rw [partsL_nil]; rfl
theorem quoteL_cons {m : List Int} (h : m ≠ []) : quoteL m = qt m ++ quoteL (m.drop (stp m)) := by
  unfold quoteL
  rw [partsL_cons h, List.flatMap_cons, qt_part h]
def quoteF (m : List Int) : List Int := if m = [] then [37] else quoteL m
/-- a digit's worth; 16: none -/
def hx4 (c : Int) : Int := if 48 ≤ c ∧ c ≤ 57 then c - 48 else if 97 ≤ c ∧ c ≤ 102 then c - 87 else 16
theorem hx4_place {d : Int} (h : 0 ≤ d) (h' : d < 16) : hx4 (place d) = d := by unfold hx4 place; split <;> split <;> omega
theorem hx4_range (c : Int) : 0 ≤ hx4 c ∧ hx4 c ≤ 16 := by unfold hx4; split <;> (try split) <;> omega
def unqL : List Int → Option (List Int)
  | [] => some []
  | [c] => if c = 37 then none else some [c]
  | [c, a] => if c = 37 then none else (unqL [a]).map (c :: ·)
  | c :: a :: b :: t => if c = 37 then (if hx4 a < 16 ∧ hx4 b < 16 then (unqL t).map ((16 * hx4 a + hx4 b) :: ·) else none) else (unqL (a :: b :: t)).map (c :: ·)
theorem unqL_bare {c : Int} (h : c ≠ 37) : ∀ t, unqL (c :: t) = (unqL t).map (c :: ·)
  | [] => by simp [unqL, h]
  | [a] => by simp [unqL, h]
  | a :: b :: t => by simp [unqL, h]
theorem unqL_bares : ∀ (p t : List Int), (∀ x ∈ p, x ≠ 37) → unqL (p ++ t) = (unqL t).map (p ++ ·)
  | [], t, _ => by simp
  | x :: p, t, h => by
    rw [List.cons_append, unqL_bare (h x (by simp)), unqL_bares p t (fun y hy => h y (by simp [hy])), Option.map_map]
    rfl
theorem unqL_esc {a b : Int} (ha : hx4 a < 16) (hb : hx4 b < 16) (t : List Int) : unqL (37 :: a :: b :: t) = (unqL t).map ((16 * hx4 a + hx4 b) :: ·) := by
  simp [unqL, ha, hb]
/-- of a rune that begins no ASCII byte, all bytes are beyond ASCII -/
theorem part_high {m : List Int} (hb : Bytes m) (hw : wd m ≠ 0) (hc : ¬ m.getD 0 0 < 128) : ∀ x ∈ m.take (stp m), 128 ≤ x := by
  have e : stp m = wd m := by unfold stp; rw [if_neg hw]
  rw [e]
  have hi := wd_int m
  intro x hx4
  obtain ⟨i, hi1, rfl⟩ := List.mem_iff_getElem.1 hx4
  rw [List.length_take] at hi1
  have ex : (m.take (wd m))[i] = m.getD i 0 := by
    rw [List.getElem_take]
    simp [List.getD, show i < m.length by omega]
  rw [ex]
  have h4 := wd_le4 m
  revert hi
  unfold wid TL
  rw [if_neg hc]
  split
  · intro hi
    have : i = 0 ∨ i = 1 := by omega
    rcases this with rfl | rfl <;> omega
  split
  · split
    · intro hi; omega
    · intro hi
      have : i = 0 ∨ i = 1 ∨ i = 2 := by omega
      rcases this with rfl | rfl | rfl <;> omega
  split
  · split
    · intro hi; omega
    · intro hi
      have : i = 0 ∨ i = 1 ∨ i = 2 ∨ i = 3 := by omega
      rcases this with rfl | rfl | rfl | rfl <;> omega
  · intro hi; omega
theorem wd_low {m : List Int} (hc : m.getD 0 0 < 128) : wd m = 1 := by
  have := wd_int m
  unfold wid at this
  rw [if_pos hc] at this
  omega
theorem part_low {m : List Int} (h : m ≠ []) (hc : m.getD 0 0 < 128) : m.take (stp m) = [m.getD 0 0] := by
  have e : stp m = 1 := by unfold stp; rw [wd_low hc]; rfl
  rw [e]
  cases m with
  | nil => exact absurd rfl h
  | cons a l => simp
/-- what a bare part consists of -/
theorem qt_bare {m : List Int} (h : m ≠ []) (hb : Bytes m) (c : wd m ≠ 0 ∧ 32 < m.getD 0 0 ∧ m.getD 0 0 ≠ 127 ∧ m.getD 0 0 ≠ 37) : ∀ x ∈ m.take (stp m), 32 < x ∧ x ≠ 127 ∧ x ≠ 37 := by
  by_cases hc : m.getD 0 0 < 128
  · rw [part_low h hc]
    intro x hx4
    rw [List.mem_singleton.1 hx4]
    exact ⟨c.2.1, c.2.2.1, c.2.2.2⟩
  · intro x hx4
    have := part_high hb c.1 hc x hx4
    omega
theorem head_byte {m : List Int} (hb : Bytes m) (i : Nat) : Byte (m.getD i 0) := by
  have := rd_byte hb (i : Int)
  rwa [rd_nat] at this
theorem unq_quote : ∀ m, Bytes m → unqL (quoteL m) = some m := by
  refine parts_ind (fun _ => by rw [quoteL_nil]; rfl) (fun m h ih hb => ?_)
  rw [quoteL_cons h]
  have hih := ih (bytes_drop hb _)
  by_cases c : wd m ≠ 0 ∧ 32 < m.getD 0 0 ∧ m.getD 0 0 ≠ 127 ∧ m.getD 0 0 ≠ 37
  · have e : qt m = m.take (stp m) := if_pos c
    rw [e, unqL_bares _ _ (fun x hx4 => (qt_bare h hb c x hx4).2.2), hih]
    simp [List.take_append_drop]
  · have e : qt m = [37, place (m.getD 0 0 / 16), place (m.getD 0 0 % 16)] := if_neg c
    have hB := head_byte hb 0
    unfold Byte at hB
    rw [e]
    show unqL (37 :: place (m.getD 0 0 / 16) :: place (m.getD 0 0 % 16) :: quoteL (m.drop (stp m))) = _
    rw [unqL_esc (by rw [hx4_place (by omega) (by omega)]; omega) (by rw [hx4_place (by omega) (by omega)]; omega), hih, hx4_place (by omega) (by omega), hx4_place (by omega) (by omega)]
    have hs : stp m = 1 := by
      by_cases hc : m.getD 0 0 < 128
      · unfold stp; rw [wd_low hc]; rfl
      · have : wd m = 0 := by
          refine Decidable.byContradiction fun hw => c ⟨hw, by omega, by omega, by omega⟩
        unfold stp; rw [if_pos this]
    rw [hs]
    cases m with
    | nil => exact absurd rfl h
    | cons a l =>
      simp
      omega
theorem quote_bytes : ∀ m, Bytes m → ∀ x ∈ quoteL m, 32 < x ∧ x ≠ 127 ∧ x < 256 := by
  refine parts_ind (fun _ x hx4 => by rw [quoteL_nil] at hx4; cases hx4) (fun m h ih hb x hx4 => ?_)
  rw [quoteL_cons h] at hx4
  rcases List.mem_append.1 hx4 with h1 | h1
  · by_cases c : wd m ≠ 0 ∧ 32 < m.getD 0 0 ∧ m.getD 0 0 ≠ 127 ∧ m.getD 0 0 ≠ 37
    · have e : qt m = m.take (stp m) := if_pos c
      rw [e] at h1
      have := qt_bare h hb c x h1
      have hB := hb x (List.mem_of_mem_take h1)
      unfold Byte at hB
      exact ⟨this.1, this.2.1, hB.2⟩
    · have e : qt m = [37, place (m.getD 0 0 / 16), place (m.getD 0 0 % 16)] := if_neg c
      rw [e] at h1
      have hB := head_byte hb 0
      unfold Byte at hB
      have pl : ∀ d : Int, 0 ≤ d → d < 16 → 32 < place d ∧ place d ≠ 127 ∧ place d < 256 := by
        intro d h0 h1; unfold place; split <;> omega
      rcases List.mem_cons.1 h1 with rfl | h1
      · omega
      rcases List.mem_cons.1 h1 with rfl | h1
      · exact pl _ (by omega) (by omega)
      · rw [List.mem_singleton.1 h1]
        exact pl _ (by omega) (by omega)
  · exact ih (bytes_drop hb _) x h1
theorem quoteL_isBytes {m : List Int} (hb : Bytes m) : Bytes (quoteL m) := fun x hx4 => by
  have := quote_bytes m hb x hx4
  unfold Byte
  omega
theorem quoteF_isBytes {m : List Int} (hb : Bytes m) : Bytes (quoteF m) := by
  unfold quoteF
  split
  · intro x hx4; rw [List.mem_singleton.1 hx4]; unfold Byte; omega
  · exact quoteL_isBytes hb
/-- a word's text, and why there is none -/
def unqR (w : List Int) : List Int × Int := if w = [37] then ([], 0) else match unqL w with
  | none => ([], 3)
  | some s => if s ≠ [] ∧ quoteF s = w then (s, 0) else ([], 3)
theorem unqL_isBytes : ∀ (w s : List Int), Bytes w → unqL w = some s → Bytes s
  | [], s, _, h => by simp [unqL] at h; subst h; exact bytes_nil
  | [c], s, hb, h => by
    simp only [unqL] at h
    split at h
    · cases h
    · rw [← Option.some.inj h]; exact hb
  | [c, a], s, hb, h => by
    simp only [unqL] at h
    split at h
    · cases h
    · split at h
      · cases h
      · simp at h; subst h; exact hb
  | c :: a :: b :: t, s, hb, h => by
    simp only [unqL] at h
    split at h
    · split at h
      · obtain ⟨r, hr, rfl⟩ := Option.map_eq_some_iff.1 h
        have h1 := hx4_range a
        have h2 := hx4_range b
        exact bytes_cons (by unfold Byte; omega) (unqL_isBytes t r (fun y hy => hb y (by simp [hy])) hr)
      · cases h
    · obtain ⟨r, hr, rfl⟩ := Option.map_eq_some_iff.1 h
      exact bytes_cons (hb c (by simp)) (unqL_isBytes (a :: b :: t) r (fun y hy => hb y (by simp only [List.mem_cons] at hy ⊢; exact Or.inr hy)) hr)
theorem unqR_isBytes {w : List Int} (hb : Bytes w) : Bytes (unqR w).1 := by
  unfold unqR
  split
  · exact bytes_nil
  · split
    · exact bytes_nil
    · rename_i s hs
      split
      · exact unqL_isBytes w s hb hs
      · exact bytes_nil
theorem unqR_back {w : List Int} (h : (unqR w).2 = 0) : quoteF (unqR w).1 = w := by
  unfold unqR at h ⊢
  split
  · rename_i e; rw [e]; rfl
  · rename_i e
    rw [if_neg e] at h
    split
    · rename_i e2; rw [e2] at h; simp at h
    · rename_i s e2
      rw [e2] at h
      dsimp only at h ⊢
      split
      · rename_i e3; exact e3.2
      · rename_i e3; rw [if_neg e3] at h; simp at h
theorem unqR_quote {s : List Int} (hb : Bytes s) : unqR (quoteF s) = (s, 0) := by
  unfold quoteF
  by_cases h : s = []
  · rw [if_pos h, h]; rfl
  · rw [if_neg h]
    have hu := unq_quote s hb
    have hne : quoteL s ≠ [37] := by intro e; rw [e] at hu; simp [unqL] at hu
    unfold unqR
    rw [if_neg hne, hu]
    dsimp only
    rw [if_pos ⟨h, by unfold quoteF; rw [if_neg h]⟩]
theorem quoteF_only {s w : List Int} (hb : Bytes s) (hw : w ≠ [37]) (h : quoteF s = w) : s ≠ [] ∧ unqL w = some s := by
  unfold quoteF at h
  by_cases e : s = []
  · rw [if_pos e] at h; exact absurd h.symm hw
  · rw [if_neg e] at h
    exact ⟨e, by rw [← h]; exact unq_quote s hb⟩
/-- the first n parts -/
def clipL (m : List Int) (n : Nat) : List Int := ((partsL m).take n).flatten
theorem clipL_zero (m : List Int) : clipL m 0 = [] := by simp [clipL]
theorem clipL_cons {m : List Int} (h : m ≠ []) (n : Nat) : clipL m (n + 1) = m.take (stp m) ++ clipL (m.drop (stp m)) n := by
  unfold clipL
  rw [partsL_cons h, List.take_succ_cons, List.flatten_cons]
theorem clipL_pre : ∀ (n : Nat) (m : List Int), ∃ k, k ≤ m.length ∧ clipL m n = m.take k
  | 0, m => ⟨0, by omega, by simp [clipL_zero]⟩
  | n + 1, m => by
    by_cases h : m = []
    · subst h
      exact ⟨0, by simp, by simp [clipL, partsL_nil]⟩
    · obtain ⟨k, hk, e⟩ := clipL_pre n (m.drop (stp m))
      have := stp_le h
      rw [List.length_drop] at hk
      refine ⟨stp m + k, by omega, ?_⟩
      rw [clipL_cons h, e, List.take_add]
theorem parts_clip : ∀ (n : Nat) (m : List Int), partsL (clipL m n) = (partsL m).take n
  | 0, m => by rw [clipL_zero, partsL_nil]; simp
  | n + 1, m => by
    by_cases h : m = []
    · subst h
      simp [clipL, partsL_nil]
    · obtain ⟨k, hk, e⟩ := clipL_pre n (m.drop (stp m))
      have h1 := stp_pos m
      have h2 := stp_le h
      have e2 : clipL m (n + 1) = m.take (stp m + k) := by rw [clipL_cons h, e, List.take_add]
      have hne : m.take (stp m + k) ≠ [] := take_ne h (by omega)
      rw [e2, partsL_cons hne, stp_pre h (by omega), partsL_cons h, List.take_succ_cons, List.take_take, Nat.min_eq_left (by omega), ← parts_clip n, e, List.drop_take, Nat.add_sub_cancel_left]
theorem parts_flat : ∀ m, (partsL m).flatten = m := by
  refine parts_ind (by rw [partsL_nil]; rfl) (fun m h ih => ?_)
  rw [partsL_cons h, List.flatten_cons, ih, List.take_append_drop]

/-! ### the walks' own words, by lists -/
theorem get_str {l : List Int} (hb : Bytes l) (i : Nat) : (((strOfNums l).get! i).toNat : Int) = l.getD i 0 := by
  rw [get_data, strOfNums_data]
  by_cases h : i < l.length
  · have hB := hb _ (List.getElem_mem h)
    unfold Byte at hB
    simp only [List.getD, List.getElem?_map, List.getElem?_eq_getElem h, Option.map_some, Option.getD_some]
    simp
    omega
  · simp [List.getD, List.getElem?_eq_none (Nat.le_of_not_lt h)]
theorem drop_getD0 (l : List Int) (p i : Nat) : (l.drop p).getD i 0 = l.getD (p + i) 0 := getD_drop l p i
theorem dec_str {l : List Int} (hb : Bytes l) {pos : Nat} (h : pos < l.length) :
    (Utf8.decode (strOfNums l) pos).2 = stp (l.drop pos) ∧ strayB (strOfNums l) pos = decide (wd (l.drop pos) = 0) ∧ quoteAt (strOfNums l) pos = (qt (l.drop pos)).map (fun x => UInt8.ofNat x.toNat) := by
  have hne : l.drop pos ≠ [] := by
    intro e
    have := congrArg List.length e
    rw [List.length_drop, List.length_nil] at this
    omega
  have hw := wd_int (l.drop pos)
  rw [drop_getD0, drop_getD0, drop_getD0, drop_getD0, List.length_drop, Nat.add_zero] at hw
  obtain ⟨c, hc⟩ : ∃ c, ((strOfNums l).get! pos).toNat = c := ⟨_, rfl⟩
  obtain ⟨b1, hb1⟩ : ∃ c, ((strOfNums l).get! (pos + 1)).toNat = c := ⟨_, rfl⟩
  obtain ⟨b2, hb2⟩ : ∃ c, ((strOfNums l).get! (pos + 2)).toNat = c := ⟨_, rfl⟩
  obtain ⟨b3, hb3⟩ : ∃ c, ((strOfNums l).get! (pos + 3)).toNat = c := ⟨_, rfl⟩
  have lc : c < 256 := by rw [← hc]; exact ((strOfNums l).get! pos).toNat_lt
  have l1 : b1 < 256 := by rw [← hb1]; exact ((strOfNums l).get! (pos + 1)).toNat_lt
  have l2 : b2 < 256 := by rw [← hb2]; exact ((strOfNums l).get! (pos + 2)).toNat_lt
  have l3 : b3 < 256 := by rw [← hb3]; exact ((strOfNums l).get! (pos + 3)).toNat_lt
  have gc := get_str hb pos
  rw [hc] at gc
  rw [← gc, ← get_str hb (pos + 1), ← get_str hb (pos + 2), ← get_str hb (pos + 3), hb1, hb2, hb3] at hw
  have hd : Utf8.decode (strOfNums l) pos = Lib.decodeN (l.length - pos) c b1 b2 b3 := by rw [Lib.decode_at, hc, hb1, hb2, hb3, strOfNums_size]
  obtain ⟨k0, k1⟩ := decodeN_wid (l.length - pos) c b1 b2 b3 lc l1 l2 l3
  rw [← hw] at k0 k1
  have hm : (l.drop pos).getD 0 0 = (c : Int) := by rw [drop_getD0, Nat.add_zero, gc]
  have four : ∀ j : Nat, j ≤ 4 → j ≤ (l.drop pos).length → [(c : Int), (b1 : Int), (b2 : Int), (b3 : Int)].take j = (l.drop pos).take j := by
    intro j hj hj2
    rw [List.length_drop] at hj2
    apply List.ext_getElem
    · rw [List.length_take, List.length_take, List.length_drop]; simp; omega
    · intro i hi _
      rw [List.length_take] at hi
      have hi4 : i = 0 ∨ i = 1 ∨ i = 2 ∨ i = 3 := by simp at hi; omega
      have hij : i < j := by simp at hi; omega
      rw [List.getElem_take, List.getElem_take, List.getElem_drop]
      have e : l[pos + i]'(by omega) = l.getD (pos + i) 0 := by simp [List.getD, show pos + i < l.length by omega]
      rw [e, ← get_str hb (pos + i)]
      rcases hi4 with rfl | rfl | rfl | rfl
      · simp [hc]
      · simp [hb1]
      · simp [hb2]
      · simp [hb3]
  have place8 : ∀ d : Nat, d < 16 → hexD d = UInt8.ofNat (place (d : Int)).toNat := by
    intro d hd
    have key : ∀ i : Fin 16, hexD i.val = UInt8.ofNat (place ((i.val : Nat) : Int)).toNat := by decide +kernel
    exact key ⟨d, hd⟩
  have esc : [37, hexD (c / 16), hexD (c % 16)] = ([37, place ((c : Int) / 16), place ((c : Int) % 16)] : List Int).map (fun x => UInt8.ofNat x.toNat) := by
    rw [place8 _ (by omega), place8 _ (by omega)]
    rfl
  by_cases z : wd (l.drop pos) = 0
  · have e := k0 (by omega)
    rw [← hd] at e
    have hs : strayB (strOfNums l) pos = true := by unfold strayB; rw [e]; rfl
    refine ⟨?_, ?_, ?_⟩
    · rw [e]; unfold stp; rw [if_pos z]
    · rw [hs]; simp [z]
    · unfold quoteAt
      rw [hs]
      simp only [Bool.not_true, Bool.and_false, Bool.false_eq_true, if_false]
      rw [hc]
      have e2 : qt (l.drop pos) = [37, place ((c : Int) / 16), place ((c : Int) % 16)] := by
        unfold qt
        rw [if_neg (fun h => h.1 z), hm]
      rw [e2, esc]
  · obtain ⟨a1, a2, a3, a4, a5⟩ := k1 (by omega)
    rw [← hd] at a1 a2 a3 a4 a5
    have hst : stp (l.drop pos) = wd (l.drop pos) := by unfold stp; rw [if_neg z]
    have hs : strayB (strOfNums l) pos = false := by
      unfold strayB
      by_cases h1 : (Utf8.decode (strOfNums l) pos).2 = 1
      · have := a4 h1
        have := a3 this
        rw [Bool.and_eq_false_iff]
        left
        simp
        omega
      · simp [h1]
    refine ⟨by rw [hst]; omega, by rw [hs]; simp [z], ?_⟩
    have hpart : [(c : Int), (b1 : Int), (b2 : Int), (b3 : Int)].take ((wd (l.drop pos) : Nat) : Int).toNat = (l.drop pos).take (stp (l.drop pos)) := by
      rw [Int.toNat_natCast, hst]
      exact four _ (wd_le4 _) (wd_le hne)
    rw [hpart] at a5
    unfold quoteAt qt
    rw [hs, hm, hc]
    by_cases cc : c < 128
    · have e1 := a3 cc
      rw [e1]
      by_cases q : 32 < c ∧ c ≠ 127 ∧ c ≠ 37
      · have hbare : bareB c = true := by simp [bareB, q.1, q.2.1, q.2.2]
        rw [hbare, if_pos (by rfl), if_pos (⟨z, by omega, by omega, by omega⟩), ← a5, e1]
        rfl
      · have hbare : bareB c = false := by
          unfold bareB
          rw [Bool.and_eq_false_iff, Bool.and_eq_false_iff]
          by_cases q1 : 32 < c
          · by_cases q2 : c = 127
            · right; left; simp [q2]
            · right; right
              have : c = 37 := Decidable.byContradiction fun q3 => q ⟨q1, q2, q3⟩
              simp [this]
          · left; simp [q1]
        rw [hbare]
        simp only [Bool.false_and, Bool.false_eq_true, if_false]
        rw [if_neg (fun hh => q ⟨by omega, by omega, by omega⟩), esc]
    · have hge : ¬ (Utf8.decode (strOfNums l) pos).1 < 128 := fun hh => cc (a2.1 hh)
      have hbare : bareB (Utf8.decode (strOfNums l) pos).1 = true := by
        unfold bareB
        simp
        omega
      rw [hbare]
      simp only [Bool.not_false, Bool.and_self, if_true]
      have hc194 : 128 ≤ c := by omega
      rw [if_pos (⟨z, by omega, by omega, by omega⟩), ← a5]
      rfl
theorem drop_drop' (l : List Int) (a b : Nat) : (l.drop a).drop b = l.drop (a + b) := by rw [List.drop_drop]
theorem drop_ne {l : List Int} {p : Nat} (h : p < l.length) : l.drop p ≠ [] := by
  intro e
  have := congrArg List.length e
  rw [List.length_drop, List.length_nil] at this
  omega
theorem valid_str {l : List Int} (hb : Bytes l) : ∀ f pos, l.length ≤ pos + f → validFrom (strOfNums l) f pos = (partsL (l.drop pos)).all (fun p => decide (wd p ≠ 0))
  | 0, pos, h => by rw [List.drop_eq_nil_of_le (by omega), partsL_nil]; rfl
  | f + 1, pos, h => by
    unfold validFrom
    rw [strOfNums_size]
    by_cases hp : pos < l.length
    · obtain ⟨d1, d2, _⟩ := dec_str hb hp
      have := stp_pos (l.drop pos)
      rw [if_pos hp, d2, d1, partsL_cons (drop_ne hp), List.all_cons, wd_part (drop_ne hp), drop_drop', ← valid_str hb f (pos + stp (l.drop pos)) (by omega)]
      by_cases z : wd (l.drop pos) = 0 <;> simp [z]
    · rw [if_neg hp, List.drop_eq_nil_of_le (by omega), partsL_nil]; rfl
theorem count_str {l : List Int} (hb : Bytes l) : ∀ f pos, l.length ≤ pos + f → countFrom (strOfNums l) f pos = (partsL (l.drop pos)).length
  | 0, pos, h => by rw [List.drop_eq_nil_of_le (by omega), partsL_nil]; rfl
  | f + 1, pos, h => by
    unfold countFrom
    rw [strOfNums_size]
    by_cases hp : pos < l.length
    · obtain ⟨d1, _, _⟩ := dec_str hb hp
      have := stp_pos (l.drop pos)
      rw [if_pos hp, d1, partsL_cons (drop_ne hp), List.length_cons, drop_drop', ← count_str hb f (pos + stp (l.drop pos)) (by omega)]
    · rw [if_neg hp, List.drop_eq_nil_of_le (by omega), partsL_nil]; rfl
theorem quote_str {l : List Int} (hb : Bytes l) : ∀ f pos, l.length ≤ pos + f → quoteFrom (strOfNums l) f pos = (quoteL (l.drop pos)).map (fun x => UInt8.ofNat x.toNat)
  | 0, pos, h => by rw [List.drop_eq_nil_of_le (by omega), quoteL_nil]; rfl
  | f + 1, pos, h => by
    unfold quoteFrom
    rw [strOfNums_size]
    by_cases hp : pos < l.length
    · obtain ⟨d1, _, d3⟩ := dec_str hb hp
      have := stp_pos (l.drop pos)
      rw [if_pos hp, d1, d3, quoteL_cons (drop_ne hp), List.map_append, drop_drop', ← quote_str hb f (pos + stp (l.drop pos)) (by omega)]
    · rw [if_neg hp, List.drop_eq_nil_of_le (by omega), quoteL_nil]; rfl
theorem clip_str {l : List Int} (hb : Bytes l) : ∀ f pos (n : Int), l.length ≤ pos + f → pos ≤ l.length → clipFrom (strOfNums l) f pos n = strOfNums (l.take pos ++ clipL (l.drop pos) n.toNat)
  | 0, pos, n, h, h2 => by
    rw [List.drop_eq_nil_of_le (by omega), List.take_of_length_le (by omega)]
    simp [clipL, partsL_nil, clipFrom]
  | f + 1, pos, n, h, h2 => by
    unfold clipFrom
    rw [strOfNums_size]
    by_cases hp : pos < l.length
    · obtain ⟨d1, _, d3⟩ := dec_str hb hp
      have := stp_pos (l.drop pos)
      have h3 := stp_le (drop_ne hp)
      rw [List.length_drop] at h3
      rw [if_pos hp, d1]
      by_cases hn : n ≤ 0
      · rw [if_pos hn, show n.toNat = 0 by omega, clipL_zero, List.append_nil, str_extract]
        simp
      · rw [if_neg hn, clip_str hb f (pos + stp (l.drop pos)) (n - 1) (by omega) (by omega), show n.toNat = (n - 1).toNat + 1 by omega, clipL_cons (drop_ne hp), drop_drop', List.take_add, List.append_assoc]
    · rw [if_neg hp, List.drop_eq_nil_of_le (by omega), List.take_of_length_le (by omega)]
      simp [clipL, partsL_nil]
theorem quoteF_len : ∀ m : List Int, (quoteL m).length ≤ 3 * m.length + 3 * 0 ∨ (quoteL m).length ≤ 4 * m.length := by
  refine parts_ind (by rw [quoteL_nil]; simp) (fun m h ih => ?_)
  rw [quoteL_cons h, List.length_append]
  have h1 := stp_pos m
  have h2 := stp_le h
  have h3 : (qt m).length ≤ 3 * stp m := by
    unfold qt
    split
    · rw [List.length_take]; omega
    · simp; omega
  rw [List.length_drop] at ih
  omega
theorem quoteL_len (m : List Int) : (quoteL m).length ≤ 4 * m.length := by
  rcases quoteF_len m with h | h <;> omega
theorem parts_mem : ∀ (m : List Int), ∀ p ∈ partsL m, p ≠ [] ∧ p.take (stp p) = p ∧ p.length ≤ 4 ∧ (Bytes m → Bytes p) := by
  refine parts_ind (fun p hp => by rw [partsL_nil] at hp; cases hp) (fun m h ih p hp => ?_)
  rw [partsL_cons h] at hp
  rcases List.mem_cons.1 hp with rfl | hp
  · refine ⟨take_ne h (stp_pos m), ?_, ?_, fun hb => bytes_take hb _⟩
    · rw [stp_part h, List.take_take, Nat.min_self]
    · rw [List.length_take]
      have := wd_le4 m
      have : stp m ≤ 4 := by unfold stp; split <;> omega
      omega
  · obtain ⟨a, b, c, d⟩ := ih p hp
    exact ⟨a, b, c, fun hb => d (bytes_drop hb _)⟩
/-- the text that the document's reading makes of a word, whatever it is -/
def refD : List Int → List Int
  | [] => []
  | [c] => [c]
  | [c, a] => c :: refD [a]
  | c :: a :: b :: t => if c = 37 ∧ hx4 a < 16 ∧ hx4 b < 16 then (16 * hx4 a + hx4 b) :: refD t else c :: refD (a :: b :: t)
theorem refD_of : ∀ (m s : List Int), unqL m = some s → refD m = s
  | [], s, h => by simp [unqL] at h; subst h; rfl
  | [c], s, h => by
    simp only [unqL] at h
    split at h
    · cases h
    · rw [← Option.some.inj h]; rfl
  | [c, a], s, h => by
    simp only [unqL] at h
    split at h
    · cases h
    · split at h
      · cases h
      · simp at h; subst h; rfl
  | c :: a :: b :: t, s, h => by
    simp only [unqL] at h
    split at h
    · rename_i hc
      split at h
      · rename_i hab
        obtain ⟨r, hr, rfl⟩ := Option.map_eq_some_iff.1 h
        simp only [refD]
        rw [if_pos ⟨hc, hab⟩, refD_of t r hr]
      · cases h
    · rename_i hc
      obtain ⟨r, hr, rfl⟩ := Option.map_eq_some_iff.1 h
      simp only [refD]
      rw [if_neg (fun hh => hc hh.1), refD_of (a :: b :: t) r hr]
theorem refD_bytes : ∀ (m : List Int), Bytes m → Bytes (refD m)
  | [], _ => bytes_nil
  | [c], h => h
  | [c, a], h => bytes_cons (h c (by simp)) (refD_bytes [a] (fun y hy => h y (by simp only [List.mem_cons] at hy ⊢; exact Or.inr hy)))
  | c :: a :: b :: t, h => by
    simp only [refD]
    split
    · have h1 := hx4_range a
      have h2 := hx4_range b
      exact bytes_cons (by unfold Byte; omega) (refD_bytes t (fun y hy => h y (by simp [hy])))
    · exact bytes_cons (h c (by simp)) (refD_bytes (a :: b :: t) (fun y hy => h y (by simp only [List.mem_cons] at hy ⊢; exact Or.inr hy)))
theorem refD_len : ∀ (m : List Int), (refD m).length ≤ m.length
  | [] => by simp [refD]
  | [c] => by simp [refD]
  | [c, a] => by simp [refD]
  | c :: a :: b :: t => by
    simp only [refD]
    split
    · have := refD_len t
      simp
      omega
    · have := refD_len (a :: b :: t)
      simp at this ⊢
      omega
/-- the document's reading of a word comes to the same -/
theorem unqR_ref {w : List Int} (hb : Bytes w) (hw : w ≠ [37]) : unqR w = if quoteF (refD w) = w then (refD w, 0) else ([], 3) := by
  unfold unqR
  rw [if_neg hw]
  by_cases e : quoteF (refD w) = w
  · obtain ⟨h1, h2⟩ := quoteF_only (refD_bytes w hb) hw e
    rw [h2, if_pos e]
    dsimp only
    rw [if_pos ⟨h1, e⟩]
  · rw [if_neg e]
    cases hu : unqL w with
    | none => rfl
    | some s =>
      have := refD_of w s hu
      subst this
      dsimp only
      rw [if_neg (fun h => e h.2)]
end Annulet
