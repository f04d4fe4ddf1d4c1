/- Written in this session: plain words on texts rune by rune, and on unicode/utf8's two tables. No condition. -/
import Derived.Test.YtmohmmpcadlfkaaDoorShelf
import Derived.Test.YtmohmmpcadlfkaaDoorG
import Derived.Lib.OthersKept
import Derived.Lib.LaidU8
import Derived.Lib.RuneBytes
import Derived.Lib.DecodeN
import Derived.Lib.Strings
import Derived.Laws.RangeAny
import Derived.WalkSmall
import Derived.Below
namespace Go.Proofs.YtmohmmpcadlfkaaDoorW.PrintWords
open Go.RowKit
theorem tabs_later {gF gA : Nat} {w w' : World} (h : Lib.Utf8Tabs gF gA w) (hb : Below w.heap.size w w') : Lib.Utf8Tabs gF gA w' := by
  refine ⟨fun c hc => (hb.cell (World.block_lt_of_cell? _ _ (h.1 c hc))).trans (h.1 c hc), fun i hi => ⟨(hb.cell (World.block_lt_of_cell? _ _ (h.2 i hi).1)).trans (h.2 i hi).1, (hb.cell (World.block_lt_of_cell? _ _ (h.2 i hi).2)).trans (h.2 i hi).2⟩⟩
def strayB (s : ByteArray) (pos : Nat) : Bool := (Utf8.decode s pos).1 == 65533 && (Utf8.decode s pos).2 == 1
def validFrom (s : ByteArray) : Nat → Nat → Bool
  | 0, _ => true
  | f + 1, pos => if pos < s.size then (if strayB s pos = true then false else validFrom s f (pos + (Utf8.decode s pos).2)) else true
def countFrom (s : ByteArray) : Nat → Nat → Nat
  | 0, _ => 0
  | f + 1, pos => if pos < s.size then countFrom s f (pos + (Utf8.decode s pos).2) + 1 else 0
def clipFrom (s : ByteArray) : Nat → Nat → Int → ByteArray
  | 0, _, _ => s
  | f + 1, pos, n => if pos < s.size then (if n ≤ 0 then s.extract 0 pos else clipFrom s f (pos + (Utf8.decode s pos).2) (n - 1)) else s
def hexD (n : Nat) : UInt8 := if n < 10 then (48 + n).toUInt8 else (87 + n).toUInt8
def bareB (c : Nat) : Bool := decide (32 < c) && (c != 127 && c != 37)
def quoteAt (s : ByteArray) (pos : Nat) : List UInt8 := if (bareB (Utf8.decode s pos).1 && !strayB s pos) = true then Lib.encodeRune ((Utf8.decode s pos).1 : Int) else [37, hexD ((s.get! pos).toNat / 16), hexD ((s.get! pos).toNat % 16)]
def quoteFrom (s : ByteArray) : Nat → Nat → List UInt8
  | 0, _ => []
  | f + 1, pos => if pos < s.size then quoteAt s pos ++ quoteFrom s f (pos + (Utf8.decode s pos).2) else []
theorem get_data (s : ByteArray) (i : Nat) : s.get! i = s.data.toList.getD i 0 := by
  cases s with
  | mk d =>
    show d[i]! = d.toList.getD i 0
    by_cases h : i < d.size
    · rw [getElem!_pos d i h]; simp [List.getD, h]
    · rw [getElem!_neg d i h]; simp [List.getD, h]; rfl
theorem cut_size (s : ByteArray) (n : Nat) : (s.extract n s.size).size = s.size - n := by
  rw [Lib.size_eq, Lib.extract_data, List.length_take, List.length_drop, ← Lib.size_eq]
  omega
theorem cut_get (s : ByteArray) (n j : Nat) : (s.extract n s.size).get! j = s.get! (n + j) := by
  rw [get_data, get_data, Lib.extract_data, List.take_of_length_le (by rw [List.length_drop, ← Lib.size_eq]; exact Nat.le_refl _)]
  simp [List.getD, List.getElem?_drop]
theorem decode_cut (s : ByteArray) (pos : Nat) (h : pos < s.size) : Lib.decodeGo (s.extract pos s.size) = Utf8.decode s pos := by
  unfold Lib.decodeGo
  rw [if_neg (by rw [cut_size]; omega), Lib.decode_at, Lib.decode_at, cut_size, cut_get, cut_get, cut_get, cut_get]
  rfl
theorem width_pos (s : ByteArray) (pos : Nat) (h : pos < s.size) : 1 ≤ (Utf8.decode s pos).2 := by
  by_cases ha : (s[pos]'h).toNat < 128
  · rw [decode_ascii s pos h ha]
    exact Nat.le_refl _
  · exact (decode_high s pos h (by omega)).2
theorem hex_fin : ∀ d : Fin 16, ((({ data := #[48, 49, 50, 51, 52, 53, 54, 55, 56, 57, 97, 98, 99, 100, 101, 102] } : ByteArray)[d.val]'(by have := d.isLt; show d.val < 16; omega)).toNat : Int) = ((hexD d.val).toNat : Int) := by decide
theorem hex_at (j : Int) (d : Nat) (hj : j = (d : Int)) (hd : d < 16) : ∀ h : j.toNat < ({ data := #[48, 49, 50, 51, 52, 53, 54, 55, 56, 57, 97, 98, 99, 100, 101, 102] } : ByteArray).size, ((({ data := #[48, 49, 50, 51, 52, 53, 54, 55, 56, 57, 97, 98, 99, 100, 101, 102] } : ByteArray)[j.toNat]'h).toNat : Int) = ((hexD d).toNat : Int) := by
  subst hj
  intro h
  exact hex_fin ⟨d, hd⟩
theorem width_le (s : ByteArray) (pos : Nat) : (Utf8.decode s pos).2 ≤ 4 := by
  simp only [Utf8.decode]
  repeat' split
  all_goals omega
theorem quoteFrom_end (s : ByteArray) (f pos : Nat) (h : ¬ pos < s.size) : quoteFrom s f pos = [] := by
  cases f with
  | zero => rfl
  | succ f => simp [quoteFrom, h]
theorem countFrom_le (s : ByteArray) : ∀ f pos, countFrom s f pos ≤ f
  | 0, _ => Nat.le_refl _
  | f + 1, pos => by
    unfold countFrom
    split
    · have := countFrom_le s f (pos + (Utf8.decode s pos).2)
      omega
    · omega
end Go.Proofs.YtmohmmpcadlfkaaDoorW.PrintWords
