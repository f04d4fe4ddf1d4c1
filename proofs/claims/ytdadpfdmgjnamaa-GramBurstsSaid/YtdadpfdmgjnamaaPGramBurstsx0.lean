/- Written by a program of this session (a turned copy of the kit's print): functions of the program, each with the Lean function that it comes to, and the row of one law. No condition. -/
import Derived.Test.YtdadpfdmgjnamaaProg
import Derived.Test.YtdadpfdmgjnamaaG
import Derived.Below
import Derived.Deep.Draws
import Derived.Deep.AppendLies
import Derived.Maps.AppendAt
import Derived.OwnWalk
import Derived.Laws.BytesArg
import Derived.Laws.MakeOwn
import Derived.Laws.OwnMore
import Derived.Deep.OwnRows
import Derived.Tactics
import Derived.Lib.ConvBytes
import Derived.Laws.Slices
import Derived.WalkKit
import Derived.KernelRfl
import Derived.RowKit3
import Derived.Deep.LoopGhost
import Derived.Deep.QuietTactic
import Derived.BigQuiet
import Derived.WideLaws
import Derived.Deep.DeepCutAuto
import Derived.Deep.CutBlock
import Derived.Deep.RegionHeld3
import Derived.Laws.Rows
import Derived.Lib.AppendStr
import Derived.ArgAppend
import Derived.Laws.IdiomCopy
import Derived.OrdersHeld
import Derived.Laws.BitsLemmas
import Derived.RowKit
import Derived.Lib.SliceRun
import Derived.WalkSpells
import Derived.Test.YtdadpfdmgjnamaaWWords
import Derived.Test.YtdadpfdmgjnamaaWLast
import Derived.Test.YtdadpfdmgjnamaaWTab
import Derived.Test.YtdadpfdmgjnamaaWFour
import Derived.Test.YtdadpfdmgjnamaaWQPut
import Derived.Test.YtdadpfdmgjnamaaWApart
import Derived.Test.YtdadpfdmgjnamaaWArr
import Derived.Test.YtdadpfdmgjnamaaWZeros
import Derived.Test.YtdadpfdmgjnamaaWFoot
import Derived.Test.YtdadpfdmgjnamaaWKept
import Derived.Test.YtdadpfdmgjnamaaWShare
import Derived.Test.YtdadpfdmgjnamaaWN
import Derived.Test.YtdadpfdmgjnamaaWFootNe
import Derived.Test.YtdadpfdmgjnamaaWAt
import Derived.Test.YtdadpfdmgjnamaaWEqStruct
import Derived.Test.YtdadpfdmgjnamaaWRepsOne
import Derived.Test.YtdadpfdmgjnamaaWInv
import Derived.Test.YtdadpfdmgjnamaaWInvWords
import Derived.Test.YtdadpfdmgjnamaaWGuard
import Derived.Test.YtdadpfdmgjnamaaWNEv
import Derived.Test.YtdadpfdmgjnamaaWMore
namespace Go.Proofs.Ytdadpfdmgjnamaa.PGramBursts
open Go.RowKit Go.Proofs.YtdadpfdmgjnamaaW.PrintWords Go.Proofs.YtdadpfdmgjnamaaW.PrintLast Go.Proofs.YtdadpfdmgjnamaaW.PrintMore
attribute [local go_sem] max2_int min2_int max_two min_two max_three min_three max_four min_four   -- for this text's walks alone
set_option linter.unusedVariables false
set_option linter.unusedSimpArgs false



def errW : Option Int → Value
  | none => .nilIface
  | some c => .iface 0 (.int .i64 c)
theorem errW_none : errW none = .nilIface := rfl
theorem errW_some (c : Int) : errW (some c) = .iface 0 (.int .i64 c) := rfl

theorem info5 : (Try.prog.info? 5).map (fun i => (i.zero, i.size, i.bytes)) = some (some (.int .u8 0), 1, 1) := by kernel_rfl
-- the values' own types
def rd_L1 (xs : List (List Int)) (i : Int) : (List Int) := xs.getD i.toNat ([] : List Int)
theorem at_L1 {w : World} {A : Option Addr} {n : Nat} {xs : List (List Int)} (h : Kd.C (Kd.slice 5 (Kd.int .u8)) w A n xs) (i : Int) (h0 : 0 ≤ i) (h1 : i < n) : ∃ ad A0 c0, A = some ad ∧ w.cell? (ad.add i.toNat) = some (.slice A0 (rd_L1 xs i).length c0) ∧ (rd_L1 xs i).length ≤ c0 ∧ (Kd.int .u8).C w A0 (rd_L1 xs i).length (rd_L1 xs i) := by
  obtain ⟨ad, c, e, _, hK, hc0⟩ := Kd.C_get h ([] : List Int) i h0 h1
  have hc : ∀ j u, c[j]? = some u → w.cell? (ad.add (i.toNat * 1 + j)) = some u := hc0
  obtain ⟨A0, c0, rfl, l0, g0⟩ := hK
  exact ⟨ad, A0, c0, e, by have hq := hc 0 _ rfl; rwa [Nat.mul_one, Nat.add_zero] at hq, l0, g0⟩

/-! #### struct type 26 -/
structure S26 where
  f0 : Int
  f1 : Int
  f2 : Int
  f3 : Int
  f4 : Int
  f5 : Int
  f6 : (List Int)
def z26 : S26 := ⟨(0 : Int), (0 : Int), (0 : Int), (0 : Int), (0 : Int), (0 : Int), ([] : List Int)⟩
def k26 : Kd S26 := Kd.iso (Kd.pair (Kd.int .u8) (Kd.pair (Kd.int .u8) (Kd.pair (Kd.int .u32) (Kd.pair (Kd.int .u32) (Kd.pair (Kd.int .u16) (Kd.pair (Kd.int .u16) (Kd.slice 5 (Kd.int .u8)))))))) (fun x : S26 => (x.f0, x.f1, x.f2, x.f3, x.f4, x.f5, x.f6))
theorem k26_open {w : World} {x : S26} {cs : List Value} (h : k26.K w x cs) : ∃ A6 c6, cs = [.int .u8 x.f0, .int .u8 x.f1, .int .u32 x.f2, .int .u32 x.f3, .int .u16 x.f4, .int .u16 x.f5, .slice A6 x.f6.length c6] ∧ x.f6.length ≤ c6 ∧ (Kd.int .u8).C w A6 x.f6.length x.f6 := by
  obtain ⟨_, _, rfl, rfl, ⟨_, _, rfl, rfl, ⟨_, _, rfl, rfl, ⟨_, _, rfl, rfl, ⟨_, _, rfl, rfl, ⟨_, _, rfl, rfl, ⟨A6, c6, rfl, l6, g6⟩⟩⟩⟩⟩⟩⟩ := h
  exact ⟨A6, c6, rfl, l6, g6⟩
theorem k26_openM {w : World} {base : Nat} {ok : Nat → Prop} {x : S26} {cs : List Value} (h : k26.M w base ok x cs) : ∃ v6, cs = [.int .u8 x.f0, .int .u8 x.f1, .int .u32 x.f2, .int .u32 x.f3, .int .u16 x.f4, .int .u16 x.f5, v6] ∧ (Kd.int .u8).R 5 w base ok v6 x.f6 := by
  obtain ⟨_, _, rfl, rfl, ⟨_, _, rfl, rfl, ⟨_, _, rfl, rfl, ⟨_, _, rfl, rfl, ⟨_, _, rfl, rfl, ⟨_, _, rfl, rfl, ⟨v6, rfl, g6⟩⟩⟩⟩⟩⟩⟩ := h
  exact ⟨v6, rfl, g6⟩
theorem k26_mk (w : World) (x : S26) {A6 : Option Addr} {c6 : Nat} (l6 : x.f6.length ≤ c6) (g6 : (Kd.int .u8).C w A6 x.f6.length x.f6) : k26.K w x [.int .u8 x.f0, .int .u8 x.f1, .int .u32 x.f2, .int .u32 x.f3, .int .u16 x.f4, .int .u16 x.f5, .slice A6 x.f6.length c6] := ⟨[.int .u8 x.f0], [.int .u8 x.f1, .int .u32 x.f2, .int .u32 x.f3, .int .u16 x.f4, .int .u16 x.f5, .slice A6 x.f6.length c6], rfl, rfl, ⟨[.int .u8 x.f1], [.int .u32 x.f2, .int .u32 x.f3, .int .u16 x.f4, .int .u16 x.f5, .slice A6 x.f6.length c6], rfl, rfl, ⟨[.int .u32 x.f2], [.int .u32 x.f3, .int .u16 x.f4, .int .u16 x.f5, .slice A6 x.f6.length c6], rfl, rfl, ⟨[.int .u32 x.f3], [.int .u16 x.f4, .int .u16 x.f5, .slice A6 x.f6.length c6], rfl, rfl, ⟨[.int .u16 x.f4], [.int .u16 x.f5, .slice A6 x.f6.length c6], rfl, rfl, ⟨[.int .u16 x.f5], [.slice A6 x.f6.length c6], rfl, rfl, ⟨A6, c6, rfl, l6, g6⟩⟩⟩⟩⟩⟩⟩
theorem k26_mkM (w : World) (base : Nat) (ok : Nat → Prop) (x : S26) {v6 : Value} (g6 : (Kd.int .u8).R 5 w base ok v6 x.f6) : k26.M w base ok x [.int .u8 x.f0, .int .u8 x.f1, .int .u32 x.f2, .int .u32 x.f3, .int .u16 x.f4, .int .u16 x.f5, v6] := ⟨[.int .u8 x.f0], [.int .u8 x.f1, .int .u32 x.f2, .int .u32 x.f3, .int .u16 x.f4, .int .u16 x.f5, v6], rfl, rfl, ⟨[.int .u8 x.f1], [.int .u32 x.f2, .int .u32 x.f3, .int .u16 x.f4, .int .u16 x.f5, v6], rfl, rfl, ⟨[.int .u32 x.f2], [.int .u32 x.f3, .int .u16 x.f4, .int .u16 x.f5, v6], rfl, rfl, ⟨[.int .u32 x.f3], [.int .u16 x.f4, .int .u16 x.f5, v6], rfl, rfl, ⟨[.int .u16 x.f4], [.int .u16 x.f5, v6], rfl, rfl, ⟨[.int .u16 x.f5], [v6], rfl, rfl, ⟨v6, rfl, g6⟩⟩⟩⟩⟩⟩⟩
def rd_T26 (xs : List S26) (i : Int) : S26 := xs.getD i.toNat z26
theorem at_T26 {w : World} {A : Option Addr} {n : Nat} {xs : List S26} (h : Kd.C k26 w A n xs) (i : Int) (h0 : 0 ≤ i) (h1 : i < n) : ∃ ad A6 c6, A = some ad ∧ w.cell? (ad.add (i.toNat * 7)) = some (.int .u8 (rd_T26 xs i).f0) ∧ w.cell? ⟨(ad.add (i.toNat * 7)).block, (ad.add (i.toNat * 7)).off + 1, none⟩ = some (.int .u8 (rd_T26 xs i).f1) ∧ w.cell? ⟨(ad.add (i.toNat * 7)).block, (ad.add (i.toNat * 7)).off + 2, none⟩ = some (.int .u32 (rd_T26 xs i).f2) ∧ w.cell? ⟨(ad.add (i.toNat * 7)).block, (ad.add (i.toNat * 7)).off + 3, none⟩ = some (.int .u32 (rd_T26 xs i).f3) ∧ w.cell? ⟨(ad.add (i.toNat * 7)).block, (ad.add (i.toNat * 7)).off + 4, none⟩ = some (.int .u16 (rd_T26 xs i).f4) ∧ w.cell? ⟨(ad.add (i.toNat * 7)).block, (ad.add (i.toNat * 7)).off + 5, none⟩ = some (.int .u16 (rd_T26 xs i).f5) ∧ w.cell? ⟨(ad.add (i.toNat * 7)).block, (ad.add (i.toNat * 7)).off + 6, none⟩ = some (.slice A6 (rd_T26 xs i).f6.length c6) ∧ (rd_T26 xs i).f6.length ≤ c6 ∧ (Kd.int .u8).C w A6 (rd_T26 xs i).f6.length (rd_T26 xs i).f6 := by
  obtain ⟨ad, c, e, _, hK, hc0⟩ := Kd.C_get h z26 i h0 h1
  have hc : ∀ j u, c[j]? = some u → w.cell? (ad.add (i.toNat * 7 + j)) = some u := hc0
  obtain ⟨A6, c6, rfl, l6, g6⟩ := k26_open hK
  exact ⟨ad, A6, c6, e, hc 0 _ rfl, by rw [← add_field _ _ 1 (by omega)]; exact hc 1 _ rfl, by rw [← add_field _ _ 2 (by omega)]; exact hc 2 _ rfl, by rw [← add_field _ _ 3 (by omega)]; exact hc 3 _ rfl, by rw [← add_field _ _ 4 (by omega)]; exact hc 4 _ rfl, by rw [← add_field _ _ 5 (by omega)]; exact hc 5 _ rfl, by rw [← add_field _ _ 6 (by omega)]; exact hc 6 _ rfl, l6, g6⟩

end Go.Proofs.Ytdadpfdmgjnamaa.PGramBursts
