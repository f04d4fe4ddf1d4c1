/- CrcParts: a text's sum is made of its two parts' sums, and a register goes through parts as through the whole. No condition. -/
import Derived.Test.YtlgmhblmdjanfaaPCrcPartsx2
import Derived.Test.YtlgmhblmdjanfaaMath
set_option linter.unusedVariables false
set_option linter.unusedSimpArgs false
namespace Go.Proofs.Ytlgmhblmdjanfaa.PCrcParts
open Go.RowKit Go.Proofs.YtlgmhblmdjanfaaW.PrintWords Go.Proofs.YtlgmhblmdjanfaaW.PrintLast Go.Proofs.YtlgmhblmdjanfaaW.PrintMore Annulet

/-! ### package crc -/
theorem lk_crc_Step (s : Int) (l : List Int) (h0 : 0 ≤ s) (h1 : s < 4294967296) (hb : Bytes l) : crc_Step.f s l = some ((stepN s.toNat l : Nat) : Int) := by
  obtain ⟨n, rfl⟩ := Int.eq_ofNat_of_zero_le h0
  unfold crc_Step.f
  rw [Int.toNat_natCast]
  split
  · rw [stepSmall_nat l hb n (by omega)]
  · rw [stepTab_nat l hb n (by omega)]
theorem lk_crc_Sum (l : List Int) (hb : Bytes l) : crc_Sum.f l = some ((sumN l : Nat) : Int) := by
  unfold crc_Sum.f
  rw [lk_crc_Step 4294967295 l (by omega) (by omega) hb]
  have hl := stepN_lt l hb 4294967295 (by decide)
  simp only [Option.bind_some]
  rw [show (4294967295 : Int).toNat = 4294967295 from rfl, show (4294967295 : Int) = ((4294967295 : Nat) : Int) from rfl, u32_xor_nat _ _ (by decide) hl]
  rfl
theorem lk_crc_Join (a b : Nat) (n : Int) (ha : a < 4294967296) (hb : b < 4294967296) (hn : n < 9223372036854775808) : crc_Join.f (a : Int) (b : Int) n = some ((iterN (iterN bitN 8) n.toNat a ^^^ b : Nat) : Int) := by
  unfold crc_Join.f
  rw [if_pos hn, byteL_mat, joinL_eq _ good_bit8 a ha, u32_xor_nat _ _ (iterN_lt8 ha _) hb]
theorem lk_awake02 : annuletlaw02_awake.f = some true := by
  have e1 : crc_Sum.f (([49, 50, 51, 52, 53, 54, 55, 56, 57] : List Int)) = some 3808858755 := by decide +kernel
  have e2 : crc_Sum.f ([] : List Int) = some 0 := by decide +kernel
  have e3 : crc_Flip.f (([0, 0] : List Int)) 7 3 = some [128, 1] := by decide +kernel
  have e4 : crc_Join.f 5 6 0 = some 3 := by
    unfold crc_Join.f
    rw [if_pos (by omega), show (0 : Int).toNat = 0 from rfl, joinL, if_pos rfl]
    decide +kernel
  unfold annuletlaw02_awake.f
  rw [e1, e2, e3, e4]
  decide +kernel
theorem CrcParts_law : annuletlaw02_CrcParts.Pure := by
  intro l0 l1 a2 _ _ hw _ _ hw1 hw2
  have hb0 := bytes_of_wf hw
  have hb1 := bytes_of_wf hw1
  have h2 := wf_u32 hw2
  refine Ev.rounds (g := fun k => annuletlaw02_CrcParts.f k l0 l1 a2) ?_
  have htrue : Ev (fun k => annuletlaw02_CrcParts.j0 k l0 l1 a2 true) true := by
    refine ev_const fun k => ?_
    rw [annuletlaw02_CrcParts.j0, if_pos rfl, lk_awake02]
    rfl
  unfold annuletlaw02_CrcParts.f
  by_cases c1 : (l0.length : Int) > 600
  · simp only [if_pos c1]; exact htrue
  simp only [if_neg c1]
  by_cases c2 : (l1.length : Int) > 600
  · simp only [decide_eq_true c2]; exact htrue
  simp only [decide_eq_false c2]
  refine ev_const fun k => ?_
  have g1 : ([] : List Int).length + l0.length < 140737488355328 := by rw [List.length_nil]; omega
  have g2 : (l0 : List Int).length + l1.length < 140737488355328 := by omega
  have hb := bytes_append hb0 hb1
  rw [annuletlaw02_CrcParts.j0, if_neg (by decide), Option.bind_some, if_pos g1, Option.bind_some, List.nil_append, if_pos g2, Option.bind_some]
  rw [lk_crc_Sum _ hb, lk_crc_Sum _ hb0, lk_crc_Sum _ hb1, Option.bind_some, Option.bind_some, Option.bind_some]
  rw [lk_crc_Join _ _ _ (sumN_lt _ hb0) (sumN_lt _ hb1) (by omega), Int.toNat_natCast, ← sum_parts _ _ hb0 hb1, Option.bind_some, if_pos rfl]
  rw [lk_crc_Step a2 _ h2.1 h2.2 hb, lk_crc_Step a2 _ h2.1 h2.2 hb0, Option.bind_some, Option.bind_some]
  have hs := stepN_lt l0 hb0 a2.toNat (by omega)
  rw [lk_crc_Step _ l1 (by omega) (by omega) hb1, Int.toNat_natCast, ← stepN_append, Option.bind_some, if_pos rfl, lk_awake02]
  rfl
end Go.Proofs.Ytlgmhblmdjanfaa.PCrcParts
namespace Go.Proofs.Ytlgmhblmdjanfaa.Pure
open Go.Proofs.Ytlgmhblmdjanfaa.PCrcParts
theorem CrcParts : annuletlaw02_CrcParts.Pure := CrcParts_law
end Go.Proofs.Ytlgmhblmdjanfaa.Pure
