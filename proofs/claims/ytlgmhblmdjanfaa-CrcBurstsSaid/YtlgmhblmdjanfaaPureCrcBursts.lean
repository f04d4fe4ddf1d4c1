/- CrcBursts: a text of which some bits were turned, all of them within 32 in a row, has another sum. No condition. -/
import Derived.Test.YtlgmhblmdjanfaaPCrcBurstsx2
import Derived.Test.YtlgmhblmdjanfaaMath
set_option linter.unusedVariables false
set_option linter.unusedSimpArgs false
namespace Go.Proofs.Ytlgmhblmdjanfaa.PCrcBursts
open Go.RowKit Go.Proofs.YtlgmhblmdjanfaaW.PrintWords Go.Proofs.YtlgmhblmdjanfaaW.PrintLast Go.Proofs.YtlgmhblmdjanfaaW.PrintMore Annulet

/-! ### package crc -/
theorem lk_crc_Step (s : Int) (l : List Int) (h0 : 0 ≤ s) (h1 : s < 4294967296) (hb : Bytes l) : crc_Step.f s l = some ((stepN s.toNat l : Nat) : Int) := by
  obtain ⟨n, rfl⟩ := Int.eq_ofNat_of_zero_le h0
  unfold crc_Step.f
  rw [Int.toNat_natCast]
  split
  · rw [stepSmall_nat l hb n (by omega)]
  · rw [stepTab_nat l hb n (by omega)]
theorem lk_crc_Sum (l : List Int) (hb : Bytes l) : crc_Sum.f l = some ((sumN l : Nat) : Int) := by
  unfold crc_Sum.f
  rw [lk_crc_Step 4294967295 l (by omega) (by omega) hb]
  have hl := stepN_lt l hb 4294967295 (by decide)
  simp only [Option.bind_some]
  rw [show (4294967295 : Int).toNat = 4294967295 from rfl, show (4294967295 : Int) = ((4294967295 : Nat) : Int) from rfl, u32_xor_nat _ _ (by decide) hl]
  rfl
theorem lk_crc_Flip (l : List Int) (a m : Int) (hl : l.length ≤ 281474976710656) (ha : -9223372036854775808 ≤ a) (ha' : a < 9223372036854775808) : crc_Flip.f l a m = some (flipL l.length a m l 32) := by
  unfold crc_Flip.f
  rw [if_pos hl, if_pos ha, if_pos ha']
theorem lk_awake02 : annuletlaw02_awake.f = some true := by
  have e1 : crc_Sum.f (([49, 50, 51, 52, 53, 54, 55, 56, 57] : List Int)) = some 3808858755 := by decide +kernel
  have e2 : crc_Sum.f ([] : List Int) = some 0 := by decide +kernel
  have e3 : crc_Flip.f (([0, 0] : List Int)) 7 3 = some [128, 1] := by decide +kernel
  have e4 : crc_Join.f 5 6 0 = some 3 := by
    unfold crc_Join.f
    rw [if_pos (by omega), show (0 : Int).toNat = 0 from rfl, joinL, if_pos rfl]
    decide +kernel
  unfold annuletlaw02_awake.f
  rw [e1, e2, e3, e4]
  decide +kernel
theorem CrcBursts_law : annuletlaw02_CrcBursts.Pure := by
  intro l0 a1 a2 _ hl hw hw1 hw2
  have hb := bytes_of_wf hw
  have h1 := wf_i64 hw1
  have h2 := wf_u32 hw2
  unfold annuletlaw02_CrcBursts.f
  by_cases c1 : (l0.length : Int) > 600
  · rw [if_pos c1, lk_awake02, Option.bind_some]
  have hB := flipL_bytes l0 hb a1 a2 h2.1 h2.2
  rw [if_neg c1, lk_crc_Flip l0 a1 a2 (by omega) h1.1 h1.2, Option.bind_some, lk_crc_Sum _ hB, Option.bind_some, lk_crc_Sum _ hb, Option.bind_some]
  by_cases c2 : flipL l0.length a1 a2 l0 32 = l0
  · rw [c2, if_pos rfl, if_pos rfl, lk_awake02, Option.bind_some]
  · have c3 : ¬ ((sumN (flipL l0.length a1 a2 l0 32) : Nat) : Int) = ((sumN l0 : Nat) : Int) := fun h => c2 (flip_sum l0 hb a1 a2 h2.1 h2.2 (by omega))
    have c4 : ¬ (strOfNums (flipL l0.length a1 a2 l0 32)).toList = (strOfNums l0).toList := by rw [str_eq hB hb]; exact c2
    rw [if_neg c3, if_neg c4, lk_awake02, Option.bind_some]
end Go.Proofs.Ytlgmhblmdjanfaa.PCrcBursts
namespace Go.Proofs.Ytlgmhblmdjanfaa.Pure
open Go.Proofs.Ytlgmhblmdjanfaa.PCrcBursts
theorem CrcBursts : annuletlaw02_CrcBursts.Pure := CrcBursts_law
end Go.Proofs.Ytlgmhblmdjanfaa.Pure
