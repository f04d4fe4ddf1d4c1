/- BenDeep: lists in one another are parsed up to eight levels, and refused beyond. No condition. -/
import Derived.Test.YtekcnfngcgchcaaPBenDeepx6
import Derived.Test.YtekcnfngcgchcaaMath
set_option linter.unusedVariables false
set_option linter.unusedSimpArgs false
namespace Go.Proofs.Ytekcnfngcgchcaa.PBenDeep
open Go.RowKit Go.Proofs.YtekcnfngcgchcaaW.PrintWords Go.Proofs.YtekcnfngcgchcaaW.PrintLast Go.Proofs.YtekcnfngcgchcaaW.PrintMore Annulet
/- BenDeep: what the parser makes of lists in one another is reckoned by the kernel: up to eight levels one by one, beyond them by the ninth byte. -/
theorem ben_part {l : List Int} {e : Int} (h : (ben_Parse.f 60 l).map (·.2) = some e) : ∃ T, ben_Parse.f 60 l = some (T, e) := by
  obtain ⟨⟨T, e1⟩, h1, h2⟩ := Option.map_eq_some_iff.1 h
  cases h2
  exact ⟨T, h1⟩
theorem ben_awake : law12_awake.ok 60 := by
  refine ⟨by kernel_rfl, ben_part (by kernel_rfl), ben_part (by kernel_rfl), ben_part (by kernel_rfl), ben_part (by kernel_rfl), ?_⟩
  have h : (ben_Parse.f 60 [100, 49, 58, 97, 105, 49, 101, 49, 58, 98, 105, 50, 101, 101]).map (fun r => (r.2, r.1.f3.length)) = some (0, 2) := by kernel_rfl
  obtain ⟨⟨T, e1⟩, h1, h2⟩ := Option.map_eq_some_iff.1 h
  injection h2 with h3 h4
  dsimp only at h3 h4
  subst h3
  exact ⟨T, h1, h4⟩
theorem ben_nine (t : List Int) : (ben_Parse.f 60 (108 :: 108 :: 108 :: 108 :: 108 :: 108 :: 108 :: 108 :: 108 :: t)).map (·.2) = some 6 := by kernel_rfl
theorem ben_d1 : (ben_Parse.f 60 (deepL 1)).map (·.2) = some 0 := by kernel_rfl
theorem ben_d2 : (ben_Parse.f 60 (deepL 2)).map (·.2) = some 0 := by kernel_rfl
theorem ben_d3 : (ben_Parse.f 60 (deepL 3)).map (·.2) = some 0 := by kernel_rfl
theorem ben_d4 : (ben_Parse.f 60 (deepL 4)).map (·.2) = some 0 := by kernel_rfl
theorem ben_d5 : (ben_Parse.f 60 (deepL 5)).map (·.2) = some 0 := by kernel_rfl
theorem ben_d6 : (ben_Parse.f 60 (deepL 6)).map (·.2) = some 0 := by kernel_rfl
theorem ben_d7 : (ben_Parse.f 60 (deepL 7)).map (·.2) = some 0 := by kernel_rfl
theorem ben_d8 : (ben_Parse.f 60 (deepL 8)).map (·.2) = some 0 := by kernel_rfl
theorem ben_deep (n : Nat) (h1 : 1 ≤ n) : ∃ (T : S25) (e : Int), ben_Parse.f 60 (deepL n) = some (T, e) ∧ (((n : Int) ≤ 8 ∧ e = 0) ∨ (8 < (n : Int) ∧ e = 6)) := by
  by_cases h8 : n ≤ 8
  · have key : (ben_Parse.f 60 (deepL n)).map (·.2) = some 0 := by
      have hn : n = 1 ∨ n = 2 ∨ n = 3 ∨ n = 4 ∨ n = 5 ∨ n = 6 ∨ n = 7 ∨ n = 8 := by omega
      rcases hn with rfl | rfl | rfl | rfl | rfl | rfl | rfl | rfl
      · exact ben_d1
      · exact ben_d2
      · exact ben_d3
      · exact ben_d4
      · exact ben_d5
      · exact ben_d6
      · exact ben_d7
      · exact ben_d8
    obtain ⟨T, hT⟩ := ben_part key
    exact ⟨T, 0, hT, .inl ⟨by omega, rfl⟩⟩
  · obtain ⟨m, rfl⟩ : ∃ m, n = m + 9 := ⟨n - 9, by omega⟩
    have e : deepL (m + 9) = 108 :: 108 :: 108 :: 108 :: 108 :: 108 :: 108 :: 108 :: 108 :: (List.replicate m 108 ++ List.replicate (m + 9) 101) := rfl
    obtain ⟨T, hT⟩ := ben_part (ben_nine (List.replicate m 108 ++ List.replicate (m + 9) 101))
    exact ⟨T, 6, by rw [e]; exact hT, .inr ⟨by omega, rfl⟩⟩
theorem BenDeep_law : annuletlaw12_BenDeep.Pure := by
  intro a0 hw
  refine ⟨60, ?_⟩
  unfold annuletlaw12_BenDeep.f
  refine if_pos ⟨ben_awake, ?_⟩
  by_cases c1 : a0 < 1
  · exact .inl c1
  obtain ⟨n, rfl⟩ := Int.eq_ofNat_of_zero_le (show 0 ≤ a0 by omega)
  obtain ⟨T, e, h, h2⟩ := ben_deep n (by omega)
  exact .inr (.inr ⟨T, e, by rw [Int.toNat_natCast]; exact h, h2⟩)
end Go.Proofs.Ytekcnfngcgchcaa.PBenDeep
namespace Go.Proofs.Ytekcnfngcgchcaa.Pure
open Go.Proofs.Ytekcnfngcgchcaa.PBenDeep
theorem BenDeep : annuletlaw12_BenDeep.Pure := BenDeep_law
end Go.Proofs.Ytekcnfngcgchcaa.Pure
