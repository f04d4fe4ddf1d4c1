/- SplitCounts: into how many parts any number of bytes go, or that it is too many, is the document's. No condition. -/
import Derived.Test.YtplloiinedbnlaaPSplitCountsx3
import Derived.Test.YtplloiinedbnlaaMath
set_option linter.unusedVariables false
set_option linter.unusedSimpArgs false
namespace Go.Proofs.Ytplloiinedbnlaa.PSplitCounts
open Go.RowKit Go.Proofs.YtplloiinedbnlaaW.PrintWords Go.Proofs.YtplloiinedbnlaaW.PrintLast Go.Proofs.YtplloiinedbnlaaW.PrintMore Annulet
theorem lk_split_Room (m : Int) : split_Room.f m = some (roomI m) := by
  unfold split_Room.f roomI
  by_cases h1 : m < 32
  · rw [if_pos h1, if_neg (by omega)]
  · rw [if_neg h1]
    by_cases h2 : m > 65507
    · rw [if_pos h2, if_neg (by omega)]
    · rw [if_neg h2, if_pos (by omega), w64 (by omega) (by omega)]
theorem lk_split_Count (m n : Int) (h0 : -9223372036854775808 ≤ n) (h1 : n < 9223372036854775808) : Ev (fun k => split_Count.f k m n) (countI m n) := by
  unfold split_Count.f
  rw [lk_split_Room]
  simp only [Option.bind_some]
  have hj : ∀ b, b = decide (roomI m = 0 ∨ n < 0) → Ev (fun k => split_Count.j0 k n (roomI m) b) (countI m n) := by
    intro b hb
    refine ev_const fun k => ?_
    rw [split_Count.j0]
    unfold countI
    by_cases hc : roomI m = 0 ∨ n < 0
    · rw [hb, decide_eq_true hc, if_pos rfl, if_pos hc]
    · have hr := room_range m
      rw [hb, decide_eq_false hc, if_neg (by decide), if_neg hc, if_neg (by omega), many_prog n (roomI m) (by omega) h1 (by omega)]
      by_cases h5 : manyI n (roomI m) > 65535
      · rw [if_pos h5, if_pos h5]
      · rw [if_neg h5, if_neg h5]
  by_cases h : roomI m = 0
  · simp only [if_pos h]
    exact hj true (by rw [decide_eq_true (Or.inl h)])
  · simp only [if_neg h]
    exact hj _ (decide_eq_decide.2 (by simp [h]))
theorem lk_ref19_Room (m : Int) : annuletref19_Room.f m = some (roomI m) := by
  unfold annuletref19_Room.f roomI
  by_cases h1 : m ≥ 32
  · rw [if_pos h1]
    by_cases h2 : m ≤ 65507
    · rw [if_pos h2, if_pos (by omega), w64 (by omega) (by omega)]
    · rw [if_neg h2, if_neg (by omega)]
  · rw [if_neg h1, if_neg (by omega)]
theorem lk_ref19_Count (m n : Int) (h0 : -9223372036854775808 ≤ n) (h1 : n < 9223372036854775808) : Ev (fun k => annuletref19_Count.f k m n) (countI m n) := by
  unfold annuletref19_Count.f
  rw [lk_ref19_Room]
  simp only [Option.bind_some]
  have hj : ∀ b, b = decide (roomI m = 0 ∨ n < 0) → Ev (fun k => annuletref19_Count.j0 k n (roomI m) b) (countI m n) := by
    intro b hb
    refine ev_succ (g := fun k => annuletref19_Count.j0 k n (roomI m) b) ?_
    by_cases hc : roomI m = 0 ∨ n < 0
    · refine Ev.congr (f := fun _ => some (countI m n)) (fun k => ?_) (ev_some _)
      rw [annuletref19_Count.j0, hb, decide_eq_true hc, if_pos rfl]
      unfold countI
      rw [if_pos hc]
    · have hr := room_range m
      have a := Int.ediv_nonneg (show 0 ≤ n by omega) (show 0 ≤ roomI m by omega)
      have c := Int.ediv_le_self (roomI m) (show 0 ≤ n by omega)
      have hd : n / roomI m ≤ n / 2 := by
        apply Int.le_ediv_of_mul_le (by omega)
        have h2 := Int.emod_add_mul_ediv n (roomI m)
        have h3 := Int.emod_nonneg n (show roomI m ≠ 0 by omega)
        have h4 : n / roomI m * 2 ≤ n / roomI m * roomI m := Int.mul_le_mul_of_nonneg_left (by omega) a
        rw [Int.mul_comm (n / roomI m) (roomI m)] at h4
        omega
      have hm := many_ref n (roomI m) (by omega) (by omega)
      have key : ∀ d, d = decide (n % roomI m > 0 ∨ n / roomI m = 0) → Ev (fun k => annuletref19_Count.j1 k (n / roomI m) d) (countI m n) := by
        intro d hd'
        refine ev_const fun k => ?_
        rw [annuletref19_Count.j1]
        unfold countI
        rw [if_neg hc, ← hm]
        by_cases hq : n % roomI m > 0 ∨ n / roomI m = 0
        · rw [hd', decide_eq_true hq, if_pos rfl, if_pos hq, w64 (by omega) (by omega)]
          by_cases h5 : n / roomI m + 1 > 65535
          · rw [if_pos h5, if_pos h5]
          · rw [if_neg h5, if_neg h5]
        · rw [hd', decide_eq_false hq, if_neg (by decide), if_neg hq]
          by_cases h5 : n / roomI m > 65535
          · rw [if_pos h5, if_pos h5]
          · rw [if_neg h5, if_neg h5]
      by_cases hs : n % roomI m > 0
      · refine Ev.congr (f := fun k => annuletref19_Count.j1 k (n / roomI m) true) (fun k => ?_) (key true (by rw [decide_eq_true (Or.inl hs)]))
        show annuletref19_Count.j0 (k + 1) n (roomI m) b = _
        rw [annuletref19_Count.j0, hb, decide_eq_false hc, if_neg (by decide), if_neg (by omega), tmod_nat (by omega), tdiv_nat (by omega), w64 (by omega) (by omega), if_pos hs]
      · refine Ev.congr (f := fun k => annuletref19_Count.j1 k (n / roomI m) (n / roomI m == 0)) (fun k => ?_) (key _ (by rw [Bool.eq_iff_iff]; simp [hs]))
        show annuletref19_Count.j0 (k + 1) n (roomI m) b = _
        rw [annuletref19_Count.j0, hb, decide_eq_false hc, if_neg (by decide), if_neg (by omega), tmod_nat (by omega), tdiv_nat (by omega), w64 (by omega) (by omega), if_neg hs]
  by_cases h : roomI m = 0
  · simp only [if_pos h]
    exact hj true (by rw [decide_eq_true (Or.inl h)])
  · simp only [if_neg h]
    exact hj _ (decide_eq_decide.2 (by simp [h]))
theorem lk_awake19 : Ev (fun k => annuletlaw19_awake.f k) true := Ev.of annuletlaw19_awake.mono (k := 60) (by decide +kernel)
theorem SplitCounts_law : annuletlaw19_SplitCounts.Pure := by
  intro a0 a1 hw0 hw1
  have h1 := wf_i64 hw1
  refine Ev.rounds (g := fun k => annuletlaw19_SplitCounts.f k a0 a1) ?_
  unfold annuletlaw19_SplitCounts.f
  refine ev_bind (lk_split_Count a0 a1 h1.1 h1.2) ?_
  refine ev_bind (lk_ref19_Count a0 a1 h1.1 h1.2) ?_
  rw [lk_split_Room, lk_ref19_Room]
  simp only [if_true, Option.bind_some]
  exact ev_bind lk_awake19 (ev_some _)
end Go.Proofs.Ytplloiinedbnlaa.PSplitCounts
namespace Go.Proofs.Ytplloiinedbnlaa.Pure
open Go.Proofs.Ytplloiinedbnlaa.PSplitCounts
theorem SplitCounts : annuletlaw19_SplitCounts.Pure := SplitCounts_law
end Go.Proofs.Ytplloiinedbnlaa.Pure
