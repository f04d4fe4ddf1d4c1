/- UvarZigs: any number with a sign as one without, and back, is the document's. No condition. -/
import Derived.Test.YtdfjhfopcihcjaaPUvarZigsx2
import Derived.Test.YtdfjhfopcihcjaaMath
set_option linter.unusedVariables false
set_option linter.unusedSimpArgs false
namespace Go.Proofs.Ytdfjhfopcihcjaa.PUvarZigs
open Go.RowKit Go.Proofs.YtdfjhfopcihcjaaW.PrintWords Go.Proofs.YtdfjhfopcihcjaaW.PrintLast Go.Proofs.YtdfjhfopcihcjaaW.PrintMore Annulet

theorem lk_uvar_Zig (n : Int) (h : -9223372036854775808 ≤ n) (h' : n < 9223372036854775808) : uvar_Zig.f n = some (zigL n) := by
  unfold uvar_Zig.f zigL
  congr 1
  by_cases h0 : 0 ≤ n
  · rw [if_pos h0, wu64_id (n := n) h0 (by omega), wu64_id (n := n * 2) (by omega) (by omega), wu64_id (n := n / 9223372036854775808) (by omega) (by omega), show n / 9223372036854775808 = 0 by omega, u64_xor_zero (by omega) (by omega)]
    omega
  · have e1 : IntKind.u64.wrap n = n + 18446744073709551616 := by rw [wu64]; omega
    have e2 : IntKind.u64.wrap ((n + 18446744073709551616) * 2) = 2 * n + 18446744073709551616 := by rw [wu64]; omega
    have e3 : IntKind.u64.wrap (n / 9223372036854775808) = 18446744073709551615 := by rw [wu64]; omega
    rw [if_neg h0, e1, e2, e3, u64_xor_ones (by omega) (by omega)]
    omega
theorem lk_uvar_Zag (u : Int) (h : 0 ≤ u) (h' : u < 18446744073709551616) : uvar_Zag.f u = some (zagL u) := by
  unfold uvar_Zag.f zagL
  congr 1
  rw [u64_and1 h h', w64 (n := u % 2) (by omega) (by omega), w64 (n := u / 2) (by omega) (by omega), w64 (n := -(u % 2)) (by omega) (by omega)]
  by_cases h0 : u % 2 = 0
  · rw [if_pos h0, h0, show (-(0 : Int)) = 0 from rfl, i64_xor_zero (by omega) (by omega)]
  · rw [if_neg h0, show u % 2 = 1 by omega, i64_xor_ones (by omega) (by omega)]
theorem lk_awake01 : Ev (fun k => annuletlaw01_awake.f k) true := Ev.of annuletlaw01_awake.mono (k := 20) (by decide +kernel)
theorem lk_ref01_Zig (n : Int) (h : -9223372036854775808 ≤ n) (h' : n < 9223372036854775808) : annuletref01_Zig.f n = some (zigL n) := by
  unfold annuletref01_Zig.f zigL
  by_cases h0 : 0 ≤ n
  · rw [if_pos h0, if_pos h0, wu64_id (n := n) h0 (by omega), wu64_id (by omega) (by omega)]
  · rw [if_neg h0, if_neg h0, w64 (n := n + 1) (by omega) (by omega), w64 (by omega) (by omega), wu64_id (n := -(n + 1)) (by omega) (by omega), wu64_id (n := 2 * -(n + 1)) (by omega) (by omega), wu64_id (by omega) (by omega)]
    congr 1
    omega
theorem UvarZigs_law : annuletlaw01_UvarZigs.Pure := by
  intro a0 a1 hw0 hw1
  have h0 := wf_i64 hw0
  have h1 := wf_u64 hw1
  have hz := zigL_range h0.1 h0.2
  have hg := zagL_range h1.1 h1.2
  refine Ev.rounds (g := fun k => annuletlaw01_UvarZigs.f k a0 a1) ?_
  unfold annuletlaw01_UvarZigs.f
  simp only [lk_uvar_Zig a0 h0.1 h0.2, lk_ref01_Zig a0 h0.1 h0.2, Option.bind_some, if_true, lk_uvar_Zag _ hz.1 hz.2, zig_zag, lk_uvar_Zag a1 h1.1 h1.2, lk_uvar_Zig _ hg.1 hg.2, zag_zig a1 h1.1]
  exact ev_bind lk_awake01 (ev_some _)
end Go.Proofs.Ytdfjhfopcihcjaa.PUvarZigs
namespace Go.Proofs.Ytdfjhfopcihcjaa.Pure
open Go.Proofs.Ytdfjhfopcihcjaa.PUvarZigs
theorem UvarZigs : annuletlaw01_UvarZigs.Pure := UvarZigs_law
end Go.Proofs.Ytdfjhfopcihcjaa.Pure
