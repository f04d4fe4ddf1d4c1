/- CrcFlips: any text with any bits turned, from any place on, is the document's; turned twice it is as it was. No condition. -/
import Derived.Test.YtlgmhblmdjanfaaPCrcFlipsx3
import Derived.Test.YtlgmhblmdjanfaaMath
set_option linter.unusedVariables false
set_option linter.unusedSimpArgs false
namespace Go.Proofs.Ytlgmhblmdjanfaa.PCrcFlips
open Go.RowKit Go.Proofs.YtlgmhblmdjanfaaW.PrintWords Go.Proofs.YtlgmhblmdjanfaaW.PrintLast Go.Proofs.YtlgmhblmdjanfaaW.PrintMore Annulet

/-! ### package crc -/
theorem lk_crc_Step (s : Int) (l : List Int) (h0 : 0 ≤ s) (h1 : s < 4294967296) (hb : Bytes l) : crc_Step.f s l = some ((stepN s.toNat l : Nat) : Int) := by
  obtain ⟨n, rfl⟩ := Int.eq_ofNat_of_zero_le h0
  unfold crc_Step.f
  rw [Int.toNat_natCast]
  split
  · rw [stepSmall_nat l hb n (by omega)]
  · rw [stepTab_nat l hb n (by omega)]
theorem lk_crc_Sum (l : List Int) (hb : Bytes l) : crc_Sum.f l = some ((sumN l : Nat) : Int) := by
  unfold crc_Sum.f
  rw [lk_crc_Step 4294967295 l (by omega) (by omega) hb]
  have hl := stepN_lt l hb 4294967295 (by decide)
  simp only [Option.bind_some]
  rw [show (4294967295 : Int).toNat = 4294967295 from rfl, show (4294967295 : Int) = ((4294967295 : Nat) : Int) from rfl, u32_xor_nat _ _ (by decide) hl]
  rfl
theorem lk_crc_Flip (l : List Int) (a m : Int) (hl : l.length ≤ 281474976710656) (ha : -9223372036854775808 ≤ a) (ha' : a < 9223372036854775808) : crc_Flip.f l a m = some (flipL l.length a m l 32) := by
  unfold crc_Flip.f
  rw [if_pos hl, if_pos ha, if_pos ha']
theorem lk_ref02_Flipj (l : List Int) (a m : Int) (out : List Int) (c : Nat) (i : Nat) (x y : Bool) (r : List Int × Int) (hl : out.length < 1000000000000) (hc : c ≤ i) (hi : i < 8 * out.length)
    (h : Ev (fun k => annuletref02_Flip.l0 k l a m (if (x ^^ y) = true then out.set (i / 8) ((out.getD (i / 8) 0 + ((2 ^ (i % 8) : Nat) : Int)) % 256) else out) ((c + if y = true then 1 else 0 : Nat) : Int) ((i + 1 : Nat) : Int)) r) :
    Ev (fun k => annuletref02_Flip.j1 k l a m out (c : Int) (i : Int) x y) r := by
  refine ev_succ ?_
  simp only [annuletref02_Flip.j1]
  have w1 : wrap64 ((i : Int) + 1) = ((i + 1 : Nat) : Int) := by rw [w64 (by omega) (by omega)]; rfl
  have w2 : wrap64 ((c : Int) + 1) = ((c + 1 : Nat) : Int) := by rw [w64 (by omega) (by omega)]; rfl
  have w3 : wrap64 (Int.tdiv (i : Int) 8) = ((i / 8 : Nat) : Int) := by rw [tdiv_nat (by omega), w64 (by omega) (by omega)]; rfl
  have w4 : IntKind.u64.wrap (Int.tmod (i : Int) 8) = ((i % 8 : Nat) : Int) := by rw [tmod_nat (by omega), wu64_id (by omega) (by omega)]; rfl
  rw [w1, w2, w3, w4, shl8_one _ (by omega), Int.toNat_natCast, rd_nat]
  simp only [if_pos (show (0 : Int) ≤ ((i / 8 : Nat) : Int) by omega), if_pos (show ((i / 8 : Nat) : Int) < (out.length : Int) by omega), if_pos (show (0 : Int) ≤ ((i % 8 : Nat) : Int) by omega)]
  cases x <;> cases y <;> simpa using h
theorem lk_ref02_Flip0 (l : List Int) (hb : Bytes l) (a m : Int) (ha : -9223372036854775808 ≤ a) (ha' : a < 9223372036854775808) (h0 : 0 ≤ m) (h1 : m < 4294967296) (hl : l.length < 1000000000000) (d : Nat) : ∀ (i : Nat) (out : List Int), i ≤ 8 * l.length → 8 * l.length - i = d → Bytes out → out.length = l.length → numB out = numB (flipL l.length a m l 32) % 2 ^ i →
    Ev (fun k => annuletref02_Flip.l0 k l a m out (cntT l.length a m i : Int) (i : Int)) (flipL l.length a m l 32, (cntT l.length a m (8 * l.length) : Int)) := by
  have w0 : wrap64 (8 * (l.length : Int)) = ((8 * l.length : Nat) : Int) := by rw [w64 (by omega) (by omega)]; rfl
  have hF := flipL_bytes l hb a m h0 h1
  have hFl := flipL_len l.length a m l 32
  induction d with
  | zero =>
    intro i out hi hd hB hL hN
    obtain rfl : i = 8 * l.length := by omega
    refine ev_succ ?_
    simp only [annuletref02_Flip.l0]
    rw [w0]
    simp only [if_neg (show ¬ ((8 * l.length : Nat) : Int) < ((8 * l.length : Nat) : Int) by omega)]
    have hlt := numB_lt _ hF
    rw [hFl, show 256 = 2 ^ 8 from rfl, ← Nat.pow_mul] at hlt
    rw [Nat.mod_eq_of_lt hlt] at hN
    rw [numB_inj _ _ hB hF (by omega) hN]
    exact ev_some _
  | succ d ih =>
    intro i out hi hd hB hL hN
    have hlt : numB out < 2 ^ i := by rw [hN]; exact Nat.mod_lt _ (Nat.two_pow_pos i)
    have hcl := cntT_le l.length a m i
    have hbm := bit_more out hB i hlt (by omega)
    have key : ∀ (y : Bool), y = tb l.length a m 32 i → Ev (fun k => annuletref02_Flip.j1 k l a m out (cntT l.length a m i : Int) (i : Int) ((numB l).testBit i) y) (flipL l.length a m l 32, (cntT l.length a m (8 * l.length) : Int)) := by
      intro y hy
      refine lk_ref02_Flipj l a m out _ i _ _ _ (by omega) hcl (by omega) ?_
      have hx : ((numB l).testBit i ^^ y) = (numB (flipL l.length a m l 32)).testBit i := by rw [flipL_num l hb a m h0 h1, hy]
      have hcn : cntT l.length a m i + (if y = true then 1 else 0) = cntT l.length a m (i + 1) := by rw [cntT, hy]
      rw [hx, hcn]
      have hms := mod_succ_add (numB (flipL l.length a m l 32)) i
      refine ih (i + 1) _ (by omega) (by omega) ?_ ?_ ?_
      · split
        · exact hbm.1
        · exact hB
      · split
        · rw [List.length_set]; exact hL
        · exact hL
      · rw [hms]
        split
        · rw [hbm.2, hN]
        · rw [hN]; rfl
    refine ev_succ ?_
    simp only [annuletref02_Flip.l0]
    have w3 : wrap64 (Int.tdiv (i : Int) 8) = ((i / 8 : Nat) : Int) := by rw [tdiv_nat (by omega), w64 (by omega) (by omega)]; rfl
    have w4 : IntKind.u64.wrap (Int.tmod (i : Int) 8) = ((i % 8 : Nat) : Int) := by rw [tmod_nat (by omega), wu64_id (by omega) (by omega)]; rfl
    have w5 : wrap64 ((i : Int) - 32) = (i : Int) - 32 := w64 (by omega) (by omega)
    have hg := getD_byte hb (i / 8)
    rw [w0, w3, w4, w5, rd_nat, shr_bit .u8 _ _ hg.1 (by show i % 8 ≤ 8; omega), ← numB_bit l hb]
    simp only [if_pos (show (i : Int) < ((8 * l.length : Nat) : Int) by omega), if_pos (show (0 : Int) ≤ ((i / 8 : Nat) : Int) by omega), if_pos (show ((i / 8 : Nat) : Int) < (l.length : Int) by omega), if_pos (show (0 : Int) ≤ ((i % 8 : Nat) : Int) by omega)]
    by_cases c1 : a ≤ (i : Int)
    · simp only [if_pos c1]
      by_cases c2 : a > (i : Int) - 32
      · have w6 : IntKind.u64.wrap (wrap64 ((i : Int) - a)) = ((((i : Int) - a).toNat : Nat) : Int) := by rw [w64 (by omega) (by omega), wu64_id (by omega) (by omega)]; omega
        simp only [if_pos c2]
        rw [w6, shr_bit .u32 _ _ h0 (by show _ ≤ 32; omega)]
        simp only [if_pos (show (0 : Int) ≤ ((((i : Int) - a).toNat : Nat) : Int) by omega)]
        refine key _ ?_
        unfold tb
        rw [decide_eq_true (by omega), Bool.true_and]
      · simp only [if_neg c2]
        refine key _ ?_
        unfold tb
        rw [decide_eq_false (by omega), Bool.false_and]
    · simp only [if_neg c1]
      refine key _ ?_
      unfold tb
      rw [decide_eq_false (by omega), Bool.false_and]
theorem lk_ref02_Flip (l : List Int) (hb : Bytes l) (a m : Int) (ha : -9223372036854775808 ≤ a) (ha' : a < 9223372036854775808) (h0 : 0 ≤ m) (h1 : m < 4294967296) (hl : l.length < 1000000000000) :
    Ev (fun k => annuletref02_Flip.f k l a m) (flipL l.length a m l 32, (cntT l.length a m (8 * l.length) : Int)) := by
  unfold annuletref02_Flip.f
  simp only [Int.toNat_natCast, if_pos (show (0 : Int) ≤ (l.length : Int) by omega), if_pos (show l.length ≤ 281474976710656 by omega)]
  refine lk_ref02_Flip0 l hb a m ha ha' h0 h1 hl _ 0 (List.replicate l.length 0) (by omega) rfl (fun x hx => ?_) (by simp) ?_
  · rw [(List.mem_replicate.1 hx).2]; exact ⟨by omega, by omega⟩
  · rw [Nat.pow_zero, Nat.mod_one]
    generalize l.length = n
    induction n with
    | zero => rfl
    | succ n ih => rw [List.replicate_succ, numB, ih]; rfl
theorem lk_awake02 : annuletlaw02_awake.f = some true := by
  have e1 : crc_Sum.f (([49, 50, 51, 52, 53, 54, 55, 56, 57] : List Int)) = some 3808858755 := by decide +kernel
  have e2 : crc_Sum.f ([] : List Int) = some 0 := by decide +kernel
  have e3 : crc_Flip.f (([0, 0] : List Int)) 7 3 = some [128, 1] := by decide +kernel
  have e4 : crc_Join.f 5 6 0 = some 3 := by
    unfold crc_Join.f
    rw [if_pos (by omega), show (0 : Int).toNat = 0 from rfl, joinL, if_pos rfl]
    decide +kernel
  unfold annuletlaw02_awake.f
  rw [e1, e2, e3, e4]
  decide +kernel
theorem CrcFlips_law : annuletlaw02_CrcFlips.Pure := by
  intro l0 a1 a2 _ hl hw hw1 hw2
  have hb := bytes_of_wf hw
  have h1 := wf_i64 hw1
  have h2 := wf_u32 hw2
  refine Ev.rounds (g := fun k => annuletlaw02_CrcFlips.f k l0 a1 a2) ?_
  unfold annuletlaw02_CrcFlips.f
  by_cases c1 : (l0.length : Int) > 300
  · simp only [if_pos c1, lk_awake02, Option.bind_some]
    exact ev_some _
  simp only [if_neg c1]
  refine ev_bind (lk_ref02_Flip l0 hb a1 a2 h1.1 h1.2 h2.1 h2.2 (by omega)) ?_
  have hf := lk_crc_Flip (flipL l0.length a1 a2 l0 32) a1 a2 (by rw [flipL_len]; omega) h1.1 h1.2
  rw [flipL_len, flipL_twice l0 hb a1 a2 h2.1 h2.2] at hf
  rw [lk_crc_Flip l0 a1 a2 (by omega) h1.1 h1.2, Option.bind_some, if_pos rfl, Option.bind_some, hf, Option.bind_some, if_pos rfl, lk_awake02]
  exact ev_some _
end Go.Proofs.Ytlgmhblmdjanfaa.PCrcFlips
namespace Go.Proofs.Ytlgmhblmdjanfaa.Pure
open Go.Proofs.Ytlgmhblmdjanfaa.PCrcFlips
theorem CrcFlips : annuletlaw02_CrcFlips.Pure := CrcFlips_law
end Go.Proofs.Ytlgmhblmdjanfaa.Pure
