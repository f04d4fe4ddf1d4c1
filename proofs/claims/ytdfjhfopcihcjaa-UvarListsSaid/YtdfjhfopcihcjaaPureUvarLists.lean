/- UvarLists: any numbers as bytes, and the numbers that any bytes are or the place at which they are none, are the document's. No condition. -/
import Derived.Test.YtdfjhfopcihcjaaPUvarListsx4
import Derived.Test.YtdfjhfopcihcjaaMath
set_option linter.unusedVariables false
set_option linter.unusedSimpArgs false
namespace Go.Proofs.Ytdfjhfopcihcjaa.PUvarLists
open Go.RowKit Go.Proofs.YtdfjhfopcihcjaaW.PrintWords Go.Proofs.YtdfjhfopcihcjaaW.PrintLast Go.Proofs.YtdfjhfopcihcjaaW.PrintMore Annulet

/-! ### package uvar: the printed functions and the lists -/
theorem lk_uvar_Put0 (n : Nat) : ∀ b : List Int, b.length + (putL n).length ≤ 140737488355328 → Ev (fun k => uvar_Put.l0 k b (n : Int)) (b ++ putL n) := by
  induction n using putL.induct with
  | case1 n h =>
    intro b hb
    rw [putL_small h] at hb ⊢
    simp only [List.length_singleton] at hb
    refine ev_succ ?_
    simp only [uvar_Put.l0]
    simp only [if_neg (show ¬ (n : Int) ≥ 128 by omega), if_pos (show b.length < 140737488355328 by omega)]
    rw [show (n : Int) % 256 = n by omega]
    exact ev_some _
  | case2 n h ih =>
    intro b hb
    rw [putL_great h] at hb ⊢
    simp only [List.length_cons] at hb
    refine ev_succ ?_
    simp only [uvar_Put.l0]
    simp only [if_pos (show (n : Int) ≥ 128 by omega), if_pos (show b.length < 140737488355328 by omega)]
    rw [or128 (by omega)]
    have := ih (b ++ [(n : Int) % 128 + 128]) (by simp only [List.length_append, List.length_singleton]; omega)
    simp only [List.append_assoc, List.singleton_append] at this
    exact this
theorem lk_uvar_Put (b : List Int) (n : Int) (h0 : 0 ≤ n) (hl : b.length + (putL n.toNat).length ≤ 140737488355328) : Ev (fun k => uvar_Put.f k b n) (b ++ putL n.toNat) := by
  have := lk_uvar_Put0 n.toNat b hl
  rw [show ((n.toNat : Nat) : Int) = n by omega] at this
  exact this
theorem lk_uvar_Size0 (n : Nat) : ∀ s : Int, 0 ≤ s → s + (putL n).length ≤ 9223372036854775807 → Ev (fun k => uvar_Size.l0 k (n : Int) s) (s + if n = 0 then 0 else (putL n).length) := by
  induction n using putL.induct with
  | case1 n h =>
    intro s h0 hs
    rw [putL_small h] at hs ⊢
    simp only [List.length_singleton] at hs ⊢
    refine ev_succ ?_
    simp only [uvar_Size.l0]
    by_cases hn : n = 0
    · subst hn
      simp only [if_neg (show ¬ ((0 : Nat) : Int) > 0 by omega)]
      exact ev_eq (ev_some _) (by simp)
    · simp only [if_pos (show (n : Int) > 0 by omega), if_neg hn]
      refine ev_succ ?_
      simp only [uvar_Size.l0]
      simp only [if_neg (show ¬ (n : Int) / 128 > 0 by omega)]
      exact ev_eq (ev_some _) (by rw [w64 (by omega) (by omega)]; simp)
  | case2 n h ih =>
    intro s h0 hs
    rw [putL_great h] at hs ⊢
    simp only [List.length_cons] at hs ⊢
    refine ev_succ ?_
    simp only [uvar_Size.l0]
    simp only [if_pos (show (n : Int) > 0 by omega)]
    rw [w64 (by omega) (by omega)]
    refine ev_eq (ih (s + 1) (by omega) (by omega)) ?_
    rw [if_neg (by omega), if_neg (by omega)]
    omega
theorem lk_uvar_Size (n : Int) (h0 : 0 ≤ n) (h1 : n < 18446744073709551616) : Ev (fun k => uvar_Size.f k n) ((putL n.toNat).length : Int) := by
  unfold uvar_Size.f
  have hl := putL_len10 (n := n.toNat / 128) (by omega)
  have := lk_uvar_Size0 (n.toNat / 128) 1 (by omega) (by omega)
  rw [show ((n.toNat / 128 : Nat) : Int) = n / 128 by omega] at this
  refine ev_eq this ?_
  by_cases h : n.toNat < 128
  · rw [putL_small h, if_pos (by omega)]; simp
  · rw [putL_great h, if_neg (by omega)]; simp; omega
theorem lk_uvar_last0 (b : List Int) (d : Nat) : ∀ i : Nat, i ≤ 10 → i ≤ b.length → min b.length 10 - i = d → (∀ j < i, 128 ≤ rd b (j : Int)) →
    Ev (fun k => uvar_last.l0 k b (mn (b.length : Int) 10) (i : Int)) (if sizeL b = 10 ∨ sizeL b = b.length then -1 else (sizeL b : Int)) := by
  have hm : mn (b.length : Int) 10 = (min b.length 10 : Nat) := by unfold mn; split <;> omega
  rw [hm]
  induction d with
  | zero =>
    intro i h1 h2 hd ha
    refine ev_succ ?_
    simp only [uvar_last.l0]
    simp only [if_neg (show ¬ (i : Int) < ((min b.length 10 : Nat) : Int) by omega)]
    have hs := sizeL_eq b i h1 h2 ha (fun _ _ => by omega)
    rw [hs, if_pos (by omega)]
    exact ev_some _
  | succ d ih =>
    intro i h1 h2 hd ha
    refine ev_succ ?_
    simp only [uvar_last.l0]
    simp only [if_pos (show (i : Int) < ((min b.length 10 : Nat) : Int) by omega), if_pos (show (0 : Int) ≤ (i : Int) by omega), if_pos (show (i : Int) < (b.length : Int) by omega)]
    by_cases hr : rd b (i : Int) < 128
    · simp only [if_pos hr]
      have hs := sizeL_eq b i h1 h2 ha (fun _ _ => hr)
      rw [hs, if_neg (by omega)]
      exact ev_some _
    · simp only [if_neg hr]
      rw [w64 (by omega) (by omega)]
      exact ih (i + 1) (by omega) (by omega) (by omega) (fun j hj => by
        by_cases e : j = i
        · subst e; omega
        · exact ha j (by omega))
theorem lk_uvar_last (b : List Int) : Ev (fun k => uvar_last.f k b) (if sizeL b = 10 ∨ sizeL b = b.length then -1 else (sizeL b : Int)) := by
  unfold uvar_last.f
  exact lk_uvar_last0 b _ 0 (by omega) (by omega) rfl (fun j hj => by omega)
theorem lk_uvar_Get0 (b : List Int) (hb : Bytes b) (x5 : Int) (h5 : 0 ≤ x5) (h5' : x5 < 9223372036854775807) (m : Nat) : ∀ acc : Int, 0 ≤ acc → m ≤ b.length → m ≤ 9223372036854775807 → valL (b.take m) + 128 ^ m * acc < 18446744073709551616 →
    Ev (fun k => uvar_Get.l0 k b x5 acc ((m : Int) - 1)) (valL (b.take m) + 128 ^ m * acc, x5 + 1, 0) := by
  induction m with
  | zero =>
    intro acc h0 hm hmm hv
    refine ev_succ ?_
    simp only [uvar_Get.l0]
    simp only [if_neg (show ¬ ((0 : Nat) : Int) - 1 ≥ 0 by omega)]
    rw [w64 (by omega) (by omega)]
    exact ev_eq (ev_some _) (by simp [valL])
  | succ m ih =>
    intro acc h0 hm hmm hv
    refine ev_succ ?_
    simp only [uvar_Get.l0]
    simp only [if_pos (show (((m + 1 : Nat) : Int) - 1 ≥ 0) by omega), if_pos (show (0 ≤ ((m + 1 : Nat) : Int) - 1) by omega), if_pos (show ((m + 1 : Nat) : Int) - 1 < (b.length : Int) by omega)]
    have e1 : ((m + 1 : Nat) : Int) - 1 = (m : Int) := by omega
    rw [e1]
    have hr := rd_byte hb (m : Int)
    unfold Byte at hr
    rw [and127 hr.1 hr.2]
    have ht := take_succ_rd b m (by omega)
    have hl : (b.take m).length = m := by rw [List.length_take]; omega
    have hv' : valL (b.take (m + 1)) + 128 ^ (m + 1) * acc = valL (b.take m) + 128 ^ m * (acc * 128 + rd b (m : Int) % 128) := by
      rw [ht, valL_append, hl]
      simp only [valL, Int.mul_zero, Int.add_zero]
      rw [Int.pow_succ, Int.mul_add, Int.mul_assoc, Int.mul_comm 128 acc]; omega
    rw [hv'] at hv ⊢
    have hv0 := valL_nonneg (b.take m)
    have hp : (1 : Int) ≤ 128 ^ m := by
      have : (0 : Int) < 128 ^ m := by exact_mod_cast Nat.pow_pos (by decide : 0 < 128)
      omega
    have hge : acc * 128 + rd b (m : Int) % 128 ≤ 128 ^ m * (acc * 128 + rd b (m : Int) % 128) := by
      have := Int.mul_le_mul_of_nonneg_right hp (show 0 ≤ acc * 128 + rd b (m : Int) % 128 by omega)
      omega
    rw [mod128_step h0 (by omega) (by omega) (by omega), w64 (by omega) (by omega)]
    exact ih _ (by omega) (by omega) (by omega) hv
theorem lk_uvar_Get (b : List Int) (hb : Bytes b) : Ev (fun k => uvar_Get.f k b) (getL b) := by
  unfold uvar_Get.f
  have hs := sizeL_le b
  refine ev_bind (lk_uvar_last b) ?_
  by_cases h : sizeL b = 10 ∨ sizeL b = b.length
  · rw [if_pos h]
    simp only [if_pos (show (-1 : Int) < 0 by omega)]
    refine ev_succ ?_
    simp only [uvar_Get.j0]
    by_cases hl : (b.length : Int) ≥ 10
    · rw [decide_eq_true hl]
      simp only [if_true]
      have : sizeL b = 10 := by omega
      unfold getL
      rw [if_pos this]
      exact ev_some _
    · rw [decide_eq_false hl]
      simp only [Bool.false_eq_true, if_false, if_pos (show (-1 : Int) < 0 by omega)]
      unfold getL
      rw [if_neg (by omega), if_pos (by omega)]
      exact ev_some _
  · rw [if_neg h]
    simp only [if_neg (show ¬ (sizeL b : Int) < 0 by omega)]
    refine ev_succ ?_
    simp only [uvar_Get.j0]
    simp only [Bool.false_eq_true, if_false, if_neg (show ¬ (sizeL b : Int) < 0 by omega)]
    have done : ¬ (sizeL b = 9 ∧ rd b (sizeL b) > 1) → ¬ (0 < sizeL b ∧ rd b (sizeL b) = 0) → Ev (fun k => uvar_Get.j2 k b (sizeL b : Int)) (getL b) := fun h9 h0 => by
      refine ev_succ ?_
      simp only [uvar_Get.j2]
      have hv := getL_val_lt b hb h9 (by omega) (by omega)
      have := lk_uvar_Get0 b hb (sizeL b) (by omega) (by omega) (sizeL b + 1) 0 (by omega) (by omega) (by omega) (by omega)
      rw [show (((sizeL b + 1 : Nat) : Int) - 1) = (sizeL b : Int) by omega] at this
      refine ev_eq this ?_
      unfold getL
      rw [if_neg (by omega), if_neg (by omega), if_neg (fun hc => hc.elim h0 h9), Int.mul_zero, Int.add_zero]
    have j1 : ¬ (0 < sizeL b ∧ rd b (sizeL b) = 0) → Ev (fun k => uvar_Get.j1 k b (sizeL b : Int) false) (getL b) := fun h0 => by
      refine ev_succ ?_
      simp only [uvar_Get.j1]
      simp only [Bool.false_eq_true, if_false]
      by_cases h9 : sizeL b = 9
      · simp only [if_pos (show (sizeL b : Int) = 9 by omega), if_pos (show (0 : Int) ≤ (sizeL b : Int) by omega), if_pos (show (sizeL b : Int) < (b.length : Int) by omega)]
        by_cases h1 : rd b (sizeL b : Int) > 1
        · simp only [if_pos h1]
          unfold getL
          rw [if_neg (by omega), if_neg (by omega), if_pos (.inr ⟨h9, h1⟩)]
          exact ev_some _
        · simp only [if_neg h1]
          exact done (fun h => h1 h.2) h0
      · simp only [if_neg (show ¬ (sizeL b : Int) = 9 by omega)]
        exact done (fun h => h9 h.1) h0
    by_cases hp : sizeL b = 0
    · simp only [if_neg (show ¬ (sizeL b : Int) > 0 by omega)]
      exact j1 (fun h => by omega)
    · simp only [if_pos (show (sizeL b : Int) > 0 by omega), if_pos (show (0 : Int) ≤ (sizeL b : Int) by omega), if_pos (show (sizeL b : Int) < (b.length : Int) by omega)]
      by_cases h0 : rd b (sizeL b : Int) = 0
      · simp only [show (rd b (sizeL b : Int) == 0) = true from by simp [h0]]
        refine ev_succ ?_
        simp only [uvar_Get.j1]
        simp only [if_true]
        unfold getL
        rw [if_neg (by omega), if_neg (by omega), if_pos (.inl ⟨by omega, h0⟩)]
        exact ev_some _
      · simp only [show (rd b (sizeL b : Int) == 0) = false from by simp [h0]]
        exact j1 (fun h => h0 h.2)
theorem lk_uvar_GetAll0 (b : List Int) (hb : Bytes b) (hl : b.length < 9223372036854775807) (f : Nat) : ∀ (i : Nat) (acc : List Int), i ≤ b.length → b.length - i ≤ f → acc.length + (b.length - i) < 17592186044416 →
    Ev (fun k => uvar_GetAll.l0 k b acc (i : Int)) (getAllL f (b.drop i) acc (i : Int)) := by
  induction f with
  | zero =>
    intro i acc hi hf ha
    refine ev_succ ?_
    simp only [uvar_GetAll.l0]
    simp only [if_neg (show ¬ (i : Int) < (b.length : Int) by omega)]
    exact ev_some _
  | succ f ih =>
    intro i acc hi hf ha
    refine ev_succ ?_
    simp only [uvar_GetAll.l0]
    by_cases h : i < b.length
    · simp only [if_pos (show (i : Int) < (b.length : Int) by omega), if_pos (show (0 : Int) ≤ (i : Int) by omega), if_pos (show (i : Int) ≤ (b.length : Int) by omega), Int.toNat_natCast]
      have hd := bytes_drop hb i
      refine ev_bind (lk_uvar_Get _ hd) ?_
      have hr := getL_range _ hd
      rw [List.length_drop] at hr
      have hne : b.drop i ≠ [] := fun hc => by have := congrArg List.length hc; simp at this; omega
      simp only [getAllL, if_neg hne]
      by_cases h0 : (getL (b.drop i)).2.2 = 0
      · have hpos := hr.2.2.2.2.2 h0
        simp only [if_pos h0, if_pos (show acc.length < 17592186044416 by omega)]
        rw [w64 (by omega) (by omega)]
        have := ih (i + (getL (b.drop i)).2.1.toNat) (acc ++ [(getL (b.drop i)).1]) (by omega) (by omega) (by simp only [List.length_append, List.length_singleton]; omega)
        rw [show ((i + (getL (b.drop i)).2.1.toNat : Nat) : Int) = (i : Int) + (getL (b.drop i)).2.1 by omega] at this
        rw [List.drop_drop]
        exact this
      · simp only [if_neg h0]
        exact ev_some _
    · simp only [if_neg (show ¬ (i : Int) < (b.length : Int) by omega)]
      have he : b.drop i = [] := List.drop_eq_nil_of_le (by omega)
      simp only [getAllL, he, if_true]
      exact ev_some _
theorem lk_uvar_GetAll (b : List Int) (hb : Bytes b) (hl : b.length < 17592186044416) : Ev (fun k => uvar_GetAll.f k b) (getAllL b.length b [] 0) := by
  have := lk_uvar_GetAll0 b hb (by omega) b.length 0 [] (by omega) (by omega) (by simpa using hl)
  exact this
theorem lk_uvar_PutAll0 (l : List Int) (h : ∀ x ∈ l, (Lit.int .u64 x).wf = true) (hl : l.length ≤ 10000000000000) (d : Nat) : ∀ (i : Nat), i ≤ l.length → l.length - i = d → 
    Ev (fun k => uvar_PutAll.l0 k (putAllL (l.take i)) l (l.length : Int) (i : Int)) (putAllL l) := by
  induction d with
  | zero =>
    intro i hi hd
    refine ev_succ ?_
    simp only [uvar_PutAll.l0]
    simp only [if_neg (show ¬ (i : Int) < (l.length : Int) by omega)]
    rw [List.take_of_length_le (by omega)]
    exact ev_some _
  | succ d ih =>
    intro i hi hd
    refine ev_succ ?_
    simp only [uvar_PutAll.l0]
    simp only [if_pos (show (i : Int) < (l.length : Int) by omega), if_pos (show (0 : Int) ≤ (i : Int) by omega)]
    have hx : rd l (i : Int) ∈ l := by
      rw [rd_nat]
      have : l.getD i 0 = l[i]'(by omega) := by simp [List.getD, show i < l.length by omega]
      rw [this]
      exact List.getElem_mem _
    have hw := wf_u64 (h _ hx)
    have h10 := putL_len10 (n := (rd l (i : Int)).toNat) (by omega)
    have hpl := putAllL_len (l.take i) (fun x hx => h x (List.mem_of_mem_take hx))
    rw [List.length_take] at hpl
    refine ev_bind (lk_uvar_Put _ _ hw.1 (by omega)) ?_
    rw [w64 (by omega) (by omega), ← putAllL_snoc, ← take_succ_rd l i (by omega)]
    exact ih (i + 1) (by omega) (by omega)
theorem lk_uvar_PutAll (l : List Int) (h : ∀ x ∈ l, (Lit.int .u64 x).wf = true) (hl : l.length ≤ 10000000000000) : Ev (fun k => uvar_PutAll.f k l) (putAllL l) :=
  lk_uvar_PutAll0 l h hl _ 0 (by omega) rfl
theorem lk_ref01_Put0 (n : Nat) : ∀ b : List Int, n < 18446744073709551616 → b.length + (putL n).length ≤ 140737488355328 → Ev (fun k => annuletref01_Put.l0 k (n : Int) b) (b ++ putL n) := by
  induction n using putL.induct with
  | case1 n h =>
    intro b hn hb
    rw [putL_small h] at hb ⊢
    simp only [List.length_singleton] at hb
    refine ev_succ ?_
    simp only [annuletref01_Put.l0]
    rw [tdiv_nat (by omega), wu64_id (by omega) (by omega)]
    simp only [if_neg (show ¬ (n : Int) / 128 > 0 by omega), if_pos (show b.length < 140737488355328 by omega)]
    rw [show (n : Int) % 256 = n by omega]
    exact ev_some _
  | case2 n h ih =>
    intro b hn hb
    rw [putL_great h] at hb ⊢
    simp only [List.length_cons] at hb
    refine ev_succ ?_
    simp only [annuletref01_Put.l0]
    rw [tdiv_nat (by omega), tmod_nat (by omega), wu64_id (n := (n : Int) / 128) (by omega) (by omega), wu64_id (n := (n : Int) % 128 + 128) (by omega) (by omega)]
    simp only [if_pos (show (n : Int) / 128 > 0 by omega), if_pos (show b.length < 140737488355328 by omega)]
    rw [show ((n : Int) % 128 + 128) % 256 = (n : Int) % 128 + 128 by omega]
    have := ih (b ++ [(n : Int) % 128 + 128]) (by omega) (by simp only [List.length_append, List.length_singleton]; omega)
    simp only [List.append_assoc, List.singleton_append] at this
    exact this
theorem lk_ref01_Put (n : Int) (h0 : 0 ≤ n) (h1 : n < 18446744073709551616) : Ev (fun k => annuletref01_Put.f k n) (putL n.toNat) := by
  have := lk_ref01_Put0 n.toNat [] (by omega) (by have := putL_len10 (n := n.toNat) (by omega); simp; omega)
  rw [show ((n.toNat : Nat) : Int) = n by omega] at this
  exact this
theorem lk_ref01_Get1 (b : List Int) (hb : Bytes b) (h10 : sizeL b < 10) (hlen : sizeL b < b.length) (d : Nat) : ∀ i : Nat, sizeL b + 1 - i = d → i ≤ sizeL b + 1 → ((9 : Nat) < i → ¬ (sizeL b = 9 ∧ rd b (sizeL b) > 1)) →
    Ev (fun k => annuletref01_Get.l1 k b (sizeL b : Int) (valL (b.take i)) (IntKind.u64.wrap (128 ^ i)) (i : Int)) (getL b) := by
  induction d with
  | zero =>
    intro i hd hi h9
    obtain rfl : i = sizeL b + 1 := by omega
    refine ev_succ ?_
    simp only [annuletref01_Get.l1]
    simp only [if_neg (show ¬ ((sizeL b + 1 : Nat) : Int) ≤ (sizeL b : Int) by omega)]
    have h9' : ¬ (sizeL b = 9 ∧ rd b (sizeL b) > 1) := by
      by_cases h : sizeL b = 9
      · exact h9 (by omega)
      · exact fun hc => h hc.1
    by_cases hp : sizeL b = 0
    · simp only [if_neg (show ¬ (sizeL b : Int) > 0 by omega)]
      rw [getL_ok h10 hlen (fun h => by omega) h9', w64 (by omega) (by omega)]
      exact ev_some _
    · simp only [if_pos (show (sizeL b : Int) > 0 by omega), if_pos (show (0 : Int) ≤ (sizeL b : Int) by omega), if_pos (show (sizeL b : Int) < (b.length : Int) by omega)]
      by_cases h0 : rd b (sizeL b : Int) = 0
      · simp only [if_pos h0]
        rw [getL_bad h10 hlen (.inl ⟨by omega, h0⟩)]
        exact ev_some _
      · simp only [if_neg h0]
        rw [getL_ok h10 hlen (fun h => h0 h.2) h9', w64 (by omega) (by omega)]
        exact ev_some _
  | succ d ih =>
    intro i hd hi h9
    have hr := rd_byte hb (i : Int)
    unfold Byte at hr
    refine ev_succ ?_
    simp only [annuletref01_Get.l1]
    simp only [if_pos (show (i : Int) ≤ (sizeL b : Int) by omega), if_pos (show (0 : Int) ≤ (i : Int) by omega), if_pos (show (i : Int) < (b.length : Int) by omega)]
    rw [tmod_nat hr.1, wu64_id (n := rd b (i : Int) % 128) (by omega) (by omega)]
    have hl : (b.take i).length = i := by rw [List.length_take]; omega
    have hstep : ¬ (i = 9 ∧ rd b (i : Int) % 128 > 1) → Ev (fun k => annuletref01_Get.l1 k b (sizeL b : Int) (IntKind.u64.wrap (valL (b.take i) + (IntKind.u64.wrap ((rd b (i : Int) % 128) * (IntKind.u64.wrap (128 ^ i)))))) (IntKind.u64.wrap ((IntKind.u64.wrap (128 ^ i)) * 128)) (wrap64 ((i : Int) + 1))) (getL b) := fun hn => by
      have hv : valL (b.take (i + 1)) = valL (b.take i) + 128 ^ i * (rd b (i : Int) % 128) := by
        rw [take_succ_rd b i (by omega), valL_append, hl]
        simp [valL]
      have hv0 := valL_nonneg (b.take (i + 1))
      have hlt := valL_lt (b.take i)
      rw [hl] at hlt
      have hbound : valL (b.take (i + 1)) < 18446744073709551616 := by
        by_cases h9' : i = 9
        · subst h9'
          rw [hv]
          have : rd b (9 : Nat) % 128 ≤ 1 := by omega
          omega
        · have hlt' := valL_lt (b.take (i + 1))
          rw [List.length_take] at hlt'
          have hle : min (i + 1) b.length ≤ 9 := by omega
          have hp : (128 : Int) ^ (min (i + 1) b.length) ≤ 128 ^ 9 := by
            have := Nat.pow_le_pow_right (n := 128) (by decide) hle
            exact_mod_cast this
          omega
      have e1 : IntKind.u64.wrap (valL (b.take i) + (IntKind.u64.wrap ((rd b (i : Int) % 128) * (IntKind.u64.wrap (128 ^ i))))) = valL (b.take (i + 1)) := by
        have e : IntKind.u64.wrap (valL (b.take i) + (IntKind.u64.wrap ((rd b (i : Int) % 128) * (IntKind.u64.wrap (128 ^ i))))) = IntKind.u64.wrap (valL (b.take (i + 1))) := by
          rw [hv, wu64, wu64, wu64, wu64, Int.mul_comm (128 ^ i)]
          simp [Int.add_emod, Int.mul_emod]
        rw [e, wu64_id hv0 hbound]
      have e2 : IntKind.u64.wrap ((IntKind.u64.wrap (128 ^ i)) * 128) = IntKind.u64.wrap (128 ^ (i + 1)) := by
        rw [wu64, wu64, wu64, Int.pow_succ]
        simp [Int.mul_emod]
      rw [e1, e2, w64 (by omega) (by omega)]
      refine ih (i + 1) (by omega) (by omega) (fun h => ?_)
      by_cases hi9 : i = 9
      · subst hi9
        have hsz : sizeL b = 9 := by omega
        have hst := sizeL_stop b h10 hlen
        rw [hsz] at hst ⊢
        exact fun hc => hn ⟨rfl, by omega⟩
      · exact h9 (by omega)
    by_cases h9' : i = 9
    · simp only [if_pos (show (i : Int) = 9 by omega)]
      by_cases h1 : rd b (i : Int) % 128 > 1
      · simp only [if_pos h1]
        have hsz : sizeL b = 9 := by omega
        unfold getL
        rw [if_neg (by omega), if_neg (by omega), if_pos]
        · exact ev_some _
        · refine .inr ⟨hsz, ?_⟩
          rw [hsz]
          subst h9'
          omega
      · simp only [if_neg h1]
        exact hstep (fun h => h1 h.2)
    · simp only [if_neg (show ¬ (i : Int) = 9 by omega)]
      exact hstep (fun h => h9' h.1)
theorem lk_ref01_Getj (b : List Int) (hb : Bytes b) : Ev (fun k => annuletref01_Get.j1 k b (sizeL b : Int)) (getL b) := by
  have hs := sizeL_le b
  refine ev_succ ?_
  simp only [annuletref01_Get.j1]
  by_cases h10 : sizeL b = 10
  · simp only [if_pos (show (sizeL b : Int) = 10 by omega)]
    unfold getL
    rw [if_pos h10]
    exact ev_some _
  · simp only [if_neg (show ¬ (sizeL b : Int) = 10 by omega)]
    by_cases hl : sizeL b = b.length
    · simp only [if_pos (show (sizeL b : Int) = (b.length : Int) by omega)]
      unfold getL
      rw [if_neg h10, if_pos hl]
      exact ev_some _
    · simp only [if_neg (show ¬ (sizeL b : Int) = (b.length : Int) by omega)]
      have := lk_ref01_Get1 b hb (by omega) (by omega) _ 0 rfl (by omega) (fun h => by omega)
      exact this
theorem lk_ref01_Get0 (b : List Int) (hb : Bytes b) (d : Nat) : ∀ i : Nat, i ≤ 10 → i ≤ b.length → min b.length 10 - i = d → (∀ j < i, 128 ≤ rd b (j : Int)) →
    Ev (fun k => annuletref01_Get.l0 k b (i : Int)) (getL b) := by
  induction d with
  | zero =>
    intro i h1 h2 hd ha
    have hs := sizeL_eq b i h1 h2 ha (fun _ _ => by omega)
    refine ev_succ ?_
    simp only [annuletref01_Get.l0]
    by_cases hi : i < b.length
    · simp only [if_pos (show (i : Int) < (b.length : Int) by omega), if_neg (show ¬ (i : Int) < 10 by omega)]
      rw [← hs]
      exact lk_ref01_Getj b hb
    · simp only [if_neg (show ¬ (i : Int) < (b.length : Int) by omega)]
      rw [← hs]
      exact lk_ref01_Getj b hb
  | succ d ih =>
    intro i h1 h2 hd ha
    refine ev_succ ?_
    simp only [annuletref01_Get.l0]
    simp only [if_pos (show (i : Int) < (b.length : Int) by omega), if_pos (show (i : Int) < 10 by omega), if_pos (show (0 : Int) ≤ (i : Int) by omega)]
    by_cases hr : rd b (i : Int) ≥ 128
    · simp only [if_pos hr]
      rw [w64 (by omega) (by omega)]
      exact ih (i + 1) (by omega) (by omega) (by omega) (fun j hj => by
        by_cases e : j = i
        · subst e; omega
        · exact ha j (by omega))
    · simp only [if_neg hr]
      have hs := sizeL_eq b i h1 h2 ha (fun _ _ => by omega)
      rw [← hs]
      exact lk_ref01_Getj b hb
theorem lk_ref01_Get (b : List Int) (hb : Bytes b) : Ev (fun k => annuletref01_Get.f k b) (getL b) :=
  lk_ref01_Get0 b hb _ 0 (by omega) (by omega) rfl (fun j hj => by omega)
theorem lk_ref01_GetAll0 (b : List Int) (hb : Bytes b) (hl : b.length < 9223372036854775807) (f : Nat) : ∀ (i : Nat) (acc : List Int), i ≤ b.length → b.length - i ≤ f → acc.length + (b.length - i) < 17592186044416 →
    Ev (fun k => annuletref01_GetAll.l0 k b acc (i : Int)) (getAllL f (b.drop i) acc (i : Int)) := by
  induction f with
  | zero =>
    intro i acc hi hf ha
    refine ev_succ ?_
    simp only [annuletref01_GetAll.l0]
    simp only [if_neg (show ¬ (i : Int) < (b.length : Int) by omega)]
    exact ev_some _
  | succ f ih =>
    intro i acc hi hf ha
    refine ev_succ ?_
    simp only [annuletref01_GetAll.l0]
    by_cases h : i < b.length
    · simp only [if_pos (show (i : Int) < (b.length : Int) by omega), if_pos (show (0 : Int) ≤ (i : Int) by omega), if_pos (show (i : Int) ≤ (b.length : Int) by omega), Int.toNat_natCast]
      have hd := bytes_drop hb i
      refine ev_bind (lk_ref01_Get _ hd) ?_
      have hr := getL_range _ hd
      rw [List.length_drop] at hr
      have hne : b.drop i ≠ [] := fun hc => by have := congrArg List.length hc; simp at this; omega
      simp only [getAllL, if_neg hne]
      by_cases h0 : (getL (b.drop i)).2.2 = 0
      · have hpos := hr.2.2.2.2.2 h0
        simp only [if_pos h0, if_pos (show acc.length < 17592186044416 by omega)]
        rw [w64 (by omega) (by omega)]
        have := ih (i + (getL (b.drop i)).2.1.toNat) (acc ++ [(getL (b.drop i)).1]) (by omega) (by omega) (by simp only [List.length_append, List.length_singleton]; omega)
        rw [show ((i + (getL (b.drop i)).2.1.toNat : Nat) : Int) = (i : Int) + (getL (b.drop i)).2.1 by omega] at this
        rw [List.drop_drop]
        exact this
      · simp only [if_neg h0]
        exact ev_some _
    · simp only [if_neg (show ¬ (i : Int) < (b.length : Int) by omega)]
      have he : b.drop i = [] := List.drop_eq_nil_of_le (by omega)
      simp only [getAllL, he, if_true]
      exact ev_some _
theorem lk_ref01_GetAll (b : List Int) (hb : Bytes b) (hl : b.length < 17592186044416) : Ev (fun k => annuletref01_GetAll.f k b) (getAllL b.length b [] 0) := by
  have := lk_ref01_GetAll0 b hb (by omega) b.length 0 [] (by omega) (by omega) (by simpa using hl)
  exact this
theorem lk_ref01_Same0 (l : List Int) (hl : l.length < 9223372036854775807) (d : Nat) : ∀ i : Nat, i ≤ l.length → l.length - i = d → Ev (fun k => annuletref01_Same.l0 k l l (i : Int)) true := by
  induction d with
  | zero =>
    intro i hi hd
    refine ev_succ ?_
    simp only [annuletref01_Same.l0]
    simp only [if_neg (show ¬ (i : Int) < (l.length : Int) by omega)]
    exact ev_some _
  | succ d ih =>
    intro i hi hd
    refine ev_succ ?_
    simp only [annuletref01_Same.l0]
    simp only [if_pos (show (i : Int) < (l.length : Int) by omega), if_pos (show (0 : Int) ≤ (i : Int) by omega), if_true]
    rw [w64 (by omega) (by omega)]
    exact ih (i + 1) (by omega) (by omega)
theorem lk_ref01_Same (l : List Int) (hl : l.length < 9223372036854775807) : Ev (fun k => annuletref01_Same.f k l l) true := by
  unfold annuletref01_Same.f
  simp only [if_true]
  exact lk_ref01_Same0 l hl _ 0 (by omega) rfl
theorem getAllL_len (f : Nat) : ∀ b acc at_, ((getAllL f b acc at_).1).length ≤ acc.length + f := by
  induction f with
  | zero => intro b acc at_; simp [getAllL]
  | succ f ih =>
    intro b acc at_
    simp only [getAllL]
    split
    · simp
    split
    · have := ih (b.drop (getL b).2.1.toNat) (acc ++ [(getL b).1]) (at_ + (getL b).2.1)
      simp only [List.length_append, List.length_singleton] at this
      omega
    · simp
theorem lk_awake01 : Ev (fun k => annuletlaw01_awake.f k) true := Ev.of annuletlaw01_awake.mono (k := 20) (by decide +kernel)
theorem UvarLists_law : annuletlaw01_UvarLists.Pure := by
  intro l0 l1 _ _ hw _ _ hw1
  have hb := bytes_of_wf hw1
  refine Ev.rounds (g := fun k => annuletlaw01_UvarLists.f k l0 l1) ?_
  have awake : Ev (fun k => annuletlaw01_UvarLists.j0 k l0 l1 true) true := by
    refine ev_succ ?_
    simp only [annuletlaw01_UvarLists.j0, if_true]
    exact ev_bind lk_awake01 (ev_some _)
  unfold annuletlaw01_UvarLists.f
  by_cases h0 : (l0.length : Int) > 50
  · simp only [if_pos h0]; exact awake
  simp only [if_neg h0]
  by_cases h1 : (l1.length : Int) > 300
  · rw [decide_eq_true h1]; exact awake
  rw [decide_eq_false h1]
  refine ev_succ ?_
  simp only [annuletlaw01_UvarLists.j0, Bool.false_eq_true, if_false]
  have loop : ∀ (d i : Nat), i ≤ l0.length → l0.length - i = d → Ev (fun k => annuletlaw01_UvarLists.l0 k l0 l1 (putAllL (l0.take i)) (i : Int)) true := by
    intro d
    induction d with
    | zero =>
      intro i hi hd
      refine ev_succ ?_
      simp only [annuletlaw01_UvarLists.l0]
      simp only [if_neg (show ¬ (i : Int) < (l0.length : Int) by omega)]
      refine ev_bind (lk_uvar_GetAll l1 hb (by omega)) ?_
      refine ev_bind (lk_ref01_GetAll l1 hb (by omega)) ?_
      refine ev_bind (lk_uvar_PutAll l0 hw (by omega)) ?_
      rw [List.take_of_length_le (by omega)]
      simp only [if_true]
      have := getAllL_len l1.length l1 [] 0
      refine ev_bind (lk_ref01_Same _ (by simp at this; omega)) ?_
      simp only [if_true]
      exact ev_bind lk_awake01 (ev_some _)
    | succ d ih =>
      intro i hi hd
      refine ev_succ ?_
      simp only [annuletlaw01_UvarLists.l0]
      simp only [if_pos (show (i : Int) < (l0.length : Int) by omega), if_pos (show (0 : Int) ≤ (i : Int) by omega)]
      have hx : rd l0 (i : Int) ∈ l0 := by
        rw [rd_nat]
        have : l0.getD i 0 = l0[i]'(by omega) := by simp [List.getD, show i < l0.length by omega]
        rw [this]
        exact List.getElem_mem _
      have hx' := wf_u64 (hw _ hx)
      refine ev_bind (lk_ref01_Put _ hx'.1 hx'.2) ?_
      have h10 := putL_len10 (n := (rd l0 (i : Int)).toNat) (by omega)
      have hpl := putAllL_len (l0.take i) (fun x hx => hw x (List.mem_of_mem_take hx))
      rw [List.length_take] at hpl
      simp only [if_pos (show (putAllL (l0.take i)).length + (putL (rd l0 (i : Int)).toNat).length < 140737488355328 by omega)]
      rw [w64 (by omega) (by omega), ← putAllL_snoc, ← take_succ_rd l0 i (by omega)]
      exact ih (i + 1) (by omega) (by omega)
  exact loop _ 0 (by omega) rfl
end Go.Proofs.Ytdfjhfopcihcjaa.PUvarLists
namespace Go.Proofs.Ytdfjhfopcihcjaa.Pure
open Go.Proofs.Ytdfjhfopcihcjaa.PUvarLists
theorem UvarLists : annuletlaw01_UvarLists.Pure := UvarLists_law
end Go.Proofs.Ytdfjhfopcihcjaa.Pure
