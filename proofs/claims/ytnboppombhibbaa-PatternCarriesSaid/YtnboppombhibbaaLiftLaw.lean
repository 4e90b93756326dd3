/- Plain laws of lifts: a lift's height is the greatest of heights less drops; a lift is a rosette again. -/
import Derived.Test.YtnboppombhibbaaRos3
namespace Go.Proofs.Ytnboppombhibbaa
set_option linter.unusedVariables false
def pickN (N : Nat) (X : Nat → Int) (K : Int → Int → Int) (k : Nat) : Int := (List.range k).foldl (pickStep N X K) 0
theorem pickN_succ (N : Nat) (X : Nat → Int) (K : Int → Int → Int) (k : Nat) : pickN N X K (k + 1) = pickStep N X K (pickN N X K k) k := by
  unfold pickN; rw [List.range_succ, List.foldl_append]; rfl
theorem finRange_val (N : Nat) : (List.finRange N).map (·.1) = List.range N := by
  apply List.ext_getElem
  · simp
  · intro i h1 h2; simp
theorem pickedP_eq (f b : List Int) (dir : Int) (M K : Int → Int → Int) (p : Nat) : pickedP f b dir M K p = pickN b.length (pickX f b dir M p) K b.length := by
  unfold pickedP pickSt pickN
  rw [finRange_val]
theorem pickN_one (N : Nat) (X : Nat → Int) (K : Int → Int → Int) : pickN N X K 1 = X 0 := by
  rw [pickN_succ]; simp [pickStep]
theorem pickN_step (N : Nat) (X : Nat → Int) (K : Int → Int → Int) (k : Nat) (h : 0 < k) : pickN N X K (k + 1) = K (pickN N X K k) (X k) := by
  rw [pickN_succ]; unfold pickStep
  rw [if_neg (by omega)]
theorem liftK_max (x y : Int) : liftK x y = max x y := by unfold liftK; split <;> omega
theorem underK_min (x y : Int) : underK x y = min x y := by unfold underK; split <;> omega
theorem pickN_ge (N : Nat) (X : Nat → Int) : ∀ k j, j < k → X j ≤ pickN N X liftK k := by
  intro k
  induction k with
  | zero => intro j h; omega
  | succ k ih =>
    intro j h
    rcases Nat.eq_zero_or_pos k with h0 | h0
    · subst h0
      obtain rfl : j = 0 := by omega
      rw [pickN_one]; omega
    · rw [pickN_step _ _ _ _ h0, liftK_max]
      by_cases hj : j = k
      · subst hj; omega
      · have := ih j (by omega); omega
theorem pickN_mem (N : Nat) (X : Nat → Int) : ∀ k, 0 < k → ∃ j, j < k ∧ pickN N X liftK k = X j := by
  intro k
  induction k with
  | zero => intro h; omega
  | succ k ih =>
    intro _
    rcases Nat.eq_zero_or_pos k with h0 | h0
    · subst h0; exact ⟨0, by omega, pickN_one _ _ _⟩
    · rw [pickN_step _ _ _ _ h0, liftK_max]
      obtain ⟨j, hj, he⟩ := ih h0
      by_cases h : pickN N X liftK k ≤ X k
      · exact ⟨k, by omega, by omega⟩
      · exact ⟨j, by omega, by omega⟩
theorem liftL_getElem (f b : List Int) (p : Nat) (h : p < f.length) : (liftL f b)[p]'(by rw [liftL_length]; exact h) = pickN b.length (pickX f b 1 liftM p) liftK b.length := by
  simp [liftL, pickedL, pickedP_eq]
theorem rosOk_iff {f : List Int} : rosOk f = true ↔ 3 ≤ f.length ∧ f.length ≤ 96 ∧ ∀ i (h : i < f.length), 0 ≤ f[i] ∧ f[i] ≤ 10000 := by
  unfold rosOk
  simp only [Bool.and_eq_true, decide_eq_true_eq, List.all_eq_true]
  constructor
  · rintro ⟨h1, h2, h3⟩; exact ⟨h1, h2, fun i h => within_iff.1 (h3 _ (List.getElem_mem h))⟩
  · rintro ⟨h1, h2, h3⟩
    refine ⟨h1, h2, fun x hx => ?_⟩
    obtain ⟨i, hi, rfl⟩ := List.mem_iff_getElem.1 hx
    exact within_iff.2 (h3 i hi)
theorem rubOk_iff {b : List Int} {n : Int} : rubOk b n = true ↔ b.length % 2 = 1 ∧ (b.length : Int) ≤ n ∧ b.length ≤ 31 ∧ (∀ i (h : i < b.length), 0 ≤ b[i] ∧ b[i] ≤ 10000) ∧ b.getD (b.length / 2) 0 ≤ 0 := by
  unfold rubOk
  simp only [Bool.and_eq_true, decide_eq_true_eq, List.all_eq_true]
  constructor
  · rintro ⟨h1, h2, h3, h4, h5⟩; exact ⟨h1, h2, h3, fun i h => within_iff.1 (h4 _ (List.getElem_mem h)), h5⟩
  · rintro ⟨h1, h2, h3, h4, h5⟩
    refine ⟨h1, h2, h3, fun x hx => ?_, h5⟩
    obtain ⟨i, hi, rfl⟩ := List.mem_iff_getElem.1 hx
    exact within_iff.2 (h4 i hi)
theorem rub_mid {b : List Int} {n : Int} (h : rubOk b n = true) : b.getD (b.length / 2) 0 = 0 := by
  obtain ⟨h1, h2, h3, h4, h5⟩ := rubOk_iff.1 h
  have hk : b.length / 2 < b.length := by omega
  have := h4 _ hk
  simp [hk] at h5 ⊢
  omega
/-- The height of f at a step counted around. -/
def atR (f : List Int) (i : Int) : Int := f.getD (i % (f.length : Int)).toNat 0
theorem atR_height {f : List Int} (h : rosOk f = true) (i : Int) : 0 ≤ atR f i ∧ atR f i ≤ 10000 := by
  obtain ⟨h1, h2, h3⟩ := rosOk_iff.1 h
  have hq0 := Int.emod_nonneg i (show (f.length : Int) ≠ 0 by omega)
  have hq1 := Int.emod_lt_of_pos i (show (0 : Int) < (f.length : Int) by omega)
  have hk : (i % (f.length : Int)).toNat < f.length := by omega
  unfold atR
  simp [hk]
  exact h3 _ hk
theorem atR_nat {f : List Int} (p : Nat) (h : p < f.length) : atR f (p : Int) = f[p] := by
  unfold atR
  rw [Int.emod_eq_of_lt (by omega) (by omega)]
  simp [h]
theorem pickX_lift (f b : List Int) (p j : Nat) : pickX f b 1 liftM p j = atR f ((p : Int) + ((j : Int) - (b.length : Int) / 2)) - b.getD j 0 := by
  unfold pickX liftM atR
  rw [Int.one_mul]
theorem lift_ok {f b : List Int} (hf : rosOk f = true) (hb : rubOk b f.length = true) : rosOk (liftL f b) = true := by
  obtain ⟨h1, h2, h3⟩ := rosOk_iff.1 hf
  obtain ⟨k1, k2, k3, k4, k5⟩ := rubOk_iff.1 hb
  have hm := rub_mid hb
  refine rosOk_iff.2 ⟨by rw [liftL_length]; exact h1, by rw [liftL_length]; exact h2, fun p hp0 => ?_⟩
  have hp : p < f.length := by rw [liftL_length] at hp0; exact hp0
  rw [liftL_getElem f b p hp]
  constructor
  · have := pickN_ge b.length (pickX f b 1 liftM p) b.length (b.length / 2) (by omega)
    rw [pickX_lift, hm] at this
    have e : (p : Int) + ((b.length / 2 : Nat) : Int) - (b.length : Int) / 2 = (p : Int) := by omega
    rw [show (p : Int) + (((b.length / 2 : Nat) : Int) - (b.length : Int) / 2) = (p : Int) from by omega, atR_nat p hp] at this
    have := h3 p hp
    omega
  · obtain ⟨j, hj, he⟩ := pickN_mem b.length (pickX f b 1 liftM p) b.length (by omega)
    rw [he, pickX_lift]
    have h4 := atR_height hf ((p : Int) + ((j : Int) - (b.length : Int) / 2))
    have h5 := k4 j hj
    simp [hj]
    omega
end Go.Proofs.Ytnboppombhibbaa
