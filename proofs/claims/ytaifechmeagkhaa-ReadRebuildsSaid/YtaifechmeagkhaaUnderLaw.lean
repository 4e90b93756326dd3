/- Plain laws of what is under a list of heights: a height is the least of heights plus drops; it is a rosette again. -/
import Derived.Test.YtaifechmeagkhaaLiftLaw
namespace Go.Proofs.Ytaifechmeagkhaa
set_option linter.unusedVariables false
theorem pickN_le (N : Nat) (X : Nat → Int) : ∀ k j, j < k → pickN N X underK k ≤ X j := by
  intro k
  induction k with
  | zero => intro j h; omega
  | succ k ih =>
    intro j h
    rcases Nat.eq_zero_or_pos k with h0 | h0
    · subst h0
      obtain rfl : j = 0 := by omega
      rw [pickN_one]; omega
    · rw [pickN_step _ _ _ _ h0, underK_min]
      by_cases hj : j = k
      · subst hj; omega
      · have := ih j (by omega); omega
theorem pickN_memU (N : Nat) (X : Nat → Int) : ∀ k, 0 < k → ∃ j, j < k ∧ pickN N X underK k = X j := by
  intro k
  induction k with
  | zero => intro h; omega
  | succ k ih =>
    intro _
    rcases Nat.eq_zero_or_pos k with h0 | h0
    · subst h0; exact ⟨0, by omega, pickN_one _ _ _⟩
    · rw [pickN_step _ _ _ _ h0, underK_min]
      obtain ⟨j, hj, he⟩ := ih h0
      by_cases h : X k ≤ pickN N X underK k
      · exact ⟨k, by omega, by omega⟩
      · exact ⟨j, by omega, by omega⟩
theorem underL_getElem (f b : List Int) (p : Nat) (h : p < f.length) : (underL f b)[p]'(by rw [underL_length]; exact h) = pickN b.length (pickX f b (-1) underM p) underK b.length := by
  simp [underL, pickedL, pickedP_eq]
theorem pickX_under (f b : List Int) (p j : Nat) : pickX f b (-1) underM p j = atR f ((p : Int) - ((j : Int) - (b.length : Int) / 2)) + b.getD j 0 := by
  unfold pickX underM atR
  rw [Int.neg_one_mul, ← Int.sub_eq_add_neg]
theorem under_ok {f b : List Int} (hf : rosOk f = true) (hb : rubOk b f.length = true) : rosOk (underL f b) = true := by
  obtain ⟨h1, h2, h3⟩ := rosOk_iff.1 hf
  obtain ⟨k1, k2, k3, k4, k5⟩ := rubOk_iff.1 hb
  have hm := rub_mid hb
  refine rosOk_iff.2 ⟨by rw [underL_length]; exact h1, by rw [underL_length]; exact h2, fun p hp0 => ?_⟩
  have hp : p < f.length := by rw [underL_length] at hp0; exact hp0
  rw [underL_getElem f b p hp]
  constructor
  · obtain ⟨j, hj, he⟩ := pickN_memU b.length (pickX f b (-1) underM p) b.length (by omega)
    rw [he, pickX_under]
    have h4 := atR_height hf ((p : Int) - ((j : Int) - (b.length : Int) / 2))
    have h5 := k4 j hj
    simp [hj]
    omega
  · have := pickN_le b.length (pickX f b (-1) underM p) b.length (b.length / 2) (by omega)
    rw [pickX_under, hm] at this
    rw [show (p : Int) - (((b.length / 2 : Nat) : Int) - (b.length : Int) / 2) = (p : Int) from by omega, atR_nat p hp] at this
    have := h3 p hp
    omega
/-- What the reference computes. -/
def refU (f b : List Int) (p k : Nat) : Int := (List.range k).foldl (fun a j => min a (pickX f b (-1) underM p j)) (atR f p)
theorem refU_zero (f b : List Int) (p : Nat) : refU f b p 0 = atR f p := rfl
theorem refU_succ (f b : List Int) (p k : Nat) : refU f b p (k + 1) = min (refU f b p k) (pickX f b (-1) underM p k) := by
  unfold refU; rw [List.range_succ, List.foldl_append]; rfl
theorem refU_le (f b : List Int) (p : Nat) : ∀ k, refU f b p k ≤ atR f p ∧ ∀ j, j < k → refU f b p k ≤ pickX f b (-1) underM p j := by
  intro k
  induction k with
  | zero => exact ⟨by rw [refU_zero]; omega, fun j h => absurd h (by omega)⟩
  | succ k ih =>
    rw [refU_succ]
    refine ⟨by omega, fun j h => ?_⟩
    by_cases hj : j = k
    · subst hj; omega
    · have := ih.2 j (by omega); omega
theorem refU_mem (f b : List Int) (p : Nat) : ∀ k, refU f b p k = atR f p ∨ ∃ j, j < k ∧ refU f b p k = pickX f b (-1) underM p j := by
  intro k
  induction k with
  | zero => exact .inl rfl
  | succ k ih =>
    rw [refU_succ]
    by_cases h : pickX f b (-1) underM p k ≤ refU f b p k
    · exact .inr ⟨k, by omega, by omega⟩
    · rcases ih with h1 | ⟨j, hj, h1⟩
      · exact .inl (by omega)
      · exact .inr ⟨j, by omega, by omega⟩
theorem refU_near {f b : List Int} (hf : rosOk f = true) (hb : rubOk b f.length = true) (p k : Nat) (hk : k ≤ b.length) : 0 ≤ refU f b p k ∧ refU f b p k ≤ 10000 := by
  have h1 := atR_height hf (p : Int)
  have h2 := (refU_le f b p k).1
  obtain ⟨k1, k2, k3, k4, k5⟩ := rubOk_iff.1 hb
  rcases refU_mem f b p k with h | ⟨j, hj, h⟩
  · omega
  · have h4 := atR_height hf ((p : Int) - ((j : Int) - (b.length : Int) / 2))
    have h5 := k4 j (by omega)
    rw [pickX_under] at h
    have hj' : j < b.length := by omega
    simp [hj'] at h
    omega
theorem refU_under {f b : List Int} (hf : rosOk f = true) (hb : rubOk b f.length = true) (p : Nat) (hp : p < f.length) : refU f b p b.length = (underL f b)[p]'(by rw [underL_length]; exact hp) := by
  rw [underL_getElem f b p hp]
  obtain ⟨k1, k2, k3, k4, k5⟩ := rubOk_iff.1 hb
  have hm := rub_mid hb
  have hX : pickX f b (-1) underM p (b.length / 2) = atR f p := by
    rw [pickX_under, hm, show (p : Int) - (((b.length / 2 : Nat) : Int) - (b.length : Int) / 2) = (p : Int) from by omega]; omega
  obtain ⟨j, hj, he⟩ := pickN_memU b.length (pickX f b (-1) underM p) b.length (by omega)
  have h1 := (refU_le f b p b.length).2 j hj
  have h2 : pickN b.length (pickX f b (-1) underM p) underK b.length ≤ refU f b p b.length := by
    rcases refU_mem f b p b.length with h | ⟨i, hi, h⟩
    · rw [h, ← hX]; exact pickN_le _ _ _ _ (by omega)
    · rw [h]; exact pickN_le _ _ _ _ hi
  omega
theorem refL_under {f b : List Int} (hf : rosOk f = true) (hb : rubOk b f.length = true) : (List.range f.length).map (fun p => refU f b p b.length) = underL f b := by
  apply List.ext_getElem
  · simp [underL_length]
  · intro p h1 h2
    rw [underL_length] at h2
    rw [← refU_under hf hb p h2]
    simp
/-- The first index below n where X is below Y. -/
def fstLt (X Y : List Int) (n : Nat) : Option Nat := (List.range n).find? fun i => decide (X.getD i 0 < Y.getD i 0)
theorem fstLt_none {X Y : List Int} {n : Nat} (h : ∀ i, i < n → Y.getD i 0 ≤ X.getD i 0) : fstLt X Y n = none := by
  unfold fstLt
  rw [List.find?_eq_none]
  intro i hi
  simpa using h i (List.mem_range.1 hi)
theorem fstLt_some {X Y : List Int} {n i : Nat} (hi : i < n) (h : X.getD i 0 < Y.getD i 0) (hb : ∀ j, j < i → Y.getD j 0 ≤ X.getD j 0) : fstLt X Y n = some i := by
  unfold fstLt
  have hn : n = i + (n - i) := by omega
  rw [hn, List.range_add, List.find?_append]
  have h1 : (List.range i).find? (fun i => decide (X.getD i 0 < Y.getD i 0)) = none := by
    rw [List.find?_eq_none]
    intro j hj
    simpa using hb j (List.mem_range.1 hj)
  rw [h1]
  have h2 : n - i = (n - i - 1) + 1 := by omega
  rw [h2, List.range_succ_eq_map]
  simp only [List.map_cons, Nat.add_zero, List.find?_cons, Option.none_or]
  rw [decide_eq_true h]
def groundL (f b : List Int) : List Int := liftL (underL f b) b
theorem groundL_length (f b : List Int) : (groundL f b).length = f.length := by rw [groundL, liftL_length, underL_length]
/-- The error of Rebuild. -/
def rebE (low high rub : List Int) : Int :=
  if rosOk low then
    if bothE high rub = 0 then
      if low.length = high.length then
        if (fstLt high low low.length).isSome then 2 else if (fstLt (groundL high rub) low low.length).isSome then 6 else 0
      else 2
    else bothE high rub
  else 30
def rebN (low high rub : List Int) : Nat := if rebE low high rub = 6 then (fstLt (groundL high rub) low low.length).getD 0 else 0
def rebL (low high rub : List Int) : List Int := if rebE low high rub = 0 then underL high rub else []
theorem bothE_zero {f b : List Int} (h : bothE f b = 0) : rosOk f = true ∧ rubOk b f.length = true := by
  unfold bothE at h
  cases h1 : rosOk f <;> cases h2 : rubOk b f.length <;> simp_all
theorem bothE_six (f b : List Int) : bothE f b ≠ 6 := by
  unfold bothE
  cases rosOk f <;> cases rubOk b f.length <;> simp
end Go.Proofs.Ytaifechmeagkhaa
