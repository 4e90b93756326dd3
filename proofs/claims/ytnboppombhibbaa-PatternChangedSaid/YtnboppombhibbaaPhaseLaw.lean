/- Plain laws of phases: how they grow from cut to cut; cuts, step by step; the gap. -/
import Derived.Test.YtnboppombhibbaaP4Gap
namespace Go.Proofs.Ytnboppombhibbaa
set_option linter.unusedVariables false
/-- The phase of a cut, not reduced. -/
def ptI (p : Prog) (j : Int) : Int := j / (p.shifts.length : Int) * sumTo p.shifts p.shifts.length + sumTo p.shifts (j % (p.shifts.length : Int)).toNat
theorem phase_pt (p : Prog) (j : Int) : phaseI p j = ptI p j % (p.ros.length : Int) := rfl
/-- The shift from cut j to the next. -/
def shAt (p : Prog) (j : Int) : Int := p.shifts.getD (j % (p.shifts.length : Int)).toNat 0
theorem pt_zero {p : Prog} : ptI p 0 = 0 := by unfold ptI; simp [sumTo]
theorem pt_succ {p : Prog} (h0 : 1 ≤ p.shifts.length) (j : Int) : ptI p (j + 1) = ptI p j + shAt p j := by
  have hr0 := Int.emod_nonneg j (show (p.shifts.length : Int) ≠ 0 by omega)
  have hr1 := Int.emod_lt_of_pos j (show (0 : Int) < (p.shifts.length : Int) by omega)
  have hd := Int.emod_add_mul_ediv j (p.shifts.length : Int)
  unfold ptI shAt
  obtain ⟨r, hr⟩ : ∃ r : Nat, j % (p.shifts.length : Int) = (r : Int) := ⟨_, (Int.toNat_of_nonneg hr0).symm⟩
  generalize j / (p.shifts.length : Int) = q at hd
  rw [hr] at hd hr1 ⊢
  have hrl : r < p.shifts.length := by omega
  rw [Int.toNat_natCast]
  have hs := sumTo_succ p.shifts r hrl
  have hg : p.shifts.getD r 0 = p.shifts[r] := by simp [hrl]
  by_cases hlast : r + 1 = p.shifts.length
  · have e1 : (j + 1) / (p.shifts.length : Int) = q + 1 := by
      rw [← hd, show (r : Int) + (p.shifts.length : Int) * q + 1 = (p.shifts.length : Int) * (q + 1) by rw [Int.mul_add]; omega, Int.mul_ediv_cancel_left _ (by omega)]
    have e2 : (j + 1) % (p.shifts.length : Int) = 0 := by
      rw [← hd, show (r : Int) + (p.shifts.length : Int) * q + 1 = (p.shifts.length : Int) * (q + 1) by rw [Int.mul_add]; omega, Int.mul_emod_right]
    rw [e1, e2, hg]
    have h3 : sumTo p.shifts p.shifts.length = sumTo p.shifts r + p.shifts[r] := by rw [← hs, hlast]
    have h4 : sumTo p.shifts (Int.toNat 0) = 0 := by simp [sumTo]
    rw [h4, h3, Int.add_mul]
    omega
  · have e1 : (j + 1) / (p.shifts.length : Int) = q := by
      rw [← hd, show (r : Int) + (p.shifts.length : Int) * q + 1 = ((r : Int) + 1) + (p.shifts.length : Int) * q by omega, Int.add_mul_ediv_left _ _ (by omega), Int.ediv_eq_zero_of_lt (by omega) (by omega)]
      omega
    have e2 : (j + 1) % (p.shifts.length : Int) = ((r + 1 : Nat) : Int) := by
      rw [← hd, show (r : Int) + (p.shifts.length : Int) * q + 1 = ((r : Int) + 1) + (p.shifts.length : Int) * q by omega, Int.add_mul_emod_self_left, Int.emod_eq_of_lt (by omega) (by omega)]
      omega
    rw [e1, e2, Int.toNat_natCast, hs, hg]
    omega
theorem phase_succ {p : Prog} (h0 : 1 ≤ p.shifts.length) (j : Int) : phaseI p (j + 1) = (phaseI p j + shAt p j) % (p.ros.length : Int) := by
  rw [phase_pt, phase_pt, pt_succ h0, Int.emod_add_emod]
theorem shAt_nat (p : Prog) (k : Nat) (h : k < p.shifts.length) : shAt p (k : Int) = p.shifts[k] := by
  unfold shAt
  rw [Int.emod_eq_of_lt (by omega) (by omega), Int.toNat_natCast]
  simp [h]
theorem shAt_mem {p : Prog} (h0 : 1 ≤ p.shifts.length) (j : Int) : shAt p j ∈ p.shifts := by
  have hr0 := Int.emod_nonneg j (show (p.shifts.length : Int) ≠ 0 by omega)
  have hr1 := Int.emod_lt_of_pos j (show (0 : Int) < (p.shifts.length : Int) by omega)
  unfold shAt
  have : (j % (p.shifts.length : Int)).toNat < p.shifts.length := by omega
  simp [this]
theorem shapeL_get (p : Prog) (j : Int) (m : Nat) (h : m < p.ros.length) : (shapeL p j)[m]'(by rw [shapeL_length]; exact h) = atR (liftL p.ros p.rub) ((m : Int) - phaseI p j) * p.throw := by
  unfold shapeL
  rw [List.getElem_map]
  congr 1
  exact movedL_get _ _ m (by rw [liftL_length]; exact h)
theorem cutL_len (p : Prog) (j : Int) : (cutL p j).length = p.ros.length := by unfold cutL; rw [List.length_map, shapeL_length]
theorem cutL_at (p : Prog) (j : Int) (m : Nat) (h : m < p.ros.length) : (cutL p j)[m]'(by rw [cutL_len]; exact h) = atR (liftL p.ros p.rub) ((m : Int) - phaseI p j) * p.throw + (p.start + j * p.adv) := by
  unfold cutL
  rw [List.getElem_map, shapeL_get p j m h]
/-- What lies between two cuts that follow each other, at a step. -/
def stepI (p : Prog) (j : Int) (m : Nat) : Int := (cutL p (j + 1)).getD m 0 - (cutL p j).getD m 0
theorem stepI_eq {p : Prog} (hp : BenchFacts p) (j : Int) (m : Nat) (h : m < p.ros.length) : stepI p j m = p.adv + p.throw * (atR (liftL p.ros p.rub) (((m : Int) - phaseI p j) - shAt p j) - atR (liftL p.ros p.rub) ((m : Int) - phaseI p j)) := by
  have hl := liftL_length p.ros p.rub
  have e : atR (liftL p.ros p.rub) ((m : Int) - phaseI p (j + 1)) = atR (liftL p.ros p.rub) (((m : Int) - phaseI p j) - shAt p j) := by
    refine atR_mod _ _ _ ?_
    rw [hl, phase_succ hp.sh0, Int.sub_emod_emod]
    congr 1
    omega
  unfold stepI
  simp only [List.getD_eq_getElem?_getD, List.getElem?_eq_getElem (show m < (cutL p (j + 1)).length by rw [cutL_len]; exact h), List.getElem?_eq_getElem (show m < (cutL p j).length by rw [cutL_len]; exact h), Option.getD_some]
  rw [cutL_at p _ m h, cutL_at p _ m h, e]
  generalize atR (liftL p.ros p.rub) (((m : Int) - phaseI p j) - shAt p j) = x
  generalize atR (liftL p.ros p.rub) ((m : Int) - phaseI p j) = y
  rw [Int.mul_sub, Int.mul_comm p.throw x, Int.mul_comm p.throw y, Int.add_mul]
  omega
theorem minL_le (l : List Int) : ∀ a, minL a l ≤ a ∧ ∀ x ∈ l, minL a l ≤ x := by
  induction l with
  | nil => intro a; exact ⟨Int.le_refl _, by simp⟩
  | cons y l ih =>
    intro a
    rw [minL_cons]
    obtain ⟨h1, h2⟩ := ih (min a y)
    refine ⟨by omega, fun x hx => ?_⟩
    rcases List.mem_cons.1 hx with rfl | hx
    · omega
    · exact h2 x hx
theorem minL_mem (l : List Int) : ∀ a, minL a l = a ∨ minL a l ∈ l := by
  induction l with
  | nil => intro a; exact .inl rfl
  | cons y l ih =>
    intro a
    rw [minL_cons]
    rcases ih (min a y) with h | h
    · by_cases ha : a ≤ y
      · exact .inl (by omega)
      · exact .inr (by rw [h, show min a y = y by omega]; simp)
    · exact .inr (by simp [h])
theorem gap_entry {p : Prog} {s : Int} {a : Nat} (hs : s ∈ p.shifts) (ha : a < p.ros.length) : p.adv + p.throw * (atR (liftL p.ros p.rub) ((a : Int) - s) - atR (liftL p.ros p.rub) a) ∈ gapPre p p.shifts.length := by
  unfold gapPre
  rw [List.take_of_length_le (Nat.le_refl _), List.mem_flatMap]
  refine ⟨s, hs, ?_⟩
  unfold gapRow
  exact List.mem_map.2 ⟨a, List.mem_range.2 ha, rfl⟩
theorem gap_least {p : Prog} (hp : BenchFacts p) (j : Int) (m : Nat) (h : m < p.ros.length) : gapI p ≤ stepI p j m := by
  have hl := liftL_length p.ros p.rub
  rw [stepI_eq hp j m h]
  have hr0 := Int.emod_nonneg ((m : Int) - phaseI p j) (show (p.ros.length : Int) ≠ 0 by omega)
  have hr1 := Int.emod_lt_of_pos ((m : Int) - phaseI p j) (show (0 : Int) < (p.ros.length : Int) by omega)
  obtain ⟨r, hr⟩ : ∃ r : Nat, ((m : Int) - phaseI p j) % (p.ros.length : Int) = (r : Int) := ⟨_, (Int.toNat_of_nonneg hr0).symm⟩
  have hrl : r < p.ros.length := by omega
  have e1 : atR (liftL p.ros p.rub) ((m : Int) - phaseI p j) = atR (liftL p.ros p.rub) (r : Int) := atR_mod _ _ _ (by rw [hl, hr]; exact (Int.emod_eq_of_lt (by omega) (by omega)).symm)
  have e2 : atR (liftL p.ros p.rub) (((m : Int) - phaseI p j) - shAt p j) = atR (liftL p.ros p.rub) ((r : Int) - shAt p j) := atR_mod _ _ _ (by rw [hl, ← hr, Int.emod_sub_emod])
  rw [e1, e2]
  exact (minL_le _ _).2 _ (gap_entry (shAt_mem hp.sh0 j) hrl)
theorem gap_found {p : Prog} (hp : BenchFacts p) : ∃ k m : Nat, k < p.shifts.length ∧ m < p.ros.length ∧ stepI p (k : Int) m = gapI p := by
  have h0 := hp.ros0
  have hl := liftL_length p.ros p.rub
  have hne : gapI p ∈ gapPre p p.shifts.length := by
    rcases minL_mem (gapPre p p.shifts.length) 1099511627776 with h | h
    · have h1 := gap_entry (p := p) (shAt_mem hp.sh0 0) (show 0 < p.ros.length by omega)
      have h2 := (minL_le (gapPre p p.shifts.length) 1099511627776).2 _ h1
      have h3 := gap_bound hp _ h1
      omega
    · exact h
  unfold gapPre at hne
  rw [List.take_of_length_le (Nat.le_refl _), List.mem_flatMap] at hne
  obtain ⟨s, hs, hrow⟩ := hne
  obtain ⟨k, hk, rfl⟩ := List.mem_iff_getElem.1 hs
  unfold gapRow at hrow
  obtain ⟨a, ha, he⟩ := List.mem_map.1 hrow
  have ha' := List.mem_range.1 ha
  have hr0 := Int.emod_nonneg ((a : Int) + phaseI p k) (show (p.ros.length : Int) ≠ 0 by omega)
  have hr1 := Int.emod_lt_of_pos ((a : Int) + phaseI p k) (show (0 : Int) < (p.ros.length : Int) by omega)
  obtain ⟨m, hm⟩ : ∃ r : Nat, ((a : Int) + phaseI p k) % (p.ros.length : Int) = (r : Int) := ⟨_, (Int.toNat_of_nonneg hr0).symm⟩
  refine ⟨k, m, hk, by omega, ?_⟩
  rw [stepI_eq hp _ m (by omega), shAt_nat p k hk, ← he]
  have e1 : atR (liftL p.ros p.rub) ((m : Int) - phaseI p k) = atR (liftL p.ros p.rub) (a : Int) := atR_mod _ _ _ (by rw [hl, ← hm, Int.emod_sub_emod]; congr 1; omega)
  have e2 : atR (liftL p.ros p.rub) (((m : Int) - phaseI p k) - p.shifts[k]) = atR (liftL p.ros p.rub) ((a : Int) - p.shifts[k]) := atR_mod _ _ _ (by
    rw [hl, ← hm, show ((a : Int) + phaseI p k) % (p.ros.length : Int) - phaseI p k - p.shifts[k] = ((a : Int) + phaseI p k) % (p.ros.length : Int) - (phaseI p k + p.shifts[k]) by omega, Int.emod_sub_emod]
    congr 1
    omega)
  rw [e1, e2]
end Go.Proofs.Ytnboppombhibbaa
