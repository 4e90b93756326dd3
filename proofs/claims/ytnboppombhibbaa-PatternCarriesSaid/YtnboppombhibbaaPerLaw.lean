/- Plain laws of turning: the period is the least turn that changes nothing. -/
import Derived.Test.YtnboppombhibbaaLiftLaw
namespace Go.Proofs.Ytnboppombhibbaa
set_option linter.unusedVariables false
/-- The reference's turned list. -/
def movedL (f : List Int) (s : Int) : List Int := (List.range f.length).map fun (p : Nat) => atR f ((p : Int) - s)
theorem movedL_length (f : List Int) (s : Int) : (movedL f s).length = f.length := by simp [movedL]
theorem movedL_get (f : List Int) (s : Int) (p : Nat) (h : p < f.length) : (movedL f s)[p]'(by rw [movedL_length]; exact h) = atR f ((p : Int) - s) := by simp [movedL]
theorem atR_mod (f : List Int) (i j : Int) (h : i % (f.length : Int) = j % (f.length : Int)) : atR f i = atR f j := by unfold atR; rw [h]
theorem atR_add_len (f : List Int) (i q : Int) : atR f (i + f.length * q) = atR f i := atR_mod _ _ _ (Int.add_mul_emod_self_left ..)
def Shifts (f : List Int) (s : Int) : Prop := ∀ i : Int, atR f (i - s) = atR f i
theorem moved_iff (f : List Int) (s : Int) : movedL f s = f ↔ Shifts f s := by
  constructor
  · intro h i
    by_cases h0 : f.length = 0
    · have : f = [] := List.length_eq_zero_iff.1 h0
      subst this; simp [atR]
    have hq0 := Int.emod_nonneg i (show (f.length : Int) ≠ 0 by omega)
    have hq1 := Int.emod_lt_of_pos i (show (0 : Int) < (f.length : Int) by omega)
    obtain ⟨r, hr⟩ : ∃ r : Nat, i % (f.length : Int) = (r : Int) := ⟨_, (Int.toNat_of_nonneg hq0).symm⟩
    have hrl : r < f.length := by omega
    have e1 := movedL_get f s r hrl
    have e2 : (movedL f s)[r]'(by rw [movedL_length]; exact hrl) = f[r] := by simp [h]
    rw [e2, ← atR_nat r hrl] at e1
    have hi : i = (r : Int) + f.length * (i / f.length) := by have := Int.emod_add_mul_ediv i f.length; omega
    rw [hi, show (r : Int) + f.length * (i / f.length) - s = ((r : Int) - s) + f.length * (i / f.length) from by omega, atR_add_len, atR_add_len]
    exact e1.symm
  · intro h
    apply List.ext_getElem (movedL_length f s)
    intro p h1 h2
    rw [movedL_get f s p h2, h p, atR_nat p h2]
theorem Shifts.zero (f : List Int) : Shifts f 0 := fun i => by rw [Int.sub_zero]
theorem Shifts.add {f : List Int} {s t : Int} (h : Shifts f s) (k : Shifts f t) : Shifts f (s + t) := fun i => by
  rw [show i - (s + t) = (i - s) - t from by omega, k, h]
theorem Shifts.neg {f : List Int} {s : Int} (h : Shifts f s) : Shifts f (-s) := fun i => by
  have := h (i + s)
  rw [show i - -s = i + s from by omega, ← this, show i + s - s = i from by omega]
theorem Shifts.len (f : List Int) : Shifts f f.length := fun i => by
  have := atR_add_len f i (-1)
  rw [← this]; congr 1; omega
theorem Shifts.mul {f : List Int} {s : Int} (h : Shifts f s) (k : Nat) : Shifts f (s * k) := by
  induction k with
  | zero => simpa using Shifts.zero f
  | succ k ih => have := ih.add h; rwa [show s * (k : Int) + s = s * ((k + 1 : Nat) : Int) from by rw [Int.natCast_add, Int.mul_add]; simp] at this
theorem Shifts.mulI {f : List Int} {s : Int} (h : Shifts f s) (k : Int) : Shifts f (s * k) := by
  rcases Int.eq_nat_or_neg k with ⟨n, rfl | rfl⟩
  · exact h.mul n
  · have := (h.mul n).neg; rwa [show -(s * (n : Int)) = s * -(n : Int) from by rw [Int.mul_neg]] at this
/-- s is the least turn, from 1 on, that changes nothing. -/
structure IsLeast (f : List Int) (s : Nat) : Prop where
  pos : 1 ≤ s
  sh : Shifts f s
  least : ∀ j : Nat, 1 ≤ j → j < s → ¬ Shifts f j
theorem IsLeast.dvd {f : List Int} {s : Nat} (h : IsLeast f s) (t : Int) : Shifts f t ↔ (s : Int) ∣ t := by
  constructor
  · intro ht
    have hm := Int.emod_add_mul_ediv t s
    have h0 := Int.emod_nonneg t (show (s : Int) ≠ 0 by have := h.pos; omega)
    have h1 := Int.emod_lt_of_pos t (show (0 : Int) < s by have := h.pos; omega)
    have hs : Shifts f (t % s) := by
      have := ht.add (h.sh.mulI (t / s)).neg
      rwa [show t + -((s : Int) * (t / s)) = t % s from by omega] at this
    by_cases hz : t % s = 0
    · exact Int.dvd_of_emod_eq_zero hz
    · exfalso
      obtain ⟨r, hr⟩ : ∃ r : Nat, t % (s : Int) = (r : Int) := ⟨_, (Int.toNat_of_nonneg h0).symm⟩
      rw [hr] at hs
      exact h.least r (by omega) (by omega) hs
  · rintro ⟨k, rfl⟩
    exact h.sh.mulI k
theorem turn_moved (f : List Int) (s : Nat) (h : s ≤ f.length) : turnL f s = movedL f s := by
  apply List.ext_getElem
  · rw [movedL_length, turnL_length]
  · intro p h1 h2
    rw [movedL_length] at h2
    rw [movedL_get f s p h2]
    revert h1
    unfold turnL
    intro h1
    by_cases hp : p < s
    · rw [List.getElem_append_left (by simp; omega)]
      rw [List.getElem_drop]
      have : atR f ((p : Int) - s) = atR f ((f.length - s + p : Nat) : Int) := atR_mod _ _ _ (by
        rw [show ((f.length - s + p : Nat) : Int) = ((p : Int) - s) + f.length * 1 from by omega, Int.add_mul_emod_self_left])
      rw [this, atR_nat _ (by omega)]
    · rw [List.getElem_append_right (by simp; omega)]
      rw [List.getElem_take]
      have e : (p : Int) - s = ((p - s : Nat) : Int) := by omega
      rw [e, atR_nat _ (by omega)]
      congr 1
      simp
      omega
theorem count_mul (s : Nat) (hs : 1 ≤ s) : ∀ m, ((List.range (s * m)).filter fun j => decide (s ∣ j)).length = m := by
  intro m
  induction m with
  | zero => simp
  | succ m ih =>
    rw [Nat.mul_succ, List.range_add, List.filter_append, List.length_append, ih]
    congr 1
    rw [List.filter_map, List.length_map]
    have : (List.range s).filter ((fun j => decide (s ∣ j)) ∘ fun x => s * m + x) = [0] := by
      obtain ⟨k, rfl⟩ : ∃ k, s = k + 1 := ⟨s - 1, by omega⟩
      rw [List.range_succ_eq_map, List.filter_cons]
      have h0 : ((fun j => decide (k + 1 ∣ j)) ∘ fun x => (k + 1) * m + x) 0 = true := by simp only [Function.comp, decide_eq_true_eq, Nat.add_zero]; exact Nat.dvd_mul_right _ _
      rw [if_pos h0]
      congr 1
      rw [List.filter_eq_nil_iff]
      intro x hx
      simp only [List.mem_map, List.mem_range] at hx
      obtain ⟨y, hy, rfl⟩ := hx
      simp only [Function.comp, decide_eq_true_eq]
      intro hd
      have := (Nat.dvd_add_right (Nat.dvd_mul_right (k + 1) m)).1 hd
      exact absurd (Nat.le_of_dvd (by omega) this) (by omega)
    rw [this]; rfl
theorem IsLeast.period {f : List Int} {s : Nat} (h : IsLeast f s) (hn : 0 < f.length) : periodL f = s := by
  obtain ⟨m, hm⟩ : s ∣ f.length := by
    have := (h.dvd f.length).1 (Shifts.len f)
    exact Int.natCast_dvd_natCast.1 this
  have hp := h.pos
  have hm0 : 0 < m := by
    rcases Nat.eq_zero_or_pos m with h0 | h0
    · rw [h0] at hm; omega
    · exact h0
  have hc : (matchesI f f f.length).length = m := by
    have e : matchesN f f f.length = (List.range (s * m)).filter fun j => decide (s ∣ j) := by
      unfold matchesN
      rw [← hm]
      apply List.filter_congr
      intro j hj
      have hj' : j < f.length := List.mem_range.1 hj
      rw [turn_moved f j (by omega), Bool.eq_iff_iff, beq_iff_eq, moved_iff, h.dvd, decide_eq_true_eq, Int.natCast_dvd_natCast]
    have := count_mul s hp m
    rw [← e] at this
    simpa [matchesI] using this
  unfold periodL
  rw [hc, hm, Nat.mul_div_cancel _ hm0]
end Go.Proofs.Ytnboppombhibbaa
