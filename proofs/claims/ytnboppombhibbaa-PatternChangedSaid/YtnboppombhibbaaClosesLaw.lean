/- After how many cuts the shapes are as they were, or turned alike. -/
import Derived.Test.YtnboppombhibbaaTakenLaw
namespace Go.Proofs.Ytnboppombhibbaa
open Go.RowKit
set_option linter.unusedVariables false
set_option linter.unusedSimpArgs false
theorem turned_iff {p : Prog} (hp : BenchFacts p) (a b s : Int) : movedL (shapeL p a) s = shapeL p b ↔ (per p : Int) ∣ ptI p b - ptI p a - s := by
  have hr := hp.ros0
  constructor
  · intro h
    have key : ∀ i : Int, hP p (i + (-s - ptI p a)) = hP p (i + (-ptI p b)) := by
      intro i
      have h0 := Int.emod_nonneg i (show (p.ros.length : Int) ≠ 0 by omega)
      have h1 := Int.emod_lt_of_pos i (show (0 : Int) < (p.ros.length : Int) by omega)
      obtain ⟨m, hm⟩ : ∃ m : Nat, i % (p.ros.length : Int) = (m : Int) := ⟨_, (Int.toNat_of_nonneg h0).symm⟩
      have hml : m < p.ros.length := by omega
      have e1 := movedL_get (shapeL p a) s m (by rw [shapeL_length]; exact hml)
      have e2 : (movedL (shapeL p a) s)[m]'(by rw [movedL_length, shapeL_length]; exact hml) = (shapeL p b)[m]'(by rw [shapeL_length]; exact hml) := by simp [h]
      rw [e2, ← atR_nat m (by rw [shapeL_length]; exact hml), atR_shape hp, atR_shape hp] at e1
      have d := Int.mul_ediv_add_emod i (p.ros.length : Int)
      have e3 : hP p (i + (-s - ptI p a)) = hP p ((m : Int) - s - ptI p a) := hP_mod p _ _ (emod_of_dvd (by
        rw [show i + (-s - ptI p a) - ((m : Int) - s - ptI p a) = p.ros.length * (i / p.ros.length) by omega]
        exact Int.dvd_mul_right _ _))
      have e4 : hP p (i + (-ptI p b)) = hP p ((m : Int) - ptI p b) := hP_mod p _ _ (emod_of_dvd (by
        rw [show i + (-ptI p b) - ((m : Int) - ptI p b) = p.ros.length * (i / p.ros.length) by omega]
        exact Int.dvd_mul_right _ _))
      rw [e3, e4]
      exact e1.symm
    have := hP_two hp key
    rwa [show -s - ptI p a - -ptI p b = ptI p b - ptI p a - s by omega] at this
  · intro h
    apply List.ext_getElem (by rw [movedL_length, shapeL_length, shapeL_length])
    intro m h1 h2
    have hml : m < p.ros.length := by rw [shapeL_length] at h2; exact h2
    rw [movedL_get (shapeL p a) s m (by rw [shapeL_length]; exact hml), ← atR_nat m h2, atR_shape hp, atR_shape hp]
    exact hP_eq hp (by rw [show (m : Int) - s - ptI p a - ((m : Int) - ptI p b) = ptI p b - ptI p a - s by omega]; exact h)
theorem moved_zero (l : List Int) : movedL l 0 = l := (moved_iff l 0).2 (Shifts.zero l)
theorem same_iff {p : Prog} (hp : BenchFacts p) (a b : Int) : shapeL p a = shapeL p b ↔ (per p : Int) ∣ ptI p b - ptI p a := by
  have := turned_iff hp a b 0
  rwa [moved_zero, Int.sub_zero] at this
/-- What holds for the cuts of one closing holds for all. -/
theorem all_cuts {p : Prog} (hp : BenchFacts p) {fr m s : Int} (h : ∀ j : Nat, j < closeN p → (per p : Int) ∣ ptI p (fr + j + m) - ptI p (fr + j) - s) (j : Int) : (per p : Int) ∣ ptI p (j + m) - ptI p j - s := by
  have hcl := (close_le hp).2.2.1
  have h0 := Int.emod_nonneg (j - fr) (show (closeN p : Int) ≠ 0 by omega)
  have h1 := Int.emod_lt_of_pos (j - fr) (show (0 : Int) < (closeN p : Int) by omega)
  obtain ⟨r, hr⟩ : ∃ r : Nat, (j - fr) % (closeN p : Int) = (r : Int) := ⟨_, (Int.toNat_of_nonneg h0).symm⟩
  have d := Int.mul_ediv_add_emod (j - fr) (closeN p : Int)
  have h2 := h r (by omega)
  have hd : (closeN p : Int) ∣ j - (fr + r) := by
    rw [show j - (fr + (r : Int)) = closeN p * ((j - fr) / closeN p) by omega]
    exact Int.dvd_mul_right _ _
  have k1 := pt_same hp hd
  have k2 : (per p : Int) ∣ ptI p (j + m) - ptI p (fr + r + m) := pt_same hp (by rw [show j + m - (fr + r + m) = j - (fr + r) by omega]; exact hd)
  have := Int.dvd_add (Int.dvd_sub k2 k1) h2
  rwa [show ptI p (j + m) - ptI p (fr + r + m) - (ptI p j - ptI p (fr + r)) + (ptI p (fr + r + m) - ptI p (fr + r) - s) = ptI p (j + m) - ptI p j - s by omega] at this
theorem cuts_motif {p : Prog} (hp : BenchFacts p) {m s : Int} (h : ∀ j : Int, (per p : Int) ∣ ptI p (j + m) - ptI p j - s) : (motifN p : Int) ∣ m := by
  refine ((motif_least hp).dvd m).1 fun i => ?_
  rw [modS_at, modS_at]
  refine emod_of_dvd ?_
  have h1 := h (i - m)
  have h2 := h (i + 1 - m)
  rw [show i - m + m = i by omega] at h1
  rw [show i + 1 - m + m = i + 1 by omega] at h2
  have e1 := pt_succ hp.sh0 i
  have e2 := pt_succ hp.sh0 (i - m)
  rw [show i - m + 1 = i + 1 - m by omega] at e2
  have := Int.dvd_sub h1 h2
  rwa [show ptI p i - ptI p (i - m) - s - (ptI p (i + 1) - ptI p (i + 1 - m) - s) = shAt p (i - m) - shAt p i by omega] at this
theorem cuts_close {p : Prog} (hp : BenchFacts p) {m : Nat} (h : ∀ j : Int, (per p : Int) ∣ ptI p (j + m) - ptI p j - 0) : closeN p ∣ m := by
  have h1 := cuts_motif hp h
  obtain ⟨k, hk⟩ := Int.natCast_dvd_natCast.1 h1
  have h2 := pt_motif_mul hp 0 k
  have h3 := h 0
  rw [hk, Int.natCast_mul] at h3
  have h4 := Int.dvd_sub h3 h2
  have h5 : (per p : Int) ∣ (k : Int) * ptI p (motifN p) := by
    rwa [show ∀ a b c : Int, a - b - 0 - (a - b - c) = c by omega] at h4
  have h6 := (times_dvd hp k).1 h5
  unfold closeN
  rw [hk]
  exact Nat.mul_dvd_mul_left _ h6
def agB (p : Prog) (fr : Int) (m j : Nat) : Bool := decide (shapeL p (fr + j) = shapeL p (fr + (j + m : Nat)))
def tuB (p : Prog) (fr : Int) (m s j : Nat) : Bool := decide (movedL (shapeL p (fr + j)) s = shapeL p (fr + (j + m : Nat)))
theorem again_law {p : Prog} (hp : BenchFacts p) (fr : Int) {m : Nat} (h1 : 1 ≤ m) (h2 : m ≤ closeN p) : allB (agB p fr m) (closeN p) = decide (m = closeN p) := by
  rw [Bool.eq_iff_iff, allB_iff, decide_eq_true_iff]
  constructor
  · intro h
    have h3 := cuts_close hp (m := m) (all_cuts hp (fr := fr) fun j hj => by
      have h4 := (same_iff hp _ _).1 (of_decide_eq_true (h j hj))
      rwa [show fr + ((j + m : Nat) : Int) = fr + j + m by omega, show ∀ a b : Int, a - b = a - b - 0 by omega] at h4)
    have := Nat.le_of_dvd (by omega) h3
    omega
  · rintro rfl j _
    refine decide_eq_true ((same_iff hp _ _).2 ?_)
    rw [show fr + ((j + closeN p : Nat) : Int) = (fr + j) + closeN p by omega]
    exact pt_close hp _
theorem turn_none {p : Prog} (hp : BenchFacts p) (fr : Int) {m : Nat} (s : Nat) (h1 : 1 ≤ m) (h2 : m < motifN p) : allB (tuB p fr m s) (closeN p) = false := by
  rw [← Bool.not_eq_true, allB_iff]
  intro h
  have h3 := cuts_motif hp (m := m) (all_cuts hp (fr := fr) (s := s) fun j hj => by
    have h4 := (turned_iff hp _ _ _).1 (of_decide_eq_true (h j hj))
    rwa [show fr + ((j + m : Nat) : Int) = fr + j + m by omega] at h4)
  have := Nat.le_of_dvd (by omega) (Int.natCast_dvd_natCast.1 h3)
  omega
theorem turn_law {p : Prog} (hp : BenchFacts p) (fr : Int) (s : Nat) : allB (tuB p fr (motifN p) s) (closeN p) = true ↔ (per p : Int) ∣ turnI p - s := by
  have hcl := (close_le hp).2.2.1
  have ht := turn_dvd hp
  rw [allB_iff]
  have key : ∀ j : Int, (per p : Int) ∣ ptI p (j + motifN p) - ptI p j - s ↔ (per p : Int) ∣ turnI p - s := fun j => by
    have h1 := pt_motif hp j
    constructor
    · intro h
      have := Int.dvd_sub (Int.dvd_sub h h1) ht
      rwa [show ∀ a b c d e : Int, a - b - c - (a - b - d) - (d - e) = e - c by omega] at this
    · intro h
      have := Int.dvd_add (Int.dvd_add h ht) h1
      rwa [show ∀ a b c d e : Int, e - c + (d - e) + (a - b - d) = a - b - c by omega] at this
  constructor
  · intro h
    have h4 := (turned_iff hp _ _ _).1 (of_decide_eq_true (h 0 (by omega)))
    rw [show fr + ((0 + motifN p : Nat) : Int) = fr + ((0 : Nat) : Int) + motifN p by omega] at h4
    exact (key _).1 h4
  · intro h j _
    refine decide_eq_true ((turned_iff hp _ _ _).2 ?_)
    rw [show fr + ((j + motifN p : Nat) : Int) = (fr + j) + motifN p by omega]
    exact (key _).2 h
theorem turn_hit {p : Prog} (hp : BenchFacts p) (fr : Int) {s : Nat} (h : (s : Int) = turnI p) : allB (tuB p fr (motifN p) s) (closeN p) = true := by
  rw [turn_law hp, h, Int.sub_self]
  exact Int.dvd_zero _
theorem turn_miss {p : Prog} (hp : BenchFacts p) (fr : Int) {s : Nat} (h : (s : Int) < turnI p) : allB (tuB p fr (motifN p) s) (closeN p) = false := by
  rw [← Bool.not_eq_true, turn_law hp]
  intro h1
  have h2 := turn_bound hp
  have := Int.le_of_dvd (by omega) h1
  omega
theorem short_close {p : Prog} (hp : BenchFacts p) (hs : shortB p = true) : closeN p ≤ 48 ∧ p.ros.length ≤ 12 := by
  unfold shortB at hs
  have h1 := per_pos hp
  have h2 := motif_le hp
  simp at hs
  have h3 : per p / Nat.gcd (per p) (turnI p).toNat ≤ 12 := Nat.le_trans (Nat.div_le_self _ _) (by omega)
  have h4 : motifN p ≤ 4 := by omega
  unfold closeN
  exact ⟨Nat.mul_le_mul h4 h3, by omega⟩
theorem motif_close (p : Prog) : motifN p ∣ closeN p := by
  unfold closeN
  exact Nat.dvd_mul_right _ _
end Go.Proofs.Ytnboppombhibbaa
