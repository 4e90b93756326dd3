/- Plain laws of moves: when a move takes the cuts of one program to those of another. -/
import Derived.Test.YtnboppombhibbaaPhaseLaw
import Derived.Test.YtnboppombhibbaaMv
import Derived.Sort.Lot0
namespace Go.Proofs.Ytnboppombhibbaa
set_option linter.unusedVariables false
/-- A shape's height at a step, counted around. -/
def hP (p : Prog) (i : Int) : Int := p.throw * atR (liftL p.ros p.rub) i
theorem hP_mod (p : Prog) (i j : Int) (h : i % (p.ros.length : Int) = j % (p.ros.length : Int)) : hP p i = hP p j := by
  unfold hP
  rw [atR_mod _ i j (by rw [liftL_length]; exact h)]
theorem hP_per {p : Prog} (hp : BenchFacts p) (a : Int) : (∀ i, hP p (i + a) = hP p i) ↔ (per p : Int) ∣ a := by
  have h0 := hp.ros0
  have hl := liftL_length p.ros p.rub
  have hL := period_least (liftL p.ros p.rub) (by omega)
  have ht := hp.throw
  have key : ∀ b : Int, Shifts (liftL p.ros p.rub) b ↔ (per p : Int) ∣ b := fun b => hL.dvd b
  have h1 : (∀ i, hP p (i + a) = hP p i) ↔ Shifts (liftL p.ros p.rub) (-a) := by
    constructor
    · intro h i
      have := h i
      unfold hP at this
      have h2 := Int.eq_of_mul_eq_mul_left (show p.throw ≠ 0 by omega) this
      rw [show i - -a = i + a by omega]
      exact h2
    · intro h i
      unfold hP
      have := h i
      rw [show i - -a = i + a by omega] at this
      rw [this]
  rw [h1, key, Int.dvd_neg]
theorem hP_eq {p : Prog} (hp : BenchFacts p) {i j : Int} (h : (per p : Int) ∣ i - j) : hP p i = hP p j := by
  have := (hP_per hp (i - j)).2 h j
  rwa [show j + (i - j) = i by omega] at this
theorem hP_two {p : Prog} (hp : BenchFacts p) {a b : Int} (h : ∀ i, hP p (i + a) = hP p (i + b)) : (per p : Int) ∣ a - b := by
  refine (hP_per hp (a - b)).1 fun i => ?_
  have := h (i - b)
  rwa [show i - b + a = i + (a - b) by omega, show i - b + b = i by omega] at this
/-- The same, mirrored if asked for. -/
def hM (p : Prog) (m : Bool) (i : Int) : Int := if m then hP p (-i) else hP p i
theorem atR_hgt (p : Prog) (h0 : 0 < p.ros.length) (i : Int) : atR (hgtL p) i = hP p i := by
  have hl := hgt_length p
  have hr0 := Int.emod_nonneg i (show (p.ros.length : Int) ≠ 0 by omega)
  have hr1 := Int.emod_lt_of_pos i (show (0 : Int) < (p.ros.length : Int) by omega)
  obtain ⟨r, hr⟩ : ∃ r : Nat, i % (p.ros.length : Int) = (r : Int) := ⟨_, (Int.toNat_of_nonneg hr0).symm⟩
  have hrl : r < p.ros.length := by omega
  have e1 : atR (hgtL p) i = atR (hgtL p) (r : Int) := atR_mod _ _ _ (by rw [hl, hr]; exact (Int.emod_eq_of_lt (by omega) (by omega)).symm)
  have e2 : hP p i = hP p (r : Int) := hP_mod p _ _ (by rw [hr]; exact (Int.emod_eq_of_lt (by omega) (by omega)).symm)
  rw [e1, e2, atR_nat r (by rw [hl]; exact hrl), hgt_at p r (by rw [hl]; exact hrl) (by rw [liftL_length]; exact hrl)]
  unfold hP
  rw [atR_nat r (by rw [liftL_length]; exact hrl)]
theorem atR_offF (p : Prog) (m : Bool) (h0 : 0 < p.ros.length) (i : Int) : atR (offF p m) i = hM p m i := by
  cases m with
  | false => exact atR_hgt p h0 i
  | true =>
    have hl := ovr_length p
    have hr0 := Int.emod_nonneg i (show (p.ros.length : Int) ≠ 0 by omega)
    have hr1 := Int.emod_lt_of_pos i (show (0 : Int) < (p.ros.length : Int) by omega)
    obtain ⟨r, hr⟩ : ∃ r : Nat, i % (p.ros.length : Int) = (r : Int) := ⟨_, (Int.toNat_of_nonneg hr0).symm⟩
    have hrl : r < p.ros.length := by omega
    have e1 : atR (ovrL p) i = atR (ovrL p) (r : Int) := atR_mod _ _ _ (by rw [hl, hr]; exact (Int.emod_eq_of_lt (by omega) (by omega)).symm)
    have e2 : hP p (-i) = hP p (-(r : Int)) := hP_mod p _ _ (by
      have h1 : (-i) % (p.ros.length : Int) = (-(i % (p.ros.length : Int))) % (p.ros.length : Int) := by
        rw [Int.emod_eq_emod_iff_emod_sub_eq_zero]
        have h2 := Int.emod_add_mul_ediv i (p.ros.length : Int)
        rw [show -i - -(i % (p.ros.length : Int)) = (p.ros.length : Int) * (-(i / (p.ros.length : Int))) by rw [Int.mul_neg]; omega]
        exact Int.mul_emod_right _ _
      rw [h1, hr])
    show atR (ovrL p) i = hP p (-i)
    rw [e1, e2, atR_nat r (by rw [hl]; exact hrl)]
    unfold ovrL hP
    simp
theorem list_atR {F G : List Int} (hl : F.length = G.length) (h0 : 0 < F.length) : F = G ↔ ∀ i, atR F i = atR G i := by
  constructor
  · rintro rfl i; rfl
  · intro h
    apply List.ext_getElem hl
    intro k h1 h2
    have := h (k : Int)
    rwa [atR_nat k h1, atR_nat k h2] at this
theorem atR_moved (f : List Int) (h0 : 0 < f.length) (s i : Int) : atR (movedL f s) i = atR f (i - s) := by
  have hl := movedL_length f s
  have hr0 := Int.emod_nonneg i (show (f.length : Int) ≠ 0 by omega)
  have hr1 := Int.emod_lt_of_pos i (show (0 : Int) < (f.length : Int) by omega)
  obtain ⟨r, hr⟩ : ∃ r : Nat, i % (f.length : Int) = (r : Int) := ⟨_, (Int.toNat_of_nonneg hr0).symm⟩
  have hrl : r < f.length := by omega
  have e1 : atR (movedL f s) i = atR (movedL f s) (r : Int) := atR_mod _ _ _ (by rw [hl, hr]; exact (Int.emod_eq_of_lt (by omega) (by omega)).symm)
  rw [e1, atR_nat r (by rw [hl]; exact hrl), movedL_get f s r hrl]
  refine atR_mod _ _ _ ?_
  rw [← hr, Int.emod_sub_emod]
theorem offHit_iff {p q : Prog} (m : Bool) (s : Nat) (hl : p.ros.length = q.ros.length) (h0 : 0 < p.ros.length) (hs : s ≤ p.ros.length) : offHit p q m s = true ↔ ∀ i, hP q i = hM p m (i - s) := by
  have hF := offF_length p m
  unfold offHit
  rw [beq_iff_eq, turn_moved _ s (by rw [hF]; exact hs), list_atR (by rw [movedL_length, hF, hgt_length, hl]) (by rw [movedL_length, hF]; exact h0)]
  constructor
  · intro h i
    have := h i
    rw [atR_moved _ (by rw [hF]; exact h0), atR_offF p m h0, atR_hgt q (by omega)] at this
    exact this.symm
  · intro h i
    rw [atR_moved _ (by rw [hF]; exact h0), atR_offF p m h0, atR_hgt q (by omega)]
    exact (h i).symm
theorem hM_per {p : Prog} (hp : BenchFacts p) (m : Bool) {i j : Int} (h : (per p : Int) ∣ i - j) : hM p m i = hM p m j := by
  unfold hM
  cases m with
  | false => exact hP_eq hp h
  | true => exact hP_eq hp (by rw [show -i - -j = -(i - j) by omega, Int.dvd_neg]; exact h)
theorem offB_true {p q : Prog} (hp : BenchFacts p) (hl : p.ros.length = q.ros.length) {m : Bool} (h : offB p q m = true) : ∀ i, hP q i = hM p m (i - offV p q m) := by
  have h0 := hp.ros0
  unfold offB at h
  obtain ⟨s, hs⟩ := Option.isSome_iff_exists.1 h
  have hs' := hs
  unfold offN at hs'
  rw [List.find?_range_eq_some] at hs'
  have hsl : s < p.ros.length := by simpa using hs'.2.1
  have hh := (offHit_iff m s hl (by omega) (by omega)).1 hs'.1
  intro i
  rw [hh i]
  refine hM_per hp m ?_
  unfold offV
  rw [hs]
  have hd := Nat.mod_add_div s (per p)
  refine ⟨-((s / per p : Nat) : Int), ?_⟩
  have : (s : Int) = ((s % per p : Nat) : Int) + (per p : Int) * ((s / per p : Nat) : Int) := by rw [← Int.natCast_mul, ← Int.natCast_add, hd]
  rw [Int.mul_neg]
  show i - (s : Int) - (i - ((s % per p : Nat) : Int)) = _
  omega
theorem offB_of {p q : Prog} (hp : BenchFacts p) (hl : p.ros.length = q.ros.length) {m : Bool} {s : Int} (h : ∀ i, hP q i = hM p m (i - s)) : offB p q m = true := by
  have h0 := hp.ros0
  have hr0 := Int.emod_nonneg s (show (p.ros.length : Int) ≠ 0 by omega)
  have hr1 := Int.emod_lt_of_pos s (show (0 : Int) < (p.ros.length : Int) by omega)
  obtain ⟨r, hr⟩ : ∃ r : Nat, s % (p.ros.length : Int) = (r : Int) := ⟨_, (Int.toNat_of_nonneg hr0).symm⟩
  have hrl : r < p.ros.length := by omega
  have hdv := Int.emod_add_mul_ediv s (p.ros.length : Int)
  have hhit : offHit p q m r = true := (offHit_iff m r hl (by omega) (by omega)).2 fun i => by
    rw [h i]
    refine hM_per hp m ?_
    obtain ⟨c, hc⟩ := (per_pos hp).2.2
    refine ⟨-((c : Int) * (s / (p.ros.length : Int))), ?_⟩
    have e : (per p : Int) * (c : Int) = (p.ros.length : Int) := by rw [hc, Int.natCast_mul]
    rw [Int.mul_neg, ← Int.mul_assoc, e]
    omega
  unfold offB offN
  rw [List.find?_isSome]
  exact ⟨r, List.mem_range.2 hrl, hhit⟩
theorem hM_two {p : Prog} (hp : BenchFacts p) (m : Bool) {a b : Int} (h : ∀ i, hM p m (i - a) = hM p m (i - b)) : (per p : Int) ∣ a - b := by
  unfold hM at h
  cases m with
  | false =>
    have := hP_two hp (a := -a) (b := -b) (fun i => by have := h i; simpa [Int.sub_eq_add_neg] using this)
    rw [show -a - -b = -(a - b) by omega, Int.dvd_neg] at this
    exact this
  | true =>
    refine hP_two hp (a := a) (b := b) fun i => ?_
    have := h (-i)
    simp only [if_true] at this
    rwa [show -(-i - a) = i + a by omega, show -(-i - b) = i + b by omega] at this
end Go.Proofs.Ytnboppombhibbaa
