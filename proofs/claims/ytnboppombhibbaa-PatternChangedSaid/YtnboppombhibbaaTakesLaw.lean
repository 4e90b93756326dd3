/- Plain laws of moves: when a move takes the cuts of one program to those of another. Plain laws of moves: which moves search finds. -/
import Derived.Test.YtnboppombhibbaaPhaseLaw
import Derived.Test.YtnboppombhibbaaMv
import Derived.Test.YtnboppombhibbaaSearch
import Derived.Sort.Lot0
namespace Go.Proofs.Ytnboppombhibbaa
set_option linter.unusedVariables false
/-- A shape's height at a step, counted around. -/
def hP (p : Prog) (i : Int) : Int := p.throw * atR (liftL p.ros p.rub) i
theorem hP_mod (p : Prog) (i j : Int) (h : i % (p.ros.length : Int) = j % (p.ros.length : Int)) : hP p i = hP p j := by
  unfold hP
  rw [atR_mod _ i j (by rw [liftL_length]; exact h)]
theorem hP_per {p : Prog} (hp : BenchFacts p) (a : Int) : (∀ i, hP p (i + a) = hP p i) ↔ (per p : Int) ∣ a := by
  have h0 := hp.ros0
  have hl := liftL_length p.ros p.rub
  have hL := period_least (liftL p.ros p.rub) (by omega)
  have ht := hp.throw
  have key : ∀ b : Int, Shifts (liftL p.ros p.rub) b ↔ (per p : Int) ∣ b := fun b => hL.dvd b
  have h1 : (∀ i, hP p (i + a) = hP p i) ↔ Shifts (liftL p.ros p.rub) (-a) := by
    constructor
    · intro h i
      have := h i
      unfold hP at this
      have h2 := Int.eq_of_mul_eq_mul_left (show p.throw ≠ 0 by omega) this
      rw [show i - -a = i + a by omega]
      exact h2
    · intro h i
      unfold hP
      have := h i
      rw [show i - -a = i + a by omega] at this
      rw [this]
  rw [h1, key, Int.dvd_neg]
theorem hP_eq {p : Prog} (hp : BenchFacts p) {i j : Int} (h : (per p : Int) ∣ i - j) : hP p i = hP p j := by
  have := (hP_per hp (i - j)).2 h j
  rwa [show j + (i - j) = i by omega] at this
theorem hP_two {p : Prog} (hp : BenchFacts p) {a b : Int} (h : ∀ i, hP p (i + a) = hP p (i + b)) : (per p : Int) ∣ a - b := by
  refine (hP_per hp (a - b)).1 fun i => ?_
  have := h (i - b)
  rwa [show i - b + a = i + (a - b) by omega, show i - b + b = i by omega] at this
/-- The same, mirrored if asked for. -/
def hM (p : Prog) (m : Bool) (i : Int) : Int := if m then hP p (-i) else hP p i
theorem atR_hgt (p : Prog) (h0 : 0 < p.ros.length) (i : Int) : atR (hgtL p) i = hP p i := by
  have hl := hgt_length p
  have hr0 := Int.emod_nonneg i (show (p.ros.length : Int) ≠ 0 by omega)
  have hr1 := Int.emod_lt_of_pos i (show (0 : Int) < (p.ros.length : Int) by omega)
  obtain ⟨r, hr⟩ : ∃ r : Nat, i % (p.ros.length : Int) = (r : Int) := ⟨_, (Int.toNat_of_nonneg hr0).symm⟩
  have hrl : r < p.ros.length := by omega
  have e1 : atR (hgtL p) i = atR (hgtL p) (r : Int) := atR_mod _ _ _ (by rw [hl, hr]; exact (Int.emod_eq_of_lt (by omega) (by omega)).symm)
  have e2 : hP p i = hP p (r : Int) := hP_mod p _ _ (by rw [hr]; exact (Int.emod_eq_of_lt (by omega) (by omega)).symm)
  rw [e1, e2, atR_nat r (by rw [hl]; exact hrl), hgt_at p r (by rw [hl]; exact hrl) (by rw [liftL_length]; exact hrl)]
  unfold hP
  rw [atR_nat r (by rw [liftL_length]; exact hrl)]
theorem atR_offF (p : Prog) (m : Bool) (h0 : 0 < p.ros.length) (i : Int) : atR (offF p m) i = hM p m i := by
  cases m with
  | false => exact atR_hgt p h0 i
  | true =>
    have hl := ovr_length p
    have hr0 := Int.emod_nonneg i (show (p.ros.length : Int) ≠ 0 by omega)
    have hr1 := Int.emod_lt_of_pos i (show (0 : Int) < (p.ros.length : Int) by omega)
    obtain ⟨r, hr⟩ : ∃ r : Nat, i % (p.ros.length : Int) = (r : Int) := ⟨_, (Int.toNat_of_nonneg hr0).symm⟩
    have hrl : r < p.ros.length := by omega
    have e1 : atR (ovrL p) i = atR (ovrL p) (r : Int) := atR_mod _ _ _ (by rw [hl, hr]; exact (Int.emod_eq_of_lt (by omega) (by omega)).symm)
    have e2 : hP p (-i) = hP p (-(r : Int)) := hP_mod p _ _ (by
      have h1 : (-i) % (p.ros.length : Int) = (-(i % (p.ros.length : Int))) % (p.ros.length : Int) := by
        rw [Int.emod_eq_emod_iff_emod_sub_eq_zero]
        have h2 := Int.emod_add_mul_ediv i (p.ros.length : Int)
        rw [show -i - -(i % (p.ros.length : Int)) = (p.ros.length : Int) * (-(i / (p.ros.length : Int))) by rw [Int.mul_neg]; omega]
        exact Int.mul_emod_right _ _
      rw [h1, hr])
    show atR (ovrL p) i = hP p (-i)
    rw [e1, e2, atR_nat r (by rw [hl]; exact hrl)]
    unfold ovrL hP
    simp
theorem list_atR {F G : List Int} (hl : F.length = G.length) (h0 : 0 < F.length) : F = G ↔ ∀ i, atR F i = atR G i := by
  constructor
  · rintro rfl i; rfl
  · intro h
    apply List.ext_getElem hl
    intro k h1 h2
    have := h (k : Int)
    rwa [atR_nat k h1, atR_nat k h2] at this
theorem atR_moved (f : List Int) (h0 : 0 < f.length) (s i : Int) : atR (movedL f s) i = atR f (i - s) := by
  have hl := movedL_length f s
  have hr0 := Int.emod_nonneg i (show (f.length : Int) ≠ 0 by omega)
  have hr1 := Int.emod_lt_of_pos i (show (0 : Int) < (f.length : Int) by omega)
  obtain ⟨r, hr⟩ : ∃ r : Nat, i % (f.length : Int) = (r : Int) := ⟨_, (Int.toNat_of_nonneg hr0).symm⟩
  have hrl : r < f.length := by omega
  have e1 : atR (movedL f s) i = atR (movedL f s) (r : Int) := atR_mod _ _ _ (by rw [hl, hr]; exact (Int.emod_eq_of_lt (by omega) (by omega)).symm)
  rw [e1, atR_nat r (by rw [hl]; exact hrl), movedL_get f s r hrl]
  refine atR_mod _ _ _ ?_
  rw [← hr, Int.emod_sub_emod]
theorem offHit_iff {p q : Prog} (m : Bool) (s : Nat) (hl : p.ros.length = q.ros.length) (h0 : 0 < p.ros.length) (hs : s ≤ p.ros.length) : offHit p q m s = true ↔ ∀ i, hP q i = hM p m (i - s) := by
  have hF := offF_length p m
  unfold offHit
  rw [beq_iff_eq, turn_moved _ s (by rw [hF]; exact hs), list_atR (by rw [movedL_length, hF, hgt_length, hl]) (by rw [movedL_length, hF]; exact h0)]
  constructor
  · intro h i
    have := h i
    rw [atR_moved _ (by rw [hF]; exact h0), atR_offF p m h0, atR_hgt q (by omega)] at this
    exact this.symm
  · intro h i
    rw [atR_moved _ (by rw [hF]; exact h0), atR_offF p m h0, atR_hgt q (by omega)]
    exact (h i).symm
theorem hM_per {p : Prog} (hp : BenchFacts p) (m : Bool) {i j : Int} (h : (per p : Int) ∣ i - j) : hM p m i = hM p m j := by
  unfold hM
  cases m with
  | false => exact hP_eq hp h
  | true => exact hP_eq hp (by rw [show -i - -j = -(i - j) by omega, Int.dvd_neg]; exact h)
theorem offB_true {p q : Prog} (hp : BenchFacts p) (hl : p.ros.length = q.ros.length) {m : Bool} (h : offB p q m = true) : ∀ i, hP q i = hM p m (i - offV p q m) := by
  have h0 := hp.ros0
  unfold offB at h
  obtain ⟨s, hs⟩ := Option.isSome_iff_exists.1 h
  have hs' := hs
  unfold offN at hs'
  rw [List.find?_range_eq_some] at hs'
  have hsl : s < p.ros.length := by simpa using hs'.2.1
  have hh := (offHit_iff m s hl (by omega) (by omega)).1 hs'.1
  intro i
  rw [hh i]
  refine hM_per hp m ?_
  unfold offV
  rw [hs]
  have hd := Nat.mod_add_div s (per p)
  refine ⟨-((s / per p : Nat) : Int), ?_⟩
  have : (s : Int) = ((s % per p : Nat) : Int) + (per p : Int) * ((s / per p : Nat) : Int) := by rw [← Int.natCast_mul, ← Int.natCast_add, hd]
  rw [Int.mul_neg]
  show i - (s : Int) - (i - ((s % per p : Nat) : Int)) = _
  omega
theorem offB_of {p q : Prog} (hp : BenchFacts p) (hl : p.ros.length = q.ros.length) {m : Bool} {s : Int} (h : ∀ i, hP q i = hM p m (i - s)) : offB p q m = true := by
  have h0 := hp.ros0
  have hr0 := Int.emod_nonneg s (show (p.ros.length : Int) ≠ 0 by omega)
  have hr1 := Int.emod_lt_of_pos s (show (0 : Int) < (p.ros.length : Int) by omega)
  obtain ⟨r, hr⟩ : ∃ r : Nat, s % (p.ros.length : Int) = (r : Int) := ⟨_, (Int.toNat_of_nonneg hr0).symm⟩
  have hrl : r < p.ros.length := by omega
  have hdv := Int.emod_add_mul_ediv s (p.ros.length : Int)
  have hhit : offHit p q m r = true := (offHit_iff m r hl (by omega) (by omega)).2 fun i => by
    rw [h i]
    refine hM_per hp m ?_
    obtain ⟨c, hc⟩ := (per_pos hp).2.2
    refine ⟨-((c : Int) * (s / (p.ros.length : Int))), ?_⟩
    have e : (per p : Int) * (c : Int) = (p.ros.length : Int) := by rw [hc, Int.natCast_mul]
    rw [Int.mul_neg, ← Int.mul_assoc, e]
    omega
  unfold offB offN
  rw [List.find?_isSome]
  exact ⟨r, List.mem_range.2 hrl, hhit⟩
theorem hM_two {p : Prog} (hp : BenchFacts p) (m : Bool) {a b : Int} (h : ∀ i, hM p m (i - a) = hM p m (i - b)) : (per p : Int) ∣ a - b := by
  unfold hM at h
  cases m with
  | false =>
    have := hP_two hp (a := -a) (b := -b) (fun i => by have := h i; simpa [Int.sub_eq_add_neg] using this)
    rw [show -a - -b = -(a - b) by omega, Int.dvd_neg] at this
    exact this
  | true =>
    refine hP_two hp (a := a) (b := b) fun i => ?_
    have := h (-i)
    simp only [if_true] at this
    rwa [show -(-i - a) = i + a by omega, show -(-i - b) = i + b by omega] at this
end Go.Proofs.Ytnboppombhibbaa
namespace Go.Proofs.Ytnboppombhibbaa
set_option linter.unusedVariables false
theorem int_ind {P : Int → Prop} (h0 : P 0) (hs : ∀ j, P j → P (j + 1)) (hq : ∀ j, P (j + 1) → P j) (j : Int) : P j := by
  have h1 : ∀ n : Nat, P n := fun n => by
    induction n with
    | zero => exact h0
    | succ n ih => exact hs n ih
  have h2 : ∀ n : Nat, P (-(n : Int)) := fun n => by
    induction n with
    | zero => exact h0
    | succ n ih =>
      refine hq _ ?_
      rwa [show -((n + 1 : Nat) : Int) + 1 = -(n : Int) by omega]
  rcases Int.le_total 0 j with h | h
  · obtain ⟨n, rfl⟩ := Int.eq_ofNat_of_zero_le h
    exact h1 n
  · obtain ⟨n, hn⟩ := Int.eq_ofNat_of_zero_le (show 0 ≤ -j by omega)
    have := h2 n
    rwa [← hn, Int.neg_neg] at this
theorem dvd_of_emod_eq {n a b : Int} (h : a % n = b % n) : n ∣ a - b := Int.dvd_of_emod_eq_zero (Int.emod_eq_emod_iff_emod_sub_eq_zero.1 h)
theorem emod_of_dvd {n a b : Int} (h : n ∣ a - b) : a % n = b % n := Int.emod_eq_emod_iff_emod_sub_eq_zero.2 (Int.emod_eq_zero_of_dvd h)
theorem modS_at (p : Prog) (j : Int) : atR (modS p) j = shAt p j % (per p : Int) := by
  unfold atR shAt
  rw [modS_length]
  unfold modS
  generalize (j % (p.shifts.length : Int)).toNat = k
  by_cases hk : k < p.shifts.length
  · simp [hk]
  · simp only [List.getD_eq_getElem?_getD]
    rw [List.getElem?_eq_none (by simp; omega), List.getElem?_eq_none (by omega)]
    simp
theorem sh_motif {p : Prog} (hp : BenchFacts p) (j : Int) : (per p : Int) ∣ shAt p (j + motifN p) - shAt p j := by
  have h := (motif_least hp).sh (j + motifN p)
  rw [show j + (motifN p : Int) - motifN p = j by omega, modS_at, modS_at] at h
  exact dvd_of_emod_eq h.symm
theorem pt_motif {p : Prog} (hp : BenchFacts p) (j : Int) : (per p : Int) ∣ ptI p (j + motifN p) - ptI p j - ptI p (motifN p) := by
  refine int_ind (P := fun j => (per p : Int) ∣ ptI p (j + motifN p) - ptI p j - ptI p (motifN p)) ?_ ?_ ?_ j
  · show (per p : Int) ∣ ptI p (0 + motifN p) - ptI p 0 - ptI p (motifN p)
    rw [pt_zero, Int.zero_add]
    exact ⟨0, by omega⟩
  · intro j h
    have h2 := sh_motif hp j
    show (per p : Int) ∣ ptI p (j + 1 + motifN p) - ptI p (j + 1) - ptI p (motifN p)
    rw [show j + 1 + (motifN p : Int) = (j + motifN p) + 1 by omega, pt_succ hp.sh0, pt_succ hp.sh0]
    have := Int.dvd_add h h2
    rwa [show ptI p (j + motifN p) - ptI p j - ptI p (motifN p) + (shAt p (j + motifN p) - shAt p j) = ptI p (j + motifN p) + shAt p (j + motifN p) - (ptI p j + shAt p j) - ptI p (motifN p) by omega] at this
  · intro j h
    have h2 := sh_motif hp j
    have h' : (per p : Int) ∣ ptI p (j + 1 + motifN p) - ptI p (j + 1) - ptI p (motifN p) := h
    rw [show j + 1 + (motifN p : Int) = (j + motifN p) + 1 by omega, pt_succ hp.sh0, pt_succ hp.sh0] at h'
    have := Int.dvd_sub h' h2
    rwa [show ptI p (j + motifN p) + shAt p (j + motifN p) - (ptI p j + shAt p j) - ptI p (motifN p) - (shAt p (j + motifN p) - shAt p j) = ptI p (j + motifN p) - ptI p j - ptI p (motifN p) by omega] at this
theorem pt_motif_mul {p : Prog} (hp : BenchFacts p) (j : Int) (k : Nat) : (per p : Int) ∣ ptI p (j + motifN p * k) - ptI p j - k * ptI p (motifN p) := by
  induction k with
  | zero => exact ⟨0, by simp⟩
  | succ k ih =>
    have h := pt_motif hp (j + motifN p * k)
    have e : j + (motifN p : Int) * ((k + 1 : Nat) : Int) = j + (motifN p : Int) * k + motifN p := by
      rw [show ((k + 1 : Nat) : Int) = (k : Int) + 1 by omega, Int.mul_add]; omega
    rw [e]
    have := Int.dvd_add ih h
    have e2 : ((k + 1 : Nat) : Int) * ptI p (motifN p) = (k : Int) * ptI p (motifN p) + ptI p (motifN p) := by
      rw [show ((k + 1 : Nat) : Int) = (k : Int) + 1 by omega, Int.add_mul]; omega
    rw [e2]
    rwa [show ptI p (j + motifN p * k) - ptI p j - k * ptI p (motifN p) + (ptI p (j + motifN p * k + motifN p) - ptI p (j + motifN p * k) - ptI p (motifN p)) = ptI p (j + motifN p * k + motifN p) - ptI p j - (k * ptI p (motifN p) + ptI p (motifN p)) by omega] at this
theorem phase_dvd {p : Prog} (hp : BenchFacts p) (j : Int) : (per p : Int) ∣ phaseI p j - ptI p j := by
  obtain ⟨c, hc⟩ := (per_pos hp).2.2
  have h := Int.emod_add_mul_ediv (ptI p j) (p.ros.length : Int)
  rw [← phase_pt] at h
  refine ⟨-((c : Int) * (ptI p j / (p.ros.length : Int))), ?_⟩
  have e : (per p : Int) * (c : Int) = (p.ros.length : Int) := by rw [hc, Int.natCast_mul]
  rw [Int.mul_neg, ← Int.mul_assoc, e]
  omega
theorem turn_dvd {p : Prog} (hp : BenchFacts p) : (per p : Int) ∣ ptI p (motifN p) - turnI p := by
  have h1 := phase_dvd hp (motifN p)
  have h2 : (per p : Int) ∣ phaseI p (motifN p) - turnI p := by
    unfold turnI
    exact ⟨phaseI p (motifN p) / (per p : Int), by have := Int.emod_add_mul_ediv (phaseI p (motifN p)) (per p : Int); omega⟩
  have := Int.dvd_sub h2 h1
  rwa [show phaseI p (motifN p) - turnI p - (phaseI p (motifN p) - ptI p (motifN p)) = ptI p (motifN p) - turnI p by omega] at this
/-- After a number of motifs: exactly if it is a multiple of period / gcd. -/
theorem times_dvd {p : Prog} (hp : BenchFacts p) (k : Nat) : (per p : Int) ∣ (k : Int) * ptI p (motifN p) ↔ per p / Nat.gcd (per p) (turnI p).toNat ∣ k := by
  have hb := turn_bound hp
  obtain ⟨tn, htn⟩ : ∃ tn : Nat, turnI p = tn := ⟨(turnI p).toNat, by omega⟩
  have h1 := times_iff (per p) tn k (per_pos hp).1
  have h2 := turn_dvd hp
  rw [htn] at h2 ⊢
  rw [Int.toNat_natCast, ← h1]
  have h3 : (per p : Int) ∣ (k : Int) * ptI p (motifN p) - (k : Int) * tn := by
    rw [← Int.mul_sub]
    exact Int.dvd_trans h2 (Int.dvd_mul_left _ _)
  rw [← Nat.dvd_iff_mod_eq_zero, ← Int.natCast_dvd_natCast, Int.natCast_mul]
  constructor
  · intro h
    have := Int.dvd_sub h h3
    rwa [show (k : Int) * ptI p (motifN p) - ((k : Int) * ptI p (motifN p) - (k : Int) * tn) = (k : Int) * tn by omega] at this
  · intro h
    have := Int.dvd_add h3 h
    rwa [show (k : Int) * ptI p (motifN p) - (k : Int) * tn + (k : Int) * tn = (k : Int) * ptI p (motifN p) by omega] at this
theorem pt_close {p : Prog} (hp : BenchFacts p) (j : Int) : (per p : Int) ∣ ptI p (j + closeN p) - ptI p j := by
  have h1 := pt_motif_mul hp j (per p / Nat.gcd (per p) (turnI p).toNat)
  have h2 := (times_dvd hp (per p / Nat.gcd (per p) (turnI p).toNat)).2 (Nat.dvd_refl _)
  have := Int.dvd_add h1 h2
  unfold closeN
  rw [Int.natCast_mul]
  rwa [show ∀ a b c : Int, a - b - c + c = a - b by omega] at this
theorem pt_close_mul {p : Prog} (hp : BenchFacts p) (j z : Int) : (per p : Int) ∣ ptI p (j + closeN p * z) - ptI p j := by
  refine int_ind (P := fun z => (per p : Int) ∣ ptI p (j + closeN p * z) - ptI p j) ?_ ?_ ?_ z
  · show (per p : Int) ∣ ptI p (j + closeN p * 0) - ptI p j
    rw [Int.mul_zero, Int.add_zero]
    exact ⟨0, by omega⟩
  · intro z h
    show (per p : Int) ∣ ptI p (j + closeN p * (z + 1)) - ptI p j
    have := Int.dvd_add (pt_close hp (j + closeN p * z)) h
    rw [Int.mul_add, Int.mul_one, ← Int.add_assoc]
    rwa [show ∀ a b c : Int, a - b + (b - c) = a - c by omega] at this
  · intro z h
    have h' : (per p : Int) ∣ ptI p (j + closeN p * (z + 1)) - ptI p j := h
    rw [Int.mul_add, Int.mul_one, ← Int.add_assoc] at h'
    have := Int.dvd_sub h' (pt_close hp (j + closeN p * z))
    rwa [show ∀ a b c : Int, a - c - (a - b) = b - c by omega] at this
theorem pt_same {p : Prog} (hp : BenchFacts p) {i j : Int} (h : (closeN p : Int) ∣ i - j) : (per p : Int) ∣ ptI p i - ptI p j := by
  obtain ⟨z, hz⟩ := h
  have := pt_close_mul hp j z
  rwa [← hz, show j + (i - j) = i by omega] at this
/-- The cut that a move takes cut j to. -/
def toI (ba : Bool) (c j : Int) : Int := if ba then c - j else c + j
/-- The move takes each cut of p to one of q, step by step. -/
def Takes (p q : Prog) (c t : Int) (mi ba : Bool) : Prop := ∀ j i : Int, hP q ((if mi then t - i else t + i) - ptI q (toI ba c j)) = hP p (i - ptI p j)
/-- What the turn has to be, for cut j. -/
def zT (p q : Prog) (c : Int) (mi ba : Bool) (j : Int) : Int := (if mi then (offV p q mi : Int) + ptI p j else (offV p q mi : Int) - ptI p j) + ptI q (toI ba c j)
theorem takes_iff {p q : Prog} (hp : BenchFacts p) (hl : p.ros.length = q.ros.length) (c t : Int) (mi ba : Bool) : Takes p q c t mi ba ↔ offB p q mi = true ∧ ∀ j, (per p : Int) ∣ t - zT p q c mi ba j := by
  have key : ∀ j, (∀ i, hP q ((if mi then t - i else t + i) - ptI q (toI ba c j)) = hP p (i - ptI p j)) ↔ ∀ u, hP q u = hM p mi (u - (t - ptI q (toI ba c j) + (if mi then -(ptI p j) else ptI p j))) := fun j => by
    cases mi with
    | false =>
      simp only [Bool.false_eq_true, if_false]
      unfold hM
      simp only [Bool.false_eq_true, if_false]
      constructor
      · intro h u
        have := h (u - t + ptI q (toI ba c j))
        rw [show t + (u - t + ptI q (toI ba c j)) - ptI q (toI ba c j) = u by omega] at this
        rw [this]
        congr 1
        omega
      · intro h i
        rw [h]
        congr 1
        omega
    | true =>
      simp only [if_true]
      unfold hM
      simp only [if_true]
      constructor
      · intro h u
        have := h (t - ptI q (toI ba c j) - u)
        rw [show t - (t - ptI q (toI ba c j) - u) - ptI q (toI ba c j) = u by omega] at this
        rw [this]
        congr 1
        omega
      · intro h i
        rw [h]
        congr 1
        omega
  have hz : ∀ j, (offV p q mi : Int) - (t - ptI q (toI ba c j) + (if mi then -(ptI p j) else ptI p j)) = -(t - zT p q c mi ba j) := fun j => by
    unfold zT
    cases mi
    · simp only [Bool.false_eq_true, if_false]; omega
    · simp only [if_true]; omega
  unfold Takes
  constructor
  · intro h
    have ho : offB p q mi = true := offB_of hp hl ((key 0).1 (h 0))
    refine ⟨ho, fun j => ?_⟩
    have h1 := offB_true hp hl ho
    have h2 := (key j).1 (h j)
    have := hM_two hp mi (a := offV p q mi) (b := t - ptI q (toI ba c j) + (if mi then -(ptI p j) else ptI p j)) (fun i => (h1 i).symm.trans (h2 i))
    rw [hz, Int.dvd_neg] at this
    exact this
  · rintro ⟨ho, h⟩ j
    refine (key j).2 fun u => ?_
    rw [offB_true hp hl ho u]
    refine hM_per hp mi ?_
    have := h j
    rw [show u - (offV p q mi : Int) - (u - (t - ptI q (toI ba c j) + (if mi then -(ptI p j) else ptI p j))) = -((offV p q mi : Int) - (t - ptI q (toI ba c j) + (if mi then -(ptI p j) else ptI p j))) by omega, hz, Int.neg_neg]
    exact this
theorem turnAt_dvd {p q : Prog} (hp : BenchFacts p) (hq : BenchFacts q) (hper : per p = per q) (k : Int) (mi ba : Bool) (j : Nat) : (per p : Int) ∣ turnAt p q k mi ba j - zT p q k mi ba j := by
  have h1 := phase_dvd hp (j : Int)
  have h2 := phase_dvd hq (toI ba k j)
  rw [← hper] at h2
  have h3 : (per p : Int) ∣ ((if mi then (offV p q mi : Int) + phaseI p j else (offV p q mi : Int) - phaseI p j) + phaseI q (toI ba k j)) - zT p q k mi ba j := by
    unfold zT
    cases mi
    · simp only [Bool.false_eq_true, if_false]
      have := Int.dvd_sub h2 h1
      rwa [show phaseI q (toI ba k j) - ptI q (toI ba k j) - (phaseI p j - ptI p j) = (offV p q false : Int) - phaseI p j + phaseI q (toI ba k j) - ((offV p q false : Int) - ptI p j + ptI q (toI ba k j)) by omega] at this
    · simp only [if_true]
      have := Int.dvd_add h2 h1
      rwa [show phaseI q (toI ba k j) - ptI q (toI ba k j) + (phaseI p j - ptI p j) = (offV p q true : Int) + phaseI p j + phaseI q (toI ba k j) - ((offV p q true : Int) + ptI p j + ptI q (toI ba k j)) by omega] at this
  have e : turnAt p q k mi ba j = ((if mi then (offV p q mi : Int) + phaseI p j else (offV p q mi : Int) - phaseI p j) + phaseI q (toI ba k j)) % (per p : Int) := by
    unfold turnAt toI
    cases mi <;> rfl
  rw [e]
  have h4 := Int.emod_add_mul_ediv ((if mi then (offV p q mi : Int) + phaseI p j else (offV p q mi : Int) - phaseI p j) + phaseI q (toI ba k j)) (per p : Int)
  have h5 := Int.dvd_sub h3 ⟨(((if mi then (offV p q mi : Int) + phaseI p j else (offV p q mi : Int) - phaseI p j) + phaseI q (toI ba k j)) / (per p : Int)), rfl⟩
  rwa [show ∀ a b c d : Int, a = b + d → a - c - d = b - c by omega] at h5
  omega
theorem zT_same {p q : Prog} (hp : BenchFacts p) (hq : BenchFacts q) (hper : per p = per q) (hclo : closeN p = closeN q) (c : Int) (mi ba : Bool) {i j : Int} (h : (closeN p : Int) ∣ i - j) : (per p : Int) ∣ zT p q c mi ba i - zT p q c mi ba j := by
  have h1 := pt_same hp h
  have h2 : (per p : Int) ∣ ptI q (toI ba c i) - ptI q (toI ba c j) := by
    rw [hper]
    refine pt_same hq ?_
    rw [← hclo]
    unfold toI
    cases ba
    · simp only [Bool.false_eq_true, if_false]; rwa [show c + i - (c + j) = i - j by omega]
    · simp only [if_true]; rwa [show c - i - (c - j) = -(i - j) by omega, Int.dvd_neg]
  unfold zT
  cases mi
  · simp only [Bool.false_eq_true, if_false]
    have := Int.dvd_sub h2 h1
    rwa [show ptI q (toI ba c i) - ptI q (toI ba c j) - (ptI p i - ptI p j) = (offV p q false : Int) - ptI p i + ptI q (toI ba c i) - ((offV p q false : Int) - ptI p j + ptI q (toI ba c j)) by omega] at this
  · simp only [if_true]
    have := Int.dvd_add h2 h1
    rwa [show ptI q (toI ba c i) - ptI q (toI ba c j) + (ptI p i - ptI p j) = (offV p q true : Int) + ptI p i + ptI q (toI ba c i) - ((offV p q true : Int) + ptI p j + ptI q (toI ba c j)) by omega] at this
theorem same_rest {n a b : Int} (hn : 0 < n) (ha : 0 ≤ a ∧ a < n) (hb : 0 ≤ b ∧ b < n) (h : n ∣ a - b) : a = b := by
  have := emod_of_dvd h
  rwa [Int.emod_eq_of_lt ha.1 ha.2, Int.emod_eq_of_lt hb.1 hb.2] at this
theorem turnAt_bound {p q : Prog} (hp : BenchFacts p) (k : Int) (mi ba : Bool) (j : Nat) : 0 ≤ turnAt p q k mi ba j ∧ turnAt p q k mi ba j < per p := by
  have h := (per_pos hp).1
  exact ⟨Int.emod_nonneg _ (by omega), Int.emod_lt_of_pos _ (by omega)⟩
theorem fits_iff {p q : Prog} (hp : BenchFacts p) (hq : BenchFacts q) (hper : per p = per q) (hclo : closeN p = closeN q) (k t : Int) (mi ba : Bool) :
    (fitsB p q (closeN p) k mi ba = true ∧ t = turnAt p q k mi ba 0) ↔ (0 ≤ t ∧ t < per p) ∧ ∀ j, (per p : Int) ∣ t - zT p q k mi ba j := by
  have hN := (per_pos hp).1
  have hc := (close_le hp).2.2.1
  unfold fitsB
  rw [List.all_eq_true]
  constructor
  · rintro ⟨h, rfl⟩
    refine ⟨turnAt_bound hp _ _ _ _, fun j => ?_⟩
    have hr0 := Int.emod_nonneg j (show (closeN p : Int) ≠ 0 by omega)
    have hr1 := Int.emod_lt_of_pos j (show (0 : Int) < (closeN p : Int) by omega)
    obtain ⟨r, hr⟩ : ∃ r : Nat, j % (closeN p : Int) = (r : Int) := ⟨_, (Int.toNat_of_nonneg hr0).symm⟩
    have h1 := h r (List.mem_range.2 (by omega))
    rw [beq_iff_eq] at h1
    have h2 := turnAt_dvd hp hq hper k mi ba r
    rw [h1] at h2
    have h3 := zT_same hp hq hper hclo k mi ba (i := (r : Int)) (j := j) ⟨-(j / (closeN p : Int)), by
      have := Int.emod_add_mul_ediv j (closeN p : Int)
      rw [Int.mul_neg]
      omega⟩
    have := Int.dvd_add h2 h3
    rwa [show ∀ a b c : Int, a - b + (b - c) = a - c by omega] at this
  · rintro ⟨hb, h⟩
    have h1 : ∀ j : Nat, turnAt p q k mi ba j = t := fun j => by
      refine same_rest (show (0 : Int) < per p by omega) (turnAt_bound hp _ _ _ _) hb ?_
      have := Int.dvd_sub (turnAt_dvd hp hq hper k mi ba j) (h j)
      rwa [show ∀ a b c : Int, a - b - (c - b) = a - c by omega] at this
    exact ⟨fun j _ => by rw [beq_iff_eq, h1, h1], (h1 0).symm⟩
def allowB (how : Nat) (mi ba : Bool) : Bool := !(ba && (how / 2 % 2 == 0)) && !(mi && (how % 2 == 0))
theorem bar_allow (p q : Prog) (how : Nat) (mi ba : Bool) : barB p q how mi ba = false ↔ allowB how mi ba = true ∧ offB p q mi = true := by
  unfold barB allowB
  cases mi <;> cases ba <;> cases (how / 2 % 2 == 0) <;> cases (how % 2 == 0) <;> cases offB p q true <;> cases offB p q false <;> decide
theorem ins_perm (lt : Mv → Mv → Bool) : ∀ (j : Nat) (d : Array Mv), j < d.size → Sort.PermIn 0 d.size d (Sort.insInner lt 0 j d)
  | 0, d, _ => Sort.permIn_refl _ _ _
  | j + 1, d, h => by
    unfold Sort.insInner
    split
    · have h1 := Sort.swp_permIn d 0 d.size (j + 1) j (by omega) (by omega) (by omega) (by omega) (Nat.le_refl _)
      have h2 := ins_perm lt j (Sort.swp d (j + 1) j) (by rw [size_swp]; omega)
      rw [size_swp] at h2
      exact Sort.permIn_trans _ _ _ _ _ h1 h2
    · exact Sort.permIn_refl _ _ _
theorem outer_perm (lt : Mv → Mv → Bool) (b i : Nat) (d : Array Mv) (hb : b ≤ d.size) : Sort.PermIn 0 d.size d (Sort.insOuter lt 0 b i d) := by
  unfold Sort.insOuter
  split
  · have h1 := ins_perm lt i d (by omega)
    have h2 := outer_perm lt b (i + 1) (Sort.insInner lt 0 i d) (by rw [size_insInner]; exact hb)
    rw [size_insInner] at h2
    exact Sort.permIn_trans _ _ _ _ _ h1 h2
  · exact Sort.permIn_refl _ _ _
termination_by b - i
theorem sortMv_perm (l : List Mv) : (sortMv l).Perm l := by
  unfold sortMv Sort.insertionSort
  have h := outer_perm (ltOf cmpMv) l.length (0 + 1) l.toArray (by simp)
  have h2 := h.2.2
  have e1 : ∀ a : Array Mv, (a.extract 0 a.size).toList = a.toList := fun a => by simp
  have hs : (Sort.insOuter (ltOf cmpMv) 0 l.length (0 + 1) l.toArray).size = l.toArray.size := h.1
  rw [e1] at h2
  have e2 : (Array.extract (Sort.insOuter (ltOf cmpMv) 0 l.length (0 + 1) l.toArray) 0 l.toArray.size).toList = (Sort.insOuter (ltOf cmpMv) 0 l.length (0 + 1) l.toArray).toList := by rw [← hs]; exact e1 _
  rw [e2] at h2
  simpa using h2
theorem mem_kinds (p q : Prog) (how n : Nat) (k : Int) (x : Mv) : x ∈ kindsMv p q how n k 4 ↔ x.cuts = k ∧ barB p q how x.mirror x.back = false ∧ fitsB p q n k x.mirror x.back = true ∧ x.turn = turnAt p q k x.mirror x.back 0 := by
  unfold kindsMv
  rw [List.mem_filterMap]
  constructor
  · rintro ⟨a, ha, h⟩
    unfold oneMv at h
    split at h
    · cases h
    · split at h
      · rename_i h1 h2
        injection h with h
        subst h
        exact ⟨rfl, by simpa using h1, h2, rfl⟩
      · cases h
  · rintro ⟨h1, h2, h3, h4⟩
    obtain ⟨xc, xt, xm, xb⟩ := x
    simp only at h1 h2 h3 h4
    subst h1 h4
    have hk : ∃ a, a < 4 ∧ kindAt a = (xm, xb) := by
      cases xm <;> cases xb
      · exact ⟨0, by omega, rfl⟩
      · exact ⟨1, by omega, rfl⟩
      · exact ⟨2, by omega, rfl⟩
      · exact ⟨3, by omega, rfl⟩
    obtain ⟨a, ha, hka⟩ := hk
    refine ⟨a, List.mem_range.2 ha, ?_⟩
    rw [hka]
    unfold oneMv
    rw [if_neg (by simp [h2]), if_pos h3]
theorem mem_allMv {p q : Prog} (hp : BenchFacts p) (hq : BenchFacts q) (how : Nat) (x : Mv) :
    x ∈ allMv p q how ↔ likeB p q = true ∧ (0 ≤ x.cuts ∧ x.cuts < closeN p) ∧ (0 ≤ x.turn ∧ x.turn < per p) ∧ allowB how x.mirror x.back = true ∧ Takes p q x.cuts x.turn x.mirror x.back := by
  unfold allMv
  by_cases hlk : likeB p q = true
  · rw [if_pos hlk]
    have hlk' := hlk
    unfold likeB at hlk'
    simp only [Bool.and_eq_true, beq_iff_eq] at hlk'
    obtain ⟨⟨hl, hper⟩, hclo⟩ := hlk'
    unfold preMv
    rw [List.mem_flatMap]
    simp only [List.mem_range]
    have hm : ∀ k : Nat, x ∈ cutMv p q how (closeN p) k ↔ x.cuts = k ∧ barB p q how x.mirror x.back = false ∧ fitsB p q (closeN p) k x.mirror x.back = true ∧ x.turn = turnAt p q k x.mirror x.back 0 := fun k => by
      unfold cutMv
      rw [(sortMv_perm _).mem_iff, mem_kinds]
    constructor
    · rintro ⟨k, hk, h⟩
      obtain ⟨h1, h2, h3, h4⟩ := (hm k).1 h
      obtain ⟨h5, h6⟩ := (bar_allow p q how x.mirror x.back).1 h2
      obtain ⟨h7, h8⟩ := (fits_iff hp hq hper hclo (k : Int) x.turn x.mirror x.back).1 ⟨h3, h4⟩
      exact ⟨hlk, by omega, h7, h5, (takes_iff hp hl _ _ _ _).2 ⟨h6, by rw [h1]; exact h8⟩⟩
    · rintro ⟨_, h1, h2, h3, h4⟩
      obtain ⟨h5, h6⟩ := (takes_iff hp hl _ _ _ _).1 h4
      obtain ⟨h7, h8⟩ := (fits_iff hp hq hper hclo x.cuts x.turn x.mirror x.back).2 ⟨h2, h6⟩
      obtain ⟨k, hk⟩ : ∃ k : Nat, x.cuts = k := ⟨x.cuts.toNat, by omega⟩
      rw [hk] at h7 h8
      exact ⟨k, by omega, (hm k).2 ⟨hk, (bar_allow p q how x.mirror x.back).2 ⟨h3, h5⟩, h7, h8⟩⟩
  · rw [if_neg hlk]
    simp [hlk]
end Go.Proofs.Ytnboppombhibbaa
