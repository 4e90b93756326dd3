/- Plain laws of motifs: the least number of shifts that come again, modulo the period; after how many cuts a pattern closes. The reference of layer 4: Check, Lift. The reference of layer 4: Phases. The reference of layer 4: Shape, Cut. The reference of layer 4: Cut. pattern.Lift, pattern.Cut. -/
import Derived.Test.YtphdalgaemefoaaGreatPatCheck
import Derived.Test.YtphdalgaemefoaaGreatBoxKit
import Derived.StillTailTactics
import Derived.Deep.DrawnRows
namespace Go.Proofs.YtphdalgaemefoaaGreat
set_option maxRecDepth 100000
set_option linter.unusedVariables false
theorem exists_least (f : List Int) (h : 0 < f.length) : ∃ s, IsLeast f s := by
 have hall : ∀ n : Nat, (∃ s : Nat, 1 ≤ s ∧ s ≤ n ∧ Shifts f s) → ∃ s, IsLeast f s := by
  intro n
  induction n with
  | zero => rintro ⟨s, h1, h2, _⟩; omega
  | succ n ih =>
   rintro ⟨s, h1, h2, h3⟩
   by_cases hx : ∃ s : Nat, 1 ≤ s ∧ s ≤ n ∧ Shifts f s
   ·exact ih hx
   ·by_cases hs : s ≤ n
    ·exact absurd ⟨s, h1, hs, h3⟩ hx
    ·exact ⟨s, h1, h3, fun j hj1 hj2 hj3 => hx ⟨j, hj1, by omega, hj3⟩⟩
 exact hall f.length ⟨f.length, h, Nat.le_refl _, Shifts.len f⟩
theorem period_least (f : List Int) (h : 0 < f.length) : IsLeast f (periodL f) := by
 obtain ⟨s, hs⟩ := exists_least f h
 rw [hs.period h]; exact hs
theorem period_dvd (f : List Int) (h : 0 < f.length) : periodL f ∣ f.length := by
 have := ((period_least f h).dvd (f.length : Int)).1 (Shifts.len f)
 exact Int.natCast_dvd_natCast.1 this
def per (p : Prog) : Nat := periodL (liftL p.ros p.rub)
def modS (p : Prog) : List Int := p.shifts.map (· % (per p : Int))
def motifN (p : Prog) : Nat := periodL (modS p)
def turnI (p : Prog) : Int := phaseI p (motifN p) % (per p : Int)
def closeN (p : Prog) : Nat := motifN p * (per p / Nat.gcd (per p) (turnI p).toNat)
theorem modS_length (p : Prog) : (modS p).length = p.shifts.length := by simp [modS]
theorem per_pos {p : Prog} (hp : BenchFacts p) : 1 ≤ per p ∧ per p ≤ p.ros.length ∧ per p ∣ p.ros.length := by
 have h0 := hp.ros0
 have hl := liftL_length p.ros p.rub
 have h1 := period_least (liftL p.ros p.rub) (by omega)
 have h2 := period_dvd (liftL p.ros p.rub) (by omega)
 rw [hl] at h2
 exact ⟨h1.pos, Nat.le_of_dvd (by omega) h2, h2⟩
theorem motif_least {p : Prog} (hp : BenchFacts p) : IsLeast (modS p) (motifN p) := period_least _ (by rw [modS_length]; exact hp.sh0)
theorem motif_dvd {p : Prog} (hp : BenchFacts p) : motifN p ∣ p.shifts.length := by
 have := period_dvd (modS p) (by rw [modS_length]; exact hp.sh0)
 rwa [modS_length] at this
theorem motif_le {p : Prog} (hp : BenchFacts p) : 1 ≤ motifN p ∧ motifN p ≤ p.shifts.length := ⟨(motif_least hp).pos, Nat.le_of_dvd hp.sh0 (motif_dvd hp)⟩
theorem turn_bound {p : Prog} (hp : BenchFacts p) : 0 ≤ turnI p ∧ turnI p < per p := by
 have h := (per_pos hp).1
 exact ⟨Int.emod_nonneg _ (by omega), Int.emod_lt_of_pos _ (by omega)⟩
theorem atR_modS (p : Prog) (i : Nat) (h : i < p.shifts.length) : atR (modS p) (i : Int) = p.shifts[i] % (per p : Int) := by
 rw [atR_nat i (by rw [modS_length]; exact h)]
 simp [modS]
def repsB (p : Prog) (m : Nat) : Bool := (List.range p.shifts.length).all fun i => decide (i < m) || decide ((p.shifts.getD i 0 - p.shifts.getD (i - m) 0) % (per p : Int) = 0)
theorem repsB_iff (p : Prog) (m : Nat) : repsB p m = true ↔ ∀ i (h : i < p.shifts.length), m ≤ i → atR (modS p) ((i : Int) - m) = atR (modS p) i := by
 unfold repsB
 simp only [List.all_eq_true, List.mem_range, Bool.or_eq_true, decide_eq_true_eq]
 have key : ∀ i (h : i < p.shifts.length), m ≤ i → ((p.shifts.getD i 0 - p.shifts.getD (i - m) 0) % (per p : Int) = 0 ↔ atR (modS p) ((i : Int) - m) = atR (modS p) i) := fun i h hm => by
  rw [show (i : Int) - m = ((i - m : Nat) : Int) by omega, atR_modS p i h, atR_modS p (i - m) (by omega), ← Int.emod_eq_emod_iff_emod_sub_eq_zero]
  simp only [List.getD_eq_getElem?_getD, List.getElem?_eq_getElem h, List.getElem?_eq_getElem (show i - m < p.shifts.length by omega), Option.getD_some]
  exact eq_comm
 constructor
 ·intro h i hi hm
  rcases h i hi with h1 | h1
  ·omega
  ·exact (key i hi hm).1 h1
 ·intro h i hi
  by_cases hm : i < m
  ·exact .inl hm
  ·exact .inr ((key i hi (by omega)).2 (h i hi (by omega)))
theorem reps_shifts {p : Prog} {m : Nat} (h1 : 1 ≤ m) (hd : m ∣ p.shifts.length) (h0 : 1 ≤ p.shifts.length) : repsB p m = true ↔ Shifts (modS p) m := by
 rw [repsB_iff]
 constructor
 ·intro h
  obtain ⟨q, hq⟩ := hd
  have hstep : ∀ j r : Nat, r < m → r + m * j < p.shifts.length → atR (modS p) ((r + m * j : Nat) : Int) = atR (modS p) r := by
   intro j
   induction j with
   | zero => intro r _ _; simp
   | succ j ih =>
    intro r hr hlt
    have e : m * (j + 1) = m * j + m := by rw [Nat.mul_add, Nat.mul_one]
    have := h (r + m * (j + 1)) hlt (by omega)
    rw [← this, show ((r + m * (j + 1) : Nat) : Int) - m = ((r + m * j : Nat) : Int) by omega]
    exact ih r hr (by omega)
  intro i
  have hl : ((modS p).length : Int) = p.shifts.length := by rw [modS_length]
  have hr0 := Int.emod_nonneg i (show (p.shifts.length : Int) ≠ 0 by omega)
  have hr1 := Int.emod_lt_of_pos i (show (0 : Int) < (p.shifts.length : Int) by omega)
  obtain ⟨r, hr⟩ : ∃ r : Nat, i % (p.shifts.length : Int) = (r : Int) := ⟨_, (Int.toNat_of_nonneg hr0).symm⟩
  have hrl : r < p.shifts.length := by omega
  have e1 : atR (modS p) i = atR (modS p) r := atR_mod _ _ _ (by rw [hl, hr]; exact (Int.emod_eq_of_lt (by omega) (by omega)).symm)
  have e2 : atR (modS p) (i - m) = atR (modS p) ((r : Int) - m) := atR_mod _ _ _ (by rw [hl, ← hr, Int.emod_sub_emod])
  rw [e1, e2]
  by_cases hm : m ≤ r
  ·exact h r hrl hm
  ·have hqp : 1 ≤ q := by
    rcases Nat.eq_zero_or_pos q with h | h
    ·rw [h, Nat.mul_zero] at hq; omega
    ·exact h
   have e3 : atR (modS p) ((r : Int) - m) = atR (modS p) ((r + m * (q - 1) : Nat) : Int) := by
    refine atR_mod _ _ _ ?_
    rw [hl, hq]
    have e : m * q = m * (q - 1) + m := by rw [Nat.mul_sub, Nat.mul_one, Nat.sub_add_cancel (Nat.le_mul_of_pos_right m hqp)]
    rw [show ((r + m * (q - 1) : Nat) : Int) = ((r : Int) - m) + ((m * q : Nat) : Int) by omega, Int.natCast_mul]
    have hz := Int.add_mul_emod_self_left ((r : Int) - m) ((m : Int) * q) 1
    rw [Int.mul_one] at hz
    exact hz.symm
   rw [e3]
   have e : m * q = m * (q - 1) + m := by rw [Nat.mul_sub, Nat.mul_one, Nat.sub_add_cancel (Nat.le_mul_of_pos_right m hqp)]
   exact hstep (q - 1) r (by omega) (by omega)
 ·intro h i hi hm
  exact h i
theorem motif_found {p : Prog} (hp : BenchFacts p) {k : Nat} (h1 : 1 ≤ k) (hd : p.shifts.length % k = 0) (hr : repsB p k = true) (hn : ∀ j, 1 ≤ j → j < k → ¬ (p.shifts.length % j = 0 ∧ repsB p j = true)) : k = motifN p := by
 have hs := (reps_shifts h1 (Nat.dvd_of_mod_eq_zero hd) hp.sh0).1 hr
 have hm := motif_least hp
 have hle : motifN p ≤ k := by
  rcases Nat.lt_or_ge k (motifN p) with h | h
  ·exact absurd hs (hm.least k h1 h)
  ·exact h
 rcases Nat.lt_or_ge (motifN p) k with h | h
 ·exact absurd ⟨Nat.mod_eq_zero_of_dvd (motif_dvd hp), (reps_shifts hm.pos (motif_dvd hp) hp.sh0).2 hm.sh⟩ (hn _ hm.pos h)
 ·omega
theorem motif_reps {p : Prog} (hp : BenchFacts p) : p.shifts.length % motifN p = 0 ∧ repsB p (motifN p) = true :=
 ⟨Nat.mod_eq_zero_of_dvd (motif_dvd hp), (reps_shifts (motif_least hp).pos (motif_dvd hp) hp.sh0).2 (motif_least hp).sh⟩
def cycB (p : Prog) (m k : Nat) : Bool := (List.range k).all fun i => decide (p.shifts.getD i 0 % (per p : Int) = p.shifts.getD ((i + m) % p.shifts.length) 0 % (per p : Int))
theorem cycB_succ (p : Prog) (m k : Nat) : cycB p m (k + 1) = (cycB p m k && decide (p.shifts.getD k 0 % (per p : Int) = p.shifts.getD ((k + m) % p.shifts.length) 0 % (per p : Int))) := by
 unfold cycB; rw [List.range_succ, List.all_append]; simp
theorem cyc_shifts {p : Prog} {m : Nat} (h0 : 1 ≤ p.shifts.length) : cycB p m p.shifts.length = true ↔ Shifts (modS p) m := by
 have hl : ((modS p).length : Int) = p.shifts.length := by rw [modS_length]
 have key : ∀ i, i < p.shifts.length → (p.shifts.getD i 0 % (per p : Int) = p.shifts.getD ((i + m) % p.shifts.length) 0 % (per p : Int) ↔ atR (modS p) i = atR (modS p) ((i : Int) + m)) := fun i h => by
  have hlt : (i + m) % p.shifts.length < p.shifts.length := Nat.mod_lt _ (by omega)
  have e : atR (modS p) ((i : Int) + m) = atR (modS p) (((i + m) % p.shifts.length : Nat) : Int) := atR_mod _ _ _ (by rw [hl]; simp)
  rw [e, atR_modS p i h, atR_modS p _ hlt]
  simp only [List.getD_eq_getElem?_getD, List.getElem?_eq_getElem h, List.getElem?_eq_getElem hlt, Option.getD_some]
 unfold cycB
 simp only [List.all_eq_true, List.mem_range, decide_eq_true_eq]
 constructor
 ·intro h i
  have hr0 := Int.emod_nonneg (i - m) (show (p.shifts.length : Int) ≠ 0 by omega)
  have hr1 := Int.emod_lt_of_pos (i - m) (show (0 : Int) < (p.shifts.length : Int) by omega)
  obtain ⟨r, hr⟩ : ∃ r : Nat, (i - m) % (p.shifts.length : Int) = (r : Int) := ⟨_, (Int.toNat_of_nonneg hr0).symm⟩
  have e1 : atR (modS p) (i - m) = atR (modS p) r := atR_mod _ _ _ (by rw [hl, hr]; exact (Int.emod_eq_of_lt (by omega) (by omega)).symm)
  have e2 : atR (modS p) i = atR (modS p) ((r : Int) + m) := atR_mod _ _ _ (by rw [hl, ← hr, Int.emod_add_emod]; congr 1; omega)
  rw [e1, e2]
  exact (key r (by omega)).1 (h r (by omega))
 ·intro h i hi
  refine (key i hi).2 ?_
  have := h ((i : Int) + m)
  rwa [show (i : Int) + m - m = i by omega] at this
theorem refMotif_hit {p : Prog} (hp : BenchFacts p) {k : Nat} (h1 : 1 ≤ k) (hc : cycB p k p.shifts.length = true) (hn : ∀ j, 1 ≤ j → j < k → cycB p j p.shifts.length = false) : k = motifN p := by
 have hm := motif_least hp
 have hs := (cyc_shifts hp.sh0).1 hc
 rcases Nat.lt_trichotomy k (motifN p) with h | h | h
 ·exact absurd hs (hm.least k h1 h)
 ·exact h
 ·have := hn _ hm.pos h
  rw [(cyc_shifts hp.sh0).2 hm.sh] at this
  cases this
theorem refMotif_end {p : Prog} (hp : BenchFacts p) (hn : ∀ j, 1 ≤ j → j < p.shifts.length → cycB p j p.shifts.length = false) : p.shifts.length = motifN p := by
 have hm := motif_least hp
 have hle := (motif_le hp).2
 rcases Nat.lt_or_ge (motifN p) p.shifts.length with h | h
 ·have := hn _ hm.pos h
  rw [(cyc_shifts hp.sh0).2 hm.sh] at this
  cases this
 ·omega
theorem times_iff (n t k : Nat) (hn : 1 ≤ n) : k * t % n = 0 ↔ n / Nat.gcd n t ∣ k := by
 have hg : 0 < Nat.gcd n t := Nat.gcd_pos_of_pos_left _ hn
 obtain ⟨a, ha⟩ := Nat.gcd_dvd_left n t
 obtain ⟨b, hb⟩ := Nat.gcd_dvd_right n t
 have hco : Nat.Coprime (n / Nat.gcd n t) (t / Nat.gcd n t) := Nat.coprime_div_gcd_div_gcd hg
 have e1 : n / Nat.gcd n t = a := by rw [Nat.div_eq_iff_eq_mul_left hg (Nat.gcd_dvd_left n t), Nat.mul_comm]; exact ha
 have e2 : t / Nat.gcd n t = b := by rw [Nat.div_eq_iff_eq_mul_left hg (Nat.gcd_dvd_right n t), Nat.mul_comm]; exact hb
 rw [e1, e2] at hco
 rw [e1, ← Nat.dvd_iff_mod_eq_zero]
 constructor
 ·intro h
  have h2 : Nat.gcd n t * a ∣ Nat.gcd n t * (k * b) := by
   rw [← ha, show Nat.gcd n t * (k * b) = k * (Nat.gcd n t * b) by rw [← Nat.mul_assoc, Nat.mul_comm _ k, Nat.mul_assoc], ← hb]; exact h
  exact hco.dvd_of_dvd_mul_right (Nat.dvd_of_mul_dvd_mul_left hg h2)
 ·rintro ⟨c, rfl⟩
  refine ⟨c * b, ?_⟩
  calc a * c * t = a * c * (Nat.gcd n t * b) := by rw [← hb]
   _ = Nat.gcd n t * a * (c * b) := by rw [Nat.mul_comm (Nat.gcd n t) a, Nat.mul_assoc, Nat.mul_assoc, Nat.mul_left_comm c]
   _ = n * (c * b) := by rw [← ha]
theorem close_le {p : Prog} (hp : BenchFacts p) : 1 ≤ per p / Nat.gcd (per p) (turnI p).toNat ∧ per p / Nat.gcd (per p) (turnI p).toNat ≤ 96 ∧ 1 ≤ closeN p ∧ closeN p ≤ 1152 := by
 have h1 := per_pos hp
 have hr := hp.ros1
 have hg : 0 < Nat.gcd (per p) (turnI p).toNat := Nat.gcd_pos_of_pos_left _ h1.1
 have h2 : 1 ≤ per p / Nat.gcd (per p) (turnI p).toNat := (Nat.le_div_iff_mul_le hg).2 (by rw [Nat.one_mul]; exact Nat.gcd_le_left _ h1.1)
 have h3 : per p / Nat.gcd (per p) (turnI p).toNat ≤ 96 := Nat.le_trans (Nat.div_le_self _ _) (by omega)
 have hm := motif_le hp
 have hs := hp.sh1
 unfold closeN
 refine ⟨h2, h3, Nat.mul_pos hm.1 h2, ?_⟩
 calc _ ≤ 12 * 96 := Nat.mul_le_mul (by omega) h3
  _ = 1152 := rfl
end Go.Proofs.YtphdalgaemefoaaGreat
namespace Go.Proofs.YtphdalgaemefoaaGreat
set_option maxRecDepth 100000
open Go.RowKit
set_option linter.unusedVariables false
set_option linter.unusedSimpArgs false
end Go.Proofs.YtphdalgaemefoaaGreat
namespace Go.Proofs.YtphdalgaemefoaaGreat
set_option maxRecDepth 100000
open Go.RowKit
set_option linter.unusedVariables false
set_option linter.unusedSimpArgs false
def phasesL (p : Prog) (a : Int) (n : Nat) : List Int := (List.range n).map fun (k : Nat) => phaseI p (a + k)
theorem phasesL_succ (p : Prog) (a : Int) (n : Nat) : phasesL p a (n + 1) = phasesL p a n ++ [phaseI p (a + n)] := by unfold phasesL; rw [List.range_succ]; simp
theorem phasesL_length (p : Prog) (a : Int) (n : Nat) : (phasesL p a n).length = n := by simp [phasesL]
def phasesE (p : Prog) (a n : Int) : Int := if progE p ≠ 0 then progE p else if within a (-5000) 5000 && within n 0 200 then 0 else 2
end Go.Proofs.YtphdalgaemefoaaGreat
namespace Go.Proofs.YtphdalgaemefoaaGreat
set_option maxRecDepth 100000
open Go.RowKit
set_option linter.unusedVariables false
set_option linter.unusedSimpArgs false
def shapeL (p : Prog) (j : Int) : List Int := (movedL (liftL p.ros p.rub) (phaseI p j)).map (· * p.throw)
def cutL (p : Prog) (j : Int) : List Int := (shapeL p j).map (· + (p.start + j * p.adv))
theorem phaseI_bound {p : Prog} (hp : BenchFacts p) (j : Int) : 0 ≤ phaseI p j ∧ phaseI p j < p.ros.length := by
 have := hp.ros0
 exact ⟨Int.emod_nonneg _ (by omega), Int.emod_lt_of_pos _ (by omega)⟩
theorem moved_height {f : List Int} (h : rosOk f = true) (s : Int) (k : Nat) (hk : k < (movedL f s).length) : 0 ≤ (movedL f s)[k] ∧ (movedL f s)[k] ≤ 10000 := by
 rw [movedL_length] at hk
 rw [movedL_get f s k hk]
 exact atR_height h _
theorem mul_small (x t : Int) (hx : 0 ≤ x ∧ x ≤ 10000) (ht : 1 ≤ t ∧ t ≤ 16) : 0 ≤ x * t ∧ x * t ≤ 160000 := by
 have h1 := Int.mul_le_mul hx.2 ht.2 (by omega) (by omega)
 have h2 := Int.mul_nonneg hx.1 (show (0 : Int) ≤ t by omega)
 omega
attribute [local go_sem ↓] Go.wp_at_zero Go.wp_at_succ
end Go.Proofs.YtphdalgaemefoaaGreat
namespace Go.Proofs.YtphdalgaemefoaaGreat
set_option maxRecDepth 100000
open Go.RowKit
set_option linter.unusedVariables false
set_option linter.unusedSimpArgs false
def cutE (p : Prog) (j : Int) : Int := if progE p ≠ 0 then progE p else if within j (-5000) 5000 then 0 else 2
theorem mul_adv (j t : Int) (hj : -5001 ≤ j ∧ j ≤ 5001) (ht : -1000 ≤ t ∧ t ≤ 1000) : -5001000 ≤ j * t ∧ j * t ≤ 5001000 := by
 rcases Int.le_total 0 t with h | h
 ·have a := Int.mul_le_mul_of_nonneg_right hj.2 h
  have b := Int.mul_le_mul_of_nonneg_right hj.1 h
  omega
 ·have a := Int.mul_le_mul_of_nonpos_right hj.1 h
  have b := Int.mul_le_mul_of_nonpos_right hj.2 h
  omega
theorem shape_bound {p : Prog} (hp : BenchFacts p) (j : Int) (k : Nat) (hk : k < (shapeL p j).length) : 0 ≤ (shapeL p j)[k] ∧ (shapeL p j)[k] ≤ 160000 := by
 unfold shapeL at hk ⊢
 rw [List.getElem_map]
 exact mul_small _ _ (moved_height (lift_ok hp.ros hp.rub) _ _ _) hp.throw
theorem shapeL_length (p : Prog) (j : Int) : (shapeL p j).length = p.ros.length := by simp [shapeL, movedL_length, liftL_length]
attribute [local go_sem ↓] Go.wp_at_zero Go.wp_at_succ
end Go.Proofs.YtphdalgaemefoaaGreat
namespace Go.Proofs.YtphdalgaemefoaaGreat
set_option maxRecDepth 100000
open Go.RowKit
set_option linter.unusedVariables false
set_option linter.unusedSimpArgs false
theorem IsBench.lt {w : World} {b : Nat} {p : Prog} (h : IsBench w b p) : b < w.heap.size := by
 obtain ⟨v0, v1, v5, vl, hc, _⟩ := h
 exact (gsl hc)
theorem IsBench.drewN {w : World} {b : Nat} {p : Prog} (h : IsBench w b p) (n : Nat) : IsBench (w.drewN n) b p := h.below (Below.of_drewN _ _)
theorem IsBench.drew {w : World} {b : Nat} {p : Prog} (h : IsBench w b p) : IsBench w.drew b p := h.below (Below.refl _ _).drew
theorem IsBench.cells {w : World} {b : Nat} {p : Prog} (h : IsBench w b p) : ∃ v5 vl, Ints w v5 p.shifts ∧ Ints w vl (liftL p.ros p.rub) ∧
  w.cell? ⟨b, 2, none⟩ = some (.int .i64 p.start) ∧ w.cell? ⟨b, 3, none⟩ = some (.int .i64 p.throw) ∧ w.cell? ⟨b, 4, none⟩ = some (.int .i64 p.adv) ∧ w.cell? ⟨b, 5, none⟩ = some v5 ∧
  w.cell? ⟨b, 6, none⟩ = some vl ∧ w.cell? ⟨b, 7, none⟩ = some (.int .i64 p.ros.length) ∧ w.cell? ⟨b, 8, none⟩ = some (.int .i64 p.shifts.length) ∧ w.cell? ⟨b, 9, none⟩ = some (.int .i64 (periodL (liftL p.ros p.rub))) := by
 obtain ⟨v0, v1, v5, vl, hc, h0, h1, h5, hl⟩ := h
 obtain ⟨c0, c1, c2, c3, c4, c5, c6, c7, c8, c9⟩ := bench_low hc
 exact ⟨v5, vl, h5, hl, c2, c3, c4, c5, c6, c7, c8, c9⟩
end Go.Proofs.YtphdalgaemefoaaGreat
