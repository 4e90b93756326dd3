/- The changed program: what it is, that it is valid, and how it is related. -/
import Derived.Test.YtnboppombhibbaaRelLaw
namespace Go.Proofs.Ytnboppombhibbaa
open Go.RowKit
set_option linter.unusedVariables false
set_option linter.unusedSimpArgs false
/-- The mirrored list. -/
def mirL (f : List Int) : List Int := (turnL f (f.length - 1)).reverse
theorem mirL_length (f : List Int) : (mirL f).length = f.length := by unfold mirL; rw [List.length_reverse, turnL_length]
theorem movedL_at (f : List Int) (h0 : 0 < f.length) (s i : Int) : atR (movedL f s) i = atR f (i - s) := by
  have h1 := Int.emod_nonneg i (show (f.length : Int) ≠ 0 by omega)
  have h2 := Int.emod_lt_of_pos i (show (0 : Int) < (f.length : Int) by omega)
  obtain ⟨m, hm⟩ : ∃ m : Nat, i % (f.length : Int) = (m : Int) := ⟨_, (Int.toNat_of_nonneg h1).symm⟩
  have hml : m < f.length := by omega
  have e1 : atR (movedL f s) i = atR (movedL f s) (m : Int) := atR_mod _ _ _ (by rw [movedL_length, hm]; exact (Int.emod_eq_of_lt (by omega) (by omega)).symm)
  rw [e1, atR_nat m (by rw [movedL_length]; exact hml), movedL_get f s m hml]
  exact atR_mod _ _ _ (by rw [← hm, Int.emod_sub_emod])
theorem mirL_at (f : List Int) (h0 : 0 < f.length) (i : Int) : atR (mirL f) i = atR f (-i) := by
  have h1 := Int.emod_nonneg i (show (f.length : Int) ≠ 0 by omega)
  have h2 := Int.emod_lt_of_pos i (show (0 : Int) < (f.length : Int) by omega)
  obtain ⟨m, hm⟩ : ∃ m : Nat, i % (f.length : Int) = (m : Int) := ⟨_, (Int.toNat_of_nonneg h1).symm⟩
  have hml : m < f.length := by omega
  have e1 : atR (mirL f) i = atR (mirL f) (m : Int) := atR_mod _ _ _ (by rw [mirL_length, hm]; exact (Int.emod_eq_of_lt (by omega) (by omega)).symm)
  have e2 : (mirL f)[m]'(by rw [mirL_length]; exact hml) = (turnL f (f.length - 1))[f.length - 1 - m]'(by rw [turnL_length]; omega) := by
    unfold mirL
    rw [List.getElem_reverse]
    congr 1
    rw [turnL_length]
  have e3 : (turnL f (f.length - 1))[f.length - 1 - m]'(by rw [turnL_length]; omega) = atR f (((f.length - 1 - m : Nat) : Int) - ((f.length - 1 : Nat) : Int)) := by
    have := movedL_get f ((f.length - 1 : Nat) : Int) (f.length - 1 - m) (by omega)
    rw [← this]
    congr 1
    exact turn_moved f (f.length - 1) (by omega)
  rw [e1, atR_nat m (by rw [mirL_length]; exact hml), e2, e3]
  have d := Int.mul_ediv_add_emod i (f.length : Int)
  refine atR_mod _ _ _ (emod_of_dvd ?_)
  rw [show ((f.length - 1 - m : Nat) : Int) - ((f.length - 1 : Nat) : Int) - -i = f.length * (i / f.length) by omega]
  exact Int.dvd_mul_right _ _
/-- A lift's height is the greatest of heights less drops. -/
theorem lift_most {f b : List Int} (hf : rosOk f = true) (hb : rubOk b f.length = true) (i : Int) :
    (∀ j, j < b.length → atR f (i + ((j : Int) - (b.length : Int) / 2)) - b.getD j 0 ≤ atR (liftL f b) i) ∧ ∃ j, j < b.length ∧ atR (liftL f b) i = atR f (i + ((j : Int) - (b.length : Int) / 2)) - b.getD j 0 := by
  have h0 := (rosOk_iff.1 hf).1
  have hb0 := (rubOk_iff.1 hb).1
  have h1 := Int.emod_nonneg i (show (f.length : Int) ≠ 0 by omega)
  have h2 := Int.emod_lt_of_pos i (show (0 : Int) < (f.length : Int) by omega)
  obtain ⟨m, hm⟩ : ∃ m : Nat, i % (f.length : Int) = (m : Int) := ⟨_, (Int.toNat_of_nonneg h1).symm⟩
  have hml : m < f.length := by omega
  have e1 : atR (liftL f b) i = pickN b.length (pickX f b 1 liftM m) liftK b.length := by
    rw [← liftL_getElem f b m hml, ← atR_nat m (by rw [liftL_length]; exact hml)]
    exact atR_mod _ _ _ (by rw [liftL_length, hm]; exact (Int.emod_eq_of_lt (by omega) (by omega)).symm)
  have e2 : ∀ j : Nat, pickX f b 1 liftM m j = atR f (i + ((j : Int) - (b.length : Int) / 2)) - b.getD j 0 := fun j => by
    rw [pickX_lift]
    congr 1
    exact atR_mod _ _ _ (by rw [← hm, Int.emod_add_emod])
  rw [e1]
  refine ⟨fun j hj => ?_, ?_⟩
  · rw [← e2]
    exact pickN_ge _ _ _ j hj
  · obtain ⟨j, hj, he⟩ := pickN_mem b.length (pickX f b 1 liftM m) b.length (by omega)
    exact ⟨j, hj, by rw [he, e2]⟩
/-- The changed rosette, and the changed rubber. -/
def chF (p : Prog) (by_ : Nat) (mi : Bool) : List Int := if mi then mirL (turnL p.ros (by_ % p.ros.length)) else turnL p.ros (by_ % p.ros.length)
def chB (p : Prog) (mi : Bool) : List Int := if mi then p.rub.reverse else p.rub
def chS (p : Prog) (fr : Nat) (mi ba : Bool) (i : Nat) : Int :=
  (if mi then (p.ros.length : Int) - (if ba then (p.ros.length : Int) - p.shifts.getD ((2 * p.shifts.length - 1 - i + fr) % p.shifts.length) 0 else p.shifts.getD ((i + fr) % p.shifts.length) 0)
    else (if ba then (p.ros.length : Int) - p.shifts.getD ((2 * p.shifts.length - 1 - i + fr) % p.shifts.length) 0 else p.shifts.getD ((i + fr) % p.shifts.length) 0)) % (p.ros.length : Int)
def chP (p : Prog) (fr by_ : Nat) (mi ba : Bool) : Prog := ⟨chF p by_ mi, chB p mi, p.start, p.throw, p.adv, (List.range p.shifts.length).map (chS p fr mi ba)⟩
theorem chF_length (p : Prog) (by_ : Nat) (mi : Bool) : (chF p by_ mi).length = p.ros.length := by
  unfold chF
  cases mi <;> simp [mirL_length, turnL_length]
theorem chF_at {p : Prog} (hp : BenchFacts p) (by_ : Nat) (mi : Bool) (i : Int) : atR (chF p by_ mi) i = atR p.ros (sg mi i - by_) := by
  have h0 := hp.ros0
  have hb : by_ % p.ros.length ≤ p.ros.length := Nat.le_of_lt (Nat.mod_lt _ (by omega))
  have e : ∀ i : Int, atR (turnL p.ros (by_ % p.ros.length)) i = atR p.ros (i - by_) := fun i => by
    rw [turn_moved _ _ hb, movedL_at _ (by omega)]
    refine atR_mod _ _ _ ?_
    rw [Int.natCast_emod, Int.sub_emod_emod]
  unfold chF
  cases mi with
  | false => exact e i
  | true =>
    simp only [if_true, sg]
    rw [mirL_at _ (by rw [turnL_length]; omega), e]
theorem chB_length (p : Prog) (mi : Bool) : (chB p mi).length = p.rub.length := by
  unfold chB
  cases mi <;> simp
theorem chB_at (p : Prog) (mi : Bool) (j : Nat) (h : j < p.rub.length) : (chB p mi).getD j 0 = p.rub.getD (if mi then p.rub.length - 1 - j else j) 0 := by
  unfold chB
  cases mi with
  | false => rfl
  | true =>
    simp only [if_true, List.getD_eq_getElem?_getD]
    rw [List.getElem?_reverse h]
theorem all_at {f : List Int} (P : Int → Prop) : (∀ i (h : i < f.length), P f[i]) ↔ ∀ i, i < f.length → P (f.getD i 0) := by
  constructor
  · intro h i hi
    simpa [hi] using h i hi
  · intro h i hi
    simpa [hi] using h i hi
theorem ch_ros {p : Prog} (hp : BenchFacts p) (by_ : Nat) (mi : Bool) : rosOk (chF p by_ mi) = true := by
  refine rosOk_iff.2 ⟨by rw [chF_length]; exact hp.ros0, by rw [chF_length]; exact hp.ros1, fun i hi => ?_⟩
  rw [← atR_nat i hi, chF_at hp]
  exact atR_height hp.ros _
theorem ch_rub {p : Prog} (hp : BenchFacts p) (mi : Bool) : rubOk (chB p mi) p.ros.length = true := by
  obtain ⟨h1, h2, h3, h4, h5⟩ := rubOk_iff.1 hp.rub
  refine rubOk_iff.2 ⟨by rw [chB_length]; exact h1, by rw [chB_length]; exact h2, by rw [chB_length]; exact h3, ?_, ?_⟩
  · rw [all_at (fun x => 0 ≤ x ∧ x ≤ 10000)]
    intro i hi
    rw [chB_length] at hi
    rw [chB_at p mi i hi]
    exact (all_at (fun x => 0 ≤ x ∧ x ≤ 10000)).1 h4 _ (by split <;> omega)
  · rw [chB_length, chB_at p mi _ (by omega)]
    cases mi with
    | false => exact h5
    | true =>
      simp only [if_true]
      rw [show p.rub.length - 1 - p.rub.length / 2 = p.rub.length / 2 by omega]
      exact h5
theorem ch_lift {p : Prog} (hp : BenchFacts p) (by_ : Nat) (mi : Bool) (i : Int) : atR (liftL (chF p by_ mi) (chB p mi)) i = atR (liftL p.ros p.rub) (sg mi i - by_) := by
  have hb := rubOk_iff.1 hp.rub
  obtain ⟨a1, j1, k1, e1⟩ := lift_most (ch_ros hp by_ mi) (by rw [chF_length]; exact ch_rub hp mi) i
  obtain ⟨a2, j2, k2, e2⟩ := lift_most hp.ros hp.rub (sg mi i - by_)
  rw [chB_length] at a1 k1 e1
  have key : ∀ j, j < p.rub.length → atR (chF p by_ mi) (i + ((j : Int) - (p.rub.length : Int) / 2)) - (chB p mi).getD j 0 = atR p.ros (sg mi i - by_ + (((if mi then p.rub.length - 1 - j else j : Nat) : Int) - (p.rub.length : Int) / 2)) - p.rub.getD (if mi then p.rub.length - 1 - j else j) 0 := fun j hj => by
    rw [chF_at hp, chB_at p mi j hj]
    congr 2
    cases mi with
    | false => simp only [sg, Bool.false_eq_true, if_false]; omega
    | true => simp only [sg, if_true]; omega
  have m1 := a2 (if mi then p.rub.length - 1 - j1 else j1) (by split <;> omega)
  have m2 := a1 (if mi then p.rub.length - 1 - j2 else j2) (by split <;> omega)
  rw [key _ k1] at e1
  rw [key _ (by split <;> omega)] at m2
  have e3 : (if mi then p.rub.length - 1 - (if mi then p.rub.length - 1 - j2 else j2) else (if mi then p.rub.length - 1 - j2 else j2)) = j2 := by cases mi <;> simp <;> omega
  rw [e3, ← e2] at m2
  omega
theorem chS_range {p : Prog} (hp : BenchFacts p) (fr : Nat) (mi ba : Bool) (i : Nat) : 0 ≤ chS p fr mi ba i ∧ chS p fr mi ba i < p.ros.length := by
  have := hp.ros0
  unfold chS
  exact ⟨Int.emod_nonneg _ (by omega), Int.emod_lt_of_pos _ (by omega)⟩
theorem ch_valid {p : Prog} (h : progE p = 0) (fr by_ : Nat) (mi ba : Bool) : progE (chP p fr by_ mi ba) = 0 := by
  have hp := benchFacts h
  unfold progE bothE
  have h1 : rosOk (chP p fr by_ mi ba).ros = true := ch_ros hp by_ mi
  have h2 : rubOk (chP p fr by_ mi ba).rub (chP p fr by_ mi ba).ros.length = true := by
    show rubOk (chB p mi) (chF p by_ mi).length = true
    rw [chF_length]
    exact ch_rub hp mi
  have h3 : progB (chP p fr by_ mi ba) = true := by
    refine progB_iff.2 ⟨hp.start, hp.throw, hp.adv, ?_, ?_⟩
    · have hl : (chP p fr by_ mi ba).shifts.length = p.shifts.length := by show ((List.range p.shifts.length).map (chS p fr mi ba)).length = _; simp
      rw [hl]
      exact ⟨hp.sh0, hp.sh1⟩
    · intro i hi
      have e : (chP p fr by_ mi ba).shifts[i] = chS p fr mi ba i := by
        have hi2 : i < p.shifts.length := by simpa [chP] using hi
        simp [chP]
      rw [e]
      show _ ∧ _ < ((chF p by_ mi).length : Int)
      rw [chF_length]
      exact chS_range hp fr mi ba _
  simp [h1, h2, h3]
theorem ch_sh {p : Prog} (hp : BenchFacts p) (fr by_ : Nat) (mi ba : Bool) (j : Int) : (p.ros.length : Int) ∣ shAt (chP p fr by_ mi ba) j - sg mi (if ba then -(shAt p ((fr : Int) - 1 - j)) else shAt p ((fr : Int) + j)) := by
  have hn := hp.sh0
  have hl : (chP p fr by_ mi ba).shifts.length = p.shifts.length := by show ((List.range p.shifts.length).map (chS p fr mi ba)).length = _; simp
  have h0 := Int.emod_nonneg j (show (p.shifts.length : Int) ≠ 0 by omega)
  have h1 := Int.emod_lt_of_pos j (show (0 : Int) < (p.shifts.length : Int) by omega)
  obtain ⟨r, hr⟩ : ∃ r : Nat, j % (p.shifts.length : Int) = (r : Int) := ⟨_, (Int.toNat_of_nonneg h0).symm⟩
  have hrl : r < p.shifts.length := by omega
  have d := Int.mul_ediv_add_emod j (p.shifts.length : Int)
  have e1 : shAt (chP p fr by_ mi ba) j = chS p fr mi ba r := by
    unfold shAt
    rw [hl, hr, Int.toNat_natCast]
    show ((List.range p.shifts.length).map (chS p fr mi ba)).getD r 0 = _
    simp [hrl]
  have e2 : p.shifts.getD ((r + fr) % p.shifts.length) 0 = shAt p ((fr : Int) + j) := by
    unfold shAt
    congr 1
    have : ((fr : Int) + j) % (p.shifts.length : Int) = (((r + fr) % p.shifts.length : Nat) : Int) := by
      rw [Int.natCast_emod]
      refine emod_of_dvd ?_
      rw [show (fr : Int) + j - ((r + fr : Nat) : Int) = p.shifts.length * (j / p.shifts.length) by omega]
      exact Int.dvd_mul_right _ _
    rw [this, Int.toNat_natCast]
  have e3 : p.shifts.getD ((2 * p.shifts.length - 1 - r + fr) % p.shifts.length) 0 = shAt p ((fr : Int) - 1 - j) := by
    unfold shAt
    congr 1
    have : ((fr : Int) - 1 - j) % (p.shifts.length : Int) = (((2 * p.shifts.length - 1 - r + fr) % p.shifts.length : Nat) : Int) := by
      rw [Int.natCast_emod]
      refine emod_of_dvd ?_
      rw [show (fr : Int) - 1 - j - ((2 * p.shifts.length - 1 - r + fr : Nat) : Int) = p.shifts.length * (-(j / p.shifts.length) - 2) by rw [Int.mul_sub, Int.mul_neg]; omega]
      exact Int.dvd_mul_right _ _
    rw [this, Int.toNat_natCast]
  rw [e1]
  unfold chS
  rw [e2, e3]
  have key : ∀ x y : Int, (p.ros.length : Int) ∣ x - y → (p.ros.length : Int) ∣ x % p.ros.length - y := fun x y h => by
    have := Int.dvd_add (dvd_mod (p.ros.length : Int) x) h
    rwa [show x % (p.ros.length : Int) - x + (x - y) = x % (p.ros.length : Int) - y by omega] at this
  refine key _ _ ?_
  cases mi <;> cases ba <;> simp only [sg, if_true, if_false, Bool.false_eq_true]
  · rw [Int.sub_self]; exact Int.dvd_zero _
  · rw [show ∀ N s : Int, N - s - -s = N by omega]; exact Int.dvd_refl _
  · rw [show ∀ N s : Int, N - s - -s = N by omega]; exact Int.dvd_refl _
  · rw [show ∀ N s : Int, N - (N - s) - - -s = 0 by omega]; exact Int.dvd_zero _
theorem ch_rel {p : Prog} (hp : BenchFacts p) (fr by_ : Nat) (mi ba : Bool) : Rel p (chP p fr by_ mi ba) fr by_ mi ba where
  len := chF_length p by_ mi
  cnt := by show ((List.range p.shifts.length).map (chS p fr mi ba)).length = _; simp
  adv := rfl
  hh := fun i => by
    show p.throw * atR (liftL (chF p by_ mi) (chB p mi)) i = p.throw * atR (liftL p.ros p.rub) (sg mi i - by_)
    rw [ch_lift hp]
  sh := ch_sh hp fr by_ mi ba
end Go.Proofs.Ytnboppombhibbaa
