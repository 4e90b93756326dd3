/- Plain laws of fitted shifts: of a program's phases. -/
import Derived.Test.YtnboppombhibbaaP4Fit
import Derived.Test.YtnboppombhibbaaTakesLaw
namespace Go.Proofs.Ytnboppombhibbaa
open Go.RowKit
set_option linter.unusedVariables false
set_option linter.unusedSimpArgs false
theorem fitOk_iff (d : List Int) (k : Nat) (hk : k < d.length) : fitOk d k = true ↔ ∀ i, i + (k + 1) < d.length → d.getD (i + (k + 1)) 0 = d.getD i 0 := by
  unfold fitOk
  rw [beq_iff_eq]
  constructor
  · intro h i hi
    have h1 : (d.drop (k + 1))[i]? = (d.take (d.length - k - 1))[i]? := by rw [h]
    rw [List.getElem?_drop, List.getElem?_take, if_pos (by omega)] at h1
    simp only [List.getD_eq_getElem?_getD]
    rw [Nat.add_comm i (k + 1), h1]
  · intro h
    apply List.ext_getElem?
    intro i
    rw [List.getElem?_drop, List.getElem?_take]
    by_cases hi : i + (k + 1) < d.length
    · rw [if_pos (by omega)]
      have h1 := h i hi
      simp only [List.getD_eq_getElem?_getD] at h1
      rw [List.getElem?_eq_getElem hi, List.getElem?_eq_getElem (show i < d.length by omega)] at h1
      rw [Nat.add_comm (k + 1) i, List.getElem?_eq_getElem hi, List.getElem?_eq_getElem (show i < d.length by omega)]
      simpa using h1
    · rw [if_neg (by omega), List.getElem?_eq_none (by omega)]
theorem fitOk_mod (d : List Int) (k : Nat) (hk : k < d.length) (h : fitOk d k = true) : ∀ j, j < d.length → d.getD j 0 = d.getD (j % (k + 1)) 0 := by
  intro j
  induction j using Nat.strongRecOn with
  | ind j ih =>
    intro hj
    by_cases hs : j < k + 1
    · rw [Nat.mod_eq_of_lt hs]
    · have h1 := (fitOk_iff d k hk).1 h (j - (k + 1)) (by omega)
      rw [show j - (k + 1) + (k + 1) = j by omega] at h1
      have h2 := ih (j - (k + 1)) (by omega) (by omega)
      rw [h1, h2]
      congr 1
      rw [Nat.mod_eq_sub_mod (show j ≥ k + 1 by omega)]
theorem fitOk_of_mod (d : List Int) (k : Nat) (hk : k < d.length) (h : ∀ j, j < d.length → d.getD j 0 = d.getD (j % (k + 1)) 0) : fitOk d k = true := by
  rw [fitOk_iff d k hk]
  intro i hi
  rw [h _ hi, h i (by omega), Nat.add_mod_right]
theorem fitK_some (d : List Int) (M k : Nat) (h : fitK d M = some k) : k < M ∧ fitOk d k = true ∧ ∀ j, j < k → fitOk d j = false := by
  unfold fitK at h
  rw [List.find?_range_eq_some] at h
  obtain ⟨h1, h2, h3⟩ := h
  exact ⟨List.mem_range.1 h2, h1, fun j hj => by simpa using h3 j hj⟩
theorem fit_found (d : List Int) (cnt : Nat) (hm : 1 ≤ d.length) (h1 : 1 ≤ cnt) (h2 : cnt ≤ 12) (hper : ∀ i, i + cnt < d.length → d.getD (i + cnt) 0 = d.getD i 0) :
    ∃ k, fitK d (min 12 d.length) = some k ∧ k + 1 ≤ cnt ∧ k + 1 ≤ d.length ∧ fitOk d k = true ∧ ∀ j, j < k → fitOk d j = false := by
  have hok : fitOk d (min cnt d.length - 1) = true := by
    rw [fitOk_iff d _ (by omega)]
    intro i hi
    rw [show min cnt d.length - 1 + 1 = min cnt d.length by omega] at hi ⊢
    have hc : cnt < d.length := by omega
    rw [show min cnt d.length = cnt by omega] at hi ⊢
    exact hper i hi
  cases hf : fitK d (min 12 d.length) with
  | none =>
    unfold fitK at hf
    rw [List.find?_eq_none] at hf
    exact absurd hok (hf _ (List.mem_range.2 (by omega)))
  | some k =>
    obtain ⟨a1, a2, a3⟩ := fitK_some _ _ _ hf
    have hle : k ≤ min cnt d.length - 1 := by
      rcases Nat.lt_or_ge (min cnt d.length - 1) k with h | h
      · rw [a3 _ h] at hok
        cases hok
      · exact h
    exact ⟨k, rfl, by omega, by omega, a2, a3⟩
theorem phasesL_get (p : Prog) (a : Int) (n j : Nat) (h : j < n) : (phasesL p a n).getD j 0 = phaseI p (a + j) := by
  unfold phasesL
  simp [h]
theorem phase_range {p : Prog} (hp : BenchFacts p) (j : Int) : 0 ≤ phaseI p j ∧ phaseI p j < p.ros.length := by
  have := hp.ros0
  rw [phase_pt]
  exact ⟨Int.emod_nonneg _ (by omega), Int.emod_lt_of_pos _ (by omega)⟩
theorem phases_in {p : Prog} (hp : BenchFacts p) (a : Int) (n : Nat) : (phasesL p a n).any (fun x => !fitIn x p.ros.length) = false := by
  rw [List.any_eq_false]
  intro x hx
  unfold phasesL at hx
  obtain ⟨k, -, rfl⟩ := List.mem_map.1 hx
  have := phase_range hp (a + k)
  unfold fitIn
  simp [this.1, this.2]
theorem shAt_per {p : Prog} (h0 : 1 ≤ p.shifts.length) (j : Int) : shAt p (j + p.shifts.length) = shAt p j := by
  unfold shAt
  rw [Int.add_emod_right]
theorem phases_D {p : Prog} (hp : BenchFacts p) (a : Int) (n j : Nat) (h : j + 1 < n) : (fitD (phasesL p a n) p.ros.length).getD j 0 = shAt p (a + j) % p.ros.length := by
  have hl := phasesL_length p a n
  have hd := fitD_length (phasesL p a n) p.ros.length
  rw [List.getD_eq_getElem?_getD, List.getElem?_eq_getElem (by rw [hd, hl]; omega), Option.getD_some, fitD_get _ _ _ (by rw [hl]; omega), phasesL_get _ _ _ _ h, phasesL_get _ _ _ _ (by omega)]
  rw [show a + ((j + 1 : Nat) : Int) = (a + j) + 1 by omega, phase_succ hp.sh0, Int.emod_sub_emod]
  congr 1
  omega
/-- From phase to phase by a shift. -/
theorem step_eq {x y s n : Int} (hn : 0 < n) (hx : 0 ≤ x ∧ x < n) (hy : 0 ≤ y ∧ y < n) (hs : 0 ≤ s ∧ s < n) : (x + s).tmod n = y ↔ s = (y - x) % n := by
  rw [Int.tmod_eq_emod_of_nonneg (by omega)]
  constructor
  · intro h
    rw [← h, Int.emod_sub_emod, show x + s - x = s by omega, Int.emod_eq_of_lt hs.1 hs.2]
  · intro h
    rw [h, Int.add_emod_emod, show x + (y - x) = y by omega, Int.emod_eq_of_lt hy.1 hy.2]
/-- Fit at a program's phases: the shifts that are found. -/
theorem phases_fit {p : Prog} (hp : BenchFacts p) (a : Int) (n : Nat) (h2 : 2 ≤ n) (h200 : n ≤ 200) :
    fitE (phasesL p a n) p.ros.length = 0 ∧ 1 ≤ (fitL (phasesL p a n) p.ros.length).length ∧ (fitL (phasesL p a n) p.ros.length).length ≤ p.shifts.length ∧ (fitL (phasesL p a n) p.ros.length).length ≤ n - 1 ∧
    (∀ x ∈ fitL (phasesL p a n) p.ros.length, 0 ≤ x ∧ x < p.ros.length) ∧
    (∀ j, j + 1 < n → (phaseI p (a + j) + (fitL (phasesL p a n) p.ros.length).getD (j % (fitL (phasesL p a n) p.ros.length).length) 0).tmod p.ros.length = phaseI p (a + (j + 1 : Nat))) ∧
    (∀ m, 1 ≤ m → m < (fitL (phasesL p a n) p.ros.length).length → allB (fun j => decide ((phaseI p (a + j) + (fitL (phasesL p a n) p.ros.length).getD (j % m) 0).tmod p.ros.length = phaseI p (a + (j + 1 : Nat)))) (n - 1) = false) := by
  have hr := hp.ros0
  have hr1 := hp.ros1
  have hl := phasesL_length p a n
  have hd := fitD_length (phasesL p a n) p.ros.length
  rw [hl] at hd
  have harg : fitArg (phasesL p a n) p.ros.length = true := by
    unfold fitArg
    rw [phases_in hp, hl, within_iff.2 (by omega)]
    simp [h2]
  have hDj : ∀ j, j + 1 < n → (fitD (phasesL p a n) p.ros.length).getD j 0 = shAt p (a + j) % p.ros.length := fun j hj => phases_D hp a n j hj
  have hDy : ∀ j, j + 1 < n → (fitD (phasesL p a n) p.ros.length).getD j 0 = (phaseI p (a + (j + 1 : Nat)) - phaseI p (a + j)) % p.ros.length := fun j hj => by
    rw [List.getD_eq_getElem?_getD, List.getElem?_eq_getElem (by rw [hd]; omega), Option.getD_some, fitD_get _ _ _ (by rw [hl]; omega), phasesL_get _ _ _ _ hj, phasesL_get _ _ _ _ (by omega)]
  have hfe : fitE (phasesL p a n) p.ros.length = (if (fitK (fitD (phasesL p a n) p.ros.length) (min 12 (n - 1))).isSome then 0 else 4) ∧ fitL (phasesL p a n) p.ros.length = (match fitK (fitD (phasesL p a n) p.ros.length) (min 12 (n - 1)) with | some k => (fitD (phasesL p a n) p.ros.length).take (k + 1) | none => []) := by
    unfold fitE fitL
    rw [hl, if_neg (show ¬ 200 < n by omega), if_neg (show ¬ 200 < n by omega), if_pos harg, if_pos harg]
    exact ⟨rfl, rfl⟩
  have hrng : ∀ j, j + 1 < n → 0 ≤ (fitD (phasesL p a n) p.ros.length).getD j 0 ∧ (fitD (phasesL p a n) p.ros.length).getD j 0 < p.ros.length := fun j hj => by
    rw [hDj j hj]
    exact ⟨Int.emod_nonneg _ (by omega), Int.emod_lt_of_pos _ (by omega)⟩
  obtain ⟨k, hk1, hk2, hk3, hk4, hk5⟩ := fit_found (fitD (phasesL p a n) p.ros.length) p.shifts.length (by omega) hp.sh0 hp.sh1 (fun i hi => by
    rw [hd] at hi
    rw [hDj _ (by omega), hDj _ (by omega), show a + ((i + p.shifts.length : Nat) : Int) = (a + i) + p.shifts.length by omega, shAt_per hp.sh0])
  rw [hd] at hk1 hk3
  rw [hk1] at hfe
  rw [hfe.1, hfe.2]
  clear hfe
  generalize fitD (phasesL p a n) p.ros.length = D at *
  have hlen : (D.take (k + 1)).length = k + 1 := by rw [List.length_take]; omega
  have hget : ∀ i, i < k + 1 → (D.take (k + 1)).getD i 0 = D.getD i 0 := fun i hi => by
    simp only [List.getD_eq_getElem?_getD, List.getElem?_take, if_pos hi]
  simp only [hlen]
  refine ⟨rfl, by omega, hk2, hk3, ?_, ?_, ?_⟩
  · intro x hx
    obtain ⟨i, hi, rfl⟩ := List.mem_iff_getElem.1 hx
    rw [hlen] at hi
    have h1 := hget i hi
    rw [List.getD_eq_getElem?_getD, List.getElem?_eq_getElem (by omega), Option.getD_some] at h1
    rw [h1]
    exact hrng i (by omega)
  · intro j hj
    have hm : j % (k + 1) < k + 1 := Nat.mod_lt _ (by omega)
    rw [hget _ hm]
    have h1 := fitOk_mod D k (by omega) hk4 j (by omega)
    refine (step_eq (by omega) (phase_range hp _) (phase_range hp _) (hrng _ (by omega))).2 ?_
    rw [← h1, hDy j hj]
  · intro m hm1 hm2
    rw [← Bool.not_eq_true, allB_iff]
    intro hall
    have h0 := hk5 (m - 1) (by omega)
    rw [fitOk_of_mod D (m - 1) (by omega) (fun j hj => by
      have h1 := of_decide_eq_true (hall j (by omega))
      have hm : j % m < m := Nat.mod_lt _ (by omega)
      rw [hget _ (by omega)] at h1
      have h2 := (step_eq (by omega) (phase_range hp _) (phase_range hp _) (hrng _ (by omega))).1 h1
      rw [show m - 1 + 1 = m by omega, h2, hDy j (by omega)])] at h0
    cases h0
end Go.Proofs.Ytnboppombhibbaa
