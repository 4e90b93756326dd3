/- Plain laws of two programs together, for the statement PatternMoire. -/
import Derived.Test.YtnboppombhibbaaMoireLaw
namespace Go.Proofs.Ytnboppombhibbaa
set_option linter.unusedVariables false
theorem addI_nodup {acc : List Int} (h : acc.Nodup) (x : Int) : (addI acc x).Nodup := by
  unfold addI
  split
  · exact h
  · rename_i hn
    rw [List.nodup_append]
    refine ⟨h, by simp, ?_⟩
    intro a ha b hb e
    have hb' : b = x := by simpa using hb
    subst hb' e
    exact hn (List.any_eq_true.2 ⟨a, ha, by simp⟩)
theorem addI_mem {acc : List Int} {x y : Int} (h : y ∈ addI acc x) : y ∈ acc ∨ y = x := by
  unfold addI at h
  split at h
  · exact .inl h
  · simpa using h
theorem fold_nodup (xs : List Int) : ∀ acc : List Int, acc.Nodup → (xs.foldl addI acc).Nodup := by
  induction xs with
  | nil => exact fun acc h => h
  | cons x xs ih => exact fun acc h => ih _ (addI_nodup h x)
theorem fold_mem (xs : List Int) : ∀ (acc : List Int) (y : Int), y ∈ xs.foldl addI acc → y ∈ acc ∨ y ∈ xs := by
  induction xs with
  | nil => exact fun acc y h => .inl h
  | cons x xs ih =>
    intro acc y h
    rcases ih _ _ h with h | h
    · rcases addI_mem h with h | h
      · exact .inl h
      · exact .inr (by simp [h])
    · exact .inr (by simp [h])
theorem nodup_bound : ∀ (g : Nat) (l : List Int), l.Nodup → (∀ x ∈ l, 0 ≤ x ∧ x < g) → l.length ≤ g := by
  intro g
  induction g with
  | zero =>
    intro l _ h
    cases l with
    | nil => simp
    | cons x l => have := h x (by simp); omega
  | succ g ih =>
    intro l hn h
    by_cases hm : (g : Int) ∈ l
    · have h1 := ih (l.erase (g : Int)) (hn.erase _) (fun x hx => by
        have h2 := (hn.mem_erase_iff).1 hx
        have := h x h2.2
        have h3 : x ≠ g := h2.1
        omega)
      rw [List.length_erase_of_mem hm] at h1
      omega
    · have := ih l hn (fun x hx => by
        have := h x hx
        have h3 : x ≠ (g : Int) := fun e => hm (e ▸ hx)
        omega)
      omega
theorem addI_map (f : Int → Int) (acc : List Int) (x : Int) (hf : ∀ y ∈ acc, f y = f x → y = x) : addI (acc.map f) (f x) = (addI acc x).map f := by
  unfold addI
  have : (acc.map f).any (fun y => y == f x) = acc.any (fun y => y == x) := by
    rw [Bool.eq_iff_iff, List.any_eq_true, List.any_eq_true]
    constructor
    · rintro ⟨y, hy, he⟩
      obtain ⟨z, hz, rfl⟩ := List.mem_map.1 hy
      exact ⟨z, hz, by rw [beq_iff_eq] at he ⊢; exact hf z hz he⟩
    · rintro ⟨y, hy, he⟩
      rw [beq_iff_eq] at he
      subst he
      exact ⟨f y, List.mem_map.2 ⟨y, hy, rfl⟩, by simp⟩
  rw [this]
  split <;> simp
theorem fold_map (f : Int → Int) (S : Int → Prop) (hf : ∀ x y, S x → S y → f x = f y → x = y) (xs : List Int) : ∀ acc : List Int, (∀ x ∈ acc, S x) → (∀ x ∈ xs, S x) → (xs.map f).foldl addI (acc.map f) = (xs.foldl addI acc).map f := by
  induction xs with
  | nil => intro acc _ _; rfl
  | cons x xs ih =>
    intro acc ha hx
    simp only [List.map_cons, List.foldl_cons]
    rw [addI_map f acc x (fun y hy he => hf y x (ha y hy) (hx x (by simp)) he)]
    refine ih _ (fun y hy => ?_) (fun y hy => hx y (by simp [hy]))
    rcases addI_mem hy with h | h
    · exact ha y h
    · exact h ▸ hx x (by simp)
theorem together_gcd (p q : Prog) : togetherN p q * Nat.gcd (closeN p) (closeN q) = closeN p * closeN q := by
  unfold togetherN
  rw [Nat.mul_right_comm, Nat.div_mul_cancel (Nat.gcd_dvd_left _ _)]
theorem together_comm {p q : Prog} (hp : BenchFacts p) (hq : BenchFacts q) : togetherN q p = togetherN p q := by
  have h1 := together_gcd p q
  have h2 := together_gcd q p
  have h3 := (together_bound hp hq).2.2.1
  rw [Nat.gcd_comm, Nat.mul_comm (closeN q)] at h2
  exact Nat.eq_of_mul_eq_mul_right h3 (h2.trans h1.symm)
theorem together_self {p : Prog} (hp : BenchFacts p) : togetherN p p = closeN p := by
  have h1 := together_gcd p p
  rw [Nat.gcd_self] at h1
  have h3 := (close_le hp).2.2
  exact Nat.eq_of_mul_eq_mul_right h3.1 h1
theorem common_comm (p q : Prog) : commonG q p = commonG p q := Nat.gcd_comm _ _
theorem look_comm (p q : Prog) : lookN q p = lookN p q := by
  unfold lookN; rw [common_comm, Nat.mul_comm q.shifts.length]
theorem neg_inj (g : Nat) (hg : 0 < g) (x y : Int) (hx : 0 ≤ x ∧ x < g) (hy : 0 ≤ y ∧ y < g) (h : (-x) % (g : Int) = (-y) % (g : Int)) : x = y := by
  have h1 := Int.emod_emod_of_dvd
  have h2 : ((-x) - (-y)) % (g : Int) = 0 := Int.emod_eq_emod_iff_emod_sub_eq_zero.1 h
  obtain ⟨k, hk⟩ := Int.dvd_of_emod_eq_zero h2
  have hb : -(g : Int) < y - x ∧ y - x < g := by omega
  have hk2 : y - x = g * k := by omega
  have hk0 : k = 0 := by
    rcases Int.lt_trichotomy k 0 with h | h | h
    · have := Int.mul_le_mul_of_nonneg_left (show k ≤ -1 by omega) (show (0 : Int) ≤ g by omega)
      omega
    · exact h
    · have := Int.mul_le_mul_of_nonneg_left (show (1 : Int) ≤ k by omega) (show (0 : Int) ≤ g by omega)
      omega
  rw [hk0, Int.mul_zero] at hk2
  omega
theorem diff_neg (p q : Prog) (j : Nat) : diffI q p j = (-(diffI p q j)) % (commonG p q : Int) := by
  unfold diffI
  rw [common_comm]
  rw [Int.emod_eq_emod_iff_emod_sub_eq_zero]
  have h := Int.emod_add_mul_ediv (phaseI p j - phaseI q j) (commonG p q : Int)
  generalize (phaseI p j - phaseI q j) % (commonG p q : Int) = r at h
  generalize (phaseI p j - phaseI q j) / (commonG p q : Int) = k at h
  have e : phaseI q j - phaseI p j - -r = (commonG p q : Int) * (-k) := by rw [Int.mul_neg]; omega
  rw [e]
  exact Int.mul_emod_right _ _
theorem beat_comm {p q : Prog} (hp : BenchFacts p) (hq : BenchFacts q) : beatN q p = beatN p q := by
  have hg := common_bound hp hq
  unfold beatN seenL
  rw [look_comm]
  have e : (List.range (lookN p q)).map (diffI q p) = ((List.range (lookN p q)).map (diffI p q)).map (fun x => (-x) % (commonG p q : Int)) := by
    rw [List.map_map]
    apply List.map_congr_left
    intro j _
    exact diff_neg p q j
  rw [e]
  have h := fold_map (fun x => (-x) % (commonG p q : Int)) (fun x => 0 ≤ x ∧ x < (commonG p q : Int)) (fun x y hx hy he => neg_inj _ (by omega) x y hx hy he) ((List.range (lookN p q)).map (diffI p q)) [] (by simp) (fun x hx => by
    obtain ⟨j, _, rfl⟩ := List.mem_map.1 hx
    exact diff_bound hp hq j)
  rw [List.map_nil] at h
  rw [h, List.length_map]
theorem look_pos {p q : Prog} (hp : BenchFacts p) (hq : BenchFacts q) : 1 ≤ lookN p q :=
  Nat.mul_pos (Nat.mul_pos hp.sh0 hq.sh0) (common_bound hp hq).1
theorem fold_grow (xs : List Int) : ∀ acc : List Int, acc.length ≤ (xs.foldl addI acc).length := by
  induction xs with
  | nil => exact fun acc => Nat.le_refl _
  | cons x xs ih =>
    intro acc
    refine Nat.le_trans ?_ (ih _)
    unfold addI
    split
    · exact Nat.le_refl _
    · simp
theorem beat_pos {p q : Prog} (hp : BenchFacts p) (hq : BenchFacts q) : 1 ≤ beatN p q := by
  unfold beatN seenL
  obtain ⟨n, hn⟩ : ∃ n, lookN p q = n + 1 := ⟨lookN p q - 1, by have := look_pos hp hq; omega⟩
  rw [hn, List.range_succ_eq_map]
  simp only [List.map_cons, List.foldl_cons]
  refine Nat.le_trans ?_ (fold_grow _ _)
  simp [addI]
theorem beat_le {p q : Prog} (hp : BenchFacts p) (hq : BenchFacts q) : beatN p q ≤ commonG p q := by
  unfold beatN seenL
  refine nodup_bound _ _ (fold_nodup _ _ (by simp)) fun x hx => ?_
  rcases fold_mem _ _ _ hx with h | h
  · simp at h
  · obtain ⟨j, _, rfl⟩ := List.mem_map.1 h
    exact diff_bound hp hq j
theorem beat_self {p : Prog} (hp : BenchFacts p) : beatN p p = 1 := by
  have h1 := beat_pos hp hp
  have h2 : beatN p p ≤ 1 := by
    unfold beatN seenL
    refine nodup_bound 1 _ (fold_nodup _ _ (by simp)) fun x hx => ?_
    rcases fold_mem _ _ _ hx with h | h
    · simp at h
    · obtain ⟨j, _, rfl⟩ := List.mem_map.1 h
      have : diffI p p j = 0 := by unfold diffI; simp
      omega
  omega
end Go.Proofs.Ytnboppombhibbaa
