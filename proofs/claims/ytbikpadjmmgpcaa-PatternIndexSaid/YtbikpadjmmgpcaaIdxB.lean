/- Index plates, plain: what is found is the best of all holes, and the first of the best. -/
import Derived.Test.YtbikpadjmmgpcaaIdxP
namespace Go.Proofs.Ytbikpadjmmgpcaa
set_option linter.unusedVariables false
structure Best (num den : Nat) (ns : List Nat) (m : Nat) (t : IdxS) : Prop where
  plate : t.1 < m
  hole : t.2.1 ≤ ns.getD t.1 0
  far : t.2.2 = farR num den (ns.getD t.1 0) t.2.1
  best : ∀ j h, j < m → h ≤ ns.getD j 0 → t.2.2 ≤ farR num den (ns.getD j 0) h ∧ (farR num den (ns.getD j 0) h ≤ t.2.2 → t.1 < j ∨ (t.1 = j ∧ t.2.1 ≤ h))
theorem Best.next {num den : Nat} {ns : List Nat} {m n : Nat} {s t : IdxS} (hb : Best num den ns m s) (hr : Ran num den m n s 0 (n + 1) t) (hn : ns.getD m 0 = n) : Best num den ns (m + 1) t := by
  obtain ⟨h1, h2, h3, h4⟩ := hb
  rcases hr with ⟨rfl, r1⟩ | ⟨k, k1, k2, rfl, r1, r2, r3⟩
  · refine ⟨by omega, h2, h3, fun j h hj hh => ?_⟩
    by_cases e : j = m
    · subst e
      rw [hn] at hh ⊢
      exact ⟨r1 h (Nat.zero_le _) (by omega), fun _ => .inl h1⟩
    · exact h4 j h (by omega) hh
  · refine ⟨Nat.lt_succ_self _, by show k ≤ ns.getD m 0; omega, by show farR num den n k = farR num den (ns.getD m 0) k; rw [hn], fun j h hj hh => ?_⟩
    by_cases e : j = m
    · subst e
      rw [hn] at hh ⊢
      refine ⟨r2 h (Nat.zero_le _) (by omega), fun hc => .inr ⟨rfl, ?_⟩⟩
      rcases Nat.lt_or_ge h k with hlt | hge
      · exact absurd hc (Rat.not_le.2 (r3 h (Nat.zero_le _) hlt))
      · exact hge
    · obtain ⟨a1, a2⟩ := h4 j h (by omega) hh
      have hlt : farR num den n k < farR num den (ns.getD j 0) h := rlt_lt r1 a1
      exact ⟨Rat.le_of_lt hlt, fun hc => absurd hc (Rat.not_le.2 hlt)⟩
theorem Best.first {num den : Nat} {ns : List Nat} {n : Nat} {t : IdxS} (hd : 0 < den) (hn0 : 0 < n) (hn : ns.getD 0 0 = n) (hr : Ran num den 0 n (0, 0, (num : Rat) / (den : Rat)) 0 (n + 1) t) : Best num den ns 1 t := by
  rw [← far_zero hd hn0] at hr
  rcases hr with ⟨rfl, r1⟩ | ⟨k, k1, k2, rfl, r1, r2, r3⟩
  · refine ⟨Nat.lt_succ_self _, Nat.zero_le _, by show farR num den n 0 = farR num den (ns.getD 0 0) 0; rw [hn], fun j h hj hh => ?_⟩
    obtain rfl : j = 0 := by omega
    rw [hn] at hh ⊢
    exact ⟨r1 h (Nat.zero_le _) (by omega), fun _ => .inr ⟨rfl, Nat.zero_le _⟩⟩
  · refine ⟨Nat.lt_succ_self _, by show k ≤ ns.getD 0 0; omega, by show farR num den n k = farR num den (ns.getD 0 0) k; rw [hn], fun j h hj hh => ?_⟩
    obtain rfl : j = 0 := by omega
    rw [hn] at hh ⊢
    refine ⟨r2 h (Nat.zero_le _) (by omega), fun hc => .inr ⟨rfl, ?_⟩⟩
    rcases Nat.lt_or_ge h k with hlt | hge
    · exact absurd hc (Rat.not_le.2 (r3 h (Nat.zero_le _) hlt))
    · exact hge
theorem idxL_best {num den : Nat} {ns : List Nat} (hd : 0 < den) (hpos : ∀ j, j < ns.length → 0 < ns.getD j 0) : ∀ m, m + 1 ≤ ns.length → Best num den ns (m + 1) (idxL num den ns (m + 1))
  | 0, h => Best.first hd (hpos 0 h) rfl (Ran.holes num den 0 (ns.getD 0 0) (idxL num den ns 0) (ns.getD 0 0 + 1))
  | m + 1, h => (idxL_best hd hpos m (by omega)).next (Ran.holes num den (m + 1) (ns.getD (m + 1) 0) (idxL num den ns (m + 1)) (ns.getD (m + 1) 0 + 1)) rfl
end Go.Proofs.Ytbikpadjmmgpcaa
