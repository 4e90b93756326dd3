/- The simplest program: shifts that fit are found, what is found fits, and nothing that is simpler fits. Plain laws. -/
import Derived.Test.YtphdalgaemefoaaGreatRdFitsW
namespace Go.Proofs.YtphdalgaemefoaaGreat
set_option maxRecDepth 100000
set_option linter.unusedVariables false
def phSeq (s : List Int) (first : Int) (j : Nat) : Int := first + ((j / s.length : Nat) : Int) * s.sum + (s.take (j % s.length)).sum
def SeqFits (L : List (List Int)) (steps : Nat) (first : Int) (s : List Int) : Prop := ∀ j, j < L.length → memI (L.getD j []) (phSeq s first j % (steps : Int)) = true
theorem allowB_iff {L : List (List Int)} {steps n : Nat} {all : Int} (hn : 0 < n) : ∀ (k r : Nat) (ph : Int), L.length ≤ r + k → (allowB L steps n r ph all = true ↔ ∀ i : Nat, r + i * n < L.length → memI (L.getD (r + i * n) []) ((ph + (i : Int) * all) % (steps : Int)) = true)
 | 0, r, ph, h => by
  rw [allowB_step hn, if_neg (by omega)]
  exact ⟨fun _ i hi => by have := Nat.le_add_right r (i * n); omega, fun _ => rfl⟩
 | k + 1, r, ph, h => by
  rw [allowB_step hn]
  by_cases hr : r < L.length
  ·rw [if_pos hr, Bool.and_eq_true, allowB_iff hn k (r + n) (ph + all) (by omega)]
   constructor
   ·rintro ⟨h1, h2⟩ i hi
    cases i with
    | zero => simpa using h1
    | succ i =>
     have := h2 i (by rw [Nat.add_mul] at hi; omega)
     rw [show r + n + i * n = r + (i + 1) * n by rw [Nat.add_mul]; omega, show ph + all + (i : Int) * all = ph + ((i + 1 : Nat) : Int) * all by push_cast; rw [Int.add_mul]; omega] at this
     exact this
   ·intro h2
    refine ⟨by have := h2 0 (by omega); simpa using this, fun i hi => ?_⟩
    have := h2 (i + 1) (by rw [Nat.add_mul]; omega)
    rw [show r + n + i * n = r + (i + 1) * n by rw [Nat.add_mul]; omega, show ph + all + (i : Int) * all = ph + ((i + 1 : Nat) : Int) * all by push_cast; rw [Int.add_mul]; omega]
    exact this
  ·rw [if_neg hr]
   exact ⟨fun _ i hi => by have := Nat.le_add_right r (i * n); omega, fun _ => rfl⟩
theorem allowB_iff' {L : List (List Int)} {steps n r : Nat} {all ph : Int} (hn : 0 < n) : allowB L steps n r ph all = true ↔ ∀ i : Nat, r + i * n < L.length → memI (L.getD (r + i * n) []) ((ph + (i : Int) * all) % (steps : Int)) = true := allowB_iff hn L.length r ph (by omega)
theorem allowB_all {L : List (List Int)} {steps n r : Nat} {all all' ph : Int} (hn : 0 < n) (h : all % (steps : Int) = all' % (steps : Int)) : allowB L steps n r ph all = allowB L steps n r ph all' := by
 rw [Bool.eq_iff_iff, allowB_iff' hn, allowB_iff' hn]
 have e : ∀ i : Nat, (ph + (i : Int) * all) % (steps : Int) = (ph + (i : Int) * all') % (steps : Int) := fun i => by
  rw [Int.add_emod, Int.mul_emod, h, ← Int.mul_emod, ← Int.add_emod]
 simp only [e]
theorem shiftAt_spec {L : List (List Int)} {steps n r : Nat} {ph all : Int} {s : Nat} (h : shiftAt L steps n r ph all = some s) : s < steps ∧ allowB L steps n r (ph + (s : Int)) all = true := by
 unfold shiftAt at h
 exact ⟨List.mem_range.1 (List.mem_of_find?_eq_some h), List.find?_some (p := fun s : Nat => allowB L steps n r (ph + (s : Int)) all) h⟩
theorem shiftAt_ex {L : List (List Int)} {steps n r : Nat} {P all : Int} (h0 : 0 < steps) (h : allowB L steps n r P all = true) (ph : Int) : ∃ s, shiftAt L steps n r ph all = some s := by
 unfold shiftAt
 cases e : List.find? (fun s : Nat => allowB L steps n r (ph + (s : Int)) all) (List.range steps) with
 | some s => exact ⟨s, rfl⟩
 | none =>
  rw [List.find?_eq_none] at e
  have hz : (0 : Int) < (steps : Int) := by omega
  have g1 := Int.emod_nonneg (P - ph) (by omega : (steps : Int) ≠ 0)
  have g2 := Int.emod_lt_of_pos (P - ph) hz
  obtain ⟨m, hm⟩ : ∃ m : Nat, (P - ph) % (steps : Int) = (m : Int) := ⟨((P - ph) % (steps : Int)).toNat, by omega⟩
  have h2 := e m (List.mem_range.2 (by omega))
  rw [allowB_mod (ph' := P) (by rw [← hm, Int.add_emod_emod]; congr 1; omega)] at h2
  exact absurd h h2
theorem shiftsGo_some {L : List (List Int)} {steps n : Nat} {all : Int} (h0 : 0 < steps) : ∀ (k r : Nat) (ph : Int) (out : List Int), (∀ i, r ≤ i → i < r + k → ∃ P, allowB L steps n i P all = true) → ∃ l q, shiftsGo L steps n all k r ph out = some (l, q)
 | 0, r, ph, out, _ => ⟨_, _, rfl⟩
 | k + 1, r, ph, out, h => by
  obtain ⟨P, hP⟩ := h r (Nat.le_refl _) (by omega)
  obtain ⟨s, hs⟩ := shiftAt_ex h0 hP ph
  unfold shiftsGo
  rw [hs]
  exact shiftsGo_some h0 k (r + 1) _ _ fun i h1 h2 => h i (by omega) (by omega)
theorem shiftsGo_spec {L : List (List Int)} {steps n : Nat} {all : Int} : ∀ (k r : Nat) (ph : Int) (out l : List Int) (q : Int), shiftsGo L steps n all k r ph out = some (l, q) →
  ∃ m : List Int, l = out ++ m ∧ m.length = k ∧ q = ph + m.sum ∧ (∀ x ∈ m, 0 ≤ x ∧ x < (steps : Int)) ∧ ∀ i, i < k → allowB L steps n (r + i) (ph + (m.take (i + 1)).sum) all = true
 | 0, r, ph, out, l, q, h => by
  injection h with h; injection h with h1 h2
  exact ⟨[], by rw [← h1]; simp, rfl, by simp [← h2], fun x hx => (by cases hx), fun i hi => absurd hi (Nat.not_lt_zero i)⟩
 | k + 1, r, ph, out, l, q, h => by
  unfold shiftsGo at h
  split at h
  ·cases h
  ·rename_i s hs
   obtain ⟨h1, h2⟩ := shiftAt_spec hs
   obtain ⟨m, e1, e2, e3, e4, e5⟩ := shiftsGo_spec k (r + 1) _ _ l q h
   refine ⟨(s : Int) :: m, by rw [e1]; simp, by simp [e2], by rw [e3, List.sum_cons]; omega, ?_, fun i hi => ?_⟩
   ·intro x hx
    rcases List.mem_cons.1 hx with rfl | hx
    ·omega
    ·exact e4 x hx
   ·cases i with
    | zero => simpa using h2
    | succ i =>
     have := e5 i (by omega)
     rw [show r + 1 + i = r + (i + 1) by omega, Int.add_assoc] at this
     simpa [List.sum_cons] using this
theorem listed_spec {L : List (List Int)} {steps n : Nat} {first all : Int} {l : List Int} (h0 : 0 < steps) (hn : 0 < n) (h : listedL L steps n first all = some l) :
  l.length = n ∧ (∀ x ∈ l, 0 ≤ x ∧ x < (steps : Int)) ∧ l.sum % (steps : Int) = all % (steps : Int) ∧ ∀ r, r < n → allowB L steps n r (first + (l.take r).sum) all = true := by
 have hlen := listedL_length hn h
 unfold listedL at h
 split at h
 ·rename_i h00
  split at h
  ·cases h
  ·rename_i out ph hs
   injection h with h
   obtain ⟨m, e1, e2, e3, e4, e5⟩ := shiftsGo_spec _ _ _ _ _ _ hs
   rw [List.nil_append] at e1
   subst e1 h
   have hz : (0 : Int) < (steps : Int) := by omega
   refine ⟨hlen, ?_, ?_, fun r hr => ?_⟩
   ·intro x hx
    rcases List.mem_append.1 hx with hx | hx
    ·exact e4 x hx
    ·rw [List.mem_singleton] at hx
     subst hx
     exact ⟨Int.emod_nonneg _ (by omega), Int.emod_lt_of_pos _ hz⟩
   ·rw [List.sum_append, List.sum_singleton, Int.add_emod_emod, e3]
    congr 1; omega
   ·rw [List.take_append_of_le_length (by omega)]
    cases r with
    | zero => simpa using h00
    | succ r =>
     have := e5 r (by omega)
     rwa [Nat.add_comm 1 r] at this
 ·cases h
theorem fits_of_allow {L : List (List Int)} {steps n : Nat} {first : Int} {l : List Int} (hn : 0 < n) (hl : l.length = n) (h : ∀ r, r < n → allowB L steps n r (first + (l.take r).sum) l.sum = true) : SeqFits L steps first l := fun j hj => by
 have := (allowB_iff' hn).1 (h (j % n) (Nat.mod_lt _ hn)) (j / n) (by rw [Nat.mul_comm, Nat.mod_add_div]; exact hj)
 rw [show j % n + j / n * n = j by rw [Nat.mul_comm]; exact Nat.mod_add_div j n] at this
 unfold phSeq
 rw [hl]
 rw [show first + ((j / n : Nat) : Int) * l.sum + (l.take (j % n)).sum = first + (l.take (j % n)).sum + ((j / n : Nat) : Int) * l.sum by omega]
 exact this
theorem listed_fits {L : List (List Int)} {steps n : Nat} {first all : Int} {l : List Int} (h0 : 0 < steps) (hn : 0 < n) (h : listedL L steps n first all = some l) : SeqFits L steps first l := by
 obtain ⟨h1, h2, h3, h4⟩ := listed_spec h0 hn h
 exact fits_of_allow hn h1 fun r hr => by rw [allowB_all hn h3]; exact h4 r hr
theorem allow_of_fits {L : List (List Int)} {steps : Nat} {first : Int} {s : List Int} (hn : 0 < s.length) (h : SeqFits L steps first s) (r : Nat) (hr : r < s.length) : allowB L steps s.length r (first + (s.take r).sum) s.sum = true := by
 rw [allowB_iff' hn]
 intro i hi
 have := h (r + i * s.length) hi
 unfold phSeq at this
 rw [show (r + i * s.length) / s.length = i by rw [Nat.add_mul_div_right _ _ hn, Nat.div_eq_of_lt hr]; omega, show (r + i * s.length) % s.length = r by rw [Nat.add_mul_mod_self_right, Nat.mod_eq_of_lt hr]] at this
 rw [show first + (s.take r).sum + (i : Int) * s.sum = first + (i : Int) * s.sum + (s.take r).sum by omega]
 exact this
theorem listed_some {L : List (List Int)} {steps : Nat} {first all : Int} {s : List Int} (h0 : 0 < steps) (hn : 0 < s.length) (h : SeqFits L steps first s) (ha : s.sum % (steps : Int) = all % (steps : Int)) : ∃ l, listedL L steps s.length first all = some l := by
 have ok := fun r hr => allow_of_fits hn h r hr
 unfold listedL
 have h1 := ok 0 hn
 rw [allowB_all hn ha] at h1
 rw [if_pos (by simpa using h1)]
 obtain ⟨l, q, hs⟩ := shiftsGo_some (L := L) (steps := steps) (n := s.length) (all := all) h0 (s.length - 1) 1 first [] fun i a b => ⟨_, (allowB_all hn ha).symm.trans (ok i (by omega))⟩
 rw [hs]
 exact ⟨_, rfl⟩
theorem bestTo_mem {L : List (List Int)} {steps n : Nat} {first : Int} : ∀ (k : Nat) (l : List Int), bestTo L steps n first k = some l → ∃ all : Nat, all < k ∧ listedL L steps n first (all : Int) = some l
 | 0, l, h => by cases h
 | k + 1, l, h => by
  rw [bestTo_succ] at h
  unfold betterL at h
  split at h
  ·obtain ⟨a, h1, h2⟩ := bestTo_mem k l h; exact ⟨a, by omega, h2⟩
  ·rename_i x hx _
   injection h with h
   rw [← h]; exact ⟨k, by omega, hx⟩
  ·rename_i x b hx hb
   split at h
   ·injection h with h
    rw [← h]; exact ⟨k, by omega, hx⟩
   ·injection h with h
    rw [← h]; obtain ⟨a, h1, h2⟩ := bestTo_mem k b hb; exact ⟨a, by omega, h2⟩
theorem bestTo_none {L : List (List Int)} {steps n : Nat} {first : Int} : ∀ (k : Nat), bestTo L steps n first k = none → ∀ all : Nat, all < k → listedL L steps n first (all : Int) = none
 | 0, _, all, h => absurd h (Nat.not_lt_zero _)
 | k + 1, h, all, ha => by
  rw [bestTo_succ] at h
  unfold betterL at h
  split at h
  ·rename_i hx
   by_cases e : all = k
   ·rw [e]; exact hx
   ·exact bestTo_none k h all (by omega)
  ·cases h
  ·split at h <;> cases h
theorem best_some {L : List (List Int)} {steps : Nat} {first : Int} {s : List Int} (h0 : 0 < steps) (hn : 0 < s.length) (h : SeqFits L steps first s) : ∃ l, bestL L steps s.length first = some l := by
 cases e : bestL L steps s.length first with
 | some l => exact ⟨l, rfl⟩
 | none =>
  rw [bestL_eq] at e
  have hz : (0 : Int) < (steps : Int) := by omega
  have g1 := Int.emod_nonneg s.sum (by omega : (steps : Int) ≠ 0)
  have g2 := Int.emod_lt_of_pos s.sum hz
  obtain ⟨m, hm⟩ : ∃ m : Nat, s.sum % (steps : Int) = (m : Int) := ⟨(s.sum % (steps : Int)).toNat, by omega⟩
  have := bestTo_none steps e m (by omega)
  obtain ⟨l, hl⟩ := listed_some (all := (m : Int)) h0 hn h (by rw [← hm, Int.emod_emod])
  rw [hl] at this; cases this
theorem best_spec {L : List (List Int)} {steps n : Nat} {first : Int} {l : List Int} (h0 : 0 < steps) (hn : 0 < n) (h : bestL L steps n first = some l) : l.length = n ∧ (∀ x ∈ l, 0 ≤ x ∧ x < (steps : Int)) ∧ SeqFits L steps first l := by
 obtain ⟨a, h1, h2⟩ := bestTo_mem steps l h
 obtain ⟨e1, e2, -⟩ := listed_spec h0 hn h2
 exact ⟨e1, e2, listed_fits h0 hn h2⟩
theorem firstSome_some {α : Type} {f : Nat → Option α} {x : α} : ∀ {n : Nat} (a : Nat), firstSome f ((List.range n).map (a + ·)) = some x → ∃ k, k < n ∧ f (a + k) = some x ∧ ∀ j, j < k → f (a + j) = none
 | 0, a, h => by cases h
 | n + 1, a, h => by
  rw [List.range_succ_eq_map, List.map_cons] at h
  unfold firstSome at h
  split at h
  ·rename_i y hy
   injection h with h
   rw [← h]
   exact ⟨0, by omega, hy, fun j hj => absurd hj (Nat.not_lt_zero _)⟩
  ·rename_i hy
   rw [List.map_map, show ((a + ·) ∘ Nat.succ : Nat → Nat) = (a + 1 + ·) from funext fun j => by simp; omega] at h
   obtain ⟨k, h1, h2, h3⟩ := firstSome_some (a + 1) h
   refine ⟨k + 1, by omega, by rw [show a + (k + 1) = a + 1 + k by omega]; exact h2, fun j hj => ?_⟩
   cases j with
   | zero => exact hy
   | succ j => have := h3 j (by omega); rwa [show a + 1 + j = a + (j + 1) by omega] at this
theorem firstSome_range' {α : Type} {f : Nat → Option α} {n : Nat} {x : α} (h : firstSome f (List.range n) = some x) : ∃ k, k < n ∧ f k = some x ∧ ∀ j, j < k → f j = none := by
 have := firstSome_some (f := f) (n := n) (x := x) 0 (by simpa using h)
 simpa using this
theorem firstSome_none' {α : Type} {f : Nat → Option α} : ∀ {l : List Nat}, firstSome f l = none → ∀ k ∈ l, f k = none
 | [], _, k, hk => by cases hk
 | a :: l, h, k, hk => by
  unfold firstSome at h
  split at h
  ·cases h
  ·rename_i hy
   rcases List.mem_cons.1 hk with rfl | hk
   ·exact hy
   ·exact firstSome_none' h k hk
theorem simple_spec {L : List (List Int)} {steps first : Nat} {l : List Int} (h : simpleL L steps = some (first, l)) : ∃ n, 1 ≤ n ∧ n ≤ 12 ∧ first < steps ∧ bestL L steps n (first : Int) = some l ∧ (∀ k, 1 ≤ k → k < n → ∀ j, j < steps → bestL L steps k (j : Int) = none) ∧ ∀ j, j < first → bestL L steps n (j : Int) = none := by
 unfold simpleL at h
 obtain ⟨k, h1, h2, h3⟩ := firstSome_range' h
 obtain ⟨q, h4, h5, h6⟩ := firstSome_range' h2
 have e : bestL L steps (k + 1) (q : Int) = some l ∧ q = first := by
  cases hb : bestL L steps (k + 1) (q : Int) with
  | none => rw [hb] at h5; cases h5
  | some m => rw [hb] at h5; injection h5 with h5; injection h5 with h5 h7; exact ⟨by rw [h7], h5⟩
 obtain ⟨e1, rfl⟩ := e
 refine ⟨k + 1, by omega, by omega, h4, e1, fun m hm1 hm2 j hj => ?_, fun j hj => ?_⟩
 ·have := firstSome_none' (h3 (m - 1) (by omega)) j (List.mem_range.2 hj)
  rw [show m - 1 + 1 = m by omega] at this
  cases hb : bestL L steps m (j : Int) with
  | none => rfl
  | some x => rw [hb] at this; cases this
 ·have := h6 j hj
  cases hb : bestL L steps (k + 1) (j : Int) with
  | none => rfl
  | some x => rw [hb] at this; cases this
theorem simple_le {L : List (List Int)} {steps : Nat} {s : List Int} {j : Nat} (hj : j < steps) (h1 : 1 ≤ s.length) (h12 : s.length ≤ 12) (h : SeqFits L steps (j : Int) s) :
  ∃ first l, simpleL L steps = some (first, l) ∧ first < steps ∧ 1 ≤ l.length ∧ l.length ≤ 12 ∧ (∀ x ∈ l, 0 ≤ x ∧ x < (steps : Int)) ∧ SeqFits L steps (first : Int) l ∧ l.length ≤ s.length ∧ (l.length = s.length → first ≤ j) := by
 have h0 : 0 < steps := by omega
 obtain ⟨b, hb⟩ := best_some h0 (by omega) h
 cases e : simpleL L steps with
 | none =>
  unfold simpleL at e
  have := firstSome_none' (firstSome_none' e (s.length - 1) (List.mem_range.2 (by omega))) j (List.mem_range.2 hj)
  rw [show s.length - 1 + 1 = s.length by omega, hb] at this
  cases this
 | some x =>
  obtain ⟨first, l⟩ := x
  obtain ⟨n, n1, n2, hf, e1, e2, e3⟩ := simple_spec e
  obtain ⟨q1, q2, q3⟩ := best_spec h0 (by omega) e1
  refine ⟨first, l, rfl, hf, by omega, by omega, q2, q3, ?_, fun hl => ?_⟩
  ·apply Nat.le_of_not_lt
   intro hlt
   have := e2 s.length (by omega) (by omega) j hj
   rw [hb] at this; cases this
  ·apply Nat.le_of_not_lt
   intro hlt
   have := e3 j hlt
   rw [← q1, hl, hb] at this; cases this
end Go.Proofs.YtphdalgaemefoaaGreat
