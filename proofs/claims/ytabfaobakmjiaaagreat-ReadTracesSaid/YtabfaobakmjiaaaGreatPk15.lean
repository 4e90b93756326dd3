/- Turning numbers, plain: sums, products, powers; how long their parts are. -/
import Derived.Test.YtabfaobakmjiaaaGreatPk14
namespace Go.Proofs.YtabfaobakmjiaaaGreat
set_option maxRecDepth 100000
set_option linter.unusedVariables false
abbrev G2 := Rat × Rat
def gadd (a b : G2) : G2 := (a.1 + b.1, a.2 + b.2)
def gmul (a b : G2) : G2 := (a.1 * b.1 - a.2 * b.2, a.1 * b.2 + a.2 * b.1)
def qAP (a : G2) : G2 := (a.1, -a.2)
def qAI (a : G2) : Rat := a.1 * a.1 + a.2 * a.2
def gdiv (a b : G2) : G2 := ((gmul a (qAP b)).1 / qAI b, (gmul a (qAP b)).2 / qAI b)
def ginv (a : G2) : G2 := (a.1 / qAI a, -a.2 / qAI a)
def gone : G2 := (1, 0)
def gpow (a : G2) : Nat → G2
 | 0 => gone
 | n + 1 => gmul (gpow a n) a
theorem qEF (a b : G2) : gmul a b = gmul b a := by unfold gmul; ext <;> grind
theorem qDE (a b c : G2) : gmul (gmul a b) c = gmul a (gmul b c) := by unfold gmul; ext <;> grind
theorem qE7 (a : G2) : gmul a gone = a := by unfold gmul gone; ext <;> grind
theorem qCs (a : G2) : gmul gone a = a := by rw [qEF, qE7]
theorem qFg (a : G2) (m n : Nat) : gpow a (m + n) = gmul (gpow a m) (gpow a n) := by
 induction n with
 | zero => simp [gpow, qE7]
 | succ n ih => rw [← Nat.add_assoc]; simp only [gpow]; rw [ih, qDE]
theorem qEl (x : Rat) : 0 ≤ x * x := by
 rcases (Rat.le_total : (0 : Rat) ≤ x ∨ x ≤ 0) with h | h
 ·exact Rat.mul_nonneg h h
 ·have h2 : 0 ≤ -x := by grind
  have := Rat.mul_nonneg h2 h2
  grind
theorem qE8 {a : G2} (h : qAI a = 0) : a.1 = 0 ∧ a.2 = 0 := by
 unfold qAI at h;have h1 := qEl a.1;have h2 := qEl a.2;have h3 : a.1 * a.1 = 0 := by grind
 have h4 : a.2 * a.2 = 0 := by grind
 exact ⟨by simpa using Rat.mul_eq_zero.1 h3, by simpa using Rat.mul_eq_zero.1 h4⟩
theorem qFh {a : G2} (h : qAI a ≠ 0) : gmul a (ginv a) = gone := by
 unfold gmul ginv gone;unfold qAI at *
 ext <;> grind
theorem qJ0 {a b : G2} (h : qAI b ≠ 0) : gdiv a b = gmul a (ginv b) := by
 unfold gdiv gmul ginv qAP
 ext <;> grind
theorem qHX (a b : G2) : qAI (gmul a b) = qAI a * qAI b := by unfold qAI gmul; grind
theorem qHY {a : G2} (h : qAI a ≠ 0) (n : Nat) : qAI (gpow a n) ≠ 0 := by
 induction n with
 | zero => unfold qAI gpow gone; grind
 | succ n ih =>
  simp only [gpow];rw [qHX];intro h0
  rcases Rat.mul_eq_zero.1 h0 with h1 | h1
  ·exact ih h1
  ·exact h h1
theorem qLO {a b : G2} (ha : qAI a ≠ 0) (hb : qAI b ≠ 0) : ginv (gmul a b) = gmul (ginv a) (ginv b) := by
 have h1 : qAI (gmul a b) ≠ 0 := by rw [qHX]; intro h0; rcases Rat.mul_eq_zero.1 h0 with h | h <;> contradiction
 have e1 := qFh h1
 have e2 : gmul (gmul a b) (gmul (ginv a) (ginv b)) = gone := by
  rw [qDE, ← qDE b, qEF b, qDE (ginv a), qFh hb, qE7, qFh ha]
 have : gmul (ginv (gmul a b)) (gmul (gmul a b) (gmul (ginv a) (ginv b))) = gmul (ginv a) (ginv b) := by
  rw [← qDE, qEF (ginv (gmul a b)), e1, qCs]
 rw [e2, qE7] at this;exact this
theorem qLP {a : G2} (h : qAI a ≠ 0) (n : Nat) : gpow (ginv a) n = ginv (gpow a n) := by
 induction n with
 | zero =>
  unfold gpow ginv qAI gone
  ext <;> grind
 | succ n ih =>
  simp only [gpow];rw [ih, qLO (qHY h n) h]
def GF (a : G2) (P D : Nat) : Prop := ∃ (X Y : Int) (E : Nat), 0 < E ∧ E ≤ D ∧ a.1 = (X : Rat) / (E : Rat) ∧ a.2 = (Y : Rat) / (E : Rat) ∧ X.natAbs + Y.natAbs ≤ P
theorem GF.mul {a b : G2} {P D P' D' : Nat} (h : GF a P D) (k : GF b P' D') : GF (gmul a b) (P * P') (D * D') := by
 obtain ⟨X, Y, E, h0, h1, h2, h3, h4⟩ := h;obtain ⟨X', Y', E', k0, k1, k2, k3, k4⟩ := k;have hE : (E : Rat) ≠ 0 := by simpa using Nat.pos_iff_ne_zero.1 h0
 have hE' : (E' : Rat) ≠ 0 := by simpa using Nat.pos_iff_ne_zero.1 k0
 refine ⟨X * X' - Y * Y', X * Y' + Y * X', E * E', Nat.mul_pos h0 k0, Nat.mul_le_mul h1 k1, ?_, ?_, ?_⟩
 ·unfold gmul;simp only [h2, h3, k2, k3]
  push_cast
  grind
 ·unfold gmul;simp only [h2, h3, k2, k3]
  push_cast
  grind
 ·have e1 : (X * X' - Y * Y').natAbs ≤ X.natAbs * X'.natAbs + Y.natAbs * Y'.natAbs := by
   rw [← Int.natAbs_mul, ← Int.natAbs_mul]; omega
  have e2 : (X * Y' + Y * X').natAbs ≤ X.natAbs * Y'.natAbs + Y.natAbs * X'.natAbs := by
   rw [← Int.natAbs_mul, ← Int.natAbs_mul]; omega
  have e3 := Nat.mul_le_mul h4 k4;have e4 : (X.natAbs + Y.natAbs) * (X'.natAbs + Y'.natAbs) = X.natAbs * X'.natAbs + Y.natAbs * Y'.natAbs + (X.natAbs * Y'.natAbs + Y.natAbs * X'.natAbs) := by grind
  omega
theorem GF.pow {a : G2} {P D : Nat} (h : GF a P D) (n : Nat) : GF (gpow a n) (P ^ n) (D ^ n) := by
 induction n with
 | zero => exact ⟨1, 0, 1, by decide, by simp, by unfold gpow gone; grind, by unfold gpow gone; grind, by simp⟩
 | succ n ih => simp only [gpow, Nat.pow_succ]; exact ih.mul h
theorem qDv (r : Rat) : (r.num : Rat) / (r.den : Rat) = r := by
 have h := Rat.mkRat_self r;rw [Rat.mkRat_eq_div] at h;exact h
theorem qIZ {r : Rat} {X : Int} {E : Nat} (hE : 0 < E) (h : r = (X : Rat) / (E : Rat)) : r.num.natAbs ≤ X.natAbs ∧ r.den ≤ E := by
 have hE2 : (E : Rat) ≠ 0 := by simpa using Nat.pos_iff_ne_zero.1 hE
 have hd : (r.den : Rat) ≠ 0 := by simpa using r.den_nz
 have h1 : (r.num : Rat) = r * (r.den : Rat) := by have := qDv r; grind
 have h2 : (r.num : Rat) * (E : Rat) = (X : Rat) * (r.den : Rat) := by
  rw [h1, h]; grind
 have h3 : r.num * (E : Int) = X * (r.den : Int) := by
  have : ((r.num * (E : Int) : Int) : Rat) = ((X * (r.den : Int) : Int) : Rat) := by push_cast; exact h2
  exact_mod_cast this
 have h4 : r.num.natAbs * E = X.natAbs * r.den := by
  have := congrArg Int.natAbs h3;simpa [Int.natAbs_mul] using this
 have hc : Nat.Coprime r.num.natAbs r.den := r.reduced;have d1 : r.den ∣ E := (Nat.Coprime.symm hc).dvd_of_dvd_mul_left ⟨X.natAbs, by rw [h4, Nat.mul_comm]⟩;refine ⟨?_, Nat.le_of_dvd hE d1⟩
 by_cases hX : X = 0
 ·subst hX;have : r.num.natAbs * E = 0 := by rw [h4]; simp
  rcases Nat.mul_eq_zero.1 this with h | h
  ·omega
  ·omega
 ·have d2 : r.num.natAbs ∣ X.natAbs := hc.dvd_of_dvd_mul_right ⟨E, by rw [← h4]⟩;exact Nat.le_of_dvd (Int.natAbs_pos.2 hX) d2
theorem GF.sz {a : G2} {P D n : Nat} (h : GF a P D) (hP : P < B9 ^ n) (hD : D < B9 ^ n) : Rsz a.1 n ∧ Rsz a.2 n := by
 obtain ⟨X, Y, E, h0, h1, h2, h3, h4⟩ := h;obtain ⟨p1, p2⟩ := qIZ h0 h2;obtain ⟨q1, q2⟩ := qIZ h0 h3;refine ⟨⟨qAv ?_, qAv ?_⟩, qAv ?_, qAv ?_⟩
 ·show a.1.num.natAbs < _; omega
 ·omega
 ·show a.2.num.natAbs < _; omega
 ·omega
theorem GF.of (a : G2) : GF a (rnum a.1 * a.2.den + rnum a.2 * a.1.den) (a.1.den * a.2.den) := by
 refine ⟨a.1.num * a.2.den, a.2.num * a.1.den, a.1.den * a.2.den, Nat.mul_pos a.1.den_pos a.2.den_pos, Nat.le_refl _, ?_, ?_, ?_⟩
 ·have h1 := qDv a.1;have d1 : (a.1.den : Rat) ≠ 0 := by simpa using a.1.den_nz
  have d2 : (a.2.den : Rat) ≠ 0 := by simpa using a.2.den_nz
  push_cast
  grind
 ·have h1 := qDv a.2;have d1 : (a.1.den : Rat) ≠ 0 := by simpa using a.1.den_nz
  have d2 : (a.2.den : Rat) ≠ 0 := by simpa using a.2.den_nz
  push_cast
  grind
 ·unfold rnum;simp [Int.natAbs_mul]
theorem GF.inv {a : G2} {P D : Nat} (hn : qAI a ≠ 0) (h : GF a P D) : GF (ginv a) (D * P) (P * P) := by
 obtain ⟨X, Y, E, h0, h1, h2, h3, h4⟩ := h;have hE : (E : Rat) ≠ 0 := by simpa using Nat.pos_iff_ne_zero.1 h0
 have hXY : X.natAbs * X.natAbs + Y.natAbs * Y.natAbs ≠ 0 := by
  intro h5
  have hx : X = 0 := by
   have : X.natAbs * X.natAbs = 0 := by omega
   rcases Nat.mul_eq_zero.1 this with h | h <;> omega
  have hy : Y = 0 := by
   have : Y.natAbs * Y.natAbs = 0 := by omega
   rcases Nat.mul_eq_zero.1 this with h | h <;> omega
  apply hn;unfold qAI;rw [h2, h3, hx, hy]
  grind
 have hc : ((X.natAbs * X.natAbs + Y.natAbs * Y.natAbs : Nat) : Rat) = (X : Rat) * X + (Y : Rat) * Y := by
  have : ((X.natAbs * X.natAbs + Y.natAbs * Y.natAbs : Nat) : Int) = X * X + Y * Y := by push_cast; rw [Int.natAbs_mul_self', Int.natAbs_mul_self']
  have h6 : (((X.natAbs * X.natAbs + Y.natAbs * Y.natAbs : Nat) : Int) : Rat) = ((X * X + Y * Y : Int) : Rat) := by rw [this]
  push_cast at h6 ⊢
  exact h6
 have hN : ((X.natAbs * X.natAbs + Y.natAbs * Y.natAbs : Nat) : Rat) ≠ 0 := fun h7 => hXY (by exact_mod_cast h7);rw [hc] at hN;refine ⟨E * X, -(E * Y), X.natAbs * X.natAbs + Y.natAbs * Y.natAbs, Nat.pos_of_ne_zero hXY, ?_, ?_, ?_, ?_⟩
 ·refine Nat.le_trans ?_ (Nat.mul_le_mul h4 h4)
  grind
 ·unfold ginv;rw [hc];unfold qAI;simp only [h2, h3]
  push_cast
  grind
 ·unfold ginv;rw [hc];unfold qAI;simp only [h2, h3]
  push_cast
  grind
 ·simp only [Int.natAbs_neg, Int.natAbs_mul, Int.natAbs_natCast];rw [← Nat.mul_add];exact Nat.mul_le_mul h1 h4
theorem GF.mono {a : G2} {P D P' D' : Nat} (h : GF a P D) (hP : P ≤ P') (hD : D ≤ D') : GF a P' D' := by
 obtain ⟨X, Y, E, h0, h1, h2, h3, h4⟩ := h;exact ⟨X, Y, E, h0, Nat.le_trans h1 hD, h2, h3, Nat.le_trans h4 hP⟩
def TSz (g : G2) (n : Nat) : Prop := Rsz g.1 n ∧ Rsz g.2 n
theorem qK8 : 2 ≤ B9 := by have := qAS; omega
theorem qFT {n m : Nat} (h : (dg n).length ≤ m) : n < B9 ^ m := Nat.lt_of_lt_of_le (qAo n) (Nat.pow_le_pow_right qBN h)
theorem TSz.gf {a : G2} {m : Nat} (h : TSz a m) : GF a (B9 ^ (2 * m + 1)) (B9 ^ (2 * m)) := by
 obtain ⟨⟨h1, h2⟩, h3, h4⟩ := h;have e : B9 ^ m * B9 ^ m = B9 ^ (2 * m) := by rw [← Nat.pow_add, Nat.two_mul]
 have g1 := Nat.mul_le_mul (Nat.le_of_lt (qFT h1)) (Nat.le_of_lt (qFT h4));have g2 := Nat.mul_le_mul (Nat.le_of_lt (qFT h3)) (Nat.le_of_lt (qFT h2));have g3 := Nat.mul_le_mul (Nat.le_of_lt (qFT h2)) (Nat.le_of_lt (qFT h4));rw [e] at g1 g2 g3;refine (GF.of a).mono ?_ g3;rw [Nat.pow_succ];have := Nat.mul_le_mul_left (B9 ^ (2 * m)) qK8;omega
theorem qK9 {k n : Nat} (h : k < n) : B9 ^ k < B9 ^ n := Nat.pow_lt_pow_right (by have := qK8; omega) h
theorem GF.szk {a : G2} {k1 k2 n : Nat} (h : GF a (B9 ^ k1) (B9 ^ k2)) (h1 : k1 < n) (h2 : k2 < n) : TSz a n := h.sz (qK9 h1) (qK9 h2)
theorem qEz {a : G2} {i : Nat} (h : TSz a 2) (hi : i ≤ 128) : TSz (gpow a i) 650 := by
 have k := h.gf.pow i;rw [← Nat.pow_mul, ← Nat.pow_mul] at k;exact k.szk (by omega) (by omega)
theorem qJp {a : G2} {i : Nat} (h : TSz a 2) (hn : qAI a ≠ 0) (hi : i ≤ 64) : TSz (gpow (ginv a) i) 650 := by
 have k := (h.gf.inv hn).pow i;rw [← Nat.pow_add, ← Nat.pow_add, ← Nat.pow_mul, ← Nat.pow_mul] at k;exact k.szk (by omega) (by omega)
end Go.Proofs.YtabfaobakmjiaaaGreat
