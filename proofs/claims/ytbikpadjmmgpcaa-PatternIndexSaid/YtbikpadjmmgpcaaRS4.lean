/- reference 1: Ratio, Compare, Add, Mul, Div. -/
import Derived.Test.YtbikpadjmmgpcaaRS1
namespace Go.Proofs.Ytbikpadjmmgpcaa
open Go.RowKit Go.Shelf
set_option linter.unusedVariables false
set_option linter.unusedSimpArgs false
theorem rsz_add {a b : Rat} {n : Nat} (ha : Rsz a n) (hb : Rsz b n) : Rsz (a + b) (n + n + 1) := by
  have ha1 := ha.1; have ha2 := ha.2; have hb1 := hb.1; have hb2 := hb.2
  have m1 := dg_length_mul (rnum a) b.den
  have m2 := dg_length_mul (rnum b) a.den
  have m3 := dg_length_mul a.den b.den
  have hdz : a.den * b.den ≠ 0 := Nat.ne_of_gt (Nat.mul_pos (rden_pos a) (rden_pos b))
  by_cases h : rneg a = rneg b
  · rw [← add_same h]
    obtain ⟨q1, q2⟩ := mkR_len (rneg a) (rnum a * b.den + rnum b * a.den) (a.den * b.den) hdz
    have m4 := dg_length_add (rnum a * b.den) (rnum b * a.den)
    exact ⟨by omega, by omega⟩
  · rw [← add_ne h]
    split
    · obtain ⟨q1, q2⟩ := mkR_len (rneg b) (rnum b * a.den - rnum a * b.den) (a.den * b.den) hdz
      have m4 : (dg (rnum b * a.den - rnum a * b.den)).length ≤ (dg (rnum b * a.den)).length := dg_length_mono (Nat.sub_le _ _)
      exact ⟨by omega, by omega⟩
    · obtain ⟨q1, q2⟩ := mkR_len (rneg a) (rnum a * b.den - rnum b * a.den) (a.den * b.den) hdz
      have m4 : (dg (rnum a * b.den - rnum b * a.den)).length ≤ (dg (rnum a * b.den)).length := dg_length_mono (Nat.sub_le _ _)
      exact ⟨by omega, by omega⟩
theorem rsz_neg {a : Rat} {n : Nat} (ha : Rsz a n) : Rsz (-a) n := by obtain ⟨q1, q2, q3⟩ := neg_rat a; unfold Rsz; rw [q2, q3]; exact ha
theorem rsz_sub {a b : Rat} {n : Nat} (ha : Rsz a n) (hb : Rsz b n) : Rsz (a - b) (n + n + 1) := by rw [Rat.sub_eq_add_neg]; exact rsz_add ha (rsz_neg hb)
theorem rsz_mul {a b : Rat} {n : Nat} (ha : Rsz a n) (hb : Rsz b n) : Rsz (a * b) (n + n) := by
  have ha1 := ha.1; have ha2 := ha.2; have hb1 := hb.1; have hb2 := hb.2
  rw [← mul_mkR]
  obtain ⟨q1, q2⟩ := mkR_len (rneg a != rneg b) (rnum a * rnum b) (a.den * b.den) (Nat.ne_of_gt (Nat.mul_pos (rden_pos a) (rden_pos b)))
  have m1 := dg_length_mul (rnum a) (rnum b)
  have m2 := dg_length_mul a.den b.den
  exact ⟨by omega, by omega⟩
theorem rsz_div {a b : Rat} {n : Nat} (hb0 : b ≠ 0) (ha : Rsz a n) (hb : Rsz b n) : Rsz (a / b) (n + n) := by
  have ha1 := ha.1; have ha2 := ha.2; have hb1 := hb.1; have hb2 := hb.2
  rw [← div_mkR hb0]
  obtain ⟨q1, q2⟩ := mkR_len (rneg a != rneg b) (rnum a * b.den) (a.den * rnum b) (Nat.ne_of_gt (Nat.mul_pos (rden_pos a) (Nat.pos_of_ne_zero fun h => hb0 (rnum_zero.1 h))))
  have m1 := dg_length_mul (rnum a) b.den
  have m2 := dg_length_mul a.den (rnum b)
  exact ⟨by omega, by omega⟩
theorem rsgn_zero {r : Rat} : rsgn r = 0 ↔ r = 0 := by unfold rsgn; rw [Int.sign_eq_zero_iff_zero, Rat.num_eq_zero]
end Go.Proofs.Ytbikpadjmmgpcaa
