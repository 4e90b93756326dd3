/- What an answer reads as: fractions that came out of a call. -/
import Derived.Test.YtbikpadjmmgpcaaRS1
namespace Go.Proofs.Ytbikpadjmmgpcaa
open Go.RowKit Go.Shelf
set_option linter.unusedVariables false
set_option linter.unusedSimpArgs false
/-- What an answer reads as. -/
noncomputable def fracV (r : Rat) : FracA := ⟨rneg r, dg (rnum r), false, dg r.den⟩
def fracZ : FracA := ⟨false, [], false, []⟩
noncomputable def resA : Except Int Rat → FracA
  | .ok r => fracV r
  | .error _ => fracZ
theorem FracL.isA {L : Nat → Prop} {w : World} {v : Value} {r : Rat} (h : FracL L w v r) : IsFracA L w v (fracV r) := by
  obtain ⟨A, c, B, d, rfl, h1, h2⟩ := h
  exact ⟨A, c, B, d, rfl, h1.1, h2.1⟩
theorem zeroF_isA (L : Nat → Prop) (w : World) : IsFracA L w (.agg #[.bool false, .slice none 0 0, .bool false, .slice none 0 0]) fracZ :=
  ⟨none, 0, none, 0, rfl, ⟨none, 0, rfl, Nat.le_refl _, by decide, by decide, fun h => absurd h (Nat.lt_irrefl 0)⟩, ⟨none, 0, rfl, Nat.le_refl _, by decide, by decide, fun h => absurd h (Nat.lt_irrefl 0)⟩⟩
theorem IsRes.isA {L : Nat → Prop} {w : World} {v : Value} {c : Int} {res : Except Int Rat} (h : IsRes L w v c res) : IsFracA L w v (resA res) := by
  cases res with
  | ok r => exact h.1.isA
  | error x =>
    obtain ⟨rfl, -⟩ := h
    exact zeroF_isA L w
theorem isW_dg_of {neg : Bool} {n : Nat} (h : (dg n).length ≤ 40) (hz : n = 0 → neg = false) : isW neg (dg n) = true := by
  unfold isW
  have hany : ((dg n).any fun g => decide (1000000000 ≤ g)) = false := by
    rw [List.any_eq_false]
    intro x hx
    have := low_dg n x hx
    rw [B9_eq] at this
    simp; omega
  rw [hany, decide_eq_true h]
  by_cases h0 : (dg n).length = 0
  · have hn : n = 0 := by rw [← nv_dg n, List.eq_nil_of_length_eq_zero h0]; rfl
    rw [if_pos h0, hz hn]
    rfl
  · rw [if_neg h0]
    have := dg_last_pos (n := n) (by omega)
    rw [getD_of_lt (by omega)]
    simp; omega
theorem fracV_rat {r : Rat} (h : Rsz r 40) : (fracV r).rat? = some r := by
  have h1 : isW (rneg r) (dg (rnum r)) = true := isW_dg_of h.1 rneg_false
  have h2 : isW false (dg r.den) = true := isW_dg_of h.2 fun _ => rfl
  have h3 : (dg r.den).length ≠ 0 := fun h0 => by
    have : r.den = 0 := by rw [← nv_dg r.den, List.eq_nil_of_length_eq_zero h0]; rfl
    exact r.den_nz this
  unfold FracA.rat? FracA.ok fracV
  simp only
  rw [h1, h2, nv_dg, nv_dg]
  rw [if_pos ⟨by simp; omega, r.reduced⟩, mkR_self]
theorem fracV_ok {r : Rat} (h : Rsz r 40) : okA (fracV r) = true := by unfold okA; rw [fracV_rat h]; rfl
theorem rsgn_lt {a b : Rat} : rsgn (a - b) < 0 ↔ a < b := by
  unfold rsgn
  rw [Int.sign_neg_iff, ← Int.not_le, Rat.num_nonneg]
  constructor <;> intro h <;> grind
theorem fracZ_rat : fracZ.rat? = none := by
  unfold FracA.rat? fracZ FracA.ok
  simp
end Go.Proofs.Ytbikpadjmmgpcaa
