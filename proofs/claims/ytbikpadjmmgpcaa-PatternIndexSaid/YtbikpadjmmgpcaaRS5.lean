/- reference 1: Sub. reference 1: Rounded. reference 1: Nearest. -/
import Derived.Test.YtbikpadjmmgpcaaRS4
import Derived.Test.YtbikpadjmmgpcaaMonoR
namespace Go.Proofs.Ytbikpadjmmgpcaa
open Go.RowKit Go.Shelf
set_option linter.unusedVariables false
set_option linter.unusedSimpArgs false
def codeR : Except Int Rat → Int
  | .ok _ => 0
  | .error x => x
theorem IsRes.code {L : Nat → Prop} {w : World} {v : Value} {c : Int} {res : Except Int Rat} (h : IsRes L w v c res) : c = codeR res := by
  cases res with
  | ok r => exact h.2
  | error x => exact h.2
def MPred.resT (L : Nat → Prop) (res : Except Int Rat) : MPred := ⟨fun v w => ∃ v', v = .tuple #[v', .int .i64 (codeR res)] ∧ IsRes L w v' (codeR res) res, fun _ _ _ hb ⟨v', e, h⟩ => ⟨v', e, h.le hb⟩⟩
def MPred.resV (L : Nat → Prop) (res : Except Int Rat) : MPred := ⟨fun v w => IsRes L w v (codeR res) res, fun _ _ _ hb h => h.le hb⟩
end Go.Proofs.Ytbikpadjmmgpcaa
namespace Go.Proofs.Ytbikpadjmmgpcaa
open Go.RowKit Go.Shelf
set_option linter.unusedVariables false
set_option linter.unusedSimpArgs false
/-- A number of at most three groups, out of its groups. -/
theorem dg_three {q : Nat} (h : q ≤ 4611686018427387904) : ∃ g0 g1 g2 : Nat, (dg q).getD 0 0 = g0 ∧ (dg q).getD 1 0 = g1 ∧ (dg q).getD 2 0 = g2 ∧ g0 < 1000000000 ∧ g1 < 1000000000 ∧ g2 ≤ 4 ∧ g0 + 1000000000 * g1 + 1000000000000000000 * g2 = q := by
  have hB := B9_eq
  have hl : (dg q).length ≤ 3 := dg_u64 (by omega)
  have hv := nv_dg q
  have hlow := low_dg q
  refine ⟨_, _, _, rfl, rfl, rfl, by rw [← hB]; exact getD_lt hlow _, by rw [← hB]; exact getD_lt hlow _, ?_, ?_⟩
  · match e : dg q, hl with
    | [], _ => simp
    | [a], _ => simp
    | [a, b], _ => simp
    | [a, b, c], _ => rw [e] at hv; simp only [nv, hB] at hv; simp; omega
  · match e : dg q, hl with
    | [], _ => rw [e] at hv; simp only [nv] at hv; simp; omega
    | [a], _ => rw [e] at hv; simp only [nv, hB] at hv; simp; omega
    | [a, b], _ => rw [e] at hv; simp only [nv, hB] at hv; simp; omega
    | [a, b, c], _ => rw [e] at hv; simp only [nv, hB] at hv; simp; omega
def MPred.box (B : Nat) (o : Obj) : MPred := ⟨fun v w => ∃ k, v = .pointer (some ⟨k, 0, none⟩) ∧ B ≤ k ∧ w.heap[k]? = some o, fun _ _ _ hb ⟨k, e, h1, h2⟩ => ⟨k, e, h1, (hb.block k (Array.getElem?_eq_some_iff.1 h2).1).trans h2⟩⟩
end Go.Proofs.Ytbikpadjmmgpcaa
namespace Go.Proofs.Ytbikpadjmmgpcaa
open Go.RowKit Go.Shelf
set_option linter.unusedVariables false
set_option linter.unusedSimpArgs false
theorem okA_some {x : FracA} (h : okA x = true) : ∃ r, x.rat? = some r := by unfold okA at h; exact Option.isSome_iff_exists.1 h
end Go.Proofs.Ytbikpadjmmgpcaa
