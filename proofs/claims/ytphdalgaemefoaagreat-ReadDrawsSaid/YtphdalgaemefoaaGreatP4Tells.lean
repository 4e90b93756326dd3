/- pattern: repeats, motif, gcd, closes. The reference of layer 4: motif, closing. pattern: Closes, Motif; the reference's: Closes, Motif. -/
import Derived.Test.YtphdalgaemefoaaGreatP4Lift
import Derived.Test.YtphdalgaemefoaaGreatQTail
namespace Go.Proofs.YtphdalgaemefoaaGreat
set_option maxRecDepth 100000
open Go.RowKit
set_option linter.unusedVariables false
set_option linter.unusedSimpArgs false
theorem tmod_zero (x n : Int) (hn : 0 < n) : (x.tmod n != 0) = !decide (x % n = 0) := by
 obtain ⟨h1, h2, h3, h4⟩ := tmod_facts x n hn
 by_cases h : x.tmod n = 0
 ·have := h4 (by omega)
  rw [h] at this
  simp [h, ← this]
 ·have : x % n ≠ 0 := by
   rcases Int.lt_or_le (x.tmod n) 0 with hl | hl
   ·have := h3 hl; omega
   ·have := h4 hl; omega
  simp [h, this]
end Go.Proofs.YtphdalgaemefoaaGreat
namespace Go.Proofs.YtphdalgaemefoaaGreat
set_option maxRecDepth 100000
open Go.RowKit
set_option linter.unusedVariables false
set_option linter.unusedSimpArgs false
theorem Box.fam {w : World} {B : Nat} {v0 v1 v2 v3 v4 v5 : Value} {t : TypeId} {w1 : World} {ι : Type} {fam : ι → World} (h : Box w B (.cells #[v0, v1, v2, v3, v4, v5] t) w1) (hf : ∀ n, Below w1.heap.size w1 (fam n)) :
  (∀ n, (fam n).cell? ⟨B, 0, none⟩ = some v0) ∧ (∀ n, (fam n).cell? ⟨B, 1, none⟩ = some v1) ∧ (∀ n, (fam n).cell? ⟨B, 2, none⟩ = some v2) ∧ (∀ n, (fam n).cell? ⟨B, 3, none⟩ = some v3) ∧ (∀ n, (fam n).cell? ⟨B, 4, none⟩ = some v4) ∧ (∀ n, (fam n).cell? ⟨B, 5, none⟩ = some v5) :=
 ⟨fun n => (h.next (hf n)).prog.1, fun n => (h.next (hf n)).prog.2.1, fun n => (h.next (hf n)).prog.2.2.1, fun n => (h.next (hf n)).prog.2.2.2.1, fun n => (h.next (hf n)).prog.2.2.2.2.1, fun n => (h.next (hf n)).prog.2.2.2.2.2⟩
end Go.Proofs.YtphdalgaemefoaaGreat
namespace Go.Proofs.YtphdalgaemefoaaGreat
set_option maxRecDepth 100000
open Go.RowKit
set_option linter.unusedVariables false
set_option linter.unusedSimpArgs false
def onOkI (E x : Int) : Int := if E = 0 then x else 0
theorem onOkI_zero (x : Int) : onOkI 0 x = x := rfl
theorem onOkI_ne {E : Int} (h : E ≠ 0) (x : Int) : onOkI E x = 0 := if_neg h
end Go.Proofs.YtphdalgaemefoaaGreat
