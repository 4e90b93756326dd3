/- Programs (layer 4): what their values are; Check. -/
import Derived.Test.YtaifechmeagkhaaRos3
import Derived.Test.YtaifechmeagkhaaWithin
namespace Go.Proofs.Ytaifechmeagkhaa
open Go.RowKit
set_option linter.unusedVariables false
set_option linter.unusedSimpArgs false

structure Prog where
  ros : List Int
  rub : List Int
  start : Int
  throw : Int
  adv : Int
  shifts : List Int
def Prog.fits (p : Prog) : Prop := (∀ x ∈ p.ros, (Lit.int .i64 x).wf = true) ∧ (∀ x ∈ p.rub, (Lit.int .i64 x).wf = true) ∧ (∀ x ∈ p.shifts, (Lit.int .i64 x).wf = true) ∧
  (Lit.int .i64 p.start).wf = true ∧ (Lit.int .i64 p.throw).wf = true ∧ (Lit.int .i64 p.adv).wf = true
/-- The value v is, in the world w, the program p. -/
def IsProg (w : World) (v : Value) (p : Prog) : Prop :=
  ∃ v0 v1 v5, v = .agg #[v0, v1, .int .i64 p.start, .int .i64 p.throw, .int .i64 p.adv, v5] ∧ Ints w v0 p.ros ∧ Ints w v1 p.rub ∧ Ints w v5 p.shifts
theorem IsProg.below {w w' : World} {v : Value} {p : Prog} (h : IsProg w v p) (hb : Below w.heap.size w w') : IsProg w' v p := by
  obtain ⟨v0, v1, v5, hv, h0, h1, h5⟩ := h
  exact ⟨v0, v1, v5, hv, h0.below hb, h1.below hb, h5.below hb⟩
def shiftB (n : Nat) (x : Int) : Bool := within x 0 ((n : Int) - 1)
/-- Start, Throw, Advance and the Shifts are in order. -/
def progB (p : Prog) : Bool := within p.start 0 10000 && (within p.throw 1 16 && (within p.adv (-1000) 1000 && (within p.shifts.length 1 12 && p.shifts.all (shiftB p.ros.length))))
def progE (p : Prog) : Int := if bothE p.ros p.rub ≠ 0 then bothE p.ros p.rub else if progB p then 0 else 40

end Go.Proofs.Ytaifechmeagkhaa
