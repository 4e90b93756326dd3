/- The law's same (two lists). -/
import Derived.Test.YtkblockodaiigaaRdSameR
namespace Go.Proofs.Ytkblockodaiigaa
set_option maxRecDepth 100000
open Go.RowKit
set_option linter.unusedVariables false
set_option linter.unusedSimpArgs false
theorem pf_l9_same (v v' : Value) (xs ys : List Int) (w : World) (hx : Ints w v xs) (hy : Ints w v' ys) :
  Calls Try.prog 17 #[v, v'] w fun e w' => e = .returned (.bool (xs == ys)) ∧ ∃ n, w' = w.drewN n := by
 have ⟨hx', hy'⟩ := hyd2 hx hy
 clear hy hx
 go_enter Try.func17, Try.ntmps17
 go_wp2_with (first | (go_at_call 48; ((with_reducible refine (pf_SameInts _ _ xs ys _ hx'.out hy'.out).mono ?_); rintro e w' ⟨rfl, n, rfl⟩)))
 go_ret
 exact ⟨rfl, n, rfl⟩
end Go.Proofs.Ytkblockodaiigaa
