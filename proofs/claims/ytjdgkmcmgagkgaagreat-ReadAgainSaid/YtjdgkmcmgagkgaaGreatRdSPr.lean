/- SameProgram of two equal programs; the numbers of a machine word. -/
import Derived.Test.YtjdgkmcmgagkgaaGreatRos2
import Derived.Test.YtjdgkmcmgagkgaaGreatBoxKit
import Derived.Test.YtjdgkmcmgagkgaaGreatPatCheck
import Derived.Test.YtjdgkmcmgagkgaaGreatPicKit
namespace Go.Proofs.YtjdgkmcmgagkgaaGreat
set_option maxRecDepth 100000
set_option maxHeartbeats 1000000
open Go.RowKit
set_option linter.unusedVariables false
set_option linter.unusedSimpArgs false
theorem lit64 {k : Int} (hw : (Lit.int .i64 k).wf = true) : fit64 k := by
 have h1 : IntKind.i64.min ≤ k ∧ k ≤ IntKind.i64.max := by simpa [Lit.wf] using hw
 have e1 : IntKind.i64.min = -9223372036854775808 := by kernel_rfl
 have e2 : IntKind.i64.max = 9223372036854775807 := by kernel_rfl
 rw [e1, e2] at h1
 exact h1
theorem IsProg.le {w W : World} {v : Value} {p : Prog} (h : IsProg w v p) (hb : Below w.heap.size w W) : IsProg W v p := by
 obtain ⟨v0, v1, v5, e, a, b, c⟩ := h
 exact ⟨v0, v1, v5, e, a.below hb, b.below hb, c.below hb⟩
theorem pf_p4_SameP (v v' : Value) (p : Prog) (w : World) (hv : IsProg w v p) (hv' : IsProg w v' p) :
  Calls Tryz.prog 26 #[v, v'] w fun e w' => e = .returned (.bool true) ∧ Below w.heap.size w w' := by
 obtain ⟨v0, v1, v5, rfl, h0, h1, h5⟩ := hv
 obtain ⟨u0, u1, u5, rfl, k0, k1, k5⟩ := hv'
 have e0 : (p.ros == p.ros) = true := by simp
 have e1 : (p.rub == p.rub) = true := by simp
 have e5 : (p.shifts == p.shifts) = true := by simp
 have ⟨h0', h1', h5', k0', k1', k5', e0', e1'⟩ := hyd8 h0 h1 h5 k0 k1 k5 e0 e1
 have e5' := hyd1 e5
 clear e5 e1 e0 k5 k1 k0 h5 h1 h0
 go_enter Tryz.func26, Tryz.ntmps26
 go_wp2_with (first | (go_at_call 39; ((with_reducible refine (pf_SameInts v0 u0 p.ros p.ros _ ?_ ?_).mono ?_); rotate_left 2; rintro e w' ⟨rfl, n, rfl⟩; rw [e0'.out]; rotate_left; exact h0'.out.below (by first | exact alc2 _ _ _ | exact below_drewN' (alc2 _ _ _) _ | exact below_drewN' (below_drewN' (alc2 _ _ _) _) _); exact k0'.out.below (by first | exact alc2 _ _ _ | exact below_drewN' (alc2 _ _ _) _ | exact below_drewN' (below_drewN' (alc2 _ _ _) _) _))) | (go_at_call 39; ((with_reducible refine (pf_SameInts v1 u1 p.rub p.rub _ ?_ ?_).mono ?_); rotate_left 2; rintro e w' ⟨rfl, n, rfl⟩; rw [e1'.out]; rotate_left; exact h1'.out.below (by first | exact alc2 _ _ _ | exact below_drewN' (alc2 _ _ _) _ | exact below_drewN' (below_drewN' (alc2 _ _ _) _) _); exact k1'.out.below (by first | exact alc2 _ _ _ | exact below_drewN' (alc2 _ _ _) _ | exact below_drewN' (below_drewN' (alc2 _ _ _) _) _))) | (go_at_call 39; ((with_reducible refine (pf_SameInts v5 u5 p.shifts p.shifts _ ?_ ?_).mono ?_); rotate_left 2; rintro e w' ⟨rfl, n, rfl⟩; rw [e5'.out]; rotate_left; exact h5'.out.below (by first | exact alc2 _ _ _ | exact below_drewN' (alc2 _ _ _) _ | exact below_drewN' (below_drewN' (alc2 _ _ _) _) _); exact k5'.out.below (by first | exact alc2 _ _ _ | exact below_drewN' (alc2 _ _ _) _ | exact below_drewN' (below_drewN' (alc2 _ _ _) _) _))))
 go_ret
 exact ⟨rfl, below_drewN' (alc2 _ _ _) _⟩
end Go.Proofs.YtjdgkmcmgagkgaaGreat
