/- The reference of layer 3: Lifted, Moved, Least. -/
import Derived.Test.YtaifechmeagkhaaRef3
import Derived.Test.YtaifechmeagkhaaPerLaw
import Derived.Test.YtaifechmeagkhaaMount
namespace Go.Proofs.Ytaifechmeagkhaa
open Go.RowKit
set_option linter.unusedVariables false
set_option linter.unusedSimpArgs false
def refP (f b : List Int) (p k : Nat) : Int := (List.range k).foldl (fun a j => max a (pickX f b 1 liftM p j)) (atR f p)
theorem refP_zero (f b : List Int) (p : Nat) : refP f b p 0 = atR f p := rfl
theorem refP_succ (f b : List Int) (p k : Nat) : refP f b p (k + 1) = max (refP f b p k) (pickX f b 1 liftM p k) := by
  unfold refP; rw [List.range_succ, List.foldl_append]; rfl
theorem refP_ge (f b : List Int) (p : Nat) : ∀ k, atR f p ≤ refP f b p k ∧ ∀ j, j < k → pickX f b 1 liftM p j ≤ refP f b p k := by
  intro k
  induction k with
  | zero => exact ⟨by rw [refP_zero]; omega, fun j h => absurd h (by omega)⟩
  | succ k ih =>
    rw [refP_succ]
    refine ⟨by omega, fun j h => ?_⟩
    by_cases hj : j = k
    · subst hj; omega
    · have := ih.2 j (by omega); omega
theorem refP_mem (f b : List Int) (p : Nat) : ∀ k, refP f b p k = atR f p ∨ ∃ j, j < k ∧ refP f b p k = pickX f b 1 liftM p j := by
  intro k
  induction k with
  | zero => exact .inl rfl
  | succ k ih =>
    rw [refP_succ]
    by_cases h : refP f b p k ≤ pickX f b 1 liftM p k
    · exact .inr ⟨k, by omega, by omega⟩
    · rcases ih with h1 | ⟨j, hj, h1⟩
      · exact .inl (by omega)
      · exact .inr ⟨j, by omega, by omega⟩
theorem pickX_near {f b : List Int} (hf : rosOk f = true) (hb : rubOk b f.length = true) (p j : Nat) (hj : j < b.length) : -10000 ≤ pickX f b 1 liftM p j ∧ pickX f b 1 liftM p j ≤ 10000 := by
  obtain ⟨k1, k2, k3, k4, k5⟩ := rubOk_iff.1 hb
  have h4 := atR_height hf ((p : Int) + ((j : Int) - (b.length : Int) / 2))
  have h5 := k4 j hj
  rw [pickX_lift]
  simp [hj]
  omega
theorem refP_near {f b : List Int} (hf : rosOk f = true) (hb : rubOk b f.length = true) (p k : Nat) (hk : k ≤ b.length) : 0 ≤ refP f b p k ∧ refP f b p k ≤ 10000 := by
  have h1 := atR_height hf (p : Int)
  have h2 := (refP_ge f b p k).1
  rcases refP_mem f b p k with h | ⟨j, hj, h⟩
  · omega
  · have := pickX_near hf hb p j (by omega); omega
theorem refP_lift {f b : List Int} (hf : rosOk f = true) (hb : rubOk b f.length = true) (p : Nat) (hp : p < f.length) : refP f b p b.length = (liftL f b)[p]'(by rw [liftL_length]; exact hp) := by
  rw [liftL_getElem f b p hp]
  obtain ⟨k1, k2, k3, k4, k5⟩ := rubOk_iff.1 hb
  have hm := rub_mid hb
  have hX : pickX f b 1 liftM p (b.length / 2) = atR f p := by
    rw [pickX_lift, hm, show (p : Int) + (((b.length / 2 : Nat) : Int) - (b.length : Int) / 2) = (p : Int) from by omega]; omega
  obtain ⟨j, hj, he⟩ := pickN_mem b.length (pickX f b 1 liftM p) b.length (by omega)
  have h1 := (refP_ge f b p b.length).2 j hj
  have h2 : refP f b p b.length ≤ pickN b.length (pickX f b 1 liftM p) liftK b.length := by
    rcases refP_mem f b p b.length with h | ⟨i, hi, h⟩
    · rw [h, ← hX]; exact pickN_ge _ _ _ _ (by omega)
    · rw [h]; exact pickN_ge _ _ _ _ hi
  omega
theorem refL_lift {f b : List Int} (hf : rosOk f = true) (hb : rubOk b f.length = true) : (List.range f.length).map (fun p => refP f b p b.length) = liftL f b := by
  apply List.ext_getElem
  · simp [liftL_length]
  · intro p h1 h2
    rw [liftL_length] at h2
    rw [← refP_lift hf hb p h2]
    simp
end Go.Proofs.Ytaifechmeagkhaa
