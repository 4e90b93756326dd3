/- reference 1: numbers of 0 or more in groups: cut, order, group. reference 1: numbers of 0 or more in groups: sum, less. reference 1: numbers of 0 or more in groups: product, shifted. reference 1: numbers of 0 or more in groups: parts, common. -/
import Derived.Test.YtbikpadjmmgpcaaOver2
import Derived.Deep.QuietTactic
import Derived.BigQuiet
import Derived.IntWalk
import Derived.Lib.Hide
namespace Go.Proofs.Ytbikpadjmmgpcaa
open Go.RowKit Go.Shelf
set_option linter.unusedVariables false
set_option linter.unusedSimpArgs false
theorem elemG64 : Elem1 Try.prog 22 3 (.int .i64 0) 8 := ⟨Try.underlying22, by kernel_rfl, rfl⟩
def ordI (a b : Nat) : Int := if a < b then -1 else if a = b then 0 else 1
theorem ordI_nonneg {a b : Nat} : 0 ≤ ordI a b ↔ b ≤ a := by unfold ordI; by_cases h : a < b <;> by_cases h2 : a = b <;> simp [h, h2] <;> omega
theorem ordI_zero {a b : Nat} : ordI a b = 0 ↔ a = b := by unfold ordI; by_cases h : a < b <;> by_cases h2 : a = b <;> simp [h, h2] <;> omega
theorem ordI_bounds (a b : Nat) : -1 ≤ ordI a b ∧ ordI a b ≤ 1 := by unfold ordI; by_cases h : a < b <;> by_cases h2 : a = b <;> simp [h, h2] <;> omega
end Go.Proofs.Ytbikpadjmmgpcaa
namespace Go.Proofs.Ytbikpadjmmgpcaa
open Go.RowKit Go.Shelf
set_option linter.unusedVariables false
set_option linter.unusedSimpArgs false
theorem Le.quiet {w : World} (n : Nat) : Le w (w.drewN n) := below_drewN' (Below.refl _ _) n
end Go.Proofs.Ytbikpadjmmgpcaa
namespace Go.Proofs.Ytbikpadjmmgpcaa
open Go.RowKit Go.Shelf
set_option linter.unusedVariables false
set_option linter.unusedSimpArgs false
end Go.Proofs.Ytbikpadjmmgpcaa
namespace Go.Proofs.Ytbikpadjmmgpcaa
open Go.RowKit Go.Shelf
set_option linter.unusedVariables false
set_option linter.unusedSimpArgs false
open Classical in
/-- The number that a slice reads as, groups of any kind. -/
noncomputable def numOfK (k : IntKind) (w : World) (v : Value) : Nat := if h : ∃ n, NumL (fun _ => True) k w v n then h.choose else 0
theorem numOfK_eq {L : Nat → Prop} {k : IntKind} {w : World} {v : Value} {n : Nat} (h : NumL L k w v n) : numOfK k w v = n := by
  have h1 : ∃ n, NumL (fun _ => True) k w v n := ⟨n, ArrL.mono h fun _ _ => trivial⟩
  unfold numOfK
  rw [dif_pos h1]
  exact h1.choose_spec.unique h
theorem numL_newg {L : Nat → Prop} {k : IntKind} {V : World} {g : Nat} (hL : ∀ b, V.heap.size ≤ b → L b) (h0 : 0 < g) (hB : g < B9) (t : TypeId) : NumL L k (V.alloc (.cells #[.int k g] t)) (.slice (some ⟨V.heap.size, 0, none⟩) 1 1) g := by
  unfold NumL
  rw [dg_lt hB (by omega)]
  refine ⟨some ⟨V.heap.size, 0, none⟩, 1, rfl, Nat.le_refl _, by unfold maxLen; omega, nofun, fun _ => ⟨V.heap.size, 0, rfl, hL _ (Nat.le_refl _), by unfold World.alloc; show V.heap.size < (V.heap.push _).size; rw [Array.size_push]; omega, fun j hj => ?_⟩⟩
  have hj0 : j = 0 := by simpa using hj
  subst hj0
  exact cell_of_row _ _ _ #[.int k g] t (0, 0) (by unfold World.alloc; exact Array.getElem?_push_size)
/-- What is known of a number's top groups. -/
theorem NumL.top {L : Nat → Prop} {k : IntKind} {w : World} {A : Option Addr} {n c x : Nat} (h : NumL L k w (.slice A n c) x) : n = (dg x).length ∧ ∀ i (hi : i < (dg x).length), ∃ b off, A = some ⟨b, off, none⟩ ∧ w.cell? ⟨b, off + i, none⟩ = some (gv k (dg x)[i]) := by
  obtain ⟨A', c', hv, h1, h2, hN, h3⟩ := h
  injection hv with e1 e2 e3
  subst e1 e3
  refine ⟨e2, fun i hi => ?_⟩
  obtain ⟨b, off, ha, -, -, hc⟩ := h3 (by omega)
  exact ⟨b, off, ha, hc i hi⟩
theorem parts_oneD {a b A C R N : Nat} (hb : 0 < b) (hab : b ≤ a) (hR : (dg a).length = R) (hN : (dg b).length = N) (h0 : 0 < N) (hA : (dg a).getD (R - 1) 0 = A) (hC : (dg b).getD (N - 1) 0 = C) (hc : ¬ (A ≤ C ∧ N < R)) :
    0 < max (A / (C + 1)) 1 ∧ max (A / (C + 1)) 1 < B9 ∧ b * B9 ^ (R - N) * max (A / (C + 1)) 1 ≤ a := by
  have hlen : (dg b).length ≤ (dg a).length := dg_length_mono hab
  subst hR hN
  have eA : (dg a)[(dg a).length - 1]'(by omega) = A := by rw [← hA, getD_of_lt (by omega)]
  have eC : (dg b)[(dg b).length - 1]'(by omega) = C := by rw [← hC, getD_of_lt (by omega)]
  have h := parts_one hb hab (by omega) h0 (by rw [eA, eC]; exact hc) _ rfl
  rw [eA, eC] at h
  exact h
theorem parts_twoD {a b A A2 C R N : Nat} (hb : 0 < b) (hab : b ≤ a) (hR : (dg a).length = R) (hN : (dg b).length = N) (h0 : 0 < N) (hA : (dg a).getD (R - 1) 0 = A) (hA2 : (dg a).getD (R - 2) 0 = A2) (hC : (dg b).getD (N - 1) 0 = C) (hc1 : A ≤ C) (hc2 : N < R) :
    0 < max ((A * B9 + A2) / (C + 1)) 1 ∧ max ((A * B9 + A2) / (C + 1)) 1 < B9 ∧ b * B9 ^ (R - N - 1) * max ((A * B9 + A2) / (C + 1)) 1 ≤ a := by
  subst hR hN
  have eA : (dg a)[(dg a).length - 1]'(by omega) = A := by rw [← hA, getD_of_lt (by omega)]
  have eA2 : (dg a)[(dg a).length - 2]'(by omega) = A2 := by rw [← hA2, getD_of_lt (by omega)]
  have eC : (dg b)[(dg b).length - 1]'(by omega) = C := by rw [← hC, getD_of_lt (by omega)]
  have h := parts_two hb hab (by omega) h0 (by rw [eA, eC]; exact hc1) hc2 _ rfl
  rw [eA, eA2, eC] at h
  exact h

end Go.Proofs.Ytbikpadjmmgpcaa
