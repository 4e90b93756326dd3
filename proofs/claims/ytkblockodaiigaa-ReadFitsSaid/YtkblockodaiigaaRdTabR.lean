/- The program's table of the phases that fit, plain and in memory. -/
import Derived.Test.YtkblockodaiigaaRdSimpR
namespace Go.Proofs.Ytkblockodaiigaa
set_option maxRecDepth 100000
open Go.RowKit
set_option linter.unusedVariables false
set_option linter.unusedSimpArgs false
def rowB (steps : Nat) (l : List Int) : List Bool := (List.range steps).map fun (k : Nat) => memI l (k : Int)
def tabL (steps : Nat) (L : List (List Int)) : List (List Bool) := L.map (rowB steps)
theorem rowB_length (steps : Nat) (l : List Int) : (rowB steps l).length = steps := by unfold rowB; simp
theorem tabL_length (steps : Nat) (L : List (List Int)) : (tabL steps L).length = L.length := by unfold tabL; simp
theorem rowB_get {steps : Nat} {l : List Int} {k : Nat} (h : k < (rowB steps l).length) : (rowB steps l)[k] = memI l (k : Int) := by simp [rowB]
theorem rowB_get? {steps : Nat} {l : List Int} {k : Nat} (h : k < steps) : (rowB steps l)[k]? = some (memI l (k : Int)) := by rw [List.getElem?_eq_getElem (by rw [rowB_length]; exact h), rowB_get]
theorem rowB_nil (steps : Nat) : rowB steps [] = List.replicate steps false := by
 apply List.ext_getElem
 ·rw [rowB_length]; simp
 ·intro i h1 h2; rw [rowB_get]; simp [memI]
theorem memI_snoc (l : List Int) (x k : Int) : memI (l ++ [x]) k = (memI l k || decide (x = k)) := by unfold memI; simp
theorem rowB_set {steps : Nat} {l : List Int} {x : Nat} (h : x < steps) : (rowB steps l).set x true = rowB steps (l ++ [(x : Int)]) := by
 apply List.ext_getElem
 ·rw [List.length_set, rowB_length, rowB_length]
 ·intro i h1 h2
  rw [rowB_get, List.getElem_set, memI_snoc]
  by_cases e : x = i
  ·subst e; simp
  ·rw [if_neg e, rowB_get]; simp; omega
theorem tab_take {α : Type} {l : List α} {j : Nat} (h : j < l.length) : l.take (j + 1) = l.take j ++ [l[j]] := by rw [List.take_succ_eq_append_getElem h]
theorem tabL_take {steps : Nat} {L : List (List Int)} {c : Nat} (h : c < L.length) : tabL steps (L.take (c + 1)) = tabL steps (L.take c) ++ [rowB steps L[c]] := by
 unfold tabL
 rw [tab_take h, List.map_append]
 rfl
abbrev vbool : Bool → Value := Value.bool
def GridB (w : World) (v : Value) (L : List (List Bool)) : Prop :=
 ∃ A c, v = .slice A L.length c ∧ L.length ≤ c ∧ c ≤ maxLen ∧ (A = none → c = 0) ∧
  (0 < L.length → ∃ b off, A = some ⟨b, off, none⟩ ∧ b < w.heap.size ∧ ∀ j (h : j < L.length), ∃ vr, w.cell? ⟨b, off + j, none⟩ = some vr ∧ Arr vbool w vr L[j])
theorem GridB.le {w W : World} {v : Value} {L : List (List Bool)} (h : GridB w v L) (hb : Below w.heap.size w W) : GridB W v L := by
 obtain ⟨A, c, hv, h1, h2, hN, h3⟩ := h
 refine ⟨A, c, hv, h1, h2, hN, fun h0 => ?_⟩
 obtain ⟨b, off, ha, hlt, hc⟩ := h3 h0
 refine ⟨b, off, ha, Nat.lt_of_lt_of_le hlt hb.size, fun j hj => ?_⟩
 obtain ⟨vr, c0, i0⟩ := hc j hj
 exact ⟨vr, (Below.cell hb (p := ⟨b, _, none⟩) hlt).trans c0, i0.below hb⟩
theorem GridB.at {w : World} {v : Value} {L : List (List Bool)} (h : GridB w v L) {j : Nat} (hj : j < L.length) : ∃ b off c vr, v = .slice (some ⟨b, off, none⟩) L.length c ∧ b < w.heap.size ∧ w.cell? ⟨b, off + j, none⟩ = some vr ∧ Arr vbool w vr L[j] := by
 obtain ⟨A, c, rfl, h1, h2, hN, h3⟩ := h
 obtain ⟨b, off, rfl, hlt, hc⟩ := h3 (by omega)
 obtain ⟨vr, c0, i0⟩ := hc j hj
 exact ⟨b, off, c, vr, rfl, hlt, c0, i0⟩
theorem GridB.slice {w : World} {v : Value} {L : List (List Bool)} (h : GridB w v L) : ∃ A c, v = .slice A L.length c ∧ L.length ≤ maxLen := by
 obtain ⟨A, c, rfl, h1, h2, -⟩ := h
 exact ⟨A, c, rfl, by omega⟩
theorem Arr.cellB {w : World} {v : Value} {L : List Bool} (h : Arr vbool w v L) {j : Nat} (hj : j < L.length) : ∃ b off c, v = .slice (some ⟨b, off, none⟩) L.length c ∧ w.cell? ⟨b, off + j, none⟩ = some (.bool L[j]) := by
 obtain ⟨A, c, rfl, h1, h2, hN, h3⟩ := h
 obtain ⟨b, off, rfl, hlt, hc⟩ := h3 (by omega)
 exact ⟨b, off, c, rfl, hc j hj⟩
theorem last_shift {first sum ph st : Int} (h : 0 < st) : (first + sum - ph % st + st) % st = (sum - (ph - first)) % st := by
 rw [Int.add_emod_right, show first + sum - ph % st = (first + sum) - ph % st from rfl, Int.sub_emod_emod]
 congr 1
 omega
theorem lessL_nil_left (m : List Int) : lessL [] m = false := by unfold lessL; rfl
theorem lessL_step {xs ys : List Int} {j : Nat} (hx : j < xs.length) (hy : j < ys.length) : lessL (xs.drop j) (ys.drop j) = if xs[j] = ys[j] then lessL (xs.drop (j + 1)) (ys.drop (j + 1)) else decide (xs[j] < ys[j]) := by
 rw [List.drop_eq_getElem_cons hx, List.drop_eq_getElem_cons hy]
 conv => lhs; unfold lessL
end Go.Proofs.Ytkblockodaiigaa
