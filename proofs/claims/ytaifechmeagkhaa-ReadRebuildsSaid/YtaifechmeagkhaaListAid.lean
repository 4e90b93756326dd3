/- Plain lists: a list whose first elements have been turned. -/
import Derived.Test.YtaifechmeagkhaaBox
namespace Go.Proofs.Ytaifechmeagkhaa
open Go.RowKit
set_option linter.unusedVariables false
set_option linter.unusedSimpArgs false
def part (f : Int → Int) (L : List Int) (k : Nat) : List Int := (L.take k).map f ++ L.drop k
theorem part_zero (f : Int → Int) (L : List Int) : part f L 0 = L := by simp [part]
theorem part_all (f : Int → Int) (L : List Int) : part f L L.length = L.map f := by simp [part]
theorem part_length (f : Int → Int) (L : List Int) (k : Nat) : (part f L k).length = L.length := by simp [part]; omega
theorem part_get (f : Int → Int) (L : List Int) (k : Nat) (h : k < L.length) : (part f L k)[k]? = some L[k] := by
  unfold part
  rw [List.getElem?_append_right (by simp; omega)]
  simp [show k - min k L.length = 0 by omega, h]
theorem part_set (f : Int → Int) (L : List Int) (k : Nat) (h : k < L.length) : (part f L k).set k (f L[k]) = part f L (k + 1) := by
  apply List.ext_getElem?
  intro i
  unfold part
  rw [List.getElem?_set]
  by_cases hik : k = i
  · subst hik
    rw [if_pos rfl, if_pos (by simp; omega), List.getElem?_append_left (by simp; omega)]
    simp [List.getElem?_take, h]
  · rw [if_neg hik]
    by_cases hlt : i < k
    · rw [List.getElem?_append_left (by simp; omega), List.getElem?_append_left (by simp; omega)]
      simp [List.getElem?_take, hlt, show i < k + 1 by omega]
    · rw [List.getElem?_append_right (by simp; omega), List.getElem?_append_right (by simp; omega)]
      simp only [List.length_map, List.length_take, List.getElem?_drop]
      congr 1; omega
/-- What one knows of an owned row that is not empty. -/
theorem own_form {w : World} {base : Nat} {e : TypeId} {v : Value} {n : Nat} {xs : List Value} (h : w.ownsRow base e 1 v n xs) (hn : 0 < n) :
    ∃ g c, v = .slice (some ⟨g, 0, none⟩) n c ∧ base ≤ g ∧ g < w.heap.size ∧ n ≤ c ∧ c ≤ maxLen := by
  rcases h.2 with ⟨rfl, h0⟩ | ⟨g, cap, cur, rfl, hbg, hg, hnc, hcm, hsz, htake⟩
  · omega
  · exact ⟨g, cap, rfl, hbg, (Array.getElem?_eq_some_iff.1 hg).1, hnc, hcm⟩
theorem own_drewN {w : World} {base : Nat} {e : TypeId} {size : Nat} {v : Value} {n : Nat} {xs : List Value} (h : w.ownsRow base e size v n xs) (k : Nat) : (w.drewN k).ownsRow base e size v n xs := h
/-- The cell k of an owned row of numbers. -/
theorem own_cell {w : World} {base : Nat} {e : TypeId} {g c n : Nat} {L : List Int} (h : w.ownsRow base e 1 (.slice (some ⟨g, 0, none⟩) n c) n (L.map vint)) (hn : L.length = n) {k : Nat} {x : Int} (hk : L[k]? = some x) : w.cell? ⟨g, k, none⟩ = some (.int .i64 x) := by
  have hlt : k < L.length := (List.getElem?_eq_some_iff.1 hk).1
  rw [h.cellAt k (by omega)]
  simp [hk]
/-- A store into an owned row of numbers. -/
theorem own_put {w : World} {base : Nat} {e : TypeId} {g c n : Nat} {L : List Int} (h : w.ownsRow base e 1 (.slice (some ⟨g, 0, none⟩) n c) n (L.map vint)) (k : Nat) (y : Int) :
    (w.setCell ⟨g, k, none⟩ (.int .i64 y)).ownsRow base e 1 (.slice (some ⟨g, 0, none⟩) n c) n ((L.set k y).map vint) := by
  have h1 := (h.stored k (.int .i64 y)).1
  rw [List.map_set]; exact h1
theorem set_apart {B g : Nat} (hne : B ≠ g) (W : World) (k o : Nat) (u : Value) : (W.setCell ⟨g, k, none⟩ u).cell? ⟨B, o, none⟩ = W.cell? ⟨B, o, none⟩ := World.cell?_of_block (Below.heap_setCell _ _ _ _ hne)
theorem own_apart {w : World} {base : Nat} {e : TypeId} {size : Nat} {v : Value} {n : Nat} {xs : List Value} (h : w.ownsRow base e size v n xs) {B k : Nat} (hB : B < base) (u : Value) : (w.setCell ⟨B, k, none⟩ u).ownsRow base e size v n xs := by
  refine ⟨h.1, ?_⟩
  rcases h.2 with h' | ⟨g, cap, cur, hv', hbg, hh, r⟩
  · exact Or.inl h'
  · exact Or.inr ⟨g, cap, cur, hv', hbg, (Below.heap_setCell _ _ _ _ (by show g ≠ B; omega)).trans hh, r⟩
/-- An owned row behind an append to another row, which was made later. -/
theorem own_past {w w2 : World} {base e size n row : Nat} {v : Value} {xs : List Value} (h : w.ownsRow base e size v n xs) (hg : w.grownBy w2 (some row)) (hr : w.heap.size ≤ row ∨ v.ownBlock ≠ some row) : w2.ownsRow base e size v n xs :=
  h.kept hg (by
    by_cases hn : v.ownBlock = none
    · exact .inl hn
    · refine .inr fun he => ?_
      rcases hr with hr | hr
      · have := (h.lt _ he).2; omega
      · exact hr he)
theorem own_formS {w : World} {base : Nat} {e : TypeId} {v : Value} {n : Nat} {xs : List Value} (h : w.ownsRow base e 1 v n xs) (hn : v.ownBlock ≠ none) : ∃ g c, v = .slice (some ⟨g, 0, none⟩) n c ∧ base ≤ g ∧ g < w.heap.size ∧ n ≤ c ∧ c ≤ maxLen := by
  rcases h.2 with ⟨rfl, h0⟩ | ⟨g, cap, cur, rfl, hbg, hg, hnc, hcm, hsz, htake⟩
  · exact absurd rfl hn
  · exact ⟨g, cap, rfl, hbg, (Array.getElem?_eq_some_iff.1 hg).1, hnc, hcm⟩
/-- A box apart from a store. -/
theorem Box.set {w : World} {B : Nat} {a : Obj} {w1 : World} (h : Box w B a w1) {g k : Nat} (hg : w.heap.size ≤ g) (hB : B ≠ g) (u : Value) : Box w B a (w1.setCell ⟨g, k, none⟩ u) :=
  ⟨h.below.setCell (p := ⟨g, k, none⟩) hg u, (Below.heap_setCell _ _ _ _ hB).trans h.block⟩
end Go.Proofs.Ytaifechmeagkhaa
