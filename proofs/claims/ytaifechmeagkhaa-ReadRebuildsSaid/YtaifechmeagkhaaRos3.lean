/- Contracts of package rosette: turned, matches, Period. -/
import Derived.Test.YtaifechmeagkhaaRos2
namespace Go.Proofs.Ytaifechmeagkhaa
open Go.RowKit
set_option linter.unusedVariables false
set_option linter.unusedSimpArgs false

def turnL (f : List Int) (s : Nat) : List Int := f.drop (f.length - s) ++ f.take (f.length - s)
theorem turnL_length (f : List Int) (s : Nat) : (turnL f s).length = f.length := by simp [turnL]
theorem one_two (w : World) (x y : Value) (e : TypeId) : Arr id (w.alloc (.cells #[x, y] e)).drew (.slice (some ⟨w.heap.size, 0, none⟩) 2 2) [x, y] :=
  ⟨some ⟨w.heap.size, 0, none⟩, 2, rfl, by simp, by simp [maxLen], fun h => by simp at h, fun _ => ⟨w.heap.size, 0, rfl, by simp [World.drew], fun j hj => by
    have h : (w.alloc (.cells #[x, y] e)).cell? ⟨w.heap.size, 0 + j, none⟩ = some (id [x, y][j]) := by
      rw [World.cell?_alloc_at _ _ _ _ rfl, Nat.zero_add]
      simp at hj
      rw [Array.getElem?_eq_getElem (by simpa using hj)]
      simp
    exact h⟩⟩
def matchesN (f g : List Int) (k : Nat) : List Nat := (List.range k).filter fun s => turnL f s == g
def matchesI (f g : List Int) (k : Nat) : List Int := (matchesN f g k).map fun (s : Nat) => (s : Int)
theorem matchesI_hit (f g : List Int) (k : Nat) (h : (turnL f k == g) = true) : matchesI f g (k + 1) = matchesI f g k ++ [(k : Int)] := by
  simp [matchesI, matchesN, List.range_succ, List.filter_append, h]
theorem matchesI_miss (f g : List Int) (k : Nat) (h : (turnL f k == g) = false) : matchesI f g (k + 1) = matchesI f g k := by
  simp [matchesI, matchesN, List.range_succ, List.filter_append, h]
theorem matchesI_le (f g : List Int) (k : Nat) : (matchesI f g k).length ≤ k := by
  have := List.length_filter_le (fun s => turnL f s == g) (List.range k)
  simpa [matchesI, matchesN] using this
theorem turnL_zero (f : List Int) : turnL f 0 = f := by simp [turnL]
theorem matches_pos (f : List Int) (h : 0 < f.length) : 0 < (matchesI f f f.length).length := by
  have : 0 ∈ matchesN f f f.length := by simp [matchesN, turnL_zero, h]
  have h2 := List.length_pos_of_mem this
  simpa [matchesI] using h2
def periodL (f : List Int) : Nat := f.length / (matchesI f f f.length).length
end Go.Proofs.Ytaifechmeagkhaa
