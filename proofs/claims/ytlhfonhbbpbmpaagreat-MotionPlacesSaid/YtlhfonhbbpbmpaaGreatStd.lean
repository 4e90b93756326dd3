/- Contracts of the functions of package slices at []int that the program uses. More of package slices at []int: Grow, Concat, Equal. Numbers counted around: the three texts of one function. -/
import Derived.Test.YtlhfonhbbpbmpaaGreatBase
import Derived.Lib.AppendZeros
namespace Go.Proofs.YtlhfonhbbpbmpaaGreat
set_option maxRecDepth 100000
open Go.RowKit

def idx {α : Type} (p : α → Bool) (zs : List α) : Int := match zs.findIdx? p with | some k => k | none => -1
theorem qL0 {α : Type} (p : α → Bool) (zs : List α) (k : Nat) (h : k < zs.length) (hp : p zs[k] = true) (hn : ∀ j (h : j < zs.length), j < k → p zs[j] = false) : (k : Int) = idx p zs := by
 have : zs.findIdx? p = some k := by
  rw [List.findIdx?_eq_some_iff_getElem]
  exact ⟨h, hp, fun j hj => by have := hn j (by omega) hj; simp [this]⟩
 unfold idx; rw [this]
theorem qKt {α : Type} (p : α → Bool) (zs : List α) (hn : ∀ j (h : j < zs.length), p zs[j] = false) : (-1 : Int) = idx p zs := by
 have : zs.findIdx? p = none := by
  rw [List.findIdx?_eq_none_iff]
  intro x hx
  obtain ⟨j, hj, rfl⟩ := List.mem_iff_getElem.1 hx
  exact hn j hj
 unfold idx; rw [this]
theorem qL1 {α : Type} (p : α → Bool) (zs : List α) : decide (0 ≤ idx p zs) = zs.any p := by
 unfold idx
 cases h : zs.findIdx? p with
 | none =>
  rw [List.findIdx?_eq_none_iff] at h
  have : zs.any p = false := by simp only [List.any_eq_false]; intro x hx; simp [h x hx]
  simp [this]
 | some k =>
  rw [List.findIdx?_eq_some_iff_getElem] at h
  obtain ⟨hk, hp, _⟩ := h
  have : zs.any p = true := List.any_eq_true.2 ⟨_, List.getElem_mem hk, hp⟩
  simp [this]

set_option linter.unusedVariables false
set_option linter.unusedSimpArgs false
end Go.Proofs.YtlhfonhbbpbmpaaGreat

