/- From what a row's opening gives of a fraction (a struct of two structs) to the predicate that the contracts speak of. -/
import Derived.Test.YtlhfonhbbpbmpaaGreatFrIn
import Derived.Test.YtlhfonhbbpbmpaaGreatRowKit1
import Derived.Lib.SmallJoins
namespace Go.Proofs.YtlhfonhbbpbmpaaGreat
set_option maxRecDepth 100000
open Go.RowKit Go.ChangeShapes Go.WideShapes Go.Deep
set_option linter.unusedVariables false
theorem qLm {n : Int} (h : (Lit.int .u32 n).wf = true) : 0 ≤ n ∧ n < 4294967296 := by
 have h1 : IntKind.u32.min ≤ n ∧ n ≤ IntKind.u32.max := by simpa [Lit.wf] using h
 have e1 : IntKind.u32.min = 0 := by kernel_rfl
 have e2 : IntKind.u32.max = 4294967295 := by kernel_rfl
 rw [e1, e2] at h1
 omega
theorem qLF {w : World} {v : Value} {zs : List Int} (h : Arr (Value.int .u32) w v zs) (hz : ∀ n ∈ zs, (Lit.int .u32 n).wf = true) : ArrL (fun _ => True) (gv .u32) w v (zs.map Int.toNat) := by
 obtain ⟨A, c, hv, h1, h2, hN, h3⟩ := h
 refine ⟨A, c, by rw [hv, List.length_map], by rw [List.length_map]; exact h1, h2, hN, fun h0 => ?_⟩
 rw [List.length_map] at h0
 obtain ⟨b, off, ha, hlt, hc⟩ := h3 h0
 refine ⟨b, off, ha, trivial, hlt, fun j hj => ?_⟩
 have hj2 : j < zs.length := by simpa using hj
 rw [hc j hj2]
 have := (qLm (hz _ (List.getElem_mem hj2))).1
 unfold gv
 rw [List.getElem_map, Int.toNat_of_nonneg this]
section
variable {H : Type} {enc : TypeId × Value → H} {w : World} {n : Nat}
theorem qI0 {v : Value} {y : DataW H × List MemPlace} (h : DataW.trod enc Tryz.prog w 0 (fun _ => true) true n 23 [v] = some y) : ∃ gs : List Nat, ArrL (fun _ => True) (gv .u32) w v gs := by
 rcases open_ints Tryz.underlying23 Tryz.underlying137 (by kernel_rfl) h with ⟨hcs, _⟩ | ⟨x, l, c, zs, hcs, _, hl, hm, hz, _, hcell, hwz⟩
 ·obtain rfl : v = .slice none 0 0 := by simpa using hcs
  exact ⟨[], none, 0, rfl, Nat.le_refl _, Nat.zero_le _, fun _ => rfl, fun h => absurd h (Nat.lt_irrefl 0)⟩
 ·obtain rfl : v = .slice (some x) l c := by simpa using hcs
  have := InRow.arr (k := .u32) (.inr ⟨_, rfl, hl, hm, by simpa using hz, hcell, hwz⟩)
  exact ⟨_, qLF this.1 this.2⟩
theorem qGZ {v0 v1 : Value} {y : DataW H × List MemPlace} (h : DataW.trod enc Tryz.prog w 0 (fun _ => true) true n 25 [v0, v1] = some y) : ∃ (s : Bool) (gs : List Nat), v0 = .bool s ∧ ArrL (fun _ => True) (gv .u32) w v1 gs := by
 obtain ⟨xs, m, -, -, -, hlen, hg⟩ := DataW.trod_struct Tryz.underlying25 h
 obtain ⟨y0, hy0⟩ : ∃ y, xs[0]? = some y := ⟨_, List.getElem?_eq_getElem (by rw [hlen]; decide)⟩
 obtain ⟨y1, hy1⟩ : ∃ y, xs[1]? = some y := ⟨_, List.getElem?_eq_getElem (by rw [hlen]; decide)⟩
 have g0 := (hg 0 _ rfl).trans hy0
 have g1 := (hg 1 _ rfl).trans hy1
 obtain ⟨s, e, -⟩ := DataW.trod_bool (cs := [v0]) Tryz.underlying4 g0
 obtain ⟨gs, ha⟩ := qI0 (v := v1) g1
 exact ⟨s, gs, by simpa using e, ha⟩
end
end Go.Proofs.YtlhfonhbbpbmpaaGreat

