/- From what a row's opening gives of a fraction (a struct of two structs) to the predicate that the contracts speak of. -/
import Derived.Test.YtbikpadjmmgpcaaGreatFrIn
import Derived.Test.YtbikpadjmmgpcaaGreatRowKit1
import Derived.Lib.SmallJoins
namespace Go.Proofs.YtbikpadjmmgpcaaGreat
open Go.RowKit Go.ChangeShapes Go.WideShapes Go.Deep
set_option linter.unusedVariables false
theorem wf_u32 {n : Int} (h : (Lit.int .u32 n).wf = true) : 0 ≤ n ∧ n < 4294967296 := by
  have h1 : IntKind.u32.min ≤ n ∧ n ≤ IntKind.u32.max := by simpa [Lit.wf] using h
  have e1 : IntKind.u32.min = 0 := by kernel_rfl
  have e2 : IntKind.u32.max = 4294967295 := by kernel_rfl
  rw [e1, e2] at h1
  omega
theorem arr_arrL {w : World} {v : Value} {zs : List Int} (h : Arr (Value.int .u32) w v zs) (hz : ∀ n ∈ zs, (Lit.int .u32 n).wf = true) : ArrL (fun _ => True) (gv .u32) w v (zs.map Int.toNat) := by
  obtain ⟨A, c, hv, h1, h2, hN, h3⟩ := h
  refine ⟨A, c, by rw [hv, List.length_map], by rw [List.length_map]; exact h1, h2, hN, fun h0 => ?_⟩
  rw [List.length_map] at h0
  obtain ⟨b, off, ha, hlt, hc⟩ := h3 h0
  refine ⟨b, off, ha, trivial, hlt, fun j hj => ?_⟩
  have hj2 : j < zs.length := by simpa using hj
  rw [hc j hj2]
  have := (wf_u32 (hz _ (List.getElem_mem hj2))).1
  unfold gv
  rw [List.getElem_map, Int.toNat_of_nonneg this]
section
variable {H : Type} {enc : TypeId × Value → H} {w : World} {n : Nat}
theorem field_groups {v : Value} {y : DataW H × List MemPlace} (h : DataW.trod enc Tryz.prog w 0 (fun _ => true) true n 30 [v] = some y) : ∃ gs : List Nat, ArrL (fun _ => True) (gv .u32) w v gs := by
  rcases open_ints Tryz.underlying30 Tryz.underlying90 (by kernel_rfl) h with ⟨hcs, _⟩ | ⟨x, l, c, zs, hcs, _, hl, hm, hz, _, hcell, hwz⟩
  · obtain rfl : v = .slice none 0 0 := by simpa using hcs
    exact ⟨[], none, 0, rfl, Nat.le_refl _, Nat.zero_le _, fun _ => rfl, fun h => absurd h (Nat.lt_irrefl 0)⟩
  · obtain rfl : v = .slice (some x) l c := by simpa using hcs
    have := InRow.arr (k := .u32) (.inr ⟨_, rfl, hl, hm, by simpa using hz, hcell, hwz⟩)
    exact ⟨_, arr_arrL this.1 this.2⟩
set_option maxRecDepth 100000 in
theorem open_whole {v0 v1 : Value} {y : DataW H × List MemPlace} (h : DataW.trod enc Tryz.prog w 0 (fun _ => true) true n 32 [v0, v1] = some y) : ∃ (s : Bool) (gs : List Nat), v0 = .bool s ∧ ArrL (fun _ => True) (gv .u32) w v1 gs := by
  obtain ⟨xs, m, -, -, -, hlen, hg⟩ := DataW.trod_struct Tryz.underlying32 h
  obtain ⟨y0, hy0⟩ : ∃ y, xs[0]? = some y := ⟨_, List.getElem?_eq_getElem (by rw [hlen]; decide)⟩
  obtain ⟨y1, hy1⟩ : ∃ y, xs[1]? = some y := ⟨_, List.getElem?_eq_getElem (by rw [hlen]; decide)⟩
  have g0 := (hg 0 _ rfl).trans hy0
  have g1 := (hg 1 _ rfl).trans hy1
  obtain ⟨s, e, -⟩ := DataW.trod_bool (cs := [v0]) Tryz.underlying4 g0
  obtain ⟨gs, ha⟩ := field_groups (v := v1) g1
  exact ⟨s, gs, by simpa using e, ha⟩
set_option maxRecDepth 100000 in
theorem open_frac {r : Reach} {b0 : Nat} {v : Value} {d : DataW H} {p : List MemPlace} (hv : Value.okWide Tryz.prog w r b0 34 v) (h : DataW.Trod enc Tryz.prog w 0 (fun _ => true) true 34 v d p) :
    ∃ a : FracA, IsFracA (fun _ => True) w v a := by
  obtain ⟨cs, rfl, hsz⟩ := okWide_struct Tryz.underlying34 hv
  obtain ⟨fuel, hf⟩ := h
  obtain ⟨xs, m, -, -, -, hlen, hg⟩ := DataW.trod_struct Tryz.underlying34 hf
  obtain ⟨l, rfl⟩ : ∃ l : List Value, cs = l.toArray := ⟨cs.toList, by simp⟩
  have hl : l.length = 4 := by
    have : Tryz.prog.cellsOf 34 = 4 := by kernel_rfl
    rw [this] at hsz
    simpa using hsz
  match l, hl with
  | [v0, v1, v2, v3], _ =>
    obtain ⟨y0, hy0⟩ : ∃ y, xs[0]? = some y := ⟨_, List.getElem?_eq_getElem (by rw [hlen]; decide)⟩
    obtain ⟨y1, hy1⟩ : ∃ y, xs[1]? = some y := ⟨_, List.getElem?_eq_getElem (by rw [hlen]; decide)⟩
    have g0 := (hg 0 _ rfl).trans hy0
    have g1 := (hg 1 _ rfl).trans hy1
    obtain ⟨s, gn, rfl, ha⟩ := open_whole (v0 := v0) (v1 := v1) g0
    obtain ⟨s', gd, rfl, hb⟩ := open_whole (v0 := v2) (v1 := v3) g1
    obtain ⟨A, c, e1, -⟩ := id ha
    obtain ⟨B, c', e3, -⟩ := id hb
    subst e1 e3
    exact ⟨⟨s, gn, s', gd⟩, A, c, B, c', rfl, ha, hb⟩
end
end Go.Proofs.YtbikpadjmmgpcaaGreat
