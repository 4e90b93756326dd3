/- From what a row's opening gives of a turning number (four api.Whole) to the predicate that the contracts speak of. -/
import Derived.Test.YtlhfonhbbpbmpaaGreatOpenFrac
import Derived.Test.YtlhfonhbbpbmpaaGreatTurnKit
namespace Go.Proofs.YtlhfonhbbpbmpaaGreat
set_option maxRecDepth 100000
open Go.RowKit Go.ChangeShapes Go.WideShapes Go.Deep
set_option linter.unusedVariables false
theorem qJr {w : World} {v0 v1 v2 v3 v4 v5 v6 v7 : Value} {a b : FracA} (h1 : IsFracA (fun _ => True) w (.agg #[v0, v1, v2, v3]) a) (h2 : IsFracA (fun _ => True) w (.agg #[v4, v5, v6, v7]) b) : IsTurnA w (.agg #[v0, v1, v2, v3, v4, v5, v6, v7]) (a, b) := by
 obtain ⟨A, c, B, d, e1, p1, p2⟩ := h1
 obtain ⟨A', c', B', d', e2, q1, q2⟩ := h2
 injection e1 with e1
 injection e2 with e2
 simp only [Array.mk.injEq, List.cons.injEq, and_true] at e1 e2
 obtain ⟨a1, a2, a3, a4⟩ := e1
 obtain ⟨b1, b2, b3, b4⟩ := e2
 subst a1 a2 a3 a4 b1 b2 b3 b4
 exact ⟨_, _, _, _, _, _, _, _, rfl, ⟨_, _, _, _, rfl, p1, p2⟩, ⟨_, _, _, _, rfl, q1, q2⟩⟩
section
variable {H : Type} {enc : TypeId × Value → H} {w : World} {n : Nat}
theorem qDd {v0 v1 v2 v3 : Value} {y : DataW H × List MemPlace} (h : DataW.trod enc Tryz.prog w 0 (fun _ => true) true n 27 [v0, v1, v2, v3] = some y) : ∃ a : FracA, IsFracA (fun _ => True) w (.agg #[v0, v1, v2, v3]) a := by
 obtain ⟨xs, m, -, -, -, hlen, hg⟩ := DataW.trod_struct Tryz.underlying27 h
 obtain ⟨y0, hy0⟩ : ∃ y, xs[0]? = some y := ⟨_, List.getElem?_eq_getElem (by rw [hlen]; decide)⟩
 obtain ⟨y1, hy1⟩ : ∃ y, xs[1]? = some y := ⟨_, List.getElem?_eq_getElem (by rw [hlen]; decide)⟩
 have g0 := (hg 0 _ rfl).trans hy0
 have g1 := (hg 1 _ rfl).trans hy1
 obtain ⟨s, gn, rfl, ha⟩ := qGZ (v0 := v0) (v1 := v1) g0
 obtain ⟨s', gd, rfl, hb⟩ := qGZ (v0 := v2) (v1 := v3) g1
 obtain ⟨A, c, e1, -⟩ := id ha
 obtain ⟨B, c', e3, -⟩ := id hb
 subst e1 e3
 exact ⟨⟨s, gn, s', gd⟩, A, c, B, c', rfl, ha, hb⟩
theorem open_turn {r : Reach} {b0 : Nat} {v : Value} {d : DataW H} {p : List MemPlace} (hv : Value.okWide Tryz.prog w r b0 29 v) (h : DataW.Trod enc Tryz.prog w 0 (fun _ => true) true 29 v d p) :
  ∃ a : FracA × FracA, IsTurnA w v a := by
 obtain ⟨cs, rfl, hsz⟩ := okWide_struct Tryz.underlying29 hv
 obtain ⟨fuel, hf⟩ := h
 obtain ⟨xs, m, -, -, -, hlen, hg⟩ := DataW.trod_struct Tryz.underlying29 hf
 obtain ⟨l, rfl⟩ : ∃ l : List Value, cs = l.toArray := ⟨cs.toList, by simp⟩
 have hl : l.length = 8 := by
  have : Tryz.prog.cellsOf 29 = 8 := by kernel_rfl
  rw [this] at hsz
  simpa using hsz
 match l, hl with
 | [v0, v1, v2, v3, v4, v5, v6, v7], _ =>
  obtain ⟨y0, hy0⟩ : ∃ y, xs[0]? = some y := ⟨_, List.getElem?_eq_getElem (by rw [hlen]; decide)⟩
  obtain ⟨y1, hy1⟩ : ∃ y, xs[1]? = some y := ⟨_, List.getElem?_eq_getElem (by rw [hlen]; decide)⟩
  have g0 := (hg 0 _ rfl).trans hy0
  have g1 := (hg 1 _ rfl).trans hy1
  obtain ⟨a, ha⟩ := qDd (v0 := v0) (v1 := v1) (v2 := v2) (v3 := v3) g0
  obtain ⟨b, hb⟩ := qDd (v0 := v4) (v1 := v5) (v2 := v6) (v3 := v7) g1
  exact ⟨(a, b), qJr ha hb⟩
end
end Go.Proofs.YtlhfonhbbpbmpaaGreat

