/- reference 1: fractions: Order. reference 1: fractions: written. reference 1: fractions: Out. -/
import Derived.Test.YtbikpadjmmgpcaaRQ1
import Derived.Test.YtbikpadjmmgpcaaFrIn
namespace Go.Proofs.Ytbikpadjmmgpcaa
open Go.RowKit Go.Shelf
set_option linter.unusedVariables false
set_option linter.unusedSimpArgs false
theorem new2_le (w : World) (o0 o1 : Obj) : ∃ W0, (w.alloc o0).alloc o1 = W0 ∧ W0.heap.size = w.heap.size + 2 ∧ Le w W0 ∧ W0.heap[w.heap.size]? = some o0 ∧ W0.heap[w.heap.size + 1]? = some o1 := by
  obtain ⟨h1, h2, h3⟩ := box2_le (Le.refl ((w.alloc o0).alloc o1))
  exact ⟨_, rfl, by simp, h1, h2, h3⟩
end Go.Proofs.Ytbikpadjmmgpcaa
namespace Go.Proofs.Ytbikpadjmmgpcaa
open Go.RowKit Go.Shelf
set_option linter.unusedVariables false
set_option linter.unusedSimpArgs false
theorem elemS32 : Elem1 Try.prog 25 91 (.int .u32 0) 4 := ⟨Try.underlying25, by kernel_rfl, rfl⟩
theorem cells2 {W : World} {X : Nat} {v0 v1 : Value} {t : TypeId} (h : W.heap[X]? = some (Obj.cells #[v0, v1] t)) : W.cell? ⟨X, 0, none⟩ = some v0 ∧ W.cell? ⟨X, 1, none⟩ = some v1 :=
  ⟨cell_of_row W X 0 _ _ _ h, cell_of_row W X 1 _ _ _ h⟩
theorem heap_set_at1 {W : World} {X : Nat} {v0 v1 u : Value} {t : TypeId} (h : W.heap[X]? = some (Obj.cells #[v0, v1] t)) : (W.setCell ⟨X, 1, none⟩ u).heap[X]? = some (.cells #[v0, u] t) := by
  simp only [World.setCell, Array.getElem?_modify, h]
  simp
theorem heap_set2 {W : World} {X : Nat} {v0 v1 u0 u1 : Value} {t : TypeId} (h : W.heap[X]? = some (Obj.cells #[v0, v1] t)) : ((W.setCell ⟨X, 0, none⟩ u0).setCell ⟨X, 1, none⟩ u1).heap[X]? = some (.cells #[u0, u1] t) := by
  simp only [World.setCell, Array.getElem?_modify, h]
  simp
theorem own_put_other {w : World} {base : Nat} {e : TypeId} {v : Value} {n : Nat} {xs : List Value} (h : w.ownsRow base e 1 v n xs) {b o : Nat} (hb : b < base) (u : Value) : (w.setCell ⟨b, o, none⟩ u).ownsRow base e 1 v n xs := by
  obtain ⟨h1, h2⟩ := h
  refine ⟨h1, ?_⟩
  rcases h2 with h2 | ⟨g, cap, cur, hv, hg, hh, r⟩
  · exact Or.inl h2
  · exact Or.inr ⟨g, cap, cur, hv, hg, (Below.heap_setCell _ _ _ _ (show g ≠ b by omega)).trans hh, r⟩
structure WrG (base : Nat) (e : TypeId) (s : Value) (pre : List Nat) (g : Nat) (D : Nat → Bool) (x : Nat → Value) (W : World) : Prop where
  own : D 8 = false → W.ownsRow base e 1 s pre.length (pre.map (gv .u32))
  one : D 7 = true → Arr (gv .u32) W (x 7) [g] ∨ D 8 = true
  done : D 8 = true → W.ownsRow base e 1 (x 8) (pre ++ [g]).length ((pre ++ [g]).map (gv .u32))
theorem WrG.quiet {base : Nat} {e : TypeId} {s : Value} {pre : List Nat} {g : Nat} {D : Nat → Bool} {x : Nat → Value} {W W' : World} {i : Nat} {v : Value} (h : WrG base e s pre g D x W) (hle : Le W W') (h7 : i ≠ 7) (h8 : i ≠ 8) : WrG base e s pre g (updB D i) (updV x i v) W' := by
  have e7 : ∀ j, j ≠ i → updB D i j = D j := fun j hj => by simp [updB, hj]
  have e8 : ∀ j, j ≠ i → updV x i v j = x j := fun j hj => by simp [updV, hj]
  refine ⟨?_, ?_, ?_⟩
  · rw [e7 8 (Ne.symm h8)]; exact fun hd => own_below (h.own hd) hle
  · rw [e7 7 (Ne.symm h7), e8 7 (Ne.symm h7), e7 8 (Ne.symm h8)]; exact fun hd => (h.one hd).imp (fun k => k.below hle) id
  · rw [e7 8 (Ne.symm h8), e8 8 (Ne.symm h8)]; exact fun hd => own_below (h.done hd) hle
end Go.Proofs.Ytbikpadjmmgpcaa
namespace Go.Proofs.Ytbikpadjmmgpcaa
open Go.RowKit Go.Shelf
set_option linter.unusedVariables false
set_option linter.unusedSimpArgs false
def zeroF : Value := .agg #[.bool false, .slice none 0 0, .bool false, .slice none 0 0]
def OutPost (L : Nat → Prop) (r : Rat) (w : World) (e : Ending) (w' : World) : Prop := Le w w' ∧ ((Rsz r 40 ∧ ∃ v, e = .returned (.tuple #[v, .int .i64 0]) ∧ FracL L w' v r) ∨ (¬ Rsz r 40 ∧ e = .returned (.tuple #[zeroF, .int .i64 12])))
def WholeU (L : Nat → Prop) (w : World) (v : Value) (s : Bool) (n : Nat) : Prop := ∃ A c, v = .agg #[.bool s, .slice A (dg n).length c] ∧ NumU L w (.slice A (dg n).length c) n
theorem FracL.le {L : Nat → Prop} {w W : World} {v : Value} {r : Rat} (h : FracL L w v r) (hb : Le w W) : FracL L W v r := by
  obtain ⟨A, c, B, d, e, h1, h2⟩ := h
  exact ⟨A, c, B, d, e, h1.le hb, h2.le hb⟩
structure OutG (L : Nat → Prop) (w0 : World) (X : Nat) (t : TypeId) (r : Rat) (D : Nat → Bool) (x : Nat → Value) (W : World) : Prop where
  w4 : D 4 = true → WholeU L W (x 4) (rneg r) (rnum r)
  w7 : D 7 = true → WholeU L W (x 7) false r.den
  w8 : D 8 = true → FracL L W (x 8) r
  box : D 9 = false → W.heap[X]? = some (.cells #[.bool false, .slice none 0 0, .bool false, .slice none 0 0] t)
  fin : D 9 = true → D 8 = true ∧ ∃ A c B d, x 8 = .agg #[.bool (rneg r), .slice A (dg (rnum r)).length c, .bool false, .slice B (dg r.den).length d] ∧ W.heap[X]? = some (.cells #[.bool (rneg r), .slice A (dg (rnum r)).length c, .bool false, .slice B (dg r.den).length d] t)
  le : Le w0 W
theorem OutG.quiet {L : Nat → Prop} {w0 : World} {X : Nat} {t : TypeId} {r : Rat} {D : Nat → Bool} {x : Nat → Value} {W W' : World} {i : Nat} {v : Value} (h : OutG L w0 X t r D x W) (hle : Le W W') (h4 : i ≠ 4) (h7 : i ≠ 7) (h8 : i ≠ 8) (h9 : i ≠ 9) : OutG L w0 X t r (updB D i) (updV x i v) W' := by
  have e7 : ∀ j, j ≠ i → updB D i j = D j := fun j hj => by simp [updB, hj]
  have e8 : ∀ j, j ≠ i → updV x i v j = x j := fun j hj => by simp [updV, hj]
  refine ⟨?_, ?_, ?_, ?_, ?_, h.le.trans hle⟩
  · rw [e7 4 (Ne.symm h4), e8 4 (Ne.symm h4)]; exact fun hd => by obtain ⟨A, c, k1, k2⟩ := h.w4 hd; exact ⟨A, c, k1, k2.le hle⟩
  · rw [e7 7 (Ne.symm h7), e8 7 (Ne.symm h7)]; exact fun hd => by obtain ⟨A, c, k1, k2⟩ := h.w7 hd; exact ⟨A, c, k1, k2.le hle⟩
  · rw [e7 8 (Ne.symm h8), e8 8 (Ne.symm h8)]; exact fun hd => (h.w8 hd).le hle
  · rw [e7 9 (Ne.symm h9)]; exact fun hd => (hle.block X (Array.getElem?_eq_some_iff.1 (h.box hd)).1).trans (h.box hd)
  · rw [e7 9 (Ne.symm h9), e7 8 (Ne.symm h8), e8 8 (Ne.symm h8)]
    exact fun hd => by
      obtain ⟨k0, A, c, B, d, k1, k2⟩ := h.fin hd
      exact ⟨k0, A, c, B, d, k1, (hle.block X (Array.getElem?_eq_some_iff.1 k2).1).trans k2⟩
end Go.Proofs.Ytbikpadjmmgpcaa
