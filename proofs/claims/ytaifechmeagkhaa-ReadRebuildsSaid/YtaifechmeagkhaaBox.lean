/- A block of the call's own that stays as it is: what the world keeps of it. -/
import Derived.Test.YtaifechmeagkhaaRef4b
namespace Go.Proofs.Ytaifechmeagkhaa
open Go.RowKit
set_option linter.unusedVariables false
/-- The block B holds the object a in w1, and nothing of w has turned. -/
structure Box (w : World) (B : Nat) (a : Obj) (w1 : World) : Prop where
  below : Below w.heap.size w w1
  block : w1.heap[B]? = some a
theorem Box.lt {w : World} {B : Nat} {a : Obj} {w1 : World} (h : Box w B a w1) : B < w1.heap.size := (Array.getElem?_eq_some_iff.1 h.block).1
theorem Box.size {w : World} {B : Nat} {a : Obj} {w1 : World} (h : Box w B a w1) : w.heap.size ≤ w1.heap.size := h.below.size
theorem Box.start (w : World) (a : Obj) : Box w w.heap.size a (w.alloc a) := ⟨alc1 _ _, alc_at _ _⟩
theorem Box.next {w : World} {B : Nat} {a : Obj} {w1 w2 : World} (h : Box w B a w1) (k : Below w1.heap.size w1 w2) : Box w B a w2 :=
  ⟨h.below.trans (k.mono h.size), (k.block _ h.lt).trans h.block⟩
theorem Box.nextB {w : World} {B : Nat} {a : Obj} {w1 w2 : World} (h : Box w B a w1) {n : Nat} (k : Below n w1 w2) (hB : B < n) (hn : w.heap.size ≤ n) : Box w B a w2 :=
  ⟨h.below.trans (k.mono hn), (k.block _ hB).trans h.block⟩
theorem Box.alloc {w : World} {B : Nat} {a : Obj} {w1 : World} (h : Box w B a w1) (b : Obj) : Box w B a (w1.alloc b) := h.next (alc1 _ _)
theorem Box.drewN {w : World} {B : Nat} {a : Obj} {w1 : World} (h : Box w B a w1) (n : Nat) : Box w B a (w1.drewN n) := ⟨below_drewN' h.below n, h.block⟩
theorem Box.drew {w : World} {B : Nat} {a : Obj} {w1 : World} (h : Box w B a w1) : Box w B a w1.drew := ⟨h.below.drew, h.block⟩
/-- A program in a box: its cells. -/
theorem Box.prog {w : World} {B : Nat} {v0 v1 v2 v3 v4 v5 : Value} {t : TypeId} {w1 : World} (h : Box w B (.cells #[v0, v1, v2, v3, v4, v5] t) w1) :
    w1.cell? ⟨B, 0, none⟩ = some v0 ∧ w1.cell? ⟨B, 1, none⟩ = some v1 ∧ w1.cell? ⟨B, 2, none⟩ = some v2 ∧ w1.cell? ⟨B, 3, none⟩ = some v3 ∧ w1.cell? ⟨B, 4, none⟩ = some v4 ∧ w1.cell? ⟨B, 5, none⟩ = some v5 := prog_cells h.block
theorem Below.of_drewN (w : World) (n : Nat) : Below w.heap.size w (w.drewN n) := below_drewN' (Below.refl _ _) n
/-- An owned row is a list that reads. -/
theorem own_ints {w : World} {base : Nat} {e : TypeId} {v : Value} {n : Nat} {xs : List Int} (h : w.ownsRow base e 1 v n (xs.map vint)) : Ints w v xs := Arr.of_own h
/-- The result of a call that makes a list, or none. -/
def onOk (E : Int) (l : List Int) : List Int := if E = 0 then l else []
theorem onOk_zero (l : List Int) : onOk 0 l = l := rfl
theorem onOk_ne {E : Int} (h : E ≠ 0) (l : List Int) : onOk E l = [] := if_neg h
end Go.Proofs.Ytaifechmeagkhaa
