/- exact: run at api.Frac: the deferred closure, a call that returns, a call that reports an error. exact: run at rat: the deferred closure, a call that returns, .. -/
import Derived.Test.YtabfaobakmjiaaaGreatPk22
namespace Go.Proofs.YtabfaobakmjiaaaGreat
set_option maxRecDepth 100000
open Go.RowKit Go.Shelf
set_option linter.unusedVariables false
set_option linter.unusedSimpArgs false
set_option maxRecDepth 10000
abbrev flt (c : Int) : List PanicEntry := [{ v := .iface 223 (.agg #[.int .i64 c]), recovered := false }]
structure TwoG (i j : Nat) (D : Nat → Bool) (x : Nat → Value) (W : World) : Prop where
 a : D i = true → ∃ k, x i = .pointer (some ⟨k, 0, none⟩) ∧ k < W.heap.size
 b : D j = true → ∃ k, x j = .pointer (some ⟨k, 0, none⟩) ∧ k < W.heap.size
 ne : D i = true → D j = true → x i ≠ x j
theorem TwoG.quiet {i j n : Nat} {D : Nat → Bool} {x : Nat → Value} {W W' : World} {v : Value} (h : TwoG i j D x W) (hs : Le W W') (hi : n ≠ i) (hj : n ≠ j) : TwoG i j (updB D n) (updV x n v) W' := by
 have e7 : ∀ q, q ≠ n → updB D n q = D q := fun q hq => by simp [updB, hq]
 have e8 : ∀ q, q ≠ n → updV x n v q = x q := fun q hq => by simp [updV, hq]
 refine ⟨?_, ?_, ?_⟩
 ·rw [e7 i (Ne.symm hi), e8 i (Ne.symm hi)]; exact fun hd => by obtain ⟨k, h1, h2⟩ := h.a hd; exact ⟨k, h1, Nat.lt_of_lt_of_le h2 hs.size⟩
 ·rw [e7 j (Ne.symm hj), e8 j (Ne.symm hj)]; exact fun hd => by obtain ⟨k, h1, h2⟩ := h.b hd; exact ⟨k, h1, Nat.lt_of_lt_of_le h2 hs.size⟩
 ·rw [e7 i (Ne.symm hi), e8 i (Ne.symm hi), e7 j (Ne.symm hj), e8 j (Ne.symm hj)]; exact h.ne
theorem TwoG.left {i j : Nat} {D : Nat → Bool} {x : Nat → Value} {W : World} {o : Obj} (h : TwoG i j D x W) (hij : i ≠ j) : TwoG i j (updB D i) (updV x i (.pointer (some ⟨W.heap.size, 0, none⟩))) (W.alloc o) := by
 have e7 : ∀ q, q ≠ i → updB D i q = D q := fun q hq => by simp [updB, hq]
 have e8 : ∀ v q, q ≠ i → updV x i v q = x q := fun v q hq => by simp [updV, hq]
 refine ⟨fun _ => ⟨W.heap.size, by simp [updV], by simp⟩, ?_, fun _ => ?_⟩
 ·rw [e7 j (Ne.symm hij), e8 _ j (Ne.symm hij)]; exact fun hd => by obtain ⟨k, h1, h2⟩ := h.b hd; exact ⟨k, h1, by rw [World.size_alloc]; omega⟩
 ·rw [e7 j (Ne.symm hij), e8 _ j (Ne.symm hij)];intro hd he;obtain ⟨k, h1, h2⟩ := h.b hd;rw [h1] at he;simp only [updV, if_true] at he;injection he with he;injection he with he;injection he with he;omega
theorem TwoG.right {i j : Nat} {D : Nat → Bool} {x : Nat → Value} {W : World} {o : Obj} (h : TwoG i j D x W) (hij : i ≠ j) : TwoG i j (updB D j) (updV x j (.pointer (some ⟨W.heap.size, 0, none⟩))) (W.alloc o) := by
 have e7 : ∀ q, q ≠ j → updB D j q = D q := fun q hq => by simp [updB, hq]
 have e8 : ∀ v q, q ≠ j → updV x j v q = x q := fun v q hq => by simp [updV, hq]
 refine ⟨?_, fun _ => ⟨W.heap.size, by simp [updV], by simp⟩, ?_⟩
 ·rw [e7 i hij, e8 _ i hij]; exact fun hd => by obtain ⟨k, h1, h2⟩ := h.a hd; exact ⟨k, h1, by rw [World.size_alloc]; omega⟩
 ·rw [e7 i hij, e8 _ i hij];intro hd _ he;obtain ⟨k, h1, h2⟩ := h.a hd;rw [h1] at he;simp only [updV, if_true] at he;injection he with he;injection he with he;injection he with he;omega
theorem TwoG.start {i j : Nat} {D : Nat → Bool} {x : Nat → Value} {W : World} (hi : D i = false) (hj : D j = false) : TwoG i j D x W :=
 ⟨fun h => absurd h (by rw [hi]; simp), fun h => absurd h (by rw [hj]; simp), fun h => absurd h (by rw [hi]; simp)⟩
def MPred.ratO (x : FracA) : MPred := ⟨fun v w => ∃ r, x.rat? = some r ∧ RatL (fun _ => True) .u32 w v r, fun _ _ _ hb ⟨r, e, h⟩ => ⟨r, e, h.le hb⟩⟩
def FBox (W : World) (B : Nat) (v : Value) (x : FracA) : Prop := ∃ A c A' c', v = .agg #[.bool x.sn, .slice A x.gn.length c, .bool x.sd, .slice A' x.gd.length c'] ∧ W.heap[B]? = some (.cells #[.bool x.sn, .slice A x.gn.length c, .bool x.sd, .slice A' x.gd.length c'] 76) ∧ IsFracA (fun _ => True) W v x
end Go.Proofs.YtabfaobakmjiaaaGreat
