/- A list of lists of numbers that a function collects: the rows lie apart from the list. -/
import Derived.Test.YtnboppombhibbaaL4Turn
namespace Go.Proofs.Ytnboppombhibbaa
open Go.RowKit Go.Lib
set_option linter.unusedVariables false
set_option linter.unusedSimpArgs false
def slV (R : Nat) (x : Nat × Nat) : Value := .slice (some ⟨x.1, 0, none⟩) R x.2
structure RowsAt (B : Nat) (W : World) (l : Value) (A : Nat → List Int) (R k : Nat) (rows : List (Nat × Nat)) : Prop where
  len : rows.length = k
  own : W.ownsRow B 22 1 l k (rows.map (slV R))
  row : ∀ j (h : j < rows.length), W.ownsRow 0 3 1 (slV R rows[j]) R ((A j).map vint) ∧ l.ownBlock ≠ some rows[j].1
theorem RowsAt.start (B : Nat) (W : World) (A : Nat → List Int) (R : Nat) : RowsAt B W (.slice none 0 0) A R 0 [] := ⟨rfl, World.ownsRow_nil _ _ _ _, fun j h => absurd h (by simp)⟩
theorem RowsAt.next {B : Nat} {W W2 : World} {l : Value} {A : Nat → List Int} {R k : Nat} {rows : List (Nat × Nat)} (h : RowsAt B W l A R k rows) (hb : Below W.heap.size W W2) : RowsAt B W2 l A R k rows :=
  ⟨h.len, own_below h.own hb, fun j hj => ⟨own_below (h.row j hj).1 hb, (h.row j hj).2⟩⟩
theorem RowsAt.push {B : Nat} {W W2 : World} {l l2 : Value} {A : Nat → List Int} {R k : Nat} {rows : List (Nat × Nat)} (h : RowsAt B W l A R k rows) {g c : Nat} (hrow : W.ownsRow 0 3 1 (slV R (g, c)) R ((A k).map vint)) (hne : l.ownBlock ≠ some g)
    (how : W2.ownsRow B 22 1 l2 (k + 1) (rows.map (slV R) ++ [slV R (g, c)])) (hg : W.grownBy W2 l.ownBlock) (hnew : ∀ b, l2.ownBlock = some b → l.ownBlock = some b ∨ W.heap.size ≤ b) : RowsAt B W2 l2 A R (k + 1) (rows ++ [(g, c)]) := by
  have key : ∀ x : Nat × Nat, ∀ xs, W.ownsRow 0 3 1 (slV R x) R xs → l.ownBlock ≠ some x.1 → W2.ownsRow 0 3 1 (slV R x) R xs ∧ l2.ownBlock ≠ some x.1 := fun x xs hr hx => by
    have hlt := (hr.lt x.1 rfl).2
    refine ⟨row_same hr fun b hb => ?_, fun e => ?_⟩
    · have e : x.1 = b := by injection hb
      subst e
      exact hg.block x.1 hlt (fun e => hx e.symm)
    · rcases hnew x.1 e with h1 | h1
      · exact hx h1
      · omega
  refine ⟨by simp [h.len], by rw [List.map_append]; exact how, fun j hj => ?_⟩
  by_cases hjk : j < rows.length
  · rw [List.getElem_append_left hjk]
    exact key _ _ (h.row j hjk).1 (h.row j hjk).2
  · have hjk2 : j = rows.length := by simp at hj; omega
    subst hjk2
    rw [List.getElem_append_right (Nat.le_refl _)]
    simp only [Nat.sub_self, List.getElem_cons_zero]
    have hk := h.len
    rw [← hk] at hrow
    exact key _ _ hrow hne
theorem RowsAt.cell {B : Nat} {W : World} {l : Value} {A : Nat → List Int} {R k : Nat} {rows : List (Nat × Nat)} (h : RowsAt B W l A R k rows) (h0 : 0 < k) : ∃ gl cl, l = .slice (some ⟨gl, 0, none⟩) k cl ∧ gl < W.heap.size ∧ ∀ j (hj : j < k), ∃ x : Nat × Nat, W.cell? ⟨gl, j, none⟩ = some (slV R x) ∧ W.ownsRow 0 3 1 (slV R x) R ((A j).map vint) := by
  have hn : l.ownBlock ≠ none := by
    rcases h.own.2 with ⟨_, h1⟩ | ⟨g, cap, cur, rfl, _⟩
    · omega
    · simp [Value.ownBlock]
  obtain ⟨g, c, rfl, -, hlt, -⟩ := own_formS h.own hn
  refine ⟨g, c, rfl, hlt, fun j hj => ?_⟩
  have hj' : j < rows.length := by rw [h.len]; exact hj
  refine ⟨rows[j], ?_, (h.row j hj').1⟩
  rw [h.own.cellAt j (by omega)]
  simp [hj']
theorem one_newV (W : World) (v : Value) (e : TypeId) : ∀ (j : Nat) (u : Value), [v][j]? = some u → (W.alloc (.cells #[v] e)).cell? ((⟨W.heap.size, 0, none⟩ : Addr).add j) = some u := by
  intro j u hu
  have hj : j < 1 := (List.getElem?_eq_some_iff.1 hu).1
  have hadd : (⟨W.heap.size, 0, none⟩ : Addr).add j = ⟨W.heap.size, j, none⟩ := by unfold Addr.add; split <;> simp_all
  rw [hadd, World.cell?_alloc_at _ _ _ _ rfl]
  match j, hj with
  | 0, _ => simpa using hu
theorem slInfo : (Try.prog.info? 22).map (fun i => (i.zero, i.size, i.bytes)) = some (some (.slice none 0 0), 1, 24) := by kernel_rfl
theorem rowInts {W : World} {R : Nat} {x : Nat × Nat} {xs : List Int} (hl : xs.length = R) (h : W.ownsRow 0 3 1 (slV R x) R (xs.map vint)) (q : Nat) : Ints (W.drewN q) (.slice (some ⟨x.1, 0, none⟩) R x.2) xs := by
  subst hl
  exact own_ints (show (W.drewN q).ownsRow 0 3 1 (.slice (some ⟨x.1, 0, none⟩) xs.length x.2) xs.length (xs.map vint) from h)
end Go.Proofs.Ytnboppombhibbaa
