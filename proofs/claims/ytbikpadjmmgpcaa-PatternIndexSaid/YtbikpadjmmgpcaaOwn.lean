/- make, look-up and store on rows of one-cell elements of any kind that the call owns. -/
import Derived.Test.YtbikpadjmmgpcaaBase
import Derived.OwnWalk
import Derived.Laws.CopyOwn
namespace Go.Proofs.Ytbikpadjmmgpcaa
open Go.RowKit
set_option linter.unusedVariables false
set_option linter.unusedSimpArgs false
/-- What one knows of an owned row that is not empty. -/
theorem own_form {w : World} {base : Nat} {e : TypeId} {v : Value} {n : Nat} {xs : List Value} (h : w.ownsRow base e 1 v n xs) (hn : 0 < n) :
    ∃ g c, v = .slice (some ⟨g, 0, none⟩) n c ∧ base ≤ g ∧ g < w.heap.size ∧ n ≤ c ∧ c ≤ maxLen := by
  rcases h.2 with ⟨rfl, h0⟩ | ⟨g, cap, cur, rfl, hbg, hg, hnc, hcm, hsz, htake⟩
  · omega
  · exact ⟨g, cap, rfl, hbg, (Array.getElem?_eq_some_iff.1 hg).1, hnc, hcm⟩
theorem own_formS {w : World} {base : Nat} {e : TypeId} {v : Value} {n : Nat} {xs : List Value} (h : w.ownsRow base e 1 v n xs) (hn : v.ownBlock ≠ none) : ∃ g c, v = .slice (some ⟨g, 0, none⟩) n c ∧ base ≤ g ∧ g < w.heap.size ∧ n ≤ c ∧ c ≤ maxLen := by
  rcases h.2 with ⟨rfl, h0⟩ | ⟨g, cap, cur, rfl, hbg, hg, hnc, hcm, hsz, htake⟩
  · exact absurd rfl hn
  · exact ⟨g, cap, rfl, hbg, (Array.getElem?_eq_some_iff.1 hg).1, hnc, hcm⟩
theorem set_apart {B g : Nat} (hne : B ≠ g) (W : World) (k o : Nat) (u : Value) : (W.setCell ⟨g, k, none⟩ u).cell? ⟨B, o, none⟩ = W.cell? ⟨B, o, none⟩ := World.cell?_of_block (Below.heap_setCell _ _ _ _ hne)
theorem wpList_makeG {α : Type} {f : α → Value} {P : Program} (w : World) {ops : Array Oper} {rest : List Oper} {o : Oper} {a : Act} {Q : Exit → Act → World → Prop}
    (hg : o.guard = none) (l c : Operand) (t : TypeId) (hop : o.op = Op.makeSlice t l c) (base : Nat) (e : TypeId) (z0 : α) (bytes : Nat) (hE : Elem1 P t e (f z0) bytes) (hz1 : (f z0).cells = #[f z0]) (hby : bytes ≤ 100000)
    (n : Nat) (hl : a.eval l = .int .i64 (n : Int)) (hc : a.eval c = .int .i64 (n : Int)) (hn : n ≤ 1000000000) (b4 : base ≤ w.heap.size)
    (L : List α) (hL : L = List.replicate n z0)
    (hK : ∀ w', w'.ownsRow base e 1 (.slice (some ⟨w.heap.size, 0, none⟩) n n) n (L.map f) → Below w.heap.size w w' → w.heap.size < w'.heap.size → wpList P ops Q rest (a.put o.dst (.slice (some ⟨w.heap.size, 0, none⟩) n n)) w') :
    wpList P ops Q (o :: rest) a w := by
  obtain ⟨ht, hi, hzs⟩ := hE
  obtain ⟨i, hi0, hz, hsz, hby'⟩ := info_parts hi
  subst hL
  refine wpList_make_full w hg l c t hop base e i (f z0) 1 ht hi0 hz hsz .i64 .i64 _ _ n hl hc rfl rfl (by rw [hby']; exact Nat.le_trans (Nat.mul_le_mul hby hn) (by decide)) (by unfold maxLen; omega) b4 ?_
  intro w' h1 h2
  refine hK w' ?_ ((Below.refl _ _).grown h2 (Nat.le_refl _) (by simp)) ((h1.lt w.heap.size rfl).2)
  rcases h1.2 with ⟨h, _⟩ | ⟨g, cap, cur, hv, hb, hh, hnc, hcm, hs, htake⟩
  · simp at h
  · refine ⟨by simp, .inr ⟨g, cap, cur, hv, hb, hh, hnc, hcm, hs, ?_⟩⟩
    rw [htake, hz1]
    apply List.ext_getElem?
    intro k
    simp [madeCells, List.getElem?_replicate]
    by_cases hk : k < n
    · simp [hk, Nat.mod_one]
    · simp [hk]
theorem own_cellG {α : Type} {f : α → Value} {w : World} {base : Nat} {e : TypeId} {g c n : Nat} {L : List α} (h : w.ownsRow base e 1 (.slice (some ⟨g, 0, none⟩) n c) n (L.map f)) (hn : L.length = n) {k : Nat} {x : α} (hk : L[k]? = some x) : w.cell? ⟨g, k, none⟩ = some (f x) := by
  have hlt : k < L.length := (List.getElem?_eq_some_iff.1 hk).1
  rw [h.cellAt k (by omega)]
  simp [hk]
theorem own_putG {α : Type} {f : α → Value} {w : World} {base : Nat} {e : TypeId} {g c n : Nat} {L : List α} (h : w.ownsRow base e 1 (.slice (some ⟨g, 0, none⟩) n c) n (L.map f)) (k : Nat) (y : α) :
    (w.setCell ⟨g, k, none⟩ (f y)).ownsRow base e 1 (.slice (some ⟨g, 0, none⟩) n c) n ((L.set k y).map f) := by
  have h1 := (h.stored k (f y)).1
  rw [List.map_set]; exact h1
end Go.Proofs.Ytbikpadjmmgpcaa
