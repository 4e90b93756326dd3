/- A list in a box, appended to by the body of a range over a function. -/
import Derived.Test.YtphdalgaemefoaaGreatQReg
import Derived.Test.YtphdalgaemefoaaGreatBoxKit
import Derived.Test.YtphdalgaemefoaaGreatPatCheck
namespace Go.Proofs.YtphdalgaemefoaaGreat
set_option maxRecDepth 100000
open Go.RowKit Go.Shelf
set_option linter.unusedVariables false
set_option linter.unusedSimpArgs false
theorem alc4_facts (w : World) (o0 o1 o2 o3 : Obj) : ∃ W0, (((w.alloc o0).alloc o1).alloc o2).alloc o3 = W0 ∧ W0.heap.size = w.heap.size + 4 ∧ Below w.heap.size w W0 ∧
  W0.heap[w.heap.size]? = some o0 ∧ W0.heap[w.heap.size + 1]? = some o1 ∧ W0.heap[w.heap.size + 2]? = some o2 ∧ W0.heap[w.heap.size + 3]? = some o3 := by
 refine ⟨_, rfl, by simp, alc4 _ _ _ _ _, ?_, ?_, ?_, ?_⟩
 ·exact (Below.heap_alloc _ _ _ (by simp <;> omega)).trans ((Below.heap_alloc _ _ _ (by simp <;> omega)).trans ((Below.heap_alloc _ _ _ (by simp)).trans (heap_alloc_new _ _)))
 ·exact (Below.heap_alloc _ _ _ (by simp <;> omega)).trans ((Below.heap_alloc _ _ _ (by simp)).trans (by have h := heap_alloc_new (w.alloc o0) o1; rw [World.size_alloc] at h; exact h))
 ·exact (Below.heap_alloc _ _ _ (by simp)).trans (by have h := heap_alloc_new ((w.alloc o0).alloc o1) o2; rw [World.size_alloc, World.size_alloc] at h; exact h)
 ·have h := heap_alloc_new (((w.alloc o0).alloc o1).alloc o2) o3; rw [World.size_alloc, World.size_alloc, World.size_alloc] at h; exact h
theorem own_grown {W W' : World} {row : Option Nat} {base e n size : Nat} {v : Value} {xs : List Value} (h : W.ownsRow base e size v n xs) (hg : W.grownBy W' row) (hr : ∀ r, row = some r → ∃ o : Obj, W.heap[r]? = some o ∧ o.isCells = false) : W'.ownsRow base e size v n xs :=
 own_cells h fun k o hk hc => (hg.block k (gsl hk) (fun e => by
  obtain ⟨o', ho', hc'⟩ := hr k e.symm
  rw [hk] at ho'
  cases ho'
  rw [hc] at hc'
  cases hc')).trans hk
structure Coll (t e : TypeId) (W0 : World) (L base n₀ : Nat) (Bs : List Nat) (xs : List Int) (W : World) : Prop where
 kept : Kept n₀ Bs W0 W
 size : W0.heap.size ≤ W.heap.size
 own : ∃ v, W.heap[L]? = some (.cells #[v] t) ∧ W.ownsRow base e 1 v xs.length (xs.map vint)
theorem Coll.from {β : Type} {t e : TypeId} {W0 : World} {L base n₀ : Nat} {Bs : List Nat} (g : β → List Int) (hL : L < W0.heap.size) (hn : n₀ ≤ W0.heap.size) (hBs : ∀ B ∈ Bs, B < W0.heap.size) :
  OwnFrom W0.heap.size (fun s W => Coll t e W0 L base n₀ Bs (g s) W) := by
 rintro s X Y row ⟨h1, hs, v, h2, h3⟩ hg hrow
 refine ⟨h1.trans ⟨(Below.refl _ _).grown hg (by omega) fun k e => Nat.le_trans hn (hrow k e).1, fun B hB => hg.block B (by have := hBs B hB; omega) (fun e => by have := (hrow _ e.symm).1; have := hBs B hB; omega)⟩, Nat.le_trans hs hg.size, v, ?_, own_grown h3 hg fun r e => (hrow r e).2⟩
 rw [hg.block L (by omega) (fun e => by have := (hrow _ e.symm).1; omega)]
 exact h2
theorem Coll.step {t e : TypeId} {W0 : World} {L base n₀ : Nat} {Bs : List Nat} {xs : List Int} {W : World} (h : Coll t e W0 L base n₀ Bs xs W) {v v2 : Value} {o : Obj} {W2 : World} {ys : List Int}
  (hv : W.heap[L]? = some (.cells #[v] t)) (hown : W.ownsRow base e 1 v xs.length (xs.map vint)) (hLb : L < base) (hbs : base ≤ W.heap.size) (hn : n₀ ≤ L) (hBs : ∀ B ∈ Bs, B < base ∧ B ≠ L)
  (ho2 : W2.ownsRow base e 1 v2 ys.length (ys.map vint)) (hb2 : Below base (W.alloc o) W2) (hg : (W.alloc o).grownBy W2 v.ownBlock) :
  KeepsOthers W (W2.setCell ⟨L, 0, none⟩ v2) ∧ Kept n₀ Bs W (W2.setCell ⟨L, 0, none⟩ v2) ∧ Coll t e W0 L base n₀ Bs ys (W2.setCell ⟨L, 0, none⟩ v2) := by
 have hk : Kept n₀ Bs W (W2.setCell ⟨L, 0, none⟩ v2) := by
  refine ⟨((((Below.refl n₀ W).alloc (by omega) o).trans (hb2.mono (by omega))).setCell (p := ⟨L, 0, none⟩) hn v2), fun B hB => ?_⟩
  have h1 := hBs B hB
  rw [Below.heap_setCell _ _ _ _ h1.2, hb2.block B h1.1, Below.heap_alloc _ _ _ (by omega)]
 refine ⟨((KeepsOthers.alloc W o).trans (KeepsOthers.of_grownBy hg fun j o' hj ho' => ?_)).trans (KeepsOthers.setCell _ _ _), hk, h.kept.trans hk, ?_, v2, ?_, ?_⟩
 ·rcases (hown.alloc o).2 with ⟨rfl, _⟩ | ⟨g, cap, cur, rfl, _, hh, _⟩
  ·simp [Value.ownBlock] at hj
  ·have : g = j := by simpa [Value.ownBlock] using hj
   subst this
   rw [hh] at ho'
   cases ho'
   rfl
 ·have := hb2.size
  simp [World.setCell] at this ⊢
  have := h.size
  omega
 ·have h1 : W2.heap[L]? = some (.cells #[v] t) := by rw [hb2.block L hLb, Below.heap_alloc _ _ _ (by omega)]; exact hv
  rw [heap_setAt h1]; rfl
 ·have := ho2
  refine ⟨this.1, ?_⟩
  rcases this.2 with h' | ⟨g, cap, cur, hv', hbg, hh, r⟩
  ·exact Or.inl h'
  ·exact Or.inr ⟨g, cap, cur, hv', hbg, (Below.heap_setCell _ _ _ _ (by show g ≠ L; omega)).trans hh, r⟩
theorem Coll.start {t e : TypeId} {W0 : World} {L base n₀ : Nat} {Bs : List Nat} (h : W0.heap[L]? = some (.cells #[.slice none 0 0] t)) : Coll t e W0 L base n₀ Bs [] W0 :=
 ⟨Kept.refl _ _ _, Nat.le_refl _, _, h, World.ownsRow_nil _ _ _ _⟩
end Go.Proofs.YtphdalgaemefoaaGreat
