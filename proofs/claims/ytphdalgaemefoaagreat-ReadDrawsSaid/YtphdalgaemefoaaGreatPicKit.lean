/- Rows of structs of numbers; pictures in memory. -/
import Derived.Test.YtphdalgaemefoaaGreatReadLaw
import Derived.Test.YtphdalgaemefoaaGreatBoxKit
import Derived.Test.YtphdalgaemefoaaGreatAppB
namespace Go.Proofs.YtphdalgaemefoaaGreat
set_option maxRecDepth 100000
open Go.RowKit
set_option linter.unusedVariables false
def SV {α : Type} (k : Nat) (enc : α → List Value) (w : World) (v : Value) (L : List α) : Prop :=
 ∃ A c, v = .slice A L.length c ∧ L.length ≤ c ∧ c ≤ maxLen ∧ (A = none → c = 0) ∧
  (0 < L.length → ∃ b off, A = some ⟨b, off, none⟩ ∧ b < w.heap.size ∧ ∀ j (h : j < L.length) i u, (enc L[j])[i]? = some u → w.cell? ⟨b, off + j * k + i, none⟩ = some u)
section
variable {α : Type} {k : Nat} {enc : α → List Value}
theorem SV.below {w W : World} {v : Value} {L : List α} {n : Nat} (h : SV k enc w v L) (hb : Below n w W) (hn : w.heap.size ≤ n) : SV k enc W v L := by
 obtain ⟨A, c, hv, h1, h2, hN, h3⟩ := h
 refine ⟨A, c, hv, h1, h2, hN, fun h0 => ?_⟩
 obtain ⟨b, off, ha, hlt, hc⟩ := h3 h0
 exact ⟨b, off, ha, by have := hb.size; omega, fun j hj i u hu => (Below.cell hb (p := ⟨b, _, none⟩) (Nat.lt_of_lt_of_le hlt hn)).trans (hc j hj i u hu)⟩
theorem SV.le {w W : World} {v : Value} {L : List α} (h : SV k enc w v L) (hb : Below w.heap.size w W) : SV k enc W v L := h.below hb (Nat.le_refl _)
theorem SV.nil (w : World) : SV k enc w (.slice none 0 0) ([] : List α) := ⟨none, 0, rfl, Nat.le_refl _, Nat.zero_le _, fun _ => rfl, fun h => absurd h (Nat.lt_irrefl 0)⟩
theorem SV.drew {w : World} {v : Value} {L : List α} (h : SV k enc w v L) (n : Nat) : SV k enc (w.drewN n) v L := h.le (below_drewN' (Below.refl _ _) n)
theorem flat_get (hk : ∀ x, (enc x).length = k) : ∀ (L : List α) (j : Nat) (h : j < L.length) (i : Nat) (u : Value), (enc L[j])[i]? = some u → (L.flatMap enc)[j * k + i]? = some u
 | x :: xs, 0, _, i, u, hu => by
  have hi := (List.getElem?_eq_some_iff.1 hu).1
  have hi2 : i < (enc x).length := hi
  rw [List.flatMap_cons, Nat.zero_mul, Nat.zero_add, List.getElem?_append_left hi2]
  exact hu
 | x :: xs, j + 1, h, i, u, hu => by
  have ih := flat_get hk xs j (by simpa using h) i u hu
  rw [List.flatMap_cons, List.getElem?_append_right (by rw [hk, Nat.add_mul]; omega), hk, show (j + 1) * k + i - k = j * k + i by rw [Nat.add_mul]; omega]
  exact ih
theorem flat_length (hk : ∀ x, (enc x).length = k) (L : List α) : (L.flatMap enc).length = L.length * k := by
 induction L with
 | nil => simp
 | cons x xs ih => rw [List.flatMap_cons, List.length_append, ih, hk, List.length_cons, Nat.add_mul]; omega
theorem SV.of_own {w : World} {base : Nat} {e : TypeId} {v : Value} {L : List α} (hk : ∀ x, (enc x).length = k) (h : w.ownsRow base e k v L.length (L.flatMap enc)) : SV k enc w v L := by
 have h0 := h
 rcases h.2 with ⟨rfl, hx⟩ | ⟨g, cap, cur, rfl, hbg, hg, hnc, hcm, hcs, htake⟩
 ·have hn : L = [] := List.eq_nil_of_length_eq_zero hx
  subst hn
  exact SV.nil _
 ·refine ⟨some ⟨g, 0, none⟩, cap, rfl, hnc, hcm, fun h => (by cases h), fun _ => ⟨g, 0, rfl, (gsl hg), fun j hj i u hu => ?_⟩⟩
  have hi : i < k := by have := (List.getElem?_eq_some_iff.1 hu).1; rwa [hk] at this
  have hlt : j * k + i < L.length * k := by
   have : (j + 1) * k ≤ L.length * k := Nat.mul_le_mul_right _ hj
   rw [Nat.add_mul, Nat.one_mul] at this; omega
  rw [Nat.zero_add, h0.cellAt (j * k + i) hlt]
  exact flat_get hk L j hj i u hu
theorem SV.at {w : World} {v : Value} {L : List α} (h : SV k enc w v L) {j : Nat} (hj : j < L.length) : ∃ b off c, v = .slice (some ⟨b, off, none⟩) L.length c ∧ b < w.heap.size ∧ ∀ i u, (enc L[j])[i]? = some u → w.cell? ⟨b, off + j * k + i, none⟩ = some u := by
 obtain ⟨A, c, rfl, h1, h2, hN, h3⟩ := h
 obtain ⟨b, off, rfl, hlt, hc⟩ := h3 (by omega)
 exact ⟨b, off, c, rfl, hlt, hc j hj⟩
theorem SV.slice {w : World} {v : Value} {L : List α} (h : SV k enc w v L) : ∃ A c, v = .slice A L.length c ∧ L.length ≤ maxLen := by
 obtain ⟨A, c, rfl, h1, h2, -⟩ := h
 exact ⟨A, c, rfl, by omega⟩
end
def rdEnc (r : Rd) : List Value := [.int .i64 r.cut, .int .i64 r.step, .int .i64 r.lo, .int .i64 r.hi]
def spnEnc (s : Spn) : List Value := [.int .i64 s.1, .int .i64 s.2]
def fndEnc (f : Fnd) : List Value := [.int .i64 f.head, .int .i64 f.throw, .int .i64 f.adv, .int .i64 f.lo, .int .i64 f.hi]
abbrev RdsL := SV 4 rdEnc
abbrev SpnL := SV 2 spnEnc
abbrev FndL := SV 5 fndEnc
theorem RdsL.cells {w : World} {v : Value} {L : List Rd} (h : RdsL w v L) {j : Nat} (hj : j < L.length) : ∃ b off c, v = .slice (some ⟨b, off, none⟩) L.length c ∧ b < w.heap.size ∧ w.cell? ⟨b, off + j * 4, none⟩ = some (.int .i64 L[j].cut) ∧ w.cell? ⟨b, off + j * 4 + 1, none⟩ = some (.int .i64 L[j].step) ∧ w.cell? ⟨b, off + j * 4 + 2, none⟩ = some (.int .i64 L[j].lo) ∧ w.cell? ⟨b, off + j * 4 + 3, none⟩ = some (.int .i64 L[j].hi) := by
 obtain ⟨b, off, c, rfl, hb, hc⟩ := h.at hj
 exact ⟨b, off, c, rfl, hb, hc 0 _ rfl, hc 1 _ rfl, hc 2 _ rfl, hc 3 _ rfl⟩
theorem SpnL.cells {w : World} {v : Value} {L : List Spn} (h : SpnL w v L) {j : Nat} (hj : j < L.length) : ∃ b off c, v = .slice (some ⟨b, off, none⟩) L.length c ∧ b < w.heap.size ∧ w.cell? ⟨b, off + j * 2, none⟩ = some (.int .i64 L[j].1) ∧ w.cell? ⟨b, off + j * 2 + 1, none⟩ = some (.int .i64 L[j].2) := by
 obtain ⟨b, off, c, rfl, hb, hc⟩ := h.at hj
 exact ⟨b, off, c, rfl, hb, hc 0 _ rfl, hc 1 _ rfl⟩
theorem FndL.cells {w : World} {v : Value} {L : List Fnd} (h : FndL w v L) {j : Nat} (hj : j < L.length) : ∃ b off c, v = .slice (some ⟨b, off, none⟩) L.length c ∧ b < w.heap.size ∧ w.cell? ⟨b, off + j * 5, none⟩ = some (.int .i64 L[j].head) ∧ w.cell? ⟨b, off + j * 5 + 1, none⟩ = some (.int .i64 L[j].throw) ∧ w.cell? ⟨b, off + j * 5 + 2, none⟩ = some (.int .i64 L[j].adv) ∧ w.cell? ⟨b, off + j * 5 + 3, none⟩ = some (.int .i64 L[j].lo) ∧ w.cell? ⟨b, off + j * 5 + 4, none⟩ = some (.int .i64 L[j].hi) := by
 obtain ⟨b, off, c, rfl, hb, hc⟩ := h.at hj
 exact ⟨b, off, c, rfl, hb, hc 0 _ rfl, hc 1 _ rfl, hc 2 _ rfl, hc 3 _ rfl, hc 4 _ rfl⟩
def HeadAt (w : World) (b o : Nat) (h : Hd) : Prop := ∃ vr vb, w.cell? ⟨b, o, none⟩ = some vr ∧ w.cell? ⟨b, o + 1, none⟩ = some vb ∧ Ints w vr h.ros ∧ Ints w vb h.rub
def HeadsL (w : World) (v : Value) (hs : List Hd) : Prop :=
 ∃ A c, v = .slice A hs.length c ∧ hs.length ≤ c ∧ c ≤ maxLen ∧ (A = none → c = 0) ∧
  (0 < hs.length → ∃ b off, A = some ⟨b, off, none⟩ ∧ b < w.heap.size ∧ ∀ j (h : j < hs.length), HeadAt w b (off + j * 2) hs[j])
theorem HeadsL.le {w W : World} {v : Value} {hs : List Hd} (h : HeadsL w v hs) (hb : Below w.heap.size w W) : HeadsL W v hs := by
 obtain ⟨A, c, hv, h1, h2, hN, h3⟩ := h
 refine ⟨A, c, hv, h1, h2, hN, fun h0 => ?_⟩
 obtain ⟨b, off, ha, hlt, hc⟩ := h3 h0
 refine ⟨b, off, ha, Nat.lt_of_lt_of_le hlt hb.size, fun j hj => ?_⟩
 obtain ⟨vr, vb, c0, c1, i0, i1⟩ := hc j hj
 exact ⟨vr, vb, (Below.cell hb (p := ⟨b, _, none⟩) hlt).trans c0, (Below.cell hb (p := ⟨b, _, none⟩) hlt).trans c1, i0.below hb, i1.below hb⟩
theorem HeadsL.at {w : World} {v : Value} {hs : List Hd} (h : HeadsL w v hs) {j : Nat} (hj : j < hs.length) : ∃ b off c vr vb, v = .slice (some ⟨b, off, none⟩) hs.length c ∧ b < w.heap.size ∧ w.cell? ⟨b, off + j * 2, none⟩ = some vr ∧ w.cell? ⟨b, off + j * 2 + 1, none⟩ = some vb ∧ Ints w vr hs[j].ros ∧ Ints w vb hs[j].rub := by
 obtain ⟨A, c, rfl, h1, h2, hN, h3⟩ := h
 obtain ⟨b, off, rfl, hlt, hc⟩ := h3 (by omega)
 obtain ⟨vr, vb, c0, c1, i0, i1⟩ := hc j hj
 exact ⟨b, off, c, vr, vb, rfl, hlt, c0, c1, i0, i1⟩
theorem HeadsL.slice {w : World} {v : Value} {hs : List Hd} (h : HeadsL w v hs) : ∃ A c, v = .slice A hs.length c ∧ hs.length ≤ maxLen := by
 obtain ⟨A, c, rfl, h1, h2, -⟩ := h
 exact ⟨A, c, rfl, by omega⟩
def IsPic (w : World) (v : Value) (p : Pic) : Prop := ∃ vh vr, v = .agg #[vh, .int .i64 p.tl, .int .i64 p.th, .int .i64 p.al, .int .i64 p.ah, vr] ∧ HeadsL w vh p.hs ∧ RdsL w vr p.rds
theorem IsPic.le {w W : World} {v : Value} {p : Pic} (h : IsPic w v p) (hb : Below w.heap.size w W) : IsPic W v p := by
 obtain ⟨vh, vr, rfl, h1, h2⟩ := h
 exact ⟨vh, vr, rfl, h1.le hb, h2.le hb⟩
def fit64 (z : Int) : Prop := -9223372036854775808 ≤ z ∧ z ≤ 9223372036854775807
structure Pic.Fit (p : Pic) : Prop where
 tl : fit64 p.tl
 th : fit64 p.th
 al : fit64 p.al
 ah : fit64 p.ah
 rds : ∀ r ∈ p.rds, fit64 r.cut ∧ fit64 r.step ∧ fit64 r.lo ∧ fit64 r.hi
 hs : ∀ h ∈ p.hs, (∀ x ∈ h.ros, fit64 x) ∧ ∀ x ∈ h.rub, fit64 x
theorem newb (w : World) (o : Obj) : ∃ V, w.alloc o = V ∧ Below w.heap.size w V ∧ V.heap[w.heap.size]? = some o := ⟨_, rfl, alc1 _ _, alc_at _ _⟩
theorem blk {w W : World} {B : Nat} {o : Obj} (h : Below w.heap.size w W) (hk : w.heap[B]? = some o) : W.heap[B]? = some o := (h.block B (gsl hk)).trans hk
section
variable {W : World} {X : Nat} {v0 v1 v2 v3 v4 v5 : Value} {t : TypeId}
theorem pc2 (h : W.heap[X]? = some (Obj.cells #[v0, v1] t)) : W.cell? ⟨X, 0, none⟩ = some v0 ∧ W.cell? ⟨X, 1, none⟩ = some v1 := ⟨cell_of_row W X 0 _ _ _ h, cell_of_row W X 1 _ _ _ h⟩
theorem pc3 (h : W.heap[X]? = some (Obj.cells #[v0, v1, v2] t)) : W.cell? ⟨X, 0, none⟩ = some v0 ∧ W.cell? ⟨X, 1, none⟩ = some v1 ∧ W.cell? ⟨X, 2, none⟩ = some v2 := ⟨cell_of_row W X 0 _ _ _ h, cell_of_row W X 1 _ _ _ h, cell_of_row W X 2 _ _ _ h⟩
theorem pc4 (h : W.heap[X]? = some (Obj.cells #[v0, v1, v2, v3] t)) : W.cell? ⟨X, 0, none⟩ = some v0 ∧ W.cell? ⟨X, 1, none⟩ = some v1 ∧ W.cell? ⟨X, 2, none⟩ = some v2 ∧ W.cell? ⟨X, 3, none⟩ = some v3 := ⟨cell_of_row W X 0 _ _ _ h, cell_of_row W X 1 _ _ _ h, cell_of_row W X 2 _ _ _ h, cell_of_row W X 3 _ _ _ h⟩
theorem pc5 (h : W.heap[X]? = some (Obj.cells #[v0, v1, v2, v3, v4] t)) : W.cell? ⟨X, 0, none⟩ = some v0 ∧ W.cell? ⟨X, 1, none⟩ = some v1 ∧ W.cell? ⟨X, 2, none⟩ = some v2 ∧ W.cell? ⟨X, 3, none⟩ = some v3 ∧ W.cell? ⟨X, 4, none⟩ = some v4 := ⟨cell_of_row W X 0 _ _ _ h, cell_of_row W X 1 _ _ _ h, cell_of_row W X 2 _ _ _ h, cell_of_row W X 3 _ _ _ h, cell_of_row W X 4 _ _ _ h⟩
theorem pc6 (h : W.heap[X]? = some (Obj.cells #[v0, v1, v2, v3, v4, v5] t)) : W.cell? ⟨X, 0, none⟩ = some v0 ∧ W.cell? ⟨X, 1, none⟩ = some v1 ∧ W.cell? ⟨X, 2, none⟩ = some v2 ∧ W.cell? ⟨X, 3, none⟩ = some v3 ∧ W.cell? ⟨X, 4, none⟩ = some v4 ∧ W.cell? ⟨X, 5, none⟩ = some v5 := ⟨cell_of_row W X 0 _ _ _ h, cell_of_row W X 1 _ _ _ h, cell_of_row W X 2 _ _ _ h, cell_of_row W X 3 _ _ _ h, cell_of_row W X 4 _ _ _ h, cell_of_row W X 5 _ _ _ h⟩
end
theorem pset2 {W : World} {X : Nat} {a b : Value} {t : TypeId} (h : W.heap[X]? = some (Obj.cells #[a, b] t)) (u v : Value) : ((W.setCell ⟨X, 0, none⟩ u).setCell ⟨X, 1, none⟩ v).heap[X]? = some (.cells #[u, v] t) := by
 simp only [World.setCell, Array.getElem?_modify, h]
 simp
theorem pset2o (W : World) (X : Nat) (u v : Value) (k : Nat) (hk : k ≠ X) : ((W.setCell ⟨X, 0, none⟩ u).setCell ⟨X, 1, none⟩ v).heap[k]? = W.heap[k]? := (Below.heap_setCell _ ⟨X, 1, none⟩ _ k hk).trans (Below.heap_setCell _ ⟨X, 0, none⟩ _ k hk)
theorem pset2b {n : Nat} {w W : World} {X : Nat} (h : Below n w W) (hX : n ≤ X) (u v : Value) : Below n w ((W.setCell ⟨X, 0, none⟩ u).setCell ⟨X, 1, none⟩ v) := (Below.setCell h (p := ⟨X, 0, none⟩) hX _).setCell (p := ⟨X, 1, none⟩) hX _
theorem pfrz {W : World} {B : Nat} {cs : Array Value} {t : TypeId} (h : W.heap[B]? = some (.cells cs t)) (i : Nat) : W.frozen? ⟨B, i, none⟩ = false := by simp [World.frozen?, h]
end Go.Proofs.YtphdalgaemefoaaGreat
