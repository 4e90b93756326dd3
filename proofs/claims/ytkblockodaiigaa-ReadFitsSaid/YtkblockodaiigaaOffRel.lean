/- All blocks but one stay: a relation between worlds for regions with one store (wp_region_one). -/
import Derived.Test.YtkblockodaiigaaRdSimpW
namespace Go.Proofs.Ytkblockodaiigaa
set_option maxRecDepth 100000
open Go.RowKit
set_option linter.unusedVariables false
def offRel (X : Nat) : WRel where
 r W W' := (W'.os = W.os ∧ W'.tape = W.tape ∧ W'.output = W.output) ∧ W.heap.size ≤ W'.heap.size ∧ ∀ k, k < W.heap.size → k ≠ X → W'.heap[k]? = W.heap[k]?
 refl w := ⟨⟨rfl, rfl, rfl⟩, Nat.le_refl _, fun _ _ _ => rfl⟩
 drew w := ⟨⟨rfl, rfl, rfl⟩, Nat.le_refl _, fun _ _ _ => rfl⟩
 trans := by
  rintro a b c ⟨⟨h1, h2, h3⟩, h4, h5⟩ ⟨⟨k1, k2, k3⟩, k4, k5⟩
  exact ⟨⟨k1.trans h1, k2.trans h2, k3.trans h3⟩, Nat.le_trans h4 k4, fun k hk hx => (k5 k (Nat.lt_of_lt_of_le hk h4) hx).trans (h5 k hk hx)⟩
theorem offRel.of_le {X : Nat} (a b : World) (h : Le a b) : (offRel X).r a b := ⟨⟨h.os, h.tape, h.output⟩, h.size, fun k hk _ => h.block k hk⟩
theorem offRel.below {X n : Nat} {w a b : World} (h : (offRel X).r a b) (hb : Below n w a) (hn : n ≤ X) (hw : n ≤ a.heap.size) : Below n w b :=
 ⟨h.1.1.trans hb.os, h.1.2.1.trans hb.tape, h.1.2.2.trans hb.output, Nat.le_trans hb.size h.2.1, fun k hk => (h.2.2 k (by omega) (by omega)).trans (hb.block k hk)⟩
theorem offRel.blk {X : Nat} {a b : World} (h : (offRel X).r a b) {k : Nat} {o : Obj} (hk : a.heap[k]? = some o) (hx : k ≠ X) : b.heap[k]? = some o := (h.2.2 k (gsl hk) hx).trans hk
theorem own_off {X N : Nat} {a b : World} {e size n : Nat} {v : Value} {xs : List Value} (h : a.ownsRow N e size v n xs) (hr : (offRel X).r a b) (hX : X < N) : b.ownsRow N e size v n xs := by
 refine ⟨h.1, ?_⟩
 rcases h.2 with h0 | ⟨g, cap, cur, hv, hbg, hg, r⟩
 ·exact .inl h0
 ·exact .inr ⟨g, cap, cur, hv, hbg, offRel.blk hr hg (by omega), r⟩
theorem IntsN.off {X : Nat} {a b : World} {v : Value} {L : List Int} (h : IntsN X a v L) (hr : (offRel X).r a b) : IntsN X b v L := by
 obtain ⟨⟨A, c, rfl, h1, h2, h3, h4⟩, h5⟩ := h
 refine ⟨⟨A, c, rfl, h1, h2, h3, fun h0 => ?_⟩, h5⟩
 obtain ⟨g, off, rfl, hb, hc⟩ := h4 h0
 exact ⟨g, off, rfl, Nat.lt_of_lt_of_le hb hr.2.1, fun j hj => (World.cell?_of_block (a := ⟨g, off + j, none⟩) (hr.2.2 g hb (Nat.ne_of_gt (h5 g rfl)))).trans (hc j hj)⟩
def NewP (n N : Nat) (w : World) (v : Value) (p : Prog) : Prop := ∃ v0 v1 v5, v = .agg #[v0, v1, .int .i64 p.start, .int .i64 p.throw, .int .i64 p.adv, v5] ∧ IntsN n w v0 p.ros ∧ w.ownsRow N 3 1 v1 p.rub.length (p.rub.map vint) ∧ IntsN n w v5 p.shifts
theorem NewP.off {X N : Nat} {a b : World} {v : Value} {p : Prog} (h : NewP X N a v p) (hr : (offRel X).r a b) (hX : X < N) : NewP X N b v p := by
 obtain ⟨v0, v1, v5, e, x, y, z⟩ := h
 have x1 := IntsN.off x hr
 have y1 := own_off y hr hX
 have z1 := IntsN.off z hr
 unfold NewP
 refine ⟨v0, v1, v5, ?_, ?_, ?_, ?_⟩
 ·exact e
 ·exact x1
 ·exact y1
 ·exact z1
def TPred.ownI (X N : Nat) (hX : X < N) (L : List Int) : MPredR (offRel X) := ⟨fun v W => W.ownsRow N 3 1 v L.length (L.map vint), fun _ _ _ h hp => own_off hp h hX⟩
def TPred.newP (X N : Nat) (hX : X < N) (p : Prog) : MPredR (offRel X) := ⟨fun v W => NewP X N W v p, fun _ _ _ h hp => hp.off h hX⟩
def MPred.boxP (X N : Nat) (hX : X < N) (p : Prog) : MPred := ⟨fun _ W => ∃ v0 v1 v5, W.heap[X]? = some (.cells #[v0, v1, .int .i64 p.start, .int .i64 p.throw, .int .i64 p.adv, v5] 38) ∧ NewP X N W (.agg #[v0, v1, .int .i64 p.start, .int .i64 p.throw, .int .i64 p.adv, v5]) p,
 fun _ W W' h ⟨v0, v1, v5, a, b⟩ => ⟨v0, v1, v5, (Below.block h X (gsl a)).trans a, b.off (offRel.of_le _ _ h) hX⟩⟩
theorem set1_off (W : World) (X k : Nat) (u : Value) : (offRel X).r W (W.setCell ⟨X, k, none⟩ u) := by
 refine ⟨⟨rfl, rfl, rfl⟩, ?_, fun j _ hj => Below.heap_setCell W ⟨X, k, none⟩ u j hj⟩
 simp [World.setCell]
theorem set6_off (W : World) (X : Nat) (u0 u1 u2 u3 u4 u5 : Value) : (offRel X).r W ((((((W.setCell ⟨X, 0, none⟩ u0).setCell ⟨X, 1, none⟩ u1).setCell ⟨X, 2, none⟩ u2).setCell ⟨X, 3, none⟩ u3).setCell ⟨X, 4, none⟩ u4).setCell ⟨X, 5, none⟩ u5) :=
 (offRel X).trans (set1_off W X 0 u0) ((offRel X).trans (set1_off _ X 1 u1) ((offRel X).trans (set1_off _ X 2 u2) ((offRel X).trans (set1_off _ X 3 u3) ((offRel X).trans (set1_off _ X 4 u4) (set1_off _ X 5 u5)))))
end Go.Proofs.Ytkblockodaiigaa
