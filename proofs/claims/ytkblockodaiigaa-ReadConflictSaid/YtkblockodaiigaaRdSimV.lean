/- All blocks but one stay: a relation between worlds for regions with one store (wp_region_one). read.Simplest: the walk. -/
import Derived.Test.YtkblockodaiigaaRdSimpW
import Derived.Test.YtkblockodaiigaaRdShV
import Derived.Test.YtkblockodaiigaaRdFitP
namespace Go.Proofs.Ytkblockodaiigaa
set_option maxRecDepth 100000
set_option maxHeartbeats 1000000
open Go.RowKit
set_option linter.unusedVariables false
def offRel (X : Nat) : WRel where
 r W W' := (W'.os = W.os ∧ W'.tape = W.tape ∧ W'.output = W.output) ∧ W.heap.size ≤ W'.heap.size ∧ ∀ k, k < W.heap.size → k ≠ X → W'.heap[k]? = W.heap[k]?
 refl w := ⟨⟨rfl, rfl, rfl⟩, Nat.le_refl _, fun _ _ _ => rfl⟩
 drew w := ⟨⟨rfl, rfl, rfl⟩, Nat.le_refl _, fun _ _ _ => rfl⟩
 trans := by
  rintro a b c ⟨⟨h1, h2, h3⟩, h4, h5⟩ ⟨⟨k1, k2, k3⟩, k4, k5⟩
  exact ⟨⟨k1.trans h1, k2.trans h2, k3.trans h3⟩, Nat.le_trans h4 k4, fun k hk hx => (k5 k (Nat.lt_of_lt_of_le hk h4) hx).trans (h5 k hk hx)⟩
theorem offRel.of_le {X : Nat} (a b : World) (h : Le a b) : (offRel X).r a b := ⟨⟨h.os, h.tape, h.output⟩, h.size, fun k hk _ => h.block k hk⟩
theorem offRel.below {X n : Nat} {w a b : World} (h : (offRel X).r a b) (hb : Below n w a) (hn : n ≤ X) (hw : n ≤ a.heap.size) : Below n w b :=
 ⟨h.1.1.trans hb.os, h.1.2.1.trans hb.tape, h.1.2.2.trans hb.output, Nat.le_trans hb.size h.2.1, fun k hk => (h.2.2 k (by omega) (by omega)).trans (hb.block k hk)⟩
theorem offRel.blk {X : Nat} {a b : World} (h : (offRel X).r a b) {k : Nat} {o : Obj} (hk : a.heap[k]? = some o) (hx : k ≠ X) : b.heap[k]? = some o := (h.2.2 k (gsl hk) hx).trans hk
theorem own_off {X N : Nat} {a b : World} {e size n : Nat} {v : Value} {xs : List Value} (h : a.ownsRow N e size v n xs) (hr : (offRel X).r a b) (hX : X < N) : b.ownsRow N e size v n xs := by
 refine ⟨h.1, ?_⟩
 rcases h.2 with h0 | ⟨g, cap, cur, hv, hbg, hg, r⟩
 ·exact .inl h0
 ·exact .inr ⟨g, cap, cur, hv, hbg, offRel.blk hr hg (by omega), r⟩
theorem IntsN.off {X : Nat} {a b : World} {v : Value} {L : List Int} (h : IntsN X a v L) (hr : (offRel X).r a b) : IntsN X b v L := by
 obtain ⟨⟨A, c, rfl, h1, h2, h3, h4⟩, h5⟩ := h
 refine ⟨⟨A, c, rfl, h1, h2, h3, fun h0 => ?_⟩, h5⟩
 obtain ⟨g, off, rfl, hb, hc⟩ := h4 h0
 exact ⟨g, off, rfl, Nat.lt_of_lt_of_le hb hr.2.1, fun j hj => (World.cell?_of_block (a := ⟨g, off + j, none⟩) (hr.2.2 g hb (Nat.ne_of_gt (h5 g rfl)))).trans (hc j hj)⟩
def NewP (n N : Nat) (w : World) (v : Value) (p : Prog) : Prop := ∃ v0 v1 v5, v = .agg #[v0, v1, .int .i64 p.start, .int .i64 p.throw, .int .i64 p.adv, v5] ∧ IntsN n w v0 p.ros ∧ w.ownsRow N 3 1 v1 p.rub.length (p.rub.map vint) ∧ IntsN n w v5 p.shifts
theorem NewP.off {X N : Nat} {a b : World} {v : Value} {p : Prog} (h : NewP X N a v p) (hr : (offRel X).r a b) (hX : X < N) : NewP X N b v p := by
 obtain ⟨v0, v1, v5, e, x, y, z⟩ := h
 have x1 := IntsN.off x hr
 have y1 := own_off y hr hX
 have z1 := IntsN.off z hr
 unfold NewP
 refine ⟨v0, v1, v5, ?_, ?_, ?_, ?_⟩
 ·exact e
 ·exact x1
 ·exact y1
 ·exact z1
def TPred.ownI (X N : Nat) (hX : X < N) (L : List Int) : MPredR (offRel X) := ⟨fun v W => W.ownsRow N 3 1 v L.length (L.map vint), fun _ _ _ h hp => own_off hp h hX⟩
def TPred.newP (X N : Nat) (hX : X < N) (p : Prog) : MPredR (offRel X) := ⟨fun v W => NewP X N W v p, fun _ _ _ h hp => hp.off h hX⟩
def MPred.boxP (X N : Nat) (hX : X < N) (p : Prog) : MPred := ⟨fun _ W => ∃ v0 v1 v5, W.heap[X]? = some (.cells #[v0, v1, .int .i64 p.start, .int .i64 p.throw, .int .i64 p.adv, v5] 38) ∧ NewP X N W (.agg #[v0, v1, .int .i64 p.start, .int .i64 p.throw, .int .i64 p.adv, v5]) p,
 fun _ W W' h ⟨v0, v1, v5, a, b⟩ => ⟨v0, v1, v5, (Below.block h X (gsl a)).trans a, b.off (offRel.of_le _ _ h) hX⟩⟩
theorem set1_off (W : World) (X k : Nat) (u : Value) : (offRel X).r W (W.setCell ⟨X, k, none⟩ u) := by
 refine ⟨⟨rfl, rfl, rfl⟩, ?_, fun j _ hj => Below.heap_setCell W ⟨X, k, none⟩ u j hj⟩
 simp [World.setCell]
theorem set6_off (W : World) (X : Nat) (u0 u1 u2 u3 u4 u5 : Value) : (offRel X).r W ((((((W.setCell ⟨X, 0, none⟩ u0).setCell ⟨X, 1, none⟩ u1).setCell ⟨X, 2, none⟩ u2).setCell ⟨X, 3, none⟩ u3).setCell ⟨X, 4, none⟩ u4).setCell ⟨X, 5, none⟩ u5) :=
 (offRel X).trans (set1_off W X 0 u0) ((offRel X).trans (set1_off _ X 1 u1) ((offRel X).trans (set1_off _ X 2 u2) ((offRel X).trans (set1_off _ X 3 u3) ((offRel X).trans (set1_off _ X 4 u4) (set1_off _ X 5 u5)))))
end Go.Proofs.Ytkblockodaiigaa
namespace Go.Proofs.Ytkblockodaiigaa
set_option maxRecDepth 100000
set_option maxHeartbeats 1000000
open Go.RowKit
set_option linter.unusedVariables false
set_option linter.unusedSimpArgs false
def NewProg (n : Nat) (w : World) (v : Value) (p : Prog) : Prop := ∃ v0 v1 v5, v = .agg #[v0, v1, .int .i64 p.start, .int .i64 p.throw, .int .i64 p.adv, v5] ∧ Ints w v0 p.ros ∧ w.ownsRow n 3 1 v1 p.rub.length (p.rub.map vint) ∧ Ints w v5 p.shifts
theorem NewProg.prog {n : Nat} {w : World} {v : Value} {p : Prog} (h : NewProg n w v p) : IsProg w v p := by
 obtain ⟨v0, v1, v5, e, a, b, c⟩ := h
 exact ⟨v0, v1, v5, e, a, own_ints b, c⟩
theorem zeroProgN (n : Nat) (w : World) : NewProg n w (.agg #[.slice none 0 0, .slice none 0 0, .int .i64 0, .int .i64 0, .int .i64 0, .slice none 0 0]) ⟨[], [], 0, 0, 0, []⟩ := ⟨_, _, _, rfl, Arr.nil _ _, World.ownsRow_nil _ _ _ _, Arr.nil _ _⟩
theorem own_keep6 {w : World} {n N K e size len : Nat} {v : Value} {xs : List Value} {u0 u1 u2 u3 u4 u5 : Value} (h : w.ownsRow N e size v len xs) (hn : n < N) (hK : K ≤ N) : ((((((w.setCell ⟨n, 0, none⟩ u0).setCell ⟨n, 1, none⟩ u1).setCell ⟨n, 2, none⟩ u2).setCell ⟨n, 3, none⟩ u3).setCell ⟨n, 4, none⟩ u4).setCell ⟨n, 5, none⟩ u5).ownsRow K e size v len xs := by
 refine own_base ?_ hK
 exact own_apart (own_apart (own_apart (own_apart (own_apart (own_apart h hn _) hn _) hn _) hn _) hn _) hn _
def BestV (N : Nat) (W : World) (v : Value) : Option (List Int) → Prop
 | none => v = .slice none 0 0
 | some b => ∃ g c, v = .slice (some ⟨g, 0, none⟩) b.length c ∧ IntsN N W v b
theorem BestV.le {N : Nat} {W W' : World} {v : Value} {B : Option (List Int)} (h : BestV N W v B) (hb : Below W.heap.size W W') : BestV N W' v B := by
 cases B with
 | none => exact h
 | some b =>
  obtain ⟨g, c, e, hi⟩ := h
  exact ⟨g, c, e, hi.later hb⟩
theorem setCell_self {w : World} {X k : Nat} {cs : Array Value} {t : TypeId} {v : Value} (h : w.heap[X]? = some (.cells cs t)) (hv : cs[k]? = some v) : w.setCell ⟨X, k, none⟩ v = w := by
 rw [setCell_eq_setRow w X k cs t (0, 0) v h]
 obtain ⟨h1, h2⟩ := Array.getElem?_eq_some_iff.1 hv
 rw [show cs.setIfInBounds k v = cs from by rw [Array.setIfInBounds, dif_pos h1, ← h2, Array.set_getElem_self]]
 exact setRow_self w X cs t (0, 0) h
theorem fitsV_row {p : Pic} {f : Fnd} {start : Int} (hok : PicOk p) (hm : f.head.toNat < p.hs.length) : ∀ l ∈ fitsV p f start, ∀ x ∈ l, ∃ k : Nat, x = (k : Int) ∧ k < p.steps := by
 intro l hl x hx
 unfold fitsV at hl
 split at hl
 ·unfold fitsL at hl
  obtain ⟨c, -, rfl⟩ := List.mem_map.1 hl
  unfold phasesAt at hx
  obtain ⟨k, hk, rfl⟩ := List.mem_map.1 hx
  have hk2 := List.mem_range.1 (List.mem_filter.1 hk).1
  have hhd := hok.head _ (List.getElem_mem hm)
  have hll : (p.lift f.head.toNat).length = p.steps := by unfold Pic.lift; rw [List.getD_eq_getElem?_getD, List.getElem?_eq_getElem hm]; exact (liftL_length _ _).trans hhd.1
  exact ⟨k, rfl, by omega⟩
 ·cases hl
theorem pf_rd_Simplest (v : Value) (p : Pic) (f : Fnd) (start : Int) (w : World) (hp : IsPic w v p) (hf : p.Fit) (hff : f.Fit) (hs : fit64 start) :
  Calls Try.prog 14 #[v, fndV f, .int .i64 start] w fun e w' => ∃ v', e = .returned (.tuple #[v', .int .i64 (simpE p f start)]) ∧ Below w.heap.size w w' ∧ NewProg w.heap.size w' v' (simpP p f start) := by
 have hp9 := hp
 obtain ⟨vh, vr, rfl, hh, hr⟩ := hp
 obtain ⟨HA, hc, rfl, hhl⟩ := hh.slice
 obtain ⟨RA, rc, rfl, hrl⟩ := hr.slice
 unfold maxLen at hhl hrl
 have hff9 := hff
 obtain ⟨fh, ft, fa, fl, fi⟩ := f
 show Calls Try.prog 14 #[_, .agg #[.int .i64 fh, .int .i64 ft, .int .i64 fa, .int .i64 fl, .int .i64 fi], _] w _
 obtain ⟨W0, hW0, hb0, k0⟩ := newb w (.cells #[.slice HA p.hs.length hc, .int .i64 p.tl, .int .i64 p.th, .int .i64 p.al, .int .i64 p.ah, .slice RA p.rds.length rc] 25)
 obtain ⟨W1, hW1, hb1, k1⟩ := newb W0 (.cells #[.int .i64 fh, .int .i64 ft, .int .i64 fa, .int .i64 fl, .int .i64 fi] 27)
 obtain ⟨W2, hW2, hb2, k2⟩ := newb W1 (.cells #[.slice none 0 0, .slice none 0 0, .int .i64 0, .int .i64 0, .int .i64 0, .slice none 0 0] 38)
 have hbw1 := bel_set hb0 hb1
 have hbw2 := bel_set hbw1 hb2
 have k02 := blk hb2 (blk hb1 k0)
 have k12 := blk hb2 k1
 have z0 : w.heap.size < W0.heap.size := by rw [← hW0]; simp
 have z1 : W0.heap.size < W1.heap.size := by rw [← hW1]; simp
 obtain ⟨c0, c1, c2, c3, c4, c5⟩ := pc6 k02
 obtain ⟨d0, d1, d2, d3, d4⟩ := pc5 k12
 have kfit : ∀ W, Below w.heap.size w W → Calls Try.prog 12 #[.agg #[.slice HA p.hs.length hc, .int .i64 p.tl, .int .i64 p.th, .int .i64 p.al, .int .i64 p.ah, .slice RA p.rds.length rc], .agg #[.int .i64 fh, .int .i64 ft, .int .i64 fa, .int .i64 fl, .int .i64 fi], .int .i64 start] W fun e w' => ∃ v', e = .returned (.tuple #[v', .int .i64 (fitsE p ⟨fh, ft, fa, fl, fi⟩ start)]) ∧ Below W.heap.size W w' ∧ GridL w' v' (fitsV p ⟨fh, ft, fa, fl, fi⟩ start) := fun W h => pf_rd_Fits _ p ⟨fh, ft, fa, fl, fi⟩ start W (hp9.le h) hf hff9 hs
 obtain ⟨E, hE⟩ : ∃ E, fitsE p ⟨fh, ft, fa, fl, fi⟩ start = E := ⟨_, rfl⟩
 obtain ⟨L, hL⟩ : ∃ L, fitsV p ⟨fh, ft, fa, fl, fi⟩ start = L := ⟨_, rfl⟩
 rw [hE, hL] at kfit
 have ⟨hp9', hh', hr', hf', hff9', hb0', hb1', hb2'⟩ := hyd8 hp9 hh hr hf hff9 hb0 hb1 hb2
 have ⟨k0', k1', k2', hbw1', hbw2', k02', k12', kfit'⟩ := hyd8 k0 k1 k2 hbw1 hbw2 k02 k12 kfit
 have ⟨hE', hL'⟩ := hyd2 hE hL
 clear hL hE kfit k12 k02 hbw2 hbw1 k2 k1 k0 hb2 hb1 hb0 hff9 hf hr hh hp9
 go_enter Try.func14, Try.ntmps14
 go_wp2_with (fail)
 clear hW0 hW1 hW2
 generalize hP1 : W0.heap.size = P1 at *
 generalize hP2 : W1.heap.size = P2 at *
 have ⟨hP1', hP2'⟩ := hyd2 hP1 hP2
 clear hP2 hP1
 go_at_call 12
 refine (kfit'.out W2 hbw2'.out).mono ?_
 rintro e W3 ⟨vL, rfl, hb3, hgL⟩
 have hbw3 := bel_set hbw2'.out hb3
 have k03 := blk hb3 k02'.out
 have k13 := blk hb3 k12'.out
 have k23 := blk hb3 k2'.out
 obtain ⟨GA, gc, rfl, hgm⟩ := hgL.slice
 clear c0 c1 c2 c3 c4 c5 d0 d1 d2 d3 d4
 by_cases hE0 : E = 0
 ·subst hE0
  have hpb : picB p = true := by
   have h := hE'.out
   unfold fitsE at h
   split at h
   ·assumption
   ·cases h
  have harg : argB p ⟨fh, ft, fa, fl, fi⟩ start = true := by
   have h := hE'.out
   unfold fitsE at h
   rw [if_pos hpb] at h
   split at h
   ·assumption
   ·cases h
  have hok := picB_iff.1 hpb
  obtain ⟨r1, r2⟩ : 0 ≤ fh ∧ fh ≤ (p.hs.length : Int) - 1 := by
   rw [argB_eq] at harg
   simp only [Bool.and_eq_true] at harg
   exact within_iff.1 harg.1
  obtain ⟨m, rfl⟩ : ∃ m : Nat, fh = (m : Int) := ⟨fh.toNat, by omega⟩
  have hm : m < p.hs.length := by omega
  obtain ⟨bh, oh, ch, vr0, vb0, heq, hbl, g0, g1, i0, i1⟩ := (hh'.out.le hbw3).at hm
  injection heq with e1 e2 e3
  subst e1 e3
  clear e2
  obtain ⟨Ar, cr, rfl, -⟩ := id i0
  obtain ⟨Ab, cb, rfl, -⟩ := id i1
  have i1w : Ints w (.slice Ab p.hs[m].rub.length cb) p.hs[m].rub := by
   obtain ⟨bh', oh', ch', vr', vb', heq', hbl', g0', g1', i0', i1'⟩ := hh'.out.at hm
   injection heq' with e1 e2 e3
   injection e1 with e1
   injection e1 with e1 e4
   subst e1 e4
   have h9 := (Below.cell hbw3 (p := ⟨bh, oh + m * 2 + 1, none⟩) hbl').trans g1'
   rw [g1] at h9
   injection h9 with h9
   subst h9
   exact i1'
  have hhd := hok.head _ (List.getElem_mem hm)
  have hst := hok.steps
  rw [hhd.1] at g0 i0
  obtain ⟨W4, hW4, hb4, k4⟩ := newb W3 (.cells #[.slice Ar p.steps cr, .slice Ab p.hs[m].rub.length cb] 58)
  obtain ⟨c0, c1, c2, c3, c4, c5⟩ := pc6 k03
  obtain ⟨d0, d1, d2, d3, d4⟩ := pc5 k13
  obtain ⟨x0, x1⟩ := pc2 k4
  have j1 : (m : Int) < (p.hs.length : Int) := by omega
  have j2 : (0 : Int) ≤ (m : Int) := by omega
  have hbw4 := bel_set hbw3 hb4
  have hgL4 := hgL.le hb4

  have hLl : L.length ≤ 1000 := by
   have hlc := lastC_le (rds := p.rds) (fun r h => (hok.rd r h).1)
   rw [← hL'.out]
   unfold fitsV fitsL
   split
   ·rw [List.length_map, List.length_range]; omega
   ·simp
  have hLr : ∀ l ∈ L, ∀ x ∈ l, ∃ k : Nat, x = (k : Int) ∧ k < p.steps := by
   rw [← hL'.out]
   exact fitsV_row hok hm
  obtain ⟨W5, hW5, hb5, k5⟩ := newb W4 (.cells #[.int .i64 (p.steps : Int), .slice none 0 0] 94)
  have z4 : W3.heap.size < W4.heap.size := gsl k4
  have z5 : W4.heap.size < W5.heap.size := gsl k5
  have z5b : W5.heap.size = W4.heap.size + 1 := by rw [← hW5]; simp
  have k24 := blk hb4 k23
  have k14 := blk hb4 k13
  have z24 : P2 < W3.heap.size := gsl k23
  have i04 := i0.below hb4
  have i14 := i1.below hb4
  obtain ⟨t0, t1⟩ := pc2 k5
  have f5 := pfrz k5 1
  have e5 : W5.setCell ⟨W4.heap.size, 1, none⟩ (.slice none 0 0) = W5 := setCell_self k5 rfl
  have hI5 : ∃ vo, Below W4.heap.size W4 W5 ∧ W5.heap[W4.heap.size]? = some (.cells #[.int .i64 (p.steps : Int), vo] 94) ∧ W5.heap.size ≤ W5.heap.size ∧ GrB W5 W5.heap.size vo (tabL p.steps (L.take 0)) := ⟨_, hb5, k5, Nat.le_refl _, GrB.nil _ _⟩
  have hPR : ∀ q, simpleL L p.steps = q → simpE p ⟨(m : Int), ft, fa, fl, fi⟩ start = (if q = none then 6 else 0) := fun q h => by unfold simpE; rw [hE'.out, hL'.out, h]; rfl
  generalize hBL : p.hs[m].rub.length = BL at *
  have ⟨hb3', hgL', hbw3', k03', k13', k23', hpb', harg'⟩ := hyd8 hb3 hgL hbw3 k03 k13 k23 hpb harg
  have ⟨hok', i0', i1', i1w', hhd', k4', hb4', hbw4'⟩ := hyd8 hok i0 i1 i1w hhd k4 hb4 hbw4
  have ⟨hgL4', k24', k14', i04', i14', hPR', hBL', hLr'⟩ := hyd8 hgL4 k24 k14 i04 i14 hPR hBL hLr
  have ⟨hb5', k5', hI5', z5b'⟩ := hyd4 hb5 k5 hI5 z5b
  clear z5b hI5 k5 hb5 hLr hBL hPR i14 i04 k14 k24 hgL4 hbw4 hb4 k4 hhd i1w i1 i0 hok harg hpb k23 k13 k03 hbw3 hgL hb3
  go_wp2_with (fail)
  clear hW4 hW5 c0 c1 c2 c3 c4 c5 d0 d1 d2 d3 d4 x0 x1 g0 g1 t0 t1 f5 e5
  generalize hP4 : W3.heap.size = P4 at *
  generalize hZ5 : W5.heap.size = Z5 at *
  have ⟨hP4', hZ5'⟩ := hyd2 hP4 hZ5
  clear hZ5 hP4
  go_loopw [48] (fun cx wr => ∃ c : Nat, c ≤ L.length ∧ cx = .int .i64 (c : Int) ∧ Hid (∃ vo, Below W4.heap.size W4 wr ∧ wr.heap[W4.heap.size]? = some (.cells #[.int .i64 (p.steps : Int), vo] 94) ∧ Z5 ≤ wr.heap.size ∧ GrB wr Z5 vo (tabL p.steps (L.take c)))) (fun cx _ => L.length - (intOf cx).toNat)
  case atStart =>
   obtain ⟨vo, q1, q2, q3, q4⟩ := hI5'.out
   exact ⟨0, Nat.zero_le _, rfl, Lib.hid ⟨vo, q1, q2, Nat.le_of_eq hZ5'.out.symm, q4⟩⟩
  case round =>
   rename World => wr0
   obtain ⟨c, hcl, rfl, hI⟩ := hrel
   obtain ⟨vo, hb4r, kT, hZr, hgr⟩ := hI.out
   obtain ⟨t0, t1⟩ := pc2 kT
   obtain ⟨Av, cv, rfl⟩ := hgr.form
   rw [tabL_length] at hgr t1 kT
   have hlt0 : (L.take c).length ≤ L.length := List.length_take_le' c L
   obtain ⟨tl, htl⟩ : ∃ k, (L.take c).length = k := ⟨_, rfl⟩
   rw [htl] at hgr t1 kT hlt0
   by_cases hlt : c < L.length
   ·obtain ⟨lb, lo, lc, lv, heq, hlbl, y0, hil⟩ := (hgL4'.out.le hb4r).at hlt
    injection heq with e1 e2 e3
    subst e1 e3
    clear e2
    obtain ⟨Al, cl, rfl, -⟩ := id hil
    have hlr := hLr'.out _ (List.getElem_mem hlt)
    have htk := tabL_take (steps := p.steps) hlt
    obtain ⟨l, hl⟩ : ∃ l, L[c] = l := ⟨_, rfl⟩
    rw [hl] at y0 hil hlr htk
    have j3 : (c : Int) < (L.length : Int) := by omega
    have j4 : (0 : Int) ≤ (c : Int) := by omega
    have hlm : l.length ≤ 9223372036854775807 := by
     obtain ⟨A9, c9, e9, q1, q2, -⟩ := id hil
     unfold maxLen at q2
     omega
    have ⟨hI', hb4r', kT', hgr', hil', hlr', hl', htk'⟩ := hyd8 hI hb4r kT hgr hil hlr hl htk
    have htl' := hyd1 htl
    clear htl htk hl hlr hil hgr kT hb4r hI
    go_wp2_with (first | (at_make; go_must (refine wpList_makeG (f := Value.bool) _ rfl _ _ 95 rfl wr0.heap.size 4 false 1 elemB9 rfl (by decide) p.steps rfl rfl (by omega) (Nat.le_refl _) (rowB p.steps []) (rowB_nil _) ?_)) | fail)
    intro w5 r1 r2 r3
    clear y0 t0 t1
    have hI6 : Below wr0.heap.size wr0 w5 ∧ w5.ownsRow wr0.heap.size 4 1 (.slice (some ⟨wr0.heap.size, 0, none⟩) p.steps p.steps) p.steps ((rowB p.steps (l.take 0)).map Value.bool) := ⟨r2, r1⟩
    have ⟨r1', r2', hI6'⟩ := hyd3 r1 r2 hI6
    clear hI6 r2 r1
    go_wp2_with (fail)
    go_loopw [57] (fun kx wq => ∃ k : Nat, k ≤ l.length ∧ kx = .int .i64 (k : Int) ∧ Hid (Below wr0.heap.size wr0 wq ∧ wq.ownsRow wr0.heap.size 4 1 (.slice (some ⟨wr0.heap.size, 0, none⟩) p.steps p.steps) p.steps ((rowB p.steps (l.take k)).map Value.bool))) (fun kx _ => l.length - (intOf kx).toNat)
    case atStart => exact ⟨0, Nat.zero_le _, rfl, hI6'⟩
    case round =>
     obtain ⟨k, hkl, rfl, hJ⟩ := hrel
     obtain ⟨hbq, hown⟩ := hJ.out
     by_cases hk : k < l.length
     ·obtain ⟨b2, o2, c2, heq, hb2l, -, -, hcell⟩ := Ints.cells (hil'.out.below hbq) (by omega)
      injection heq with e1 e2 e3
      subst e1 e3
      clear e2
      have y1 := hcell k hk
      obtain ⟨x, hx, hxs⟩ := hlr'.out _ (List.getElem_mem hk)
      rw [hx] at y1
      have hst2 := rowB_set (steps := p.steps) (l := l.take k) hxs
      have htk2 : l.take (k + 1) = l.take k ++ [(x : Int)] := by rw [tab_take hk, hx]
      rw [← htk2] at hst2
      have y2 := own_cellG (f := Value.bool) hown (rowB_length _ _) (rowB_get? (l := l.take k) hxs)
      have f2 := hown.frozenAt x
      have hnx := own_putG (f := Value.bool) hown x true
      rw [hst2] at hnx
      have j5 : (k : Int) < (l.length : Int) := by omega
      have j6 : (0 : Int) ≤ (k : Int) := by omega
      have j7 : (x : Int) < (p.steps : Int) := by omega
      have j8 : (0 : Int) ≤ (x : Int) := by omega
      have hI7 : Below wr0.heap.size wr0 (wr.setCell ⟨wr0.heap.size, x, none⟩ (.bool true)) ∧ (wr.setCell ⟨wr0.heap.size, x, none⟩ (.bool true)).ownsRow wr0.heap.size 4 1 (.slice (some ⟨wr0.heap.size, 0, none⟩) p.steps p.steps) p.steps ((rowB p.steps (l.take (k + 1))).map Value.bool) := ⟨Below.setCell hbq (p := ⟨wr0.heap.size, x, none⟩) (Nat.le_refl _) _, hnx⟩
      have ⟨hJ', hbq', hown', hcell', hx', hst2', htk2', hnx'⟩ := hyd8 hJ hbq hown hcell hx hst2 htk2 hnx
      have hI7' := hyd1 hI7
      clear hI7 hnx htk2 hst2 hx hcell hown hbq hJ
      go_wp2
      go_roundw
      case rel => exact ⟨k + 1, by omega, by go_num, hI7'⟩
      case measure => simp [intOf]; omega
     ·obtain rfl : k = l.length := by omega
      rw [List.take_length] at hown
      have hrow : Arr vbool wr (.slice (some ⟨wr0.heap.size, 0, none⟩) p.steps p.steps) (rowB p.steps l) := Arr.of_own (n := p.steps) hown
      have kTq := blk hbq kT'.out
      obtain ⟨t0, t1⟩ := pc2 kTq
      have hgq := hgr'.out.le hbq
      have hb4q := hb4r'.out.trans (hbq.mono (by have := gsl kT'.out; omega))
      have zq := hbq.size
      obtain ⟨W8, hW8, hb8, k8⟩ := newb wr (.cells #[.slice (some ⟨wr0.heap.size, 0, none⟩) p.steps p.steps] 95)
      have x8 := cell_of_row W8 wr.heap.size 0 _ _ _ k8
      have hg8 := hgq.le hb8
      have hrow8 := hrow.below hb8
      have hb48 := hb4q.trans (hb8.mono (by have := gsl kTq; omega))
      have kT8 := blk hb8 kTq
      have z8 := hb8.size
      have hzz : W4.heap.size < Z5 := by have := z5b'.out; omega
      have ⟨hJ', hbq', hown', hrow', kTq', hgq', hb4q', hb8'⟩ := hyd8 hJ hbq hown hrow kTq hgq hb4q hb8
      have ⟨k8', hg8', hrow8', hb48', kT8'⟩ := hyd5 k8 hg8 hrow8 hb48 kT8
      clear kT8 hb48 hrow8 hg8 k8 hb8 hb4q hgq kTq hrow hown hbq hJ
      go_wp2_with (first | (at_builtin; go_must (refine wpList_appRB _ rfl _ _ rfl Z5 (.slice Av tl cv) (tabL p.steps (L.take c)) rfl hg8'.out wr.heap.size _ _ _ (rowB p.steps l) rfl x8 hrow8'.out (by rw [tabL_length, htl'.out]; omega) (by omega) ?_)) | fail)
      intro v3 w3 hg3 hb3q
      have kT3 := ((hb3q Z5 (Nat.le_refl _)).block W4.heap.size hzz).trans kT8'.out
      obtain ⟨s0, s1⟩ := pc2 kT3
      have fs := pfrz kT3 1
      have hg4 := hg3.put (k := 1) kT3 hzz (by decide) (by intro c hc b; simp at hc; rcases hc with rfl | rfl <;> intro h <;> cases h) v3
      have kT4 : (w3.setCell ⟨W4.heap.size, 1, none⟩ v3).heap[W4.heap.size]? = some (.cells #[.int .i64 (p.steps : Int), v3] 94) := by
       simp only [World.setCell, Array.getElem?_modify, kT3]
       simp
      have hb44 : Below W4.heap.size W4 (w3.setCell ⟨W4.heap.size, 1, none⟩ v3) := (hb48'.out.trans (hb3q W4.heap.size (Nat.le_of_lt hzz))).setCell (p := ⟨W4.heap.size, 1, none⟩) (Nat.le_refl _) _
      have hI8 : ∃ vo, Below W4.heap.size W4 (w3.setCell ⟨W4.heap.size, 1, none⟩ v3) ∧ (w3.setCell ⟨W4.heap.size, 1, none⟩ v3).heap[W4.heap.size]? = some (.cells #[.int .i64 (p.steps : Int), vo] 94) ∧ Z5 ≤ (w3.setCell ⟨W4.heap.size, 1, none⟩ v3).heap.size ∧ GrB (w3.setCell ⟨W4.heap.size, 1, none⟩ v3) Z5 vo (tabL p.steps (L.take (c + 1))) := ⟨v3, hb44, kT4, by have := (hb3q Z5 (Nat.le_refl _)).size; simp [World.setCell]; omega, by rw [htk'.out]; exact hg4⟩
      obtain ⟨A3, c3, hv3⟩ := hg3.form
      obtain ⟨n3, hn3⟩ : ∃ k, (tabL p.steps (L.take c) ++ [rowB p.steps l]).length = k := ⟨_, rfl⟩
      rw [hn3] at hv3
      subst hv3
      clear hn3
      clear t0 t1 x8
      have ⟨hg3', hb3q', kT3', hg4', kT4', hb44', hI8'⟩ := hyd7 hg3 hb3q kT3 hg4 kT4 hb44 hI8
      clear hI8 hb44 kT4 hg4 kT3 hb3q hg3
      go_wp2
      go_roundw
      case rel => exact ⟨c + 1, by omega, by go_num, hI8'⟩
      case measure => simp [intOf]; omega
   ·obtain rfl : c = L.length := by omega
    rw [List.take_length] at hgr htl
    subst htl
    have hbwz := bel_set hbw4'.out hb4r
    have hgz := hgr.grid
    have k1z := blk hb4r k14'.out
    have k2z := blk hb4r k24'.out
    have k4z := blk hb4r k4'.out
    have i0z := i04'.out.below hb4r
    have i1z := i14'.out.below hb4r
    have zTz := gsl kT
    have hst3 := hst.1
    have hst96 := hst.2
    have ⟨hI', hb4r', kT', hgr', hbwz', hgz', k1z', k2z'⟩ := hyd8 hI hb4r kT hgr hbwz hgz k1z k2z
    have ⟨k4z', i0z', i1z'⟩ := hyd3 k4z i0z i1z
    clear i1z i0z k4z k2z k1z hgz hbwz hgr kT hb4r hI
    go_wp2_with (fail)
    clear t0 t1
    go_loopw [72] (fun nx wr => ∃ n : Nat, n ≤ 12 ∧ nx = .int .i64 (n : Int) ∧ Hid (Below wr0.heap.size wr0 wr) ∧ Hid (∀ k, k < n → ∀ j, j < p.steps → bestL L p.steps (k + 1) (j : Int) = none)) (fun nx _ => 13 - (intOf nx).toNat)
    case atStart => exact ⟨0, by omega, rfl, Lib.hid (Below.refl _ _), Lib.hid fun k h => absurd h (Nat.not_lt_zero k)⟩
    case round =>
     obtain ⟨n, hn12, rfl, hbn, hnone⟩ := hrel
     obtain ⟨t0, t1⟩ := pc2 (blk hbn.out kT'.out)
     by_cases hn : n < 12
     ·have j3 : (n : Int) < 12 := by omega
      go_wp2_with (fail)
      rename World => wn
      clear t0 t1
      go_loopw [77] (fun fx wr => ∃ first : Nat, first ≤ p.steps ∧ fx = .int .i64 (first : Int) ∧ Hid (Below wr0.heap.size wr0 wr) ∧ Hid (∀ j, j < first → bestL L p.steps (n + 1) (j : Int) = none)) (fun fx _ => p.steps - (intOf fx).toNat)
      case atStart => exact ⟨0, Nat.zero_le _, rfl, hbn, Lib.hid fun j h => absurd h (Nat.not_lt_zero j)⟩
      case round =>
       obtain ⟨first, hfi, rfl, hbf, hfnone⟩ := hrel
       obtain ⟨t0, t1⟩ := pc2 (blk hbf.out kT'.out)
       by_cases hfl : first < p.steps
       ·have j4 : (first : Int) < (p.steps : Int) := by omega
        have hI9 : Below wr0.heap.size wr0 wr ∧ BestV P2 wr (.slice none 0 0) (bestTo L p.steps (n + 1) (first : Int) 0) := ⟨hbf.out, rfl⟩
        have hI9' := hyd1 hI9
        clear hI9
        go_wp2_with (fail)
        rename World => wf
        clear t0 t1
        go_loopw [82, 19] (fun ax vb wr => ∃ all : Nat, all ≤ p.steps ∧ ax = .int .i64 (all : Int) ∧ Hid (Below wr0.heap.size wr0 wr ∧ BestV P2 wr vb (bestTo L p.steps (n + 1) (first : Int) all))) (fun ax _ _ => p.steps - (intOf ax).toNat)
        case atStart => exact ⟨0, Nat.zero_le _, rfl, hI9'⟩
        case round =>
         obtain ⟨all, hal, rfl, hJ⟩ := hrel
         obtain ⟨hba, hbv⟩ := hJ.out
         obtain ⟨t0, t1⟩ := pc2 (blk hba kT'.out)
         by_cases hall : all < p.steps
         ·have ksh : Calls Try.prog 41 #[.agg #[.int .i64 (p.steps : Int), .slice Av L.length cv], .int .i64 ((n : Int) + 1), .int .i64 (first : Int), .int .i64 (all : Int)] wr fun e w' => ∃ v' b, e = .returned (.tuple #[v', .bool b]) ∧ b = (listedL L p.steps (n + 1) (first : Int) (all : Int)).isSome ∧ Below wr.heap.size wr w' ∧ (b = true → Ints w' v' ((listedL L p.steps (n + 1) (first : Int) (all : Int)).getD []) ∧ ∃ g l c, v' = .slice (some ⟨g, 0, none⟩) l c ∧ wr.heap.size ≤ g) :=
           pf_rd_shifts _ L p.steps (n + 1) first all wr (hgz'.out.le hba) hLl (by omega) (by omega) (by omega) (by omega) hfl hall
          have hsucc := bestTo_succ L p.steps (n + 1) (first : Int) all
          obtain ⟨X, hX⟩ : ∃ X, listedL L p.steps (n + 1) (first : Int) (all : Int) = X := ⟨_, rfl⟩
          obtain ⟨Bo, hBo⟩ : ∃ B, bestTo L p.steps (n + 1) (first : Int) all = B := ⟨_, rfl⟩
          have hXl : ∀ l, X = some l → l.length = n + 1 := fun l h => listedL_length (by omega) (hX.trans h)
          have hBl : ∀ l, Bo = some l → l.length = n + 1 := fun l h => bestTo_length (by omega) all l (hBo.trans h)
          rw [hX] at ksh hsucc
          rw [hBo] at hsucc hbv
          have j5 : (all : Int) < (p.steps : Int) := by omega
          have ⟨hJ', hba', hbv', ksh', hsucc', hX', hXl', hBl'⟩ := hyd8 hJ hba hbv ksh hsucc hX hXl hBl
          clear hBl hXl hX hsucc ksh hbv hba hJ
          go_wp2_with (fail)
          go_at_call 41
          refine ksh'.out.mono ?_
          rintro e W6 ⟨vx, b, rfl, hb, hb6, hx6⟩
          have hba6 := bel_set hba'.out hb6
          clear t0 t1
          cases X with
          | none =>
           obtain rfl : b = false := hb
           have hn9 : Below wr0.heap.size wr0 W6 ∧ BestV P2 W6 u19 (bestTo L p.steps (n + 1) (first : Int) (all + 1)) := ⟨hba6, by rw [hsucc'.out]; have h := hbv'.out.le hb6; cases Bo <;> exact h⟩
           have ⟨hb6', hx6', hba6', hn9', hBo'⟩ := hyd5 hb6 hx6 hba6 hn9 hBo
           clear hBo hn9 hba6 hx6 hb6
           go_wp2
           go_roundw
           case rel => exact ⟨all + 1, by omega, by go_num, hn9'⟩
           case measure => simp [intOf]; omega
          | some l =>
           obtain rfl : b = true := hb
           obtain ⟨hxi, gx, lx, cx, rfl, hgx⟩ := hx6 rfl
           replace hxi : Ints W6 (.slice (some ⟨gx, 0, none⟩) lx cx) l := hxi
           obtain rfl : lx = l.length := hxi.len
           have hll := hXl'.out l rfl
           have hgx2 : P2 < gx := by
            have h8 := hba'.out.size
            have h9 : P2 < wr0.heap.size := gsl k2z'.out
            omega
           have hxn : IntsN P2 W6 (.slice (some ⟨gx, 0, none⟩) l.length cx) l := ⟨hxi, fun g hg => (by
            have hg2 : gx = g := by simpa [Value.ownBlock] using hg
            omega)⟩
           have hbx : BestV P2 W6 (.slice (some ⟨gx, 0, none⟩) l.length cx) (some l) := ⟨gx, cx, rfl, hxn⟩
           cases Bo with
           | none =>
            have hv0 : u19 = .slice none 0 0 := hbv'.out
            subst hv0
            have hnil := fun W => Lib.run_eql_slice_nil (P := Try.prog) W 36 3 none 0 0 0 0 Try.underlying36
            have hn9 : Below wr0.heap.size wr0 W6 ∧ BestV P2 W6 (.slice (some ⟨gx, 0, none⟩) l.length cx) (bestTo L p.steps (n + 1) (first : Int) (all + 1)) := ⟨hba6, by rw [hsucc'.out]; exact hbx⟩
            have ⟨hb6', hba6', hn9', hBo', hxi', hxn', hbx', hll'⟩ := hyd8 hb6 hba6 hn9 hBo hxi hxn hbx hll
            clear hll hbx hxn hxi hBo hn9 hba6 hb6
            go_wp2
            go_roundw
            case rel => exact ⟨all + 1, by omega, by go_num, hn9'⟩
            case measure => simp [intOf]; omega
           | some bb =>
            obtain ⟨gb, cb9, rfl, hbn9⟩ := hbv'.out.le hb6
            have hlb := hBl'.out bb rfl
            have hnil := fun W => Lib.run_eql_slice_nil (P := Try.prog) W 36 3 (some ⟨gb, 0, none⟩) bb.length cb9 0 0 Try.underlying36
            have kc := pf_sCompare _ _ l bb W6 hxi hbn9.1 (by omega)
            obtain ⟨F, hF⟩ : ∃ F, lessL l bb = F := ⟨_, rfl⟩
            rw [hF] at kc
            cases F with
            | true =>
             have hn9 : Below wr0.heap.size wr0 W6 ∧ BestV P2 W6 (.slice (some ⟨gx, 0, none⟩) l.length cx) (bestTo L p.steps (n + 1) (first : Int) (all + 1)) := ⟨hba6, by rw [hsucc'.out]; show BestV _ _ _ (if lessL l bb then some l else some bb); rw [hF]; exact hbx⟩
             have ⟨hb6', hba6', hn9', hBo', hxi', hxn', hbx', hll'⟩ := hyd8 hb6 hba6 hn9 hBo hxi hxn hbx hll
             have ⟨hlb', hbn9', kc', hF'⟩ := hyd4 hlb hbn9 kc hF
             clear hF kc hbn9 hlb hll hbx hxn hxi hBo hn9 hba6 hb6
             go_wp2_with (fail)
             go_at_call 42
             refine kc'.out.mono ?_
             rintro e w' ⟨cc, rfl, hcc, rfl⟩
             have hcc2 : cc < 0 := by simpa using hcc
             clear hcc
             go_wp2
             go_roundw
             case rel => exact ⟨all + 1, by omega, by go_num, hn9'⟩
             case measure => simp [intOf]; omega
            | false =>
             have hn9 : Below wr0.heap.size wr0 W6 ∧ BestV P2 W6 (.slice (some ⟨gb, 0, none⟩) bb.length cb9) (bestTo L p.steps (n + 1) (first : Int) (all + 1)) := ⟨hba6, by rw [hsucc'.out]; show BestV _ _ _ (if lessL l bb then some l else some bb); rw [hF]; exact ⟨gb, cb9, rfl, hbn9⟩⟩
             have ⟨hb6', hba6', hn9', hBo', hxi', hxn', hbx', hll'⟩ := hyd8 hb6 hba6 hn9 hBo hxi hxn hbx hll
             have ⟨hlb', hbn9', kc', hF'⟩ := hyd4 hlb hbn9 kc hF
             clear hF kc hbn9 hlb hll hbx hxn hxi hBo hn9 hba6 hb6
             go_wp2_with (fail)
             go_at_call 42
             refine kc'.out.mono ?_
             rintro e w' ⟨cc, rfl, hcc, rfl⟩
             have hcc2 : ¬ cc < 0 := by simpa using hcc
             clear hcc
             go_wp2
             go_roundw
             case rel => exact ⟨all + 1, by omega, by go_num, hn9'⟩
             case measure => simp [intOf]; omega
         ·obtain rfl : all = p.steps := by omega
          obtain ⟨Bo, hBo⟩ : ∃ B, bestTo L p.steps (n + 1) (first : Int) p.steps = B := ⟨_, rfl⟩
          rw [hBo] at hbv
          cases Bo with
          | none =>
           have hv0 : u19 = .slice none 0 0 := hbv
           subst hv0
           have hn9 : ∀ j, j < first + 1 → bestL L p.steps (n + 1) (j : Int) = none := fun j hj => by
            by_cases e : j = first
            ·subst e; rw [bestL_eq]; exact hBo
            ·exact hfnone.out j (by omega)
           have ⟨hJ', hba', hbv', hBo', hn9'⟩ := hyd5 hJ hba hbv hBo hn9
           clear hn9 hBo hbv hba hJ
           go_wp2
           go_roundw
           case rel => exact ⟨first + 1, by omega, by go_num, hba'.out, hn9'.out⟩
           case measure => simp [intOf]; omega
          | some bb =>
--@ARM33
           obtain ⟨gb, cb9, rfl, hbn9⟩ := hbv
           have hsn := simple_some (L := L) (steps := p.steps) (n := n + 1) (first := first) (l := bb) (by omega) (by omega) hfl (by rw [bestL_eq]; exact hBo) (fun k h1 h2 j hj => (by have h := hnone.out (k - 1) (by omega) j hj; rwa [show k - 1 + 1 = k by omega] at h)) hfnone.out
           have hgd : p.hs.getD ((m : Int)).toNat default = p.hs[m] := by simp [hm]
           have hE6 : simpE p ⟨(m : Int), ft, fa, fl, fi⟩ start = 0 := by rw [hPR'.out _ hsn]; rfl
           have hp0 : simpP p ⟨(m : Int), ft, fa, fl, fi⟩ start = ⟨movedL p.hs[m].ros (first : Int), p.hs[m].rub, start, ft, fa, bb⟩ := by unfold simpP; rw [if_pos hE'.out, hL'.out, hsn]; show (⟨movedL (p.hs.getD ((m : Int)).toNat default).ros (first : Int), (p.hs.getD ((m : Int)).toNat default).rub, start, ft, fa, bb⟩ : Prog) = _; rw [hgd]
           have k4r := blk hba k4z'.out
           obtain ⟨x0, x1⟩ := pc2 k4r
           have kturn := pf_rd_Turned _ p.hs[m].ros first wr (i0z'.out.below hba) hhd'.out.2.1 (by rw [hhd'.out.1]; exact hfl)
           rw [hhd'.out.1] at kturn
           have hba0 := hba.size
           have z2r : P2 < wr.heap.size := Nat.lt_of_lt_of_le (gsl k2z'.out) hba0
           have ⟨hJ', hba', hBo', hbn9', hsn', hgd', hE6', hp0'⟩ := hyd8 hJ hba hBo hbn9 hsn hgd hE6 hp0
           have ⟨k4r', kturn'⟩ := hyd2 k4r kturn
           clear kturn k4r hp0 hE6 hgd hsn hbn9 hBo hba hJ
           go_wp2_with (fail)
           go_at_call 43
           refine kturn'.out.mono ?_
           rintro e W6 ⟨vt, rfl, hb6, hot⟩
           have hba6 := bel_set hba'.out hb6
           have hti0 := own_ints hot
           obtain ⟨TA, tc, rfl⟩ := slice_formR hot
           have hti : IntsN P2 W6 (.slice TA p.steps tc) (movedL p.hs[m].ros (first : Int)) := ⟨hti0, fun g hg => (by have h := (hot.lt g hg).1; omega)⟩
           have hbn6 := hbn9'.out.later hb6
           have k46 := blk hb6 k4r'.out
           have k16 := blk hba6 k1z'.out
           have k26 := blk hba6 k2z'.out
           have hbw6 := bel_set hbwz'.out hba6
           have hru : p.hs[m].rub.length ≤ 1000 := by obtain ⟨q1, q2, q3, -⟩ := rubOk_iff.1 hhd'.out.2.2; omega
           have z26 : P2 < W6.heap.size := gsl k26
           have hwP : w.heap.size ≤ P2 := by omega
           have hw6 := hbw6.size
           have i16 := i1z'.out.below hba6
           have kcl : ∀ W, (offRel P2).r W6 W → Calls Try.prog 44 #[.slice Ab BL cb] W fun e w' => ∃ v', e = .returned v' ∧ Below W.heap.size W w' ∧ w'.ownsRow W6.heap.size 3 1 v' p.hs[m].rub.length (p.hs[m].rub.map vint) := fun W h => (pf_Clone _ _ W (i1w'.out.below (offRel.below h hbw6 hwP hw6)) (by omega)).mono fun e w' ⟨v', h1, h2, h3, _⟩ => ⟨v', h1, h2, own_base h3 h.2.1⟩
           have zP1 : P1 < P2 := by omega
           clear x0 x1 t0 t1
           have ⟨hb6', hot', hti0', hba6', hti', hbn6', k46', k16'⟩ := hyd8 hb6 hot hti0 hba6 hti hbn6 k46 k16
           have ⟨k26', hbw6', i16', kcl', hru'⟩ := hyd5 k26 hbw6 i16 kcl hru
           clear hru kcl i16 hbw6 k26 k16 k46 hbn6 hti hba6 hti0 hot hb6
           go_wp2_with (fail)
           refine wp_region_one (R := leRel) (T := offRel P2) offRel.of_le 13 12 (by decide) [some 116, some 117, some 118, some 119, some 120, some 121, some 122, some 123, some 124, some 125, some 126, some 127, none, some 7] [[], [], [1], [2], [], [], [5], [], [7], [], [0, 3, 4, 6, 8, 9], [], [10], [11]]
            [.eq (.slice TA p.steps tc), .eq (.pointer (some ⟨P4, 1, none⟩)), .eq (.slice Ab BL cb), TPred.ownI P2 W6.heap.size z26 p.hs[m].rub, .eq (.int .i64 start), .eq (.pointer (some ⟨P1, 1, none⟩)), .eq (.int .i64 ft), .eq (.pointer (some ⟨P1, 2, none⟩)), .eq (.int .i64 fa), .eq (.slice (some ⟨gb, 0, none⟩) bb.length cb9), TPred.newP P2 W6.heap.size z26 ⟨movedL p.hs[m].ros (first : Int), p.hs[m].rub, start, ft, fa, bb⟩, .eq (.int .i64 0), .any] [] (MPred.boxP P2 W6.heap.size z26 ⟨movedL p.hs[m].ros (first : Int), p.hs[m].rub, start, ft, fa, bb⟩) (fun _ _ => False) (by kernel_rfl) (by kernel_rfl) (by kernel_rfl) (by kernel_rfl) ?_ (fun _ _ _ _ h => h.elim) ?_
           ·simp only [List.take_succ_cons, List.take_zero]
            refine oneSteps_N (by decide) ⟨rfl, fun xv W hR hf Q hK _ => ?_⟩ (oneSteps_N (by decide) ⟨rfl, fun xv W hR hf Q hK _ => ?_⟩ (oneSteps_N (by decide) ⟨rfl, fun xv W hR hf Q hK _ => ?_⟩ (oneSteps_N (by decide) ⟨rfl, fun xv W hR hf Q hK _ => ?_⟩ (oneSteps_N (by decide) ⟨rfl, fun xv W hR hf Q hK _ => ?_⟩ (oneSteps_N (by decide) ⟨rfl, fun xv W hR hf Q hK _ => ?_⟩ (oneSteps_N (by decide) ⟨rfl, fun xv W hR hf Q hK _ => ?_⟩ (oneSteps_N (by decide) ⟨rfl, fun xv W hR hf Q hK _ => ?_⟩ (oneSteps_N (by decide) ⟨rfl, fun xv W hR hf Q hK _ => ?_⟩ (oneSteps_N (by decide) ⟨rfl, fun xv W hR hf Q hK _ => ?_⟩ (oneSteps_N (by decide) ⟨rfl, fun xv W hR hf Q hK _ => ?_⟩ (oneSteps_N (by decide) ⟨rfl, fun xv W hR hf Q hK _ => ?_⟩ (oneSteps_S (by decide) ⟨rfl, fun xv W hR hf hg Q hK _ => ?_⟩ oneSteps_nil))))))))))))
            ·simp only [fA] at hK ⊢
             go_wp2
             exact hK _ _ lrR rfl trivial
            ·simp only [fA] at hK ⊢
             go_wp2
             exact hK _ _ lrR rfl trivial
            ·obtain ⟨e0, -⟩ := hf
             change _ = _ at e0
             have cc := (pc2 (offRel.blk hR k46'.out (by omega))).2
             simp only [fA, e0] at hK ⊢
             go_wp2
             exact hK _ _ lrR rfl trivial
            ·obtain ⟨e0, -⟩ := hf
             change _ = _ at e0
             simp only [fA, e0] at hK ⊢
             go_wp2_with (fail)
             go_at_call 44
             refine (kcl'.out W hR).mono ?_
             rintro e w' ⟨v', rfl, y1, y2⟩
             have ⟨y1', y2'⟩ := hyd2 y1 y2
             clear y2 y1
             go_wp2
             exact hK _ _ y1'.out y2'.out trivial
            ·simp only [fA] at hK ⊢
             go_wp2
             exact hK _ _ lrR rfl trivial
            ·simp only [fA] at hK ⊢
             go_wp2
             exact hK _ _ lrR rfl trivial
            ·obtain ⟨e0, -⟩ := hf
             change _ = _ at e0
             have cc := (pc5 (offRel.blk hR k16'.out (by omega))).2.1
             simp only [fA, e0] at hK ⊢
             go_wp2
             exact hK _ _ lrR rfl trivial
            ·simp only [fA] at hK ⊢
             go_wp2
             exact hK _ _ lrR rfl trivial
            ·obtain ⟨e0, -⟩ := hf
             change _ = _ at e0
             have cc := (pc5 (offRel.blk hR k16'.out (by omega))).2.2.1
             simp only [fA, e0] at hK ⊢
             go_wp2
             exact hK _ _ lrR rfl trivial
            ·simp only [fA] at hK ⊢
             go_wp2
             exact hK _ _ lrR rfl trivial
            ·obtain ⟨e0, e1, e2, e3, e4, e5, -⟩ := hf
             change _ = _ at e0 e2 e3 e4 e5
             replace e1 : W.ownsRow W6.heap.size 3 1 (xv 3) p.hs[m].rub.length (p.hs[m].rub.map vint) := e1
             obtain ⟨a1, c1, q1⟩ := slice_formR e1
             generalize hqn : p.hs[m].rub.length = n1 at q1 e1
             rw [q1] at e1
             simp only [fA, e0, e2, e3, e4, e5, q1] at hK ⊢
             clear q1
             go_wp2
             exact hK _ _ lrR ⟨_, _, _, rfl, IntsN.off hti'.out hR, by rw [hqn]; exact e1, IntsN.off hbn6'.out hR⟩ trivial
            ·simp only [fA] at hK ⊢
             go_wp2
             exact hK _ _ lrR rfl trivial
            ·obtain ⟨e0, -⟩ := hf
             replace e0 : NewP P2 W6.heap.size W (xv 10) ⟨movedL p.hs[m].ros (first : Int), p.hs[m].rub, start, ft, fa, bb⟩ := e0
             obtain ⟨v0, v1, v5, e10, y0, y1, y5⟩ := e0
             obtain ⟨a0, c0, q0, -⟩ := id y0.1
             obtain ⟨a1, c1, q1⟩ := slice_formR y1
             obtain ⟨a5, c5, q5, -⟩ := id y5.1
             have hpg : NewP P2 W6.heap.size W (xv 10) ⟨movedL p.hs[m].ros (first : Int), p.hs[m].rub, start, ft, fa, bb⟩ := ⟨v0, v1, v5, e10, y0, y1, y5⟩
             dsimp only at q0 q1 q5
             obtain ⟨n0, hn0⟩ : ∃ n, (movedL p.hs[m].ros (first : Int)).length = n := ⟨_, rfl⟩
             obtain ⟨n1, hn1⟩ : ∃ n, p.hs[m].rub.length = n := ⟨_, rfl⟩
             obtain ⟨n5, hn5⟩ : ∃ n, bb.length = n := ⟨_, rfl⟩
             rw [hn0] at q0
             rw [hn1] at q1
             rw [hn5] at q5
             clear hn0 hn1 hn5
             subst q0 q1 q5
             rw [e10] at hpg
             have hk9 := blk hR k26'.out
             have fg0 := pfrz hk9 0
             have fg1 := pfrz hk9 1
             have fg2 := pfrz hk9 2
             have fg3 := pfrz hk9 3
             have fg4 := pfrz hk9 4
             have fg5 := pfrz hk9 5
             obtain ⟨x0, x1, x2, x3, x4, x5⟩ := pc6 hk9
             have hto := set6_off W P2 (.slice a0 n0 c0) (.slice a1 n1 c1) (.int .i64 start) (.int .i64 ft) (.int .i64 fa) (.slice a5 n5 c5)
             have hpo := NewP.off hpg hto z26
             have kpo := pset6 hk9 (.slice a0 n0 c0) (.slice a1 n1 c1) (.int .i64 start) (.int .i64 ft) (.int .i64 fa) (.slice a5 n5 c5)
             simp only [fA, e10] at hK ⊢
             clear e10 y0 y1 y5
             have ⟨hpg', hk9', hto', hpo', kpo'⟩ := hyd5 hpg hk9 hto hpo kpo
             clear kpo hpo hto hk9 hpg
             go_wp2
             exact hK undef _ hto'.out trivial ⟨_, _, _, kpo'.out, hpo'.out⟩
           ·intro xv W3 hR hf hO Q' hQ1 _
            have e11 : xv 11 = .int .i64 0 := hf 11 (by decide)
            obtain ⟨v0, v1, v5, k9, hnp⟩ := hO
            dsimp only at k9
            simp only [List.drop_succ_cons, List.drop_zero]
            rw [show List.range 13 = [0, 1, 2, 3, 4, 5, 6, 7, 8, 9, 10, 11, 12] from rfl]
            simp only [fA, e11]
            clear e11 hf
            have hb9 := offRel.below hR hbw6'.out hwP hw6
            have hg9 : NewProg w.heap.size W3 (.agg #[v0, v1, .int .i64 start, .int .i64 ft, .int .i64 fa, v5]) ⟨movedL p.hs[m].ros (first : Int), p.hs[m].rub, start, ft, fa, bb⟩ := by
             obtain ⟨u0, u1, u5, e, a, b, c⟩ := hnp
             exact ⟨u0, u1, u5, e, a.1, own_base b (by omega), c.1⟩
            obtain ⟨a0, c0, q0, -⟩ : ∃ a0 c0, v0 = .slice a0 (movedL p.hs[m].ros (first : Int)).length c0 ∧ True := by
             obtain ⟨u0, u1, u5, e, a, b, c⟩ := hnp
             injection e with e
             injection e with e
             injection e with e1 e
             obtain ⟨x, y, z, -⟩ := a.1
             exact ⟨x, y, e1.trans z, trivial⟩
            have hnp2 := hnp
            obtain ⟨d0, d1, d2, d3, d4, d5⟩ := pc6 k9
            have ⟨hR', k9', hb9', hg9', hnp', hnp2'⟩ := hyd6 hR k9 hb9 hg9 hnp hnp2
            clear hnp2 hnp hg9 hb9 k9 hR
            go_wp2
            refine hQ1 _ _ ?_
            clear hQ1
            go_wp2
            exact bodyPost_ret (v := .tuple #[.agg #[v0, v1, .int .i64 start, .int .i64 ft, .int .i64 fa, v5], .int .i64 0]) (by simp [results, Try.results14, go_sem, d0, d1, d2, d3, d4, d5]) rfl ⟨_, by rw [hE6'.out], hb9'.out, by rw [hp0'.out]; exact hg9'.out⟩
--@END33
       ·obtain rfl : first = p.steps := by omega
        have hn9 : ∀ k, k < n + 1 → ∀ j, j < p.steps → bestL L p.steps (k + 1) (j : Int) = none := fun k h2 j hj => by
         by_cases e : k = n
         ·subst e; exact hfnone.out j hj
         ·exact hnone.out k (by omega) j hj
        have hn9' := hyd1 hn9
        clear hn9
        go_wp2
        go_roundw
        case rel => exact ⟨n + 1, by omega, by go_num, hbf, hn9'⟩
        case measure => simp [intOf]; omega
     ·obtain rfl : n = 12 := by omega
      have hsn := simple_none (L := L) (steps := p.steps) (fun k h1 h2 j hj => by have h := hnone.out (k - 1) (by omega) j hj; rwa [show k - 1 + 1 = k by omega] at h)
      have hE6 : simpE p ⟨(m : Int), ft, fa, fl, fi⟩ start = 6 := by rw [hPR'.out none hsn]; rfl
      have hp0 : simpP p ⟨(m : Int), ft, fa, fl, fi⟩ start = ⟨[], [], 0, 0, 0, []⟩ := by unfold simpP; rw [if_pos hE'.out, hL'.out, hsn]
      have hk9 := blk hbn.out k2z'.out
      have hbw9 := bel_set hbwz'.out hbn.out
      obtain ⟨y0, y1, y2, y3, y4, y5⟩ := pc6 hk9
      have fg0 := pfrz hk9 0
      have fg1 := pfrz hk9 1
      have fg2 := pfrz hk9 2
      have fg3 := pfrz hk9 3
      have fg4 := pfrz hk9 4
      have fg5 := pfrz hk9 5
      obtain ⟨W9, hW9, hb9, k9⟩ : ∃ V, ((((((wr.setCell ⟨P2, 0, none⟩ (.slice none 0 0)).setCell ⟨P2, 1, none⟩ (.slice none 0 0)).setCell ⟨P2, 2, none⟩ (.int .i64 0)).setCell ⟨P2, 3, none⟩ (.int .i64 0)).setCell ⟨P2, 4, none⟩ (.int .i64 0)).setCell ⟨P2, 5, none⟩ (.slice none 0 0)) = V ∧ Below w.heap.size w V ∧ V.heap[P2]? = some (.cells #[.slice none 0 0, .slice none 0 0, .int .i64 0, .int .i64 0, .int .i64 0, .slice none 0 0] 38) := ⟨_, rfl, pset6b hbw9 (by omega) _ _ _ _ _ _, pset6 hk9 _ _ _ _ _ _⟩
      obtain ⟨d0, d1, d2, d3, d4, d5⟩ := pc6 k9
      have ⟨hb9', k9', hsn', hE6', hp0', hk9', hbw9'⟩ := hyd7 hb9 k9 hsn hE6 hp0 hk9 hbw9
      clear hbw9 hk9 hp0 hE6 hsn k9 hb9
      go_wp2
      exact bodyPost_ret (v := .tuple #[.agg #[.slice none 0 0, .slice none 0 0, .int .i64 0, .int .i64 0, .int .i64 0, .slice none 0 0], .int .i64 6]) (by simp [results, Try.results14, go_sem, d0, d1, d2, d3, d4, d5]) rfl ⟨_, by rw [hE6'.out], hb9'.out, by rw [hp0'.out]; exact zeroProgN _ _⟩
 ·have hE6 : simpE p ⟨fh, ft, fa, fl, fi⟩ start = E := by unfold simpE; rw [hE'.out, if_neg hE0]
  have hp0 : simpP p ⟨fh, ft, fa, fl, fi⟩ start = ⟨[], [], 0, 0, 0, []⟩ := by unfold simpP; rw [if_neg (by rw [hE'.out]; exact hE0)]
  obtain ⟨y0, y1, y2, y3, y4, y5⟩ := pc6 k23
  have fg0 := pfrz k23 0
  have fg1 := pfrz k23 1
  have fg2 := pfrz k23 2
  have fg3 := pfrz k23 3
  have fg4 := pfrz k23 4
  have fg5 := pfrz k23 5
  obtain ⟨W9, hW9, hb9, k9⟩ : ∃ V, ((((((W3.setCell ⟨P2, 0, none⟩ (.slice none 0 0)).setCell ⟨P2, 1, none⟩ (.slice none 0 0)).setCell ⟨P2, 2, none⟩ (.int .i64 0)).setCell ⟨P2, 3, none⟩ (.int .i64 0)).setCell ⟨P2, 4, none⟩ (.int .i64 0)).setCell ⟨P2, 5, none⟩ (.slice none 0 0)) = V ∧ Below w.heap.size w V ∧ V.heap[P2]? = some (.cells #[.slice none 0 0, .slice none 0 0, .int .i64 0, .int .i64 0, .int .i64 0, .slice none 0 0] 38) := ⟨_, rfl, pset6b hbw3 (by omega) _ _ _ _ _ _, pset6 k23 _ _ _ _ _ _⟩
  obtain ⟨d0, d1, d2, d3, d4, d5⟩ := pc6 k9
  have ⟨hb9', k9', hE6', hp0', hb3', hgL', hbw3', k03'⟩ := hyd8 hb9 k9 hE6 hp0 hb3 hgL hbw3 k03
  have ⟨k13', k23'⟩ := hyd2 k13 k23
  clear k23 k13 k03 hbw3 hgL hb3 hp0 hE6 k9 hb9
  go_wp2
  exact bodyPost_ret (v := .tuple #[.agg #[.slice none 0 0, .slice none 0 0, .int .i64 0, .int .i64 0, .int .i64 0, .slice none 0 0], .int .i64 E]) (by simp [results, Try.results14, go_sem, d0, d1, d2, d3, d4, d5]) rfl ⟨_, by rw [hE6'.out], hb9'.out, by rw [hp0'.out]; exact zeroProgN _ _⟩
end Go.Proofs.Ytkblockodaiigaa
