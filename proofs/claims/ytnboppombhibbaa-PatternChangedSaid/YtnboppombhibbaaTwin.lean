/- The reference's Twin: a program's lists, copied, and where the copies lie. -/
import Derived.Test.YtnboppombhibbaaMirror
import Derived.Test.YtnboppombhibbaaL4Small
import Derived.Test.YtnboppombhibbaaSym
namespace Go.Proofs.Ytnboppombhibbaa
open Go.RowKit Go.Lib
set_option linter.unusedVariables false
set_option linter.unusedSimpArgs false
/-- A copy: where it lies. -/
structure Copy (W : World) (lo g c n : Nat) (zs : List Int) : Prop where
  own : W.ownsRow lo 3 1 (.slice (some ⟨g, 0, none⟩) n c) n (zs.map vint)
  len : zs.length = n
theorem Copy.lt {W : World} {lo g c n : Nat} {zs : List Int} (h : Copy W lo g c n zs) : lo ≤ g ∧ g < W.heap.size := h.own.lt g rfl
theorem Copy.next {W W2 : World} {lo g c n : Nat} {zs : List Int} (h : Copy W lo g c n zs) (hb : Below W.heap.size W W2) : Copy W2 lo g c n zs := ⟨own_below h.own hb, h.len⟩
theorem Copy.drewN {W : World} {lo g c n : Nat} {zs : List Int} (h : Copy W lo g c n zs) (q : Nat) : Copy (W.drewN q) lo g c n zs := ⟨h.own, h.len⟩
theorem Copy.drew {W : World} {lo g c n : Nat} {zs : List Int} (h : Copy W lo g c n zs) : Copy W.drew lo g c n zs := ⟨h.own, h.len⟩
theorem Copy.put {W : World} {lo g c n : Nat} {zs : List Int} (h : Copy W lo g c n zs) (k : Nat) (y : Int) : Copy (W.setCell ⟨g, k, none⟩ (.int .i64 y)) lo g c n (zs.set k y) := ⟨own_put h.own k y, by rw [List.length_set]; exact h.len⟩
theorem Copy.ints {W : World} {lo g c n : Nat} {zs : List Int} (h : Copy W lo g c n zs) : Ints W (.slice (some ⟨g, 0, none⟩) n c) zs := by
  have h1 := h.own
  have h2 := h.len
  subst h2
  exact own_ints h1
/-- A store elsewhere. -/
theorem Copy.aside {W : World} {lo g c n : Nat} {zs : List Int} (h : Copy W lo g c n zs) {B i : Nat} (hB : B ≠ g) (u : Value) : Copy (W.setCell ⟨B, i, none⟩ u) lo g c n zs := by
  refine ⟨row_same h.own fun k hk => ?_, h.len⟩
  have : g = k := by simpa [Value.ownBlock] using hk
  subst this
  exact Below.heap_setCell _ _ _ _ (fun e => hB e.symm)
set_option maxRecDepth 100000 in
set_option maxHeartbeats 4000000 in
theorem pf_r4_TwinOwn (v : Value) (p : Prog) (w : World) (hv : IsProg w v p) (hl : p.ros.length ≤ 1000 ∧ p.rub.length ≤ 1000 ∧ p.shifts.length ≤ 1000) :
    Calls Try.prog 15 #[v] w fun e w' => ∃ g0 c0 g1 c1 g5 c5 l1 l5, e = .returned (.agg #[.slice (some ⟨g0, 0, none⟩) p.ros.length c0, .slice (some ⟨g1, 0, none⟩) p.rub.length c1, .int .i64 p.start, .int .i64 p.throw, .int .i64 p.adv, .slice (some ⟨g5, 0, none⟩) p.shifts.length c5]) ∧ Below w.heap.size w w' ∧
      Copy w' w.heap.size g0 c0 p.ros.length p.ros ∧ w.heap.size ≤ l1 ∧ g0 < l1 ∧ Copy w' l1 g1 c1 p.rub.length p.rub ∧ l1 ≤ l5 ∧ g1 < l5 ∧ Copy w' l5 g5 c5 p.shifts.length p.shifts := by
  obtain ⟨v0, v1, v5, rfl, h0, h1, h5⟩ := hv
  obtain ⟨l0, l1, l5⟩ := hl
  have h0' := Lib.hid h0
  have h1' := Lib.hid h1
  have h5' := Lib.hid h5
  clear h5 h1 h0
  go_enter Try.func15, Try.ntmps15
  go_wp2_with (first | (at_builtin; go_must (refine wpList_appI rfl _ _ 22 rfl (w.heap.size + 2) 3 elemInt _ [] rfl (own_emptyAt _ _ _ _ (by simp) (sz2 _ _ _)) _ p.ros rfl (h0'.out.below (alc3 _ _ _ _)) (by simp; omega) (sz3 _ _ _ _) ?_)))
  intro u0 w1 r1 r2 r3 r4
  have ht1 := (Twins.start w _ _).step _ r2
  obtain ⟨g0, d0, rfl, -, hg0, -, -⟩ := own_formS r1 (by rw [Ne, r4]; simp [Value.ownBlock])
  obtain ⟨q0, q1, -, -, -, q5⟩ := prog_cells ht1.box
  have f0 := frozen0 ht1.box 0
  have ho0 := own_apart (B := w.heap.size) (k := 0) r1 (by omega) (.slice (some ⟨g0, 0, none⟩) p.ros.length d0)
  have hs1 : Twins w #[(.slice (some ⟨g0, 0, none⟩) p.ros.length d0), v1, .int .i64 p.start, .int .i64 p.throw, .int .i64 p.adv, v5] #[.slice none 0 0, .slice none 0 0, .int .i64 0, .int .i64 0, .int .i64 0, .slice none 0 0] (w1.setCell ⟨w.heap.size, 0, none⟩ (.slice (some ⟨g0, 0, none⟩) p.ros.length d0)) := ht1.put 0 _
  have ho0' := Lib.hid ho0
  have r1' := Lib.hid r1
  have r2' := Lib.hid r2
  have r3' := Lib.hid r3
  have r4' := Lib.hid r4
  clear r4 r3 r2 r1 ho0
  have hz1 := hs1.size
  obtain ⟨M1, hM1⟩ : ∃ M, (w1.setCell ⟨w.heap.size, 0, none⟩ (.slice (some ⟨g0, 0, none⟩) p.ros.length d0)).heap.size = M := ⟨_, rfl⟩
  have hgM1 : g0 < M1 := by rw [← hM1]; simpa [World.setCell] using hg0
  rw [hM1] at hz1
  have hM1' := Lib.hid hM1
  clear hM1
  have k1 := fun o => (prog_cells (hs1.alloc o).box).2.1
  go_wp2_with (first | (at_builtin; go_must (refine wpList_appI rfl _ _ 22 rfl M1 3 elemInt _ [] rfl (own_emptyAt _ _ _ _ (by simp [World.setCell]) (Nat.le_of_eq hM1'.out.symm)) _ p.rub rfl (h1'.out.below (hs1.below.alloc hs1.below.size _)) (by simp; omega) (by rw [← hM1'.out]; simp) ?_)))
  intro u1 w2 r1 r2 r3 r4
  have ht2 := hs1.step _ (r2.mono hz1)
  obtain ⟨g1, d1, rfl, -, hg1, -, -⟩ := own_formS r1 (by rw [Ne, r4]; simp [Value.ownBlock])
  have hp0 := own_past (ho0'.out.alloc _) r3 (.inr (by simp [Value.ownBlock]; omega))
  obtain ⟨q0, q1, -, -, -, q5⟩ := prog_cells ht2.box
  have f1 := frozen0 ht2.box 1
  have hp0' := own_apart (B := w.heap.size) (k := 1) hp0 (by omega) (.slice (some ⟨g1, 0, none⟩) p.rub.length d1)
  have hp1 := own_apart (B := w.heap.size) (k := 1) r1 (by omega) (.slice (some ⟨g1, 0, none⟩) p.rub.length d1)
  have hs2 : Twins w #[(.slice (some ⟨g0, 0, none⟩) p.ros.length d0), (.slice (some ⟨g1, 0, none⟩) p.rub.length d1), .int .i64 p.start, .int .i64 p.throw, .int .i64 p.adv, v5] #[.slice none 0 0, .slice none 0 0, .int .i64 0, .int .i64 0, .int .i64 0, .slice none 0 0] (w2.setCell ⟨w.heap.size, 1, none⟩ (.slice (some ⟨g1, 0, none⟩) p.rub.length d1)) := ht2.put 1 _
  have hgg : g0 < w2.heap.size := Nat.lt_of_lt_of_le hg0 (by have := r3.size; simp [World.setCell] at this; omega)
  clear k1 ht1 ho0' r1' r2' r3' r4' hs1 hp0
  have hp0'' := Lib.hid hp0'
  have hp1' := Lib.hid hp1
  have r1' := Lib.hid r1
  have r2' := Lib.hid r2
  have r3' := Lib.hid r3
  have r4' := Lib.hid r4
  clear r4 r3 r2 r1 hp1 hp0'
  have hz2 := hs2.size
  obtain ⟨M2, hM2⟩ : ∃ M, (w2.setCell ⟨w.heap.size, 1, none⟩ (.slice (some ⟨g1, 0, none⟩) p.rub.length d1)).heap.size = M := ⟨_, rfl⟩
  have hgM2 : g1 < M2 := by rw [← hM2]; simpa [World.setCell] using hg1
  have hM12 : M1 ≤ M2 := by have h := r2'.out.size; rw [← hM1'.out, ← hM2]; simp [World.setCell] at h ⊢; omega
  rw [hM2] at hz2
  have hM2' := Lib.hid hM2
  clear hM2
  have k2 := fun o => (prog_cells (hs2.alloc o).box).2.2.2.2.2
  go_wp2_with (first | (at_builtin; go_must (refine wpList_appI rfl _ _ 22 rfl M2 3 elemInt _ [] rfl (own_emptyAt _ _ _ _ (by simp [World.setCell]) (Nat.le_of_eq hM2'.out.symm)) _ p.shifts rfl (h5'.out.below (hs2.below.alloc hs2.below.size _)) (by simp; omega) (by rw [← hM2'.out]; simp) ?_)))
  intro u2 w3 r1 r2 r3 r4
  have ht3 := hs2.step _ (r2.mono hz2)
  obtain ⟨g2, d2, rfl, -, hg2, -, -⟩ := own_formS r1 (by rw [Ne, r4]; simp [Value.ownBlock])
  have ha0 := own_past (hp0''.out.alloc _) r3 (.inr (by simp [Value.ownBlock]; omega))
  have ha1 := own_past (hp1'.out.alloc _) r3 (.inr (by simp [Value.ownBlock]; omega))
  have hb0 := own_apart (B := w.heap.size) (k := 5) ha0 (by omega) (.slice (some ⟨g2, 0, none⟩) p.shifts.length d2)
  have hb1 := own_apart (B := w.heap.size) (k := 5) ha1 (by omega) (.slice (some ⟨g2, 0, none⟩) p.shifts.length d2)
  have hb2 := own_apart (B := w.heap.size) (k := 5) r1 (by omega) (.slice (some ⟨g2, 0, none⟩) p.shifts.length d2)
  obtain ⟨q0, q1, q2, q3, q4, q5⟩ := prog_cells ht3.box
  obtain ⟨z0, z1, z2, z3, z4, z5⟩ := prog_cells ht3.out
  have y0 := frozen0 ht3.out 0
  have y1 := frozen0 ht3.out 1
  have y2 := frozen0 ht3.out 2
  have y3 := frozen0 ht3.out 3
  have y4 := frozen0 ht3.out 4
  have y5 := frozen0 ht3.out 5
  have f2 := frozen0 ht3.box 5
  have hs3 : Twins w #[(.slice (some ⟨g0, 0, none⟩) p.ros.length d0), (.slice (some ⟨g1, 0, none⟩) p.rub.length d1), .int .i64 p.start, .int .i64 p.throw, .int .i64 p.adv, (.slice (some ⟨g2, 0, none⟩) p.shifts.length d2)] #[.slice none 0 0, .slice none 0 0, .int .i64 0, .int .i64 0, .int .i64 0, .slice none 0 0] (w3.setCell ⟨w.heap.size, 5, none⟩ (.slice (some ⟨g2, 0, none⟩) p.shifts.length d2)) := ht3.put 5 _
  clear ht2 ht3 hs2 k2 hp0'' hp1' r1' r2' r3' r4' ha0 ha1 r1 r2 r3 r4
  have hb0' := Lib.hid hb0
  have hb1' := Lib.hid hb1
  have hb2' := Lib.hid hb2
  clear hb2 hb1 hb0
  have hbel := Lib.hid hs3.below
  clear hs3
  go_wp2
  refine bodyPost_ret (v := .agg #[(.slice (some ⟨g0, 0, none⟩) p.ros.length d0), (.slice (some ⟨g1, 0, none⟩) p.rub.length d1), .int .i64 p.start, .int .i64 p.throw, .int .i64 p.adv, (.slice (some ⟨g2, 0, none⟩) p.shifts.length d2)]) (by simp [results, Try.results15, go_sem, z0, z1, z2, z3, z4, z5, q0, q1, q2, q3, q4, q5]) rfl ⟨_, _, _, _, _, _, M1, M2, rfl, ?_, ⟨own_base (base := w.heap.size + 2) ?_ (by omega), rfl⟩, by omega, hgM1, ⟨?_, rfl⟩, hM12, hgM2, ⟨?_, rfl⟩⟩
  · iterate 6 refine Below.setCell ?_ (Nat.le_succ _) _
    exact hbel.out
  · iterate 6 refine own_apart ?_ (by omega) _
    exact hb0'.out
  · iterate 6 refine own_apart ?_ (by omega) _
    exact hb1'.out
  · iterate 6 refine own_apart ?_ (by omega) _
    exact hb2'.out
end Go.Proofs.Ytnboppombhibbaa
