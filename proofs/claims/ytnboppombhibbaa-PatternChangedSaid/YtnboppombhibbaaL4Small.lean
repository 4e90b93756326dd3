/- Layer 4: erase, same, Twin, SameProgram. The reference of layer 4: Twin. -/
import Derived.Test.YtnboppombhibbaaR4Cut
import Derived.Test.YtnboppombhibbaaListAid
namespace Go.Proofs.Ytnboppombhibbaa
open Go.RowKit
set_option linter.unusedVariables false
set_option linter.unusedSimpArgs false
theorem pf_l4_same (v v' : Value) (xs ys : List Int) (w : World) (hx : Ints w v xs) (hy : Ints w v' ys) :
    Calls Try.prog 24 #[v, v'] w fun e w' => e = .returned (.bool (xs == ys)) ∧ ∃ n, w' = w.drewN n := by
  have hx' := Lib.hid hx
  have hy' := Lib.hid hy
  clear hy hx
  go_enter Try.func24, Try.ntmps24
  go_wp2_with (first | (go_at_call 66; ((with_reducible refine (pf_SameInts _ _ xs ys _ hx'.out hy'.out).mono ?_); rintro e w' ⟨rfl, n, rfl⟩)))
  go_ret
  exact ⟨rfl, n, rfl⟩
theorem grown_put {w wr : World} {g : Nat} (h : w.grownBy wr (some g)) (hg : g < w.heap.size) (k : Nat) (u : Value) : w.grownBy (wr.setCell ⟨g, k, none⟩ u) (some g) :=
  ⟨h.os, h.tape, h.output, by simpa [World.setCell] using h.size, fun b hb hne => (Below.heap_setCell _ _ _ _ (by show b ≠ g; intro e; exact hne (by rw [e]))).trans (h.block b hb hne)⟩
theorem pf_l4_erase (v : Value) (xs : List Int) (w : World) (base : Nat) (hx : w.ownsRow base 3 1 v xs.length (xs.map vint)) (hl : xs.length ≤ 1000000) :
    Calls Try.prog 25 #[v] w fun e w' => e = .returned (.tuple #[]) ∧ Below base w w' ∧ w.grownBy w' v.ownBlock := by
  have hx' := Lib.hid hx
  by_cases h0 : 0 < xs.length
  · obtain ⟨g, c, rfl, hg, hgl, hgc, hgm⟩ := own_form hx h0
    unfold maxLen at hgm
    clear hx
    go_enter Try.func25, Try.ntmps25
    go_wp2
    go_loopw [5, 2] (fun i _ wr => ∃ k : Nat, k ≤ xs.length ∧ i = .int .i64 k ∧ Hid (Below base w wr ∧ w.grownBy wr (some g)) ∧ Hid (wr.ownsRow base 3 1 (.slice (some ⟨g, 0, none⟩) xs.length c) xs.length ((part (fun _ => -7) xs k).map vint))) (fun i _ _ => xs.length - (intOf i).toNat)
    case atStart => exact ⟨0, Nat.zero_le _, rfl, Lib.hid ⟨Below.refl _ _, World.grownBy.refl _ _⟩, by rw [part_zero]; exact hx'⟩
    case round =>
      obtain ⟨k, hk, rfl, hb, hown⟩ := hrel
      by_cases hlt : k < xs.length
      · have hck := own_cell hown.out (part_length _ _ _) (part_get (fun _ => -7) xs k hlt)
        have hfr := hown.out.frozenAt k
        have hset := part_set (fun _ => -7) xs k hlt
        generalize xs[k] = x at hck hset
        have hset' := Lib.hid hset
        clear hset
        go_wp2
        go_roundw
        case rel => exact ⟨k + 1, by omega, by go_num, Lib.hid ⟨hb.out.1.setCell (p := ⟨g, k, none⟩) hg _, grown_put hb.out.2 hgl _ _⟩, Lib.hid (by have h := own_put hown.out k (-7); rw [hset'.out] at h; exact h)⟩
        case measure => simp [intOf]; omega
      · obtain rfl : k = xs.length := by omega
        go_wp2
        go_end0
        exact ⟨rfl, hb.out.1, hb.out.2⟩
  · have hv : ∃ A c, v = .slice A 0 c := by
      rcases hx.2 with ⟨rfl, _⟩ | ⟨g, cap, cur, rfl, _⟩
      · exact ⟨_, _, rfl⟩
      · exact ⟨_, cap, by rw [show xs.length = 0 by omega]⟩
    obtain ⟨A, c, rfl⟩ := hv
    clear hx
    go_enter Try.func25, Try.ntmps25
    go_wp2
    go_loop [5, 2] (fun i _ => i = .int .i64 0) (fun _ _ => 0)
    case atStart => exact rfl
    case round =>
      obtain rfl := hrel
      go_wp2
      go_end0
      exact ⟨rfl, Below.refl _ _, World.grownBy.refl _ _⟩
set_option maxRecDepth 100000 in
set_option maxHeartbeats 1000000 in
theorem pf_r4_SameProgram (v v' : Value) (p : Prog) (w : World) (hv : IsProg w v p) (hv' : IsProg w v' p) :
    Calls Try.prog 26 #[v, v'] w fun e w' => e = .returned (.bool true) ∧ Below w.heap.size w w' := by
  obtain ⟨v0, v1, v5, rfl, h0, h1, h5⟩ := hv
  obtain ⟨u0, u1, u5, rfl, k0, k1, k5⟩ := hv'
  have e0 : (p.ros == p.ros) = true := by simp
  have e1 : (p.rub == p.rub) = true := by simp
  have e5 : (p.shifts == p.shifts) = true := by simp
  have h0' := Lib.hid h0
  have h1' := Lib.hid h1
  have h5' := Lib.hid h5
  have k0' := Lib.hid k0
  have k1' := Lib.hid k1
  have k5' := Lib.hid k5
  have e0' := Lib.hid e0
  have e1' := Lib.hid e1
  have e5' := Lib.hid e5
  clear e5 e1 e0 k5 k1 k0 h5 h1 h0
  go_enter Try.func26, Try.ntmps26
  go_wp2_with (first | (go_at_call 66; ((with_reducible refine (pf_SameInts v0 u0 p.ros p.ros _ ?_ ?_).mono ?_); rotate_left 2; rintro e w' ⟨rfl, n, rfl⟩; rw [e0'.out]; rotate_left; exact h0'.out.below (by first | exact alc2 _ _ _ | exact below_drewN' (alc2 _ _ _) _ | exact below_drewN' (below_drewN' (alc2 _ _ _) _) _); exact k0'.out.below (by first | exact alc2 _ _ _ | exact below_drewN' (alc2 _ _ _) _ | exact below_drewN' (below_drewN' (alc2 _ _ _) _) _))) | (go_at_call 66; ((with_reducible refine (pf_SameInts v1 u1 p.rub p.rub _ ?_ ?_).mono ?_); rotate_left 2; rintro e w' ⟨rfl, n, rfl⟩; rw [e1'.out]; rotate_left; exact h1'.out.below (by first | exact alc2 _ _ _ | exact below_drewN' (alc2 _ _ _) _ | exact below_drewN' (below_drewN' (alc2 _ _ _) _) _); exact k1'.out.below (by first | exact alc2 _ _ _ | exact below_drewN' (alc2 _ _ _) _ | exact below_drewN' (below_drewN' (alc2 _ _ _) _) _))) | (go_at_call 66; ((with_reducible refine (pf_SameInts v5 u5 p.shifts p.shifts _ ?_ ?_).mono ?_); rotate_left 2; rintro e w' ⟨rfl, n, rfl⟩; rw [e5'.out]; rotate_left; exact h5'.out.below (by first | exact alc2 _ _ _ | exact below_drewN' (alc2 _ _ _) _ | exact below_drewN' (below_drewN' (alc2 _ _ _) _) _); exact k5'.out.below (by first | exact alc2 _ _ _ | exact below_drewN' (alc2 _ _ _) _ | exact below_drewN' (below_drewN' (alc2 _ _ _) _) _))))
  go_ret
  exact ⟨rfl, below_drewN' (alc2 _ _ _) _⟩
end Go.Proofs.Ytnboppombhibbaa
namespace Go.Proofs.Ytnboppombhibbaa
open Go.RowKit
set_option linter.unusedVariables false
set_option linter.unusedSimpArgs false
theorem sz2 (w : World) (a b : Obj) : w.heap.size + 2 ≤ ((w.alloc a).alloc b).heap.size := by simp
theorem sz3 (w : World) (a b c : Obj) : w.heap.size + 2 ≤ (((w.alloc a).alloc b).alloc c).heap.size := by simp
theorem own_emptyAt (w : World) (e : TypeId) (base n : Nat) (hn : n = w.heap.size) (hb : base ≤ w.heap.size) : (w.alloc (.cells #[] e)).ownsRow base e 1 (.slice (some ⟨n, 0, none⟩) 0 0) 0 [] := by subst hn; exact own_empty w e base hb
/-- Two boxes, and the lists that have been made so far. -/
structure Twins (w : World) (cs : Array Value) (z : Array Value) (W : World) : Prop where
  below : Below w.heap.size w W
  size : w.heap.size + 2 ≤ W.heap.size
  box : W.heap[w.heap.size]? = some (.cells cs 24)
  out : W.heap[w.heap.size + 1]? = some (.cells z 24)
theorem Twins.start (w : World) (cs z : Array Value) : Twins w cs z ((w.alloc (.cells cs 24)).alloc (.cells z 24)) :=
  ⟨alc2 _ _ _, by simp, (Below.heap_alloc _ _ _ (by simp)).trans (heap_alloc_new _ _), by have h := heap_alloc_new (w.alloc (.cells cs 24)) (.cells z 24); rw [World.size_alloc] at h; exact h⟩
theorem Twins.step {w : World} {cs z : Array Value} {W W2 : World} (h : Twins w cs z W) (o : Obj) (hb : Below (w.heap.size + 2) (W.alloc o) W2) : Twins w cs z W2 := by
  have h1 := h.size
  have hW : Below (w.heap.size + 2) W W2 := ((Below.refl _ _).alloc h1 o).trans hb
  exact ⟨h.below.trans (hW.mono (by omega)), Nat.le_trans h1 hW.size, (hW.block _ (by omega)).trans h.box, (hW.block _ (by omega)).trans h.out⟩
theorem Twins.alloc {w : World} {cs z : Array Value} {W : World} (h : Twins w cs z W) (o : Obj) : Twins w cs z (W.alloc o) := h.step o (Below.refl _ _)
theorem Twins.put {w : World} {cs z : Array Value} {W : World} (h : Twins w cs z W) (i : Nat) (u : Value) : Twins w (cs.setIfInBounds i u) z (W.setCell ⟨w.heap.size, i, none⟩ u) :=
  ⟨h.below.setCell (p := ⟨w.heap.size, i, none⟩) (Nat.le_refl _) u, by have := h.size; simpa [World.setCell] using this, heap_setAt h.box, (Below.heap_setCell _ _ _ _ (by show w.heap.size + 1 ≠ w.heap.size; omega)).trans h.out⟩
set_option maxRecDepth 100000 in
set_option maxHeartbeats 4000000 in
theorem pf_r4_Twin (v : Value) (p : Prog) (w : World) (hv : IsProg w v p) (hl : p.ros.length ≤ 1000 ∧ p.rub.length ≤ 1000 ∧ p.shifts.length ≤ 1000) :
    Calls Try.prog 15 #[v] w fun e w' => ∃ v', e = .returned v' ∧ Below w.heap.size w w' ∧ IsProg w' v' p := by
  obtain ⟨v0, v1, v5, rfl, h0, h1, h5⟩ := hv
  obtain ⟨l0, l1, l5⟩ := hl
  have h0' := Lib.hid h0
  have h1' := Lib.hid h1
  have h5' := Lib.hid h5
  clear h5 h1 h0
  go_enter Try.func15, Try.ntmps15
  go_wp2_with (first | (at_builtin; go_must (refine wpList_appI rfl _ _ 22 rfl (w.heap.size + 2) 3 elemInt _ [] rfl (own_emptyAt _ _ _ _ (by simp) (sz2 _ _ _)) _ p.ros rfl (h0'.out.below (alc3 _ _ _ _)) (by simp; omega) (sz3 _ _ _ _) ?_)))
  intro u0 w1 r1 r2 r3 r4
  have ht1 := (Twins.start w _ _).step _ r2
  obtain ⟨g0, d0, rfl, -, hg0, -, -⟩ := own_formS r1 (by rw [Ne, r4]; simp [Value.ownBlock])
  obtain ⟨q0, q1, -, -, -, q5⟩ := prog_cells ht1.box
  have f0 := frozen0 ht1.box 0
  have ho0 := own_apart (B := w.heap.size) (k := 0) r1 (by omega) (.slice (some ⟨g0, 0, none⟩) p.ros.length d0)
  have hs1 : Twins w #[(.slice (some ⟨g0, 0, none⟩) p.ros.length d0), v1, .int .i64 p.start, .int .i64 p.throw, .int .i64 p.adv, v5] #[.slice none 0 0, .slice none 0 0, .int .i64 0, .int .i64 0, .int .i64 0, .slice none 0 0] (w1.setCell ⟨w.heap.size, 0, none⟩ (.slice (some ⟨g0, 0, none⟩) p.ros.length d0)) := ht1.put 0 _
  have ho0' := Lib.hid ho0
  have r1' := Lib.hid r1
  have r2' := Lib.hid r2
  have r3' := Lib.hid r3
  have r4' := Lib.hid r4
  clear r4 r3 r2 r1 ho0
  have hz1 := hs1.size
  have k1 := fun o => (prog_cells (hs1.alloc o).box).2.1
  go_wp2_with (first | (at_builtin; go_must (refine wpList_appI rfl _ _ 22 rfl (w.heap.size + 2) 3 elemInt _ [] rfl (own_emptyAt _ _ _ _ (by simp [World.setCell]) hz1) _ p.rub rfl (h1'.out.below (hs1.below.alloc hs1.below.size _)) (by simp; omega) (Nat.le_trans hz1 (by simp)) ?_)))
  intro u1 w2 r1 r2 r3 r4
  have ht2 := hs1.step _ r2
  obtain ⟨g1, d1, rfl, -, hg1, -, -⟩ := own_formS r1 (by rw [Ne, r4]; simp [Value.ownBlock])
  have hp0 := own_past (ho0'.out.alloc _) r3 (.inr (by simp [Value.ownBlock]; omega))
  obtain ⟨q0, q1, -, -, -, q5⟩ := prog_cells ht2.box
  have f1 := frozen0 ht2.box 1
  have hp0' := own_apart (B := w.heap.size) (k := 1) hp0 (by omega) (.slice (some ⟨g1, 0, none⟩) p.rub.length d1)
  have hp1 := own_apart (B := w.heap.size) (k := 1) r1 (by omega) (.slice (some ⟨g1, 0, none⟩) p.rub.length d1)
  have hs2 : Twins w #[(.slice (some ⟨g0, 0, none⟩) p.ros.length d0), (.slice (some ⟨g1, 0, none⟩) p.rub.length d1), .int .i64 p.start, .int .i64 p.throw, .int .i64 p.adv, v5] #[.slice none 0 0, .slice none 0 0, .int .i64 0, .int .i64 0, .int .i64 0, .slice none 0 0] (w2.setCell ⟨w.heap.size, 1, none⟩ (.slice (some ⟨g1, 0, none⟩) p.rub.length d1)) := ht2.put 1 _
  have hgg : g0 < w2.heap.size := Nat.lt_of_lt_of_le hg0 (by have := r3.size; simp [World.setCell] at this; omega)
  clear k1 ht1 ho0' r1' r2' r3' r4' hs1 hp0
  have hp0'' := Lib.hid hp0'
  have hp1' := Lib.hid hp1
  have r1' := Lib.hid r1
  have r2' := Lib.hid r2
  have r3' := Lib.hid r3
  have r4' := Lib.hid r4
  clear r4 r3 r2 r1 hp1 hp0'
  have hz2 := hs2.size
  have k2 := fun o => (prog_cells (hs2.alloc o).box).2.2.2.2.2
  go_wp2_with (first | (at_builtin; go_must (refine wpList_appI rfl _ _ 22 rfl (w.heap.size + 2) 3 elemInt _ [] rfl (own_emptyAt _ _ _ _ (by simp [World.setCell]) hz2) _ p.shifts rfl (h5'.out.below (hs2.below.alloc hs2.below.size _)) (by simp; omega) (Nat.le_trans hz2 (by simp)) ?_)))
  intro u2 w3 r1 r2 r3 r4
  have ht3 := hs2.step _ r2
  obtain ⟨g2, d2, rfl, -, hg2, -, -⟩ := own_formS r1 (by rw [Ne, r4]; simp [Value.ownBlock])
  have ha0 := own_past (hp0''.out.alloc _) r3 (.inr (by simp [Value.ownBlock]; omega))
  have ha1 := own_past (hp1'.out.alloc _) r3 (.inr (by simp [Value.ownBlock]; omega))
  have hb0 := own_apart (B := w.heap.size) (k := 5) ha0 (by omega) (.slice (some ⟨g2, 0, none⟩) p.shifts.length d2)
  have hb1 := own_apart (B := w.heap.size) (k := 5) ha1 (by omega) (.slice (some ⟨g2, 0, none⟩) p.shifts.length d2)
  have hb2 := own_apart (B := w.heap.size) (k := 5) r1 (by omega) (.slice (some ⟨g2, 0, none⟩) p.shifts.length d2)
  obtain ⟨q0, q1, q2, q3, q4, q5⟩ := prog_cells ht3.box
  obtain ⟨z0, z1, z2, z3, z4, z5⟩ := prog_cells ht3.out
  have y0 := frozen0 ht3.out 0
  have y1 := frozen0 ht3.out 1
  have y2 := frozen0 ht3.out 2
  have y3 := frozen0 ht3.out 3
  have y4 := frozen0 ht3.out 4
  have y5 := frozen0 ht3.out 5
  have f2 := frozen0 ht3.box 5
  have hs3 : Twins w #[(.slice (some ⟨g0, 0, none⟩) p.ros.length d0), (.slice (some ⟨g1, 0, none⟩) p.rub.length d1), .int .i64 p.start, .int .i64 p.throw, .int .i64 p.adv, (.slice (some ⟨g2, 0, none⟩) p.shifts.length d2)] #[.slice none 0 0, .slice none 0 0, .int .i64 0, .int .i64 0, .int .i64 0, .slice none 0 0] (w3.setCell ⟨w.heap.size, 5, none⟩ (.slice (some ⟨g2, 0, none⟩) p.shifts.length d2)) := ht3.put 5 _
  clear ht2 ht3 hs2 hz2 hz1 k2 hp0'' hp1' r1' r2' r3' r4' ha0 ha1 r1 r2 r3 r4
  have hb0' := Lib.hid hb0
  have hb1' := Lib.hid hb1
  have hb2' := Lib.hid hb2
  clear hb2 hb1 hb0
  have hbel := Lib.hid hs3.below
  clear hs3
  go_wp2
  refine bodyPost_ret (v := .agg #[(.slice (some ⟨g0, 0, none⟩) p.ros.length d0), (.slice (some ⟨g1, 0, none⟩) p.rub.length d1), .int .i64 p.start, .int .i64 p.throw, .int .i64 p.adv, (.slice (some ⟨g2, 0, none⟩) p.shifts.length d2)]) (by simp [results, Try.results15, go_sem, z0, z1, z2, z3, z4, z5, q0, q1, q2, q3, q4, q5]) rfl ⟨_, rfl, ?_, ?_⟩
  · iterate 6 refine Below.setCell ?_ (Nat.le_succ _) _
    exact hbel.out
  · refine ⟨_, _, _, rfl, own_ints (base := w.heap.size + 2) (e := 3) (n := p.ros.length) ?_, own_ints (base := w.heap.size + 2) (e := 3) (n := p.rub.length) ?_, own_ints (base := w.heap.size + 2) (e := 3) (n := p.shifts.length) ?_⟩
    · iterate 6 refine own_apart ?_ (by omega) _
      exact hb0'.out
    · iterate 6 refine own_apart ?_ (by omega) _
      exact hb1'.out
    · iterate 6 refine own_apart ?_ (by omega) _
      exact hb2'.out
end Go.Proofs.Ytnboppombhibbaa
