/- The reference's Twin and Great; SameProgram. -/
import Derived.Test.YtkblockodaiigaaRdTwR
import Derived.Test.YtkblockodaiigaaRdCheckR
import Derived.Test.YtkblockodaiigaaMonoM
namespace Go.Proofs.Ytkblockodaiigaa
set_option maxRecDepth 100000
set_option maxHeartbeats 1000000
open Go.RowKit
set_option linter.unusedVariables false
set_option linter.unusedSimpArgs false
def MPred.intsB (n : Nat) (L : List Int) : MPred := ⟨fun v W => IntsB n W v L, fun _ _ _ h hp => hp.below h⟩
def MPred.empB (N : Nat) : MPred := ⟨fun v W => ∃ B, v = .slice (some ⟨B, 0, none⟩) 0 0 ∧ N ≤ B ∧ B < W.heap.size, fun _ _ _ h ⟨B, e, a, b⟩ => ⟨B, e, a, Nat.lt_of_lt_of_le b (Below.size h)⟩⟩
def HdV (n : Nat) (W : World) (v : Value) (h : Hd) : Prop := ∃ v0 v1, v = .agg #[v0, v1] ∧ IntsB n W v0 h.ros ∧ IntsB n W v1 h.rub
def MPred.hd (n : Nat) (h : Hd) : MPred := ⟨fun v W => HdV n W v h, fun _ _ _ hb ⟨v0, v1, e, a, b⟩ => ⟨v0, v1, e, a.below hb, b.below hb⟩⟩
def HdB (n : Nat) (W : World) (v : Value) (h : Hd) : Prop := ∃ X v0 v1, v = .slice (some ⟨X, 0, none⟩) 1 1 ∧ W.heap[X]? = some (.cells #[v0, v1] 58) ∧ IntsB n W v0 h.ros ∧ IntsB n W v1 h.rub
def MPred.hdB (n : Nat) (h : Hd) : MPred := ⟨fun v W => HdB n W v h, fun _ _ _ hb ⟨X, v0, v1, e, k, a, b⟩ => ⟨X, v0, v1, e, blk hb k, a.below hb, b.below hb⟩⟩
theorem pf_r9_Twin (v : Value) (p : Pic) (w : World) (hp : IsPic w v p) (h6 : p.hs.length ≤ 1000) (h70 : p.rds.length ≤ 1000) (hl : ∀ h ∈ p.hs, h.ros.length ≤ 1000 ∧ h.rub.length ≤ 1000) :
  Calls Try.prog 11 #[v] w fun e w' => ∃ v', e = .returned v' ∧ Below w.heap.size w w' ∧ IsPic w' v' p := by
 obtain ⟨vh, vr, rfl, hh, hr⟩ := hp
 obtain ⟨HA, hc, rfl, -⟩ := hh.slice
 obtain ⟨RA, rc, rfl, -⟩ := hr.slice
 obtain ⟨W0, hW0, hb0, k0⟩ := newb w (.cells #[.slice HA p.hs.length hc, .int .i64 p.tl, .int .i64 p.th, .int .i64 p.al, .int .i64 p.ah, .slice RA p.rds.length rc] 25)
 obtain ⟨W1, hW1, hb1, k1⟩ := newb W0 (.cells #[.slice none 0 0, .int .i64 0, .int .i64 0, .int .i64 0, .int .i64 0, .slice none 0 0] 25)
 have k01 := blk hb1 k0
 have hbw1 := bel_set hb0 hb1
 obtain ⟨c0, c1, c2, c3, c4, c5⟩ := pc6 k01
 have z0 : w.heap.size < W0.heap.size := gsl k0
 have z1 : W0.heap.size < W1.heap.size := gsl k1
 have hI0 : Below W1.heap.size W1 W1 ∧ GrH W1 W1.heap.size (.slice none 0 0) (p.hs.take 0) := ⟨Below.refl _ _, GrH.nil _ _⟩
 have ⟨hh', hr', hb0', hb1', k0', k1', k01', hbw1'⟩ := hyd8 hh hr hb0 hb1 k0 k1 k01 hbw1
 have hI0' := hyd1 hI0
 clear hI0 hbw1 k01 k1 k0 hb1 hb0 hr hh
 go_enter Try.func11, Try.ntmps11
 go_wp2_with (fail)
 clear hW0 hW1 c0 c1 c2 c3 c4 c5
 generalize hP1 : W0.heap.size = P1 at *
 have hP1' := hyd1 hP1
 clear hP1
 go_loopw [4, 3] (fun jx vo wr => ∃ j : Nat, j ≤ p.hs.length ∧ jx = .int .i64 (j : Int) ∧ Hid (Below W1.heap.size W1 wr ∧ GrH wr W1.heap.size vo (p.hs.take j))) (fun jx _ _ => p.hs.length - (intOf jx).toNat)
 case atStart => exact ⟨0, Nat.zero_le _, rfl, hI0'⟩
 case round =>
  obtain ⟨j, hj, rfl, hI⟩ := hrel
  obtain ⟨hbw, hg⟩ := hI.out
  have kp := blk hbw k01'.out
  obtain ⟨c0, c1, c2, c3, c4, c5⟩ := pc6 kp
  obtain ⟨Ag, cg, hgf⟩ := hg.form
  obtain ⟨tl, htl⟩ : ∃ k, (p.hs.take j).length = k := ⟨_, rfl⟩
  rw [htl] at hgf
  subst hgf
  have htl2 : tl ≤ p.hs.length := by rw [← htl]; exact List.length_take_le' _ _
  by_cases hlt : j < p.hs.length
  ·have hbwj := bel_set hbw1'.out hbw
   obtain ⟨b, off, hc2, vr0, vb0, heq, hbl, g0, g1, i0, i1⟩ := (hh'.out.le hbwj).at hlt
   injection heq with e1 e2 e3
   subst e1 e3
   clear e2
   obtain ⟨A0, cc0, rfl, -⟩ := id i0
   obtain ⟨A1, cc1, rfl, -⟩ := id i1
   obtain ⟨q1, q2⟩ := hl _ (List.getElem_mem hlt)
   have htk : p.hs.take (j + 1) = p.hs.take j ++ [p.hs[j]] := List.take_succ_eq_append_getElem hlt
   obtain ⟨hd, hhd⟩ : ∃ h, p.hs[j] = h := ⟨_, rfl⟩
   rw [hhd] at g0 g1 i0 i1 htk q1 q2
   obtain ⟨n0, hn0⟩ : ∃ n, hd.ros.length = n := ⟨_, rfl⟩
   obtain ⟨n1, hn1⟩ : ∃ n, hd.rub.length = n := ⟨_, rfl⟩
   rw [hn0] at g0 i0
   rw [hn1] at g1 i1
   have j3 : (j : Int) < (p.hs.length : Int) := by omega
   have j4 : (0 : Int) ≤ (j : Int) := by omega
   have hzb := hbw.size
   have ⟨hI', hbw', hg', kp', i0', i1', hhd', htk'⟩ := hyd8 hI hbw hg kp i0 i1 hhd htk
   have ⟨hn0', hn1', hbwj', htl'⟩ := hyd4 hn0 hn1 hbwj htl
   clear htl hbwj hn1 hn0 htk hhd i1 i0 kp hg hbw hI
   go_wp2_with (fail)
--@ARM5
   refine wp_region_monoM (R := leRel) 19 [some 12, some 13, some 14, some 15, some 16, some 17, some 18, some 19, some 20, some 21, some 22, some 23, some 24, some 25, some 26, some 27, some 28, some 29, some 30, some 31, some 3] [[], [], [], [2], [], [3, 4], [5], [6], [1, 7], [], [], [10], [], [11, 12], [13], [14], [9, 15], [8, 16], [17], [0, 18], [19]]
    [.eq (.slice Ag tl cg), MPred.empB wr.heap.size, .eq (.pointer (some ⟨w.heap.size, 0, none⟩)), .eq (.slice (some ⟨b, off, none⟩) p.hs.length hc), .eq (.int .i64 (j : Int)), .eq (.pointer (some ⟨b, off + j * 2, none⟩)), .eq (.pointer (some ⟨b, off + j * 2, none⟩)), .eq (.slice A0 n0 cc0), MPred.intsB W1.heap.size hd.ros, MPred.empB wr.heap.size, .eq (.pointer (some ⟨w.heap.size, 0, none⟩)), .eq (.slice (some ⟨b, off, none⟩) p.hs.length hc), .eq (.int .i64 (j : Int)), .eq (.pointer (some ⟨b, off + j * 2, none⟩)), .eq (.pointer (some ⟨b, off + j * 2 + 1, none⟩)), .eq (.slice A1 n1 cc1), MPred.intsB W1.heap.size hd.rub, MPred.hd W1.heap.size hd, MPred.hdB W1.heap.size hd] (fun _ _ => False) (by kernel_rfl) (by kernel_rfl) (by kernel_rfl) (by kernel_rfl) (by kernel_rfl) ?_ (fun _ _ _ _ h => h.elim) ?_
   ·simp only [List.take_succ_cons, List.take_zero]
    refine sMc rfl ?_ (sMc rfl ?_ (sMc rfl ?_ (sMc rfl ?_ (sMc rfl ?_ (sMc rfl ?_ (sMc rfl ?_ (sMc rfl ?_ (sMc rfl ?_ (sMc rfl ?_ (sMc rfl ?_ (sMc rfl ?_ (sMc rfl ?_ (sMc rfl ?_ (sMc rfl ?_ (sMc rfl ?_ (sMc rfl ?_ (sMc rfl ?_ (sMc rfl ?_ (stepsG_nil)))))))))))))))))))
    ·intro xv W hR hf Q hK hP
     simp only [fA] at hK ⊢
     go_wp2
     exact hK _ _ lrR rfl
    ·intro xv W hR hf Q hK hP
     simp only [fA] at hK ⊢
     have zW := Below.size hR
     have ⟨hP', hR'⟩ := hyd2 hP hR
     clear hR hP
     go_wp2
     exact hK _ _ (alc1 _ _) ⟨_, rfl, zW, by simp⟩
    ·intro xv W hR hf Q hK hP
     simp only [fA] at hK ⊢
     go_wp2
     exact hK _ _ lrR rfl
    ·intro xv W hR hf Q hK hP
     obtain ⟨e0, -⟩ := hf
     change _ = _ at e0
     have cc := (pc6 (blk hR kp'.out)).1
     simp only [fA, e0] at hK ⊢
     go_wp2
     exact hK _ _ lrR rfl
    ·intro xv W hR hf Q hK hP
     simp only [fA] at hK ⊢
     go_wp2
     exact hK _ _ lrR rfl
    ·intro xv W hR hf Q hK hP
     obtain ⟨e0, e1, -⟩ := hf
     change _ = _ at e0 e1
     simp only [fA, e0, e1] at hK ⊢
     go_wp2
     exact hK _ _ lrR rfl
    ·intro xv W hR hf Q hK hP
     obtain ⟨e0, -⟩ := hf
     change _ = _ at e0
     simp only [fA, e0] at hK ⊢
     go_wp2
     exact hK _ _ lrR rfl
    ·intro xv W hR hf Q hK hP
     obtain ⟨e0, -⟩ := hf
     change _ = _ at e0
     have cc := (Below.cell hR (p := ⟨b, off + j * 2, none⟩) hbl).trans g0
     simp only [fA, e0] at hK ⊢
     go_wp2
     exact hK _ _ lrR rfl
    ·intro xv W hR hf Q hK hP
     obtain ⟨e0, e1, -⟩ := hf
     change _ = _ at e1
     replace e0 : ∃ B, (xv 1) = .slice (some ⟨B, 0, none⟩) 0 0 ∧ wr.heap.size ≤ B ∧ B < W.heap.size := e0
     obtain ⟨B, e0, e0b, e0c⟩ := e0
     simp only [fA, e1, e0] at hK ⊢
     refine wpList_appZ W rfl (.tmp 13) (.tmp 19) 36 rfl 3 elemInt B rfl (.slice A0 n0 cc0) hd.ros rfl (i0'.out.below hR) (by have := hn0'.out; omega) e0c fun v' w' y1 y2 y3 => ?_
     exact hK _ _ y1 ⟨y2, fun g hg => Nat.le_trans (Nat.le_trans hzb e0b) (y3 g hg)⟩
    ·intro xv W hR hf Q hK hP
     simp only [fA] at hK ⊢
     have zW := Below.size hR
     have ⟨hP', hR'⟩ := hyd2 hP hR
     clear hR hP
     go_wp2
     exact hK _ _ (alc1 _ _) ⟨_, rfl, zW, by simp⟩
    ·intro xv W hR hf Q hK hP
     simp only [fA] at hK ⊢
     go_wp2
     exact hK _ _ lrR rfl
    ·intro xv W hR hf Q hK hP
     obtain ⟨e0, -⟩ := hf
     change _ = _ at e0
     have cc := (pc6 (blk hR kp'.out)).1
     simp only [fA, e0] at hK ⊢
     go_wp2
     exact hK _ _ lrR rfl
    ·intro xv W hR hf Q hK hP
     simp only [fA] at hK ⊢
     go_wp2
     exact hK _ _ lrR rfl
    ·intro xv W hR hf Q hK hP
     obtain ⟨e0, e1, -⟩ := hf
     change _ = _ at e0 e1
     simp only [fA, e0, e1] at hK ⊢
     go_wp2
     exact hK _ _ lrR rfl
    ·intro xv W hR hf Q hK hP
     obtain ⟨e0, -⟩ := hf
     change _ = _ at e0
     simp only [fA, e0] at hK ⊢
     go_wp2
     exact hK _ _ lrR rfl
    ·intro xv W hR hf Q hK hP
     obtain ⟨e0, -⟩ := hf
     change _ = _ at e0
     have cc := (Below.cell hR (p := ⟨b, off + j * 2 + 1, none⟩) hbl).trans g1
     simp only [fA, e0] at hK ⊢
     go_wp2
     exact hK _ _ lrR rfl
    ·intro xv W hR hf Q hK hP
     obtain ⟨e0, e1, -⟩ := hf
     change _ = _ at e1
     replace e0 : ∃ B, (xv 9) = .slice (some ⟨B, 0, none⟩) 0 0 ∧ wr.heap.size ≤ B ∧ B < W.heap.size := e0
     obtain ⟨B, e0, e0b, e0c⟩ := e0
     simp only [fA, e1, e0] at hK ⊢
     refine wpList_appZ W rfl (.tmp 21) (.tmp 27) 36 rfl 3 elemInt B rfl (.slice A1 n1 cc1) hd.rub rfl (i1'.out.below hR) (by have := hn1'.out; omega) e0c fun v' w' y1 y2 y3 => ?_
     exact hK _ _ y1 ⟨y2, fun g hg => Nat.le_trans (Nat.le_trans hzb e0b) (y3 g hg)⟩
    ·intro xv W hR hf Q hK hP
     obtain ⟨e0, e1, -⟩ := hf
     replace e0 : IntsB W1.heap.size W (xv 8) hd.ros := e0
     replace e1 : IntsB W1.heap.size W (xv 16) hd.rub := e1
     obtain ⟨a0, c0, q0, -⟩ := id e0.1
     obtain ⟨a1, c1, q1, -⟩ := id e1.1
     rw [q0] at e0
     rw [q1] at e1
     simp only [fA, q0, q1] at hK ⊢
     clear q0 q1
     have ⟨e0', e1', hR'⟩ := hyd3 e0 e1 hR
     clear hR e1 e0
     go_wp2
     exact hK _ _ lrR ⟨_, _, rfl, e0'.out, e1'.out⟩
    ·intro xv W hR hf Q hK hP
     obtain ⟨e0, -⟩ := hf
     replace e0 : HdV W1.heap.size W (xv 17) hd := e0
     obtain ⟨v0, v1, q, a, bb⟩ := e0
     obtain ⟨a0, c0, q0, -⟩ := id a.1
     obtain ⟨a1, c1, q1, -⟩ := id bb.1
     subst q0 q1
     simp only [fA, q] at hK ⊢
     clear q
     have ⟨a', bb', hR'⟩ := hyd3 a bb hR
     clear hR bb a
     go_wp2
     exact hK _ _ (alc1 _ _) ⟨_, _, _, rfl, alc_at _ _, a'.out.below (alc1 _ _), bb'.out.below (alc1 _ _)⟩
   ·intro xv W3 hR hf Q' hQ1 _
    have e0 : xv 0 = .slice Ag tl cg := hf 0 (by decide)
    obtain ⟨X, v0, v1, e18, kX, a0, a1⟩ : HdB W1.heap.size W3 (xv 18) hd := hf 18 (by decide)
    simp only [List.drop_succ_cons, List.drop_zero]
    rw [show List.range 19 = [0, 1, 2, 3, 4, 5, 6, 7, 8, 9, 10, 11, 12, 13, 14, 15, 16, 17, 18] from rfl]
    simp only [fA, e0, e18]
    clear e0 e18 hf
    have hg3 := hg'.out.le hR
    have zW := Below.size hR
    have hbw3 := bel_set hbw'.out hR
    clear c0 c1 c2 c3 c4 c5 g0 g1
    have htl3 := htl'.out
    have ⟨hg3', hR', kX', a0', a1', hbw3'⟩ := hyd6 hg3 hR kX a0 a1 hbw3
    clear hbw3 a1 a0 kX hR hg3
    go_wp2_with (first | (at_builtin; refine wpList_appH _ rfl _ _ rfl W1.heap.size (.slice Ag tl cg) (p.hs.take j) rfl hg3'.out X v0 v1 hd rfl kX'.out a0'.out a1'.out (by omega) (by omega) ?_) | fail)
    intro v3 w3 h1 h2
    have hI3 : Below W1.heap.size W1 w3 ∧ GrH w3 W1.heap.size v3 (p.hs.take (j + 1)) := ⟨hbw3'.out.trans h2, by rw [htk'.out]; exact h1⟩
    obtain ⟨A3, c3, hv3⟩ := h1.form
    obtain ⟨n3, hn3⟩ : ∃ k, (p.hs.take j ++ [hd]).length = k := ⟨_, rfl⟩
    rw [hn3] at hv3
    subst hv3
    clear hn3 htl3
    have ⟨h1', h2', hI3'⟩ := hyd3 h1 h2 hI3
    clear hI3 h2 h1
    go_wp2
    refine hQ1 _ _ ?_
    clear hQ1
    go_wp2
    go_roundw
    case rel => exact ⟨j + 1, by omega, by go_num, hI3'⟩
    case measure => simp [intOf]; omega
--@END5
  ·obtain rfl : j = p.hs.length := by omega
   rw [List.take_length] at hg htl
   have hbwj := bel_set hbw1'.out hbw
   subst htl
   have f0 := pfrz kp 0
   have hbWr := hbw
   have ⟨hI', hbw', hg', kp', hbwj'⟩ := hyd5 hI hbw hg kp hbwj
   clear hbwj kp hg hbw hI
   go_upto_region 7 with (fail)
   have hbW := hbWr
   obtain ⟨WA, hWA, hbA, kA, hgA, k1A, hzA⟩ : ∃ V, wr.setCell ⟨w.heap.size, 0, none⟩ (.slice Ag p.hs.length cg) = V ∧ Below w.heap.size w V ∧ V.heap[w.heap.size]? = some (.cells #[.slice Ag p.hs.length cg, .int .i64 p.tl, .int .i64 p.th, .int .i64 p.al, .int .i64 p.ah, .slice RA p.rds.length rc] 25) ∧ GrH V W1.heap.size (.slice Ag p.hs.length cg) p.hs ∧ V.heap[P1]? = some (.cells #[.slice none 0 0, .int .i64 0, .int .i64 0, .int .i64 0, .int .i64 0, .slice none 0 0] 25) ∧ W1.heap.size ≤ V.heap.size :=
    ⟨_, rfl, Below.setCell hbwj'.out (p := ⟨w.heap.size, 0, none⟩) (Nat.le_refl _) _, by simp only [World.setCell, Array.getElem?_modify, kp'.out]; simp, hg'.out.put (by omega) _, (Below.heap_setCell wr ⟨w.heap.size, 0, none⟩ _ P1 (by show P1 ≠ w.heap.size; omega)).trans (blk hbWr k1'.out), by have := hbWr.size; simpa [World.setCell] using this⟩
   rw [hWA]
   clear hWA c0 c1 c2 c3 c4 c5 f0 hbWr hbW
   obtain ⟨WB, hWB, hbB, kB⟩ := newb WA (.cells #[] 65)
   have hzB := gsl kB
   obtain ⟨c0, c1, c2, c3, c4, c5⟩ := pc6 (blk hbB kA)
   have hsrc := hr'.out.le (bel_set hbA hbB)
   have ⟨hbA', kA', hgA', k1A', hbB', kB', hsrc'⟩ := hyd7 hbA kA hgA k1A hbB kB hsrc
   clear hsrc kB hbB k1A hgA kA hbA
   go_wp2_with (first | (at_builtin; refine wpList_appSV _ rfl _ _ 23 rfl 65 _ 32 (by kernel_rfl) readInfo rfl (by decide) (by decide) (fun _ => rfl) (fun x u hu => ?hone) WA.heap.size rfl (.slice RA p.rds.length rc) p.rds rfl hsrc'.out (by omega) hzB ?_) | fail)
   case hone => simp [rdEnc] at hu; rcases hu with rfl | rfl | rfl | rfl <;> rfl
   intro vr w3 y1 y2 y3
   clear hWB c0 c1 c2 c3 c4 c5
   obtain ⟨RA3, rc3, hv3, -⟩ := y2.slice
   subst hv3
   have kA3 := blk y1 (blk hbB'.out kA'.out)
   have f5 := pfrz kA3 5
   obtain ⟨c0, c1, c2, c3, c4, c5⟩ := pc6 kA3
   obtain ⟨WC, hWC, hbC, kC, hgC, k1C, hrC⟩ : ∃ V, w3.setCell ⟨w.heap.size, 5, none⟩ (.slice RA3 p.rds.length rc3) = V ∧ Below w.heap.size w V ∧ V.heap[w.heap.size]? = some (.cells #[.slice Ag p.hs.length cg, .int .i64 p.tl, .int .i64 p.th, .int .i64 p.al, .int .i64 p.ah, .slice RA3 p.rds.length rc3] 25) ∧ GrH V W1.heap.size (.slice Ag p.hs.length cg) p.hs ∧ V.heap[P1]? = some (.cells #[.slice none 0 0, .int .i64 0, .int .i64 0, .int .i64 0, .int .i64 0, .slice none 0 0] 25) ∧ SV 4 rdEnc V (.slice RA3 p.rds.length rc3) p.rds :=
    ⟨_, rfl, Below.setCell (bel_set (bel_set hbA'.out hbB'.out) y1) (p := ⟨w.heap.size, 5, none⟩) (Nat.le_refl _) _, by simp only [World.setCell, Array.getElem?_modify, kA3]; simp, ((hgA'.out.le hbB'.out).le y1).put (by omega) _, (Below.heap_setCell w3 ⟨w.heap.size, 5, none⟩ _ P1 (by show P1 ≠ w.heap.size; omega)).trans (blk y1 (blk hbB'.out k1A'.out)), SV.put (n := WA.heap.size) y2 y3 (by omega) _⟩
   have ⟨y1', y2', kA3'⟩ := hyd3 y1 y2 kA3
   clear kA3 y2 y1
   go_upto_region 8 with (fail)
   clear hWC c0 c1 c2 c3 c4 c5 f5
   obtain ⟨c0, c1, c2, c3, c4, c5⟩ := pc6 kC
   obtain ⟨e0, e1, e2, e3, e4, e5⟩ := pc6 k1C
   have fg0 := pfrz k1C 0
   have fg1 := pfrz k1C 1
   have fg2 := pfrz k1C 2
   have fg3 := pfrz k1C 3
   have fg4 := pfrz k1C 4
   have fg5 := pfrz k1C 5
   obtain ⟨W9, hW9, hb9, k9, hg9, hr9⟩ : ∃ V, ((((((WC.setCell ⟨P1, 0, none⟩ (.slice Ag p.hs.length cg)).setCell ⟨P1, 1, none⟩ (.int .i64 p.tl)).setCell ⟨P1, 2, none⟩ (.int .i64 p.th)).setCell ⟨P1, 3, none⟩ (.int .i64 p.al)).setCell ⟨P1, 4, none⟩ (.int .i64 p.ah)).setCell ⟨P1, 5, none⟩ (.slice RA3 p.rds.length rc3)) = V ∧ Below w.heap.size w V ∧ V.heap[P1]? = some (.cells #[.slice Ag p.hs.length cg, .int .i64 p.tl, .int .i64 p.th, .int .i64 p.al, .int .i64 p.ah, .slice RA3 p.rds.length rc3] 25) ∧ GrH V W1.heap.size (.slice Ag p.hs.length cg) p.hs ∧ SV 4 rdEnc V (.slice RA3 p.rds.length rc3) p.rds :=
    ⟨_, rfl, pset6b hbC (by omega) _ _ _ _ _ _, pset6 k1C _ _ _ _ _ _, (((((hgC.put z1 _).put z1 _).put z1 _).put z1 _).put z1 _).put z1 _, SV.put (n := WA.heap.size) (SV.put (n := WA.heap.size) (SV.put (n := WA.heap.size) (SV.put (n := WA.heap.size) (SV.put (n := WA.heap.size) (SV.put (n := WA.heap.size) hrC y3 (by omega) _) y3 (by omega) _) y3 (by omega) _) y3 (by omega) _) y3 (by omega) _) y3 (by omega) _⟩
   obtain ⟨d0, d1, d2, d3, d4, d5⟩ := pc6 k9
   have ⟨hbC', kC', hgC', k1C', hrC', hb9', k9', hg9'⟩ := hyd8 hbC kC hgC k1C hrC hb9 k9 hg9
   have hr9' := hyd1 hr9
   clear hr9 hg9 k9 hb9 hrC k1C hgC kC hbC
   go_wp2
   exact bodyPost_ret (v := .agg #[.slice Ag p.hs.length cg, .int .i64 p.tl, .int .i64 p.th, .int .i64 p.al, .int .i64 p.ah, .slice RA3 p.rds.length rc3]) (by simp [results, Try.results11, go_sem, d0, d1, d2, d3, d4, d5]) rfl ⟨_, rfl, hb9'.out, _, _, rfl, hg9'.out.heads, hr9'.out⟩
end Go.Proofs.Ytkblockodaiigaa
