/- Fewer and wider readings find no less: the law ReadFewer. -/
import Derived.Test.YtjdgkmcmgagkgaaFewW
import Derived.Test.YtjdgkmcmgagkgaaRdStartR
import Derived.BigRegion
namespace Go.Proofs.Ytjdgkmcmgagkgaa
set_option maxRecDepth 100000
set_option maxHeartbeats 4000000
open Go.RowKit
set_option linter.unusedVariables false
set_option linter.unusedSimpArgs false
theorem SV.on {α : Type} {k : Nat} {enc : α → List Value} {w V : World} {v : Value} {L : List α} (h : SV k enc w v L) (hV : ∀ b, b < w.heap.size → V.heap[b]? = w.heap[b]?) (hz : w.heap.size ≤ V.heap.size) : SV k enc V v L := by
 obtain ⟨A, c, rfl, h1, h2, h3, h4⟩ := h
 refine ⟨A, c, rfl, h1, h2, h3, fun h0 => ?_⟩
 obtain ⟨b, off, rfl, hb, hc⟩ := h4 h0
 exact ⟨b, off, rfl, Nat.lt_of_lt_of_le hb hz, fun j hj i u hu => (World.cell?_of_block (hV b hb)).trans (hc j hj i u hu)⟩
theorem l9_few (a0 : Pic) (x0 : Value) (dr wi wh : Nat) (w : World) (w0 : IsPic w x0 a0 ∧ a0.Fit) (hdr : dr ≤ 255) (hwi : wi ≤ 255) (hwh : wh ≤ 255) :
  Calls Try.prog 4 #[x0, .int .u8 (dr : Int), .int .u8 (wi : Int), .int .u8 (wh : Int)] w (FwPost w) := by
 obtain ⟨hp, hf⟩ := w0
 have hp9 := hp
 obtain ⟨vh, vr, rfl, hh, hr⟩ := hp
 obtain ⟨HA, hc, rfl, -⟩ := hh.slice
 obtain ⟨RA, rc, rfl, hrl⟩ := hr.slice
 unfold maxLen at hrl
 have kal := fun W => pf_l9_alive W
 have kgr := fun W h => pf_r9_Great _ a0 W (hp9.le (W := W) h) hf
 obtain ⟨W1, hW1, hb1, k1⟩ := newb w (.cells #[.slice HA a0.hs.length hc, .int .i64 a0.tl, .int .i64 a0.th, .int .i64 a0.al, .int .i64 a0.ah, .slice RA a0.rds.length rc] 25)
 have ⟨hp9', hf', hh', hr', hb1', k1', kal', kgr'⟩ := hyd8 hp9 hf hh hr hb1 k1 kal kgr
 clear kgr kal k1 hb1 hr hh hf hp9
 go_enter Try.func4, Try.ntmps4
 go_wp2_with (fail)
 clear hW1
 go_at_call 6
 refine (kal'.out W1).mono ?_
 rintro e W2 ⟨rfl, hb2⟩
 have hbw2 := bel_set hb1'.out hb2
 have k2 := blk hb2 k1'.out
 obtain ⟨c0, c1, c2, c3, c4, c5⟩ := pc6 k2
 have ⟨hb2', hbw2', k2'⟩ := hyd3 hb2 hbw2 k2
 clear k2 hbw2 hb2
 go_wp2_with (fail)
 go_at_call 7
 refine (kgr'.out W2 hbw2'.out).mono ?_
 rintro e W3 ⟨b, rfl, hb3, hgr⟩
 have hbw3 := bel_set hbw2'.out hb3
 have k3 := blk hb3 k2'.out
 clear c0 c1 c2 c3 c4 c5
 obtain ⟨c0, c1, c2, c3, c4, c5⟩ := pc6 k3
 have ⟨hb3', hbw3', k3', hgr'⟩ := hyd4 hb3 hbw3 k3 hgr
 clear hgr k3 hbw3 hb3
 cases b with
 | true =>
  go_wp2
  go_ret
  exact ⟨rfl, hbw3'.out⟩
 | false =>
  obtain ⟨g6, g70, gl⟩ := hgr'.out rfl
  have hst : a0.steps ≤ 24 := by
   unfold Pic.steps
   rw [List.getD_eq_getElem?_getD]
   cases e : a0.hs[0]? with
   | none => exact Nat.zero_le _
   | some h => exact (gl h (List.mem_of_getElem? e)).1
  have gl2 : ∀ h ∈ a0.hs, h.ros.length ≤ 1000 ∧ h.rub.length ≤ 1000 := fun h hh => by have := gl h hh; omega
  clear gl hgr'
  have kfi := pf_rd_Find _ a0 W3 (hp9'.out.le hbw3'.out) hf'.out hst
  obtain ⟨E, hE⟩ : ∃ E, findE a0 = E := ⟨_, rfl⟩
  rw [hE] at kfi
  have ⟨gl2', kfi', hE'⟩ := hyd3 gl2 kfi hE
  clear hE kfi gl2
  go_wp2_with (fail)
  go_at_call 9
  refine kfi'.out.mono ?_
  rintro e W5 ⟨vf, rfl, hb5, hfv⟩
  have hbw5 := bel_set hbw3'.out hb5
  have k5 := blk hb5 k3'.out
  clear c0 c1 c2 c3 c4 c5
  obtain ⟨c0, c1, c2, c3, c4, c5⟩ := pc6 k5
  by_cases h0 : E = 0
  ·subst h0
   have hB := find_ok hE'.out
   have hok := picB_iff.1 hB
   have hLf : findL a0 = foundL a0 := by unfold findL; rw [hE'.out, if_pos rfl]
   have hfc := find_cases hB
   rw [hE'.out] at hfc
   obtain ⟨hn0, hn4⟩ : 0 < (foundL a0).length ∧ (foundL a0).length ≤ 400 := by
    rcases hfc with h | ⟨⟨-, h⟩ | ⟨h, -⟩, -, h4⟩
    ·cases h
    ·exact ⟨h, h4⟩
    ·cases h
   clear hfc
   rw [hLf] at hfv
   obtain ⟨L, hL⟩ : ∃ L, foundL a0 = L := ⟨_, rfl⟩
   rw [hL] at hfv hn0 hn4
   obtain ⟨A, c, hv9, -⟩ := hfv.slice
   obtain ⟨n, hn⟩ : ∃ n, L.length = n := ⟨_, rfl⟩
   rw [hn] at hv9 hn0 hn4
   subst hv9
   have ktw := pf_r9_TwinO _ a0 W5 (hp9'.out.le hbw5) (by omega) (by omega) gl2'.out
   have ⟨hB', hok', hLf', hL', hn', hfv', hb5', hbw5'⟩ := hyd8 hB hok hLf hL hn hfv hb5 hbw5
   have ⟨k5', ktw'⟩ := hyd2 k5 ktw
   clear ktw k5 hbw5 hb5 hfv hn hL hLf hok hB
   go_wp2_with (fail)
   go_at_call 11
   refine ktw'.out.mono ?_
   rintro e W6 ⟨v', rfl, hb6, -, vh', vr', m, rfl, hm0, hm1, hhd, hown⟩
   have hok := hok'.out
   have hrds := hok.reads
   have hown := hown (by omega)
   obtain ⟨g, cap, rfl, hgm, hgl, hnc⟩ : ∃ g cap, vr' = .slice (some ⟨g, 0, none⟩) a0.rds.length cap ∧ m ≤ g ∧ g < W6.heap.size ∧ a0.rds.length ≤ cap := by
    rcases hown.2 with ⟨-, e⟩ | ⟨g, cap, cur, rfl, hb, hg, hnc, hcm, -⟩
    ·omega
    ·exact ⟨g, cap, rfl, hb, (gsl hg), hnc⟩
   obtain ⟨OH, oc, rfl, -⟩ := (hhd W6 (fun _ _ => rfl) (Nat.le_refl _)).slice
   obtain ⟨W7, hW7, hb7, k7⟩ := newb W6 (.cells #[.slice OH a0.hs.length oc, .int .i64 a0.tl, .int .i64 a0.th, .int .i64 a0.al, .int .i64 a0.ah, .slice (some ⟨g, 0, none⟩) a0.rds.length cap] 25)
   clear c0 c1 c2 c3 c4 c5
   obtain ⟨c0, c1, c2, c3, c4, c5⟩ := pc6 k7
   have hb67 := bel_set hb6 hb7
   have hbw7 := bel_set hbw5'.out hb67
   have hown7 := own_below hown hb7
   have hz7 := hb7.size
   have hz5 := hbw5'.out.size
   obtain ⟨rn, hrn⟩ : ∃ n, a0.rds.length = n := ⟨_, rfl⟩
   rw [hrn] at c5 hown7 k7 hrds hnc hW7 ⊢
   have hhd7 : ∀ (W8 : World), (∀ b, b < m → W8.heap[b]? = W7.heap[b]?) → W7.heap.size ≤ W8.heap.size → ∀ V : World, (∀ b, b < m → V.heap[b]? = W8.heap[b]?) → W8.heap.size ≤ V.heap.size → HeadsL V (.slice OH a0.hs.length oc) a0.hs := fun W8 h1 h2 V h3 h4 =>
    hhd V (fun b hb => (h3 b hb).trans ((h1 b hb).trans (hb7.block b (by omega)))) (by omega)
   have hfd7 : ∀ (W8 : World), (∀ b, b < m → W8.heap[b]? = W7.heap[b]?) → W7.heap.size ≤ W8.heap.size → ∀ V : World, (∀ b, b < m → V.heap[b]? = W8.heap[b]?) → W8.heap.size ≤ V.heap.size → FndL V (.slice A n c) L := fun W8 h1 h2 V h3 h4 =>
    SV.on hfv'.out (fun b hb => (h3 b (by omega)).trans ((h1 b (by omega)).trans (hb67.block b hb))) (by have := hb67.size; omega)
   by_cases h1 : 1 < rn
   ·obtain ⟨i, hi⟩ : ∃ i, dr % rn = i := ⟨_, rfl⟩
    have hil : i < rn := by rw [← hi]; exact Nat.mod_lt _ (by omega)
    have h1i : (1 : Int) < (rn : Int) := by omega
    have x1 : (dr : Int).tmod (rn : Int) = (i : Int) := by rw [← hi]; rfl
    have y1 : (dr : Int) % (rn : Int) = (i : Int) := by rw [← hi]; rfl
    have s1 : IntKind.i64.wrap (dr : Int) = (dr : Int) := IntWalk.i64_in _ (by omega)
    have s2 : (0 : Int) ≤ (dr : Int) := by omega
    have r1 : ¬ (rn : Int) = 0 := by omega
    have r2 : ¬ rn = 0 := by omega
    have r3 : (0 : Int) < (rn : Int) := by omega
    have z1 : IntKind.i64.wrap ((i : Int) + 1) = (i : Int) + 1 := IntWalk.i64_in _ (by omega)
    have i1 : (0 : Int) ≤ (i : Int) := by omega
    have i2 : (i : Int) ≤ (rn : Int) := by omega
    have i3 : (i : Int) ≤ (cap : Int) := by omega
    have i4 : (0 : Int) ≤ (i : Int) + 1 := by omega
    have i5 : (i : Int) + 1 ≤ (rn : Int) := by omega
    have i6 : (rn : Int) ≤ (cap : Int) := by omega
    have i7 : ((i : Int) + 1).toNat = i + 1 := by omega
    have f5 := pfrz k7 5
    have zB : W6.heap.size < W7.heap.size := gsl k7
    have ⟨hB'', hok', hfv'', hb6', hhd', hown', hb7', k7'⟩ := hyd8 hB' hok hfv' hb6 hhd hown hb7 k7
    have ⟨hb67', hbw7', hown7', hrn', hi', hhd7', hfd7'⟩ := hyd7 hb67 hbw7 hown7 hrn hi hhd7 hfd7
    clear hfd7 hhd7 hi hrn hown7 hbw7 hb67 k7 hb7 hown hhd hb6 hfv' hok hB'
    have hown7d : W7.drew.ownsRow m 43 4 (.slice (some ⟨g, 0, none⟩) a0.rds.length cap) a0.rds.length (a0.rds.flatMap rdEnc) := by rw [hrn'.out]; exact hown7'.out
    have hil' : i < a0.rds.length := by rw [hrn'.out]; exact hil
    have hmm : rn - (i + 1) = a0.rds.length - (i + 1) := by rw [hrn'.out]
    have hNN : rn - 1 = a0.rds.length - 1 := by rw [hrn'.out]
    have hgB : W6.heap.size ≠ g := by omega
    have ⟨hown7d', hil'', hmm', hNN', hgB'⟩ := hyd5 hown7d hil' hmm hNN hgB
    clear hgB hNN hmm hil' hown7d
    go_upto_region 9 with (fail)
    clear hW7
    by_cases hcap : cap = i + 1
    ·have hcc : (if cap = i + 1 then some (⟨g, 0, none⟩ : Addr) else some ⟨g, (i + 1) * 4, none⟩) = some ⟨g, 0, none⟩ := if_pos hcap
     have hcz : ¬ 0 < rn - (i + 1) := by omega
     have hcap' := hyd1 hcap
     clear hcap
     have hcz' := hyd1 hcz
     clear hcz
     go_wp2_with (fail)
     go_region_law (refine step_appDel (enc := rdEnc) (k := 4) rfl _ _ 23 (fun _ => rfl) (fun x u hu => by simp [rdEnc] at hu; rcases hu with rfl | rfl | rfl | rfl <;> rfl) rfl m 43 Try.underlying23 (by kernel_rfl) g cap a0.rds hown7d'.out i (rn - 1) hil''.out rfl _ _ _ rfl hmm'.out (fun h => absurd h hcz'.out) hNN'.out ?_; intro w8 p1 p2 p3 p4; have kq8 := (p4 W6.heap.size hgB'.out).trans k7'.out; have f8 := pfrz kq8 5; have c8 := (pc6 kq8).2.2.2.2.2; have p1' := Lib.hid p1; have p2' := Lib.hid p2; have p3' := Lib.hid p3; have p4' := Lib.hid p4; have kq8' := Lib.hid kq8; clear p1 p2 p3 p4 kq8)
     all_goals
      obtain ⟨W8, hW8, hB8, ho8, hag8, hz8, hb8⟩ : ∃ V, w8.setCell ⟨W6.heap.size, 5, none⟩ (.slice (some ⟨g, 0, none⟩) (rn - 1) cap) = V ∧ V.heap[W6.heap.size]? = some (.cells #[.slice OH a0.hs.length oc, .int .i64 a0.tl, .int .i64 a0.th, .int .i64 a0.al, .int .i64 a0.ah, .slice (some ⟨g, 0, none⟩) (rn - 1) cap] 25) ∧
        V.ownsRow m 43 4 (.slice (some ⟨g, 0, none⟩) (rn - 1) cap) (rn - 1) ((a0.rds.eraseIdx i).flatMap rdEnc) ∧ (∀ b, b < m → V.heap[b]? = W7.heap[b]?) ∧ V.heap.size = W7.heap.size ∧ Below w.heap.size w V :=
       ⟨_, rfl, heap_set kq8'.out 5 _, own_other p1'.out (fun r hr => by simp [Value.ownBlock] at hr; have := hgB'.out; omega) _, fun b hb => (Below.heap_setCell w8 ⟨W6.heap.size, 5, none⟩ _ b (by show b ≠ W6.heap.size; omega)).trans (p4'.out b (by omega)), by simp [World.setCell]; exact p3'.out, (hbw7'.out.trans ((Below.refl _ W7).drew.trans (p2'.out.mono (by omega)))).setCell (p := ⟨W6.heap.size, 5, none⟩) (by show w.heap.size ≤ W6.heap.size; omega) _⟩
      rw [hW8]
      clear hW8
      have ⟨hB8', ho8', hag8', hz8', hb8'⟩ := hyd5 hB8 ho8 hag8 hz8 hb8
      clear hb8 hz8 hag8 ho8 hB8
      go_upto_region 11 with (fail)
      exact few_from11 a0 w W8 A _ W6.heap.size g n (rn - 1) c cap m dr wi wh i L (a0.rds.eraseIdx i) hok'.out hf'.out hst hdr hwi hwh hL'.out hn'.out hn0 hn4 (by rw [if_pos (by rw [hrn'.out]; exact h1)]) hil''.out (by rw [List.length_eraseIdx, if_pos hil''.out, hrn'.out]) hB8'.out ho8'.out hm1 (by omega) hb8'.out (hhd7'.out W8 hag8'.out (Nat.le_of_eq hz8'.out.symm)) (hfd7'.out W8 hag8'.out (Nat.le_of_eq hz8'.out.symm)) _ (frame_mkN _ _ (by kernel_rfl)) _ (by assumption)
    ·go_wp2_with (fail)
     go_region_law (refine step_appDel (enc := rdEnc) (k := 4) rfl _ _ 23 (fun _ => rfl) (fun x u hu => by simp [rdEnc] at hu; rcases hu with rfl | rfl | rfl | rfl <;> rfl) rfl m 43 Try.underlying23 (by kernel_rfl) g cap a0.rds hown7d'.out i (rn - 1) hil''.out rfl _ _ _ rfl hmm'.out (fun _ => rfl) hNN'.out ?_; intro w8 p1 p2 p3 p4; have kq8 := (p4 W6.heap.size hgB'.out).trans k7'.out; have f8 := pfrz kq8 5; have c8 := (pc6 kq8).2.2.2.2.2; have p1' := Lib.hid p1; have p2' := Lib.hid p2; have p3' := Lib.hid p3; have p4' := Lib.hid p4; have kq8' := Lib.hid kq8; clear p1 p2 p3 p4 kq8)
     all_goals
      obtain ⟨W8, hW8, hB8, ho8, hag8, hz8, hb8⟩ : ∃ V, w8.setCell ⟨W6.heap.size, 5, none⟩ (.slice (some ⟨g, 0, none⟩) (rn - 1) cap) = V ∧ V.heap[W6.heap.size]? = some (.cells #[.slice OH a0.hs.length oc, .int .i64 a0.tl, .int .i64 a0.th, .int .i64 a0.al, .int .i64 a0.ah, .slice (some ⟨g, 0, none⟩) (rn - 1) cap] 25) ∧
        V.ownsRow m 43 4 (.slice (some ⟨g, 0, none⟩) (rn - 1) cap) (rn - 1) ((a0.rds.eraseIdx i).flatMap rdEnc) ∧ (∀ b, b < m → V.heap[b]? = W7.heap[b]?) ∧ V.heap.size = W7.heap.size ∧ Below w.heap.size w V :=
       ⟨_, rfl, heap_set kq8'.out 5 _, own_other p1'.out (fun r hr => by simp [Value.ownBlock] at hr; have := hgB'.out; omega) _, fun b hb => (Below.heap_setCell w8 ⟨W6.heap.size, 5, none⟩ _ b (by show b ≠ W6.heap.size; omega)).trans (p4'.out b (by omega)), by simp [World.setCell]; exact p3'.out, (hbw7'.out.trans ((Below.refl _ W7).drew.trans (p2'.out.mono (by omega)))).setCell (p := ⟨W6.heap.size, 5, none⟩) (by show w.heap.size ≤ W6.heap.size; omega) _⟩
      rw [hW8]
      clear hW8
      have ⟨hB8', ho8', hag8', hz8', hb8'⟩ := hyd5 hB8 ho8 hag8 hz8 hb8
      clear hb8 hz8 hag8 ho8 hB8
      go_upto_region 11 with (fail)
      exact few_from11 a0 w W8 A _ W6.heap.size g n (rn - 1) c cap m dr wi wh i L (a0.rds.eraseIdx i) hok'.out hf'.out hst hdr hwi hwh hL'.out hn'.out hn0 hn4 (by rw [if_pos (by rw [hrn'.out]; exact h1)]) hil''.out (by rw [List.length_eraseIdx, if_pos hil''.out, hrn'.out]) hB8'.out ho8'.out hm1 (by omega) hb8'.out (hhd7'.out W8 hag8'.out (Nat.le_of_eq hz8'.out.symm)) (hfd7'.out W8 hag8'.out (Nat.le_of_eq hz8'.out.symm)) _ (frame_mkN _ _ (by kernel_rfl)) _ (by assumption)
   ·have h1i : ¬ (1 : Int) < (rn : Int) := by omega
    have ⟨hB'', hok', hfv'', hb6', hhd', hown', hb7', k7'⟩ := hyd8 hB' hok hfv' hb6 hhd hown hb7 k7
    have ⟨hb67', hbw7', hown7', hrn', hhd7', hfd7'⟩ := hyd6 hb67 hbw7 hown7 hrn hhd7 hfd7
    clear hfd7 hhd7 hrn hown7 hbw7 hb67 k7 hb7 hown hhd hb6 hfv' hok hB'
    go_upto_region 11 with (fail)
    exact few_from11 a0 w W7 A _ W6.heap.size g n rn c cap m dr wi wh 0 L a0.rds hok'.out hf'.out hst hdr hwi hwh hL'.out hn'.out hn0 hn4 (by rw [if_neg (by rw [hrn'.out]; exact h1)]) (by rw [hrn'.out]; omega) hrn'.out k7'.out hown7'.out hm1 (by omega) hbw7'.out (hhd7'.out W7 (fun _ _ => rfl) (Nat.le_refl _)) (hfd7'.out W7 (fun _ _ => rfl) (Nat.le_refl _)) _ (frame_mkN _ _ (by kernel_rfl)) _ (by assumption)
  ·have h0b : (E != 0) = true := by simpa using h0
   have ⟨hfv', hb5', hbw5', k5', h0'⟩ := hyd5 hfv hb5 hbw5 k5 h0
   clear h0 k5 hbw5 hb5 hfv
   go_wp2
   go_ret
   exact ⟨rfl, hbw5'.out⟩
theorem law_ReadFewer (a0 : Pic) (x0 : Value) (a1 a2 a3 : Int) (w : World) (w0 : IsPic w x0 a0 ∧ a0.Fit) (w1 : (Lit.int .u8 a1).wf = true) (w2 : (Lit.int .u8 a2).wf = true) (w3 : (Lit.int .u8 a3).wf = true) :
  Calls Try.prog 4 #[x0, .int .u8 a1, .int .u8 a2, .int .u8 a3] w fun e w' => e = .returned (.bool true) ∧ Below w.heap.size w w' := by
 have h1' : IntKind.u8.min ≤ a1 ∧ a1 ≤ IntKind.u8.max := by simpa [Lit.wf] using w1
 have h2' : IntKind.u8.min ≤ a2 ∧ a2 ≤ IntKind.u8.max := by simpa [Lit.wf] using w2
 have h3' : IntKind.u8.min ≤ a3 ∧ a3 ≤ IntKind.u8.max := by simpa [Lit.wf] using w3
 have h1 : 0 ≤ a1 ∧ a1 ≤ 255 := h1'
 have h2 : 0 ≤ a2 ∧ a2 ≤ 255 := h2'
 have h3 : 0 ≤ a3 ∧ a3 ≤ 255 := h3'
 obtain ⟨n1, rfl⟩ : ∃ n : Nat, a1 = n := ⟨a1.toNat, by omega⟩
 obtain ⟨n2, rfl⟩ : ∃ n : Nat, a2 = n := ⟨a2.toNat, by omega⟩
 obtain ⟨n3, rfl⟩ : ∃ n : Nat, a3 = n := ⟨a3.toNat, by omega⟩
 exact l9_few a0 x0 n1 n2 n3 w w0 (by omega) (by omega) (by omega)
end Go.Proofs.Ytjdgkmcmgagkgaa
