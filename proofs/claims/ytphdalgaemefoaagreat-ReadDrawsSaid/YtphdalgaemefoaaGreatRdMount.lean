/- read.mounted: a head at work. -/
import Derived.Test.YtphdalgaemefoaaGreatRdMtR
import Derived.Test.YtphdalgaemefoaaGreatRdStartR
import Derived.Test.YtphdalgaemefoaaGreatRepW
import Derived.Test.YtphdalgaemefoaaGreatRdJoinR
import Derived.Test.YtphdalgaemefoaaGreatMonoR
import Derived.StillTailTactics
import Derived.BigQuiet
import Derived.BigRegion
namespace Go.Proofs.YtphdalgaemefoaaGreat
set_option maxRecDepth 100000
set_option maxHeartbeats 1000000
open Go.RowKit
set_option linter.unusedVariables false
set_option linter.unusedSimpArgs false
def MPred.oneS (N : Nat) (s : Spn) : MPred := ⟨fun v W => ∃ X, v = .slice (some ⟨X, 0, none⟩) 1 1 ∧ N ≤ X ∧ X < W.heap.size ∧ W.heap[X]? = some (.cells #[.int .i64 s.1, .int .i64 s.2] 101), fun v W W' h ⟨X, a, b, c, d⟩ => ⟨X, a, b, Nat.lt_of_lt_of_le c h.size, blk h d⟩⟩
def MPred.rowS (N n : Nat) (s : Spn) : MPred := ⟨fun v W => ∃ g, v = .slice (some ⟨g, 0, none⟩) n n ∧ N ≤ g ∧ W.heap[g]? = some (.cells ((List.replicate n s).flatMap spnEnc).toArray 101), fun v W W' h ⟨g, a, b, d⟩ => ⟨g, a, b, blk h d⟩⟩
theorem hasC_wf {rds : List Rd} {n : Nat} (h : ∀ r ∈ rds, RdOk n r) {c : Int} (hc : hasC rds c = true) : 0 ≤ c ∧ c ≤ 11 := by
 unfold hasC at hc
 rw [List.any_eq_true] at hc
 obtain ⟨r, hr, e⟩ := hc
 have := h r hr
 unfold RdOk at this
 simp at e
 omega
theorem atR_ix {f : List Int} {i : Int} {q : Nat} (hq : i % (f.length : Int) = (q : Int)) (hl : q < f.length) : atR f i = f[q] := by
 unfold atR
 rw [hq, Int.toNat_natCast, List.getD_eq_getElem?_getD, List.getElem?_eq_getElem hl]; rfl
theorem pf_rd_mounted (v : Value) (p : Pic) (m : Nat) (throw : Int) (w : World) (hp : IsPic w v p) (hok : PicM p) (hm : m < p.hs.length) (ht : 0 ≤ throw ∧ throw ≤ 16) :
  Calls Tryz.prog 49 #[v, .int .i64 (m : Int), .int .i64 throw] w fun e w' => ∃ B n D bl Z, e = .returned (.agg #[.int .i64 (m : Int), .int .i64 throw, .map (some B)]) ∧ Below w.heap.size w w' ∧ n ≤ 60 ∧ Bases w' B n D bl Z p.steps (hasC p.rds) (rowS p.rds (p.lift m) throw p.steps) ∧ w.heap.size ≤ B := by
 have hmm := @run_makeMap Tryz.prog
 have hp9 := hp
 obtain ⟨vh, vr, rfl, hh, hr⟩ := hp
 obtain ⟨HA, hc, rfl, hhl⟩ := hh.slice
 obtain ⟨RA, rc, rfl, hrl⟩ := hr.slice
 unfold maxLen at hhl hrl
 obtain ⟨W0, hW0, hb0, k0⟩ := newb w (.cells #[.slice HA p.hs.length hc, .int .i64 p.tl, .int .i64 p.th, .int .i64 p.al, .int .i64 p.ah, .slice RA p.rds.length rc] 25)
 obtain ⟨W1, hW1, hb1, k1⟩ := newb W0 (.cells #[.int .i64 0, .int .i64 0, .map none] 97)
 have hbw1 := bel_set hb0 hb1
 have hh1 := hh.le hbw1
 have hr1 := hr.le hbw1
 have k01 := blk hb1 k0
 obtain ⟨c0, c1, c2, c3, c4, c5⟩ := pc6 k01
 obtain ⟨bh, oh, ch, vr0, vb0, heq, hbl, g0, g1, i0, i1⟩ := hh1.at hm
 injection heq with e1 e2 e3
 subst e1 e3
 clear e2
 obtain ⟨Ar, cr, rfl, -⟩ := id i0
 obtain ⟨Ab, cb, rfl, -⟩ := id i1
 have hhd := hok.head _ (List.getElem_mem hm)
 have hst := hok.steps
 rw [hhd.1] at g0 i0
 have hrub : rubOk p.hs[m].rub p.hs[m].ros.length = true := by rw [hhd.1]; exact hhd.2.2
 obtain ⟨lift, hlift⟩ : ∃ l, liftL p.hs[m].ros p.hs[m].rub = l := ⟨_, rfl⟩
 have hlp : p.lift m = lift := by unfold Pic.lift; rw [List.getD_eq_getElem?_getD, List.getElem?_eq_getElem hm]; exact hlift
 have hll : lift.length = p.steps := by rw [← hlift, liftL_length]; exact hhd.1
 have hlo : rosOk lift = true := by rw [← hlift]; exact lift_ok hhd.2.1 hrub
 have hro : ∀ r ∈ p.rds, RdOk p.steps r := fun r h => hok.rd r h
 obtain ⟨W2, hW2, hb2, k2⟩ := newb W1 (.cells #[.slice Ar p.steps cr, .slice Ab p.hs[m].rub.length cb] 44)
 obtain ⟨x0, x1⟩ := pc2 k2
 have hE : bothE p.hs[m].ros p.hs[m].rub = 0 := by unfold bothE; rw [if_pos hhd.2.1, if_pos hrub]
 have i02 : Ints W2 (.slice Ar p.steps cr) p.hs[m].ros := by have h := i0.below hb2; exact h
 have klift := pf_ros_Lift _ _ p.hs[m].ros p.hs[m].rub W2 i02 (i1.below hb2) 0 hE
 rw [hlift, hll] at klift
 have j1 : (m : Int) < (p.hs.length : Int) := by omega
 have j2 : (0 : Int) ≤ (m : Int) := by omega
 generalize hBL : p.hs[m].rub.length = BL at *
 rw [hlp]
 have ⟨hp9', hh', hr', hok', hb0', hb1', hb2', k0'⟩ := hyd8 hp9 hh hr hok hb0 hb1 hb2 k0
 have ⟨k1', k2', hbw1', hh1', hr1', k01', i0', i1'⟩ := hyd8 k1 k2 hbw1 hh1 hr1 k01 i0 i1
 have ⟨hhd', hrub', hlift', hlp', hll', hlo', hro', hE'⟩ := hyd8 hhd hrub hlift hlp hll hlo hro hE
 have ⟨i02', klift', hBL'⟩ := hyd3 i02 klift hBL
 clear hBL klift i02 hE hro hlo hll hlp hlift hrub hhd i1 i0 k01 hr1 hh1 hbw1 k2 k1 k0 hb2 hb1 hb0 hok hr hh hp9
 go_enter Tryz.func49, Tryz.ntmps49
 go_wp2_with (fail)
 go_at_call 68
 refine klift'.out.mono ?_
 rintro e W3 ⟨vl, rfl, hb3, hol0, -⟩
 have hol := hol0 trivial
 clear hol0
 have hil0 := own_ints hol
 obtain ⟨LA, lc, rfl⟩ := slice_formR hol
 obtain ⟨W4, hW4, hb4, k4⟩ := newb W3 (.map #[] 0)
 obtain ⟨W5, hW5, hb5, k5⟩ := newb W4 (.cells #[.int .i64 (m : Int), .int .i64 throw, .map (some W3.heap.size)] 97)
 have hb13 := bel_set hb2'.out hb3
 have hbw3 := bel_set hbw1'.out hb13
 have hb35 := bel_set hb4 hb5
 have kp3 := blk hb13 k01'.out
 have kr3 := blk hb13 k1'.out
 have kp5 := blk hb35 kp3
 have km5 := blk hb5 k4
 have hr3 := hr'.out.le hbw3
 obtain ⟨b0, b1, b2⟩ := pc3 k5
 clear c0 c1 c2 c3 c4 c5 x0 x1 g0 g1
 obtain ⟨c0, c1, c2, c3, c4, c5⟩ := pc6 kp5
 have zz1 : W3.heap.size < W5.heap.size := gsl km5
 have zz0 : W0.heap.size < W4.heap.size := Nat.lt_trans (gsl kr3) (gsl k4)
 have zz2 : W4.heap.size < W5.heap.size := gsl k5
 have hI0 : ∃ n D bl, Below W3.heap.size W3 W5 ∧ W5.heap[W4.heap.size]? = some (.cells #[.int .i64 (m : Int), .int .i64 throw, .map (some W3.heap.size)] 97) ∧ W5.heap.size ≤ W5.heap.size ∧ n ≤ 0 ∧ Bases W5 W3.heap.size n D bl W5.heap.size p.steps (hasC (p.rds.take 0)) (rowS (p.rds.take 0) lift throw p.steps) := ⟨0, _, _, hb35, k5, Nat.le_refl _, Nat.le_refl _, (Bases.start (row := fun _ => []) km5).congr (fun c => rfl) (fun c hc => by cases hc)⟩
 have ⟨hb3', hol', hil0', hb4', hb5', k4', k5', hb13'⟩ := hyd8 hb3 hol hil0 hb4 hb5 k4 k5 hb13
 have ⟨hbw3', hb35', kp3', kr3', kp5', km5', hr3', hI0'⟩ := hyd8 hbw3 hb35 kp3 kr3 kp5 km5 hr3 hI0
 have zz0' := hyd1 zz0
 clear zz0 hI0 hr3 km5 kp5 kr3 kp3 hb35 hbw3 hb13 k5 k4 hb5 hb4 hil0 hol hb3
 go_wp2_with (fail)
 clear hW0 hW1 hW2 hW4 hW5
 generalize hP1 : W0.heap.size = P1 at *
 generalize hP5 : W4.heap.size = P5 at *
 generalize hZ5 : W5.heap.size = Z5 at *
 have ⟨hP1', hP5', hZ5'⟩ := hyd3 hP1 hP5 hZ5
 clear hZ5 hP5 hP1
 go_loopw [39] (fun ix wr => ∃ j : Nat, j ≤ p.rds.length ∧ ix = .int .i64 (j : Int) ∧ Hid (∃ n D bl, Below W3.heap.size W3 wr ∧ wr.heap[P5]? = some (.cells #[.int .i64 (m : Int), .int .i64 throw, .map (some W3.heap.size)] 97) ∧ Z5 ≤ wr.heap.size ∧ n ≤ j ∧ Bases wr W3.heap.size n D bl Z5 p.steps (hasC (p.rds.take j)) (rowS (p.rds.take j) lift throw p.steps))) (fun ix _ => p.rds.length - (intOf ix).toNat)
 case atStart =>
  obtain ⟨n0, D0, bl0, q1, q2, q3, q4, q5⟩ := hI0'.out
  exact ⟨0, Nat.zero_le _, rfl, Lib.hid ⟨n0, D0, bl0, q1, q2, Nat.le_of_eq hZ5'.out.symm, q4, q5⟩⟩
 case round =>
  obtain ⟨j, hj, rfl, hI⟩ := hrel
  obtain ⟨n, D, bl, hbw, km, hZw, hn, hB⟩ := hI.out
  have kp := blk hbw kp3'.out
  have kr := blk hbw kr3'.out
  clear b0 b1 b2 c0 c1 c2 c3 c4 c5
  obtain ⟨b0, b1, b2⟩ := pc3 km
  obtain ⟨c0, c1, c2, c3, c4, c5⟩ := pc6 kp
  by_cases hlt : j < p.rds.length
  ·obtain ⟨bq, off, rc2, heq, hbl, g0, g1, g2, g3⟩ := RdsL.cells (hr3'.out.le hbw) hlt
   injection heq with e1 e2 e3
   subst e1 e3
   clear e2
   have hmem := List.getElem_mem hlt
   have hrok := hro'.out _ hmem
   have htk : p.rds.take (j + 1) = p.rds.take j ++ [p.rds[j]] := List.take_succ_eq_append_getElem hlt
   obtain ⟨r, hrr⟩ : ∃ r, p.rds[j] = r := ⟨_, rfl⟩
   rw [hrr] at g0 g1 g2 g3 hrok htk
   obtain ⟨rds, hrds⟩ : ∃ l, p.rds.take j = l := ⟨_, rfl⟩
   rw [hrds] at hB htk
   have hro2 : ∀ q ∈ rds, RdOk p.steps q := fun q hq => hro'.out q (List.mem_of_mem_take (by rw [hrds]; exact hq))
   obtain ⟨rcut, rstep, rlo, rhi⟩ := r
   unfold RdOk at hrok
   dsimp only at g0 g1 g2 g3 hrok
   obtain ⟨⟨ra1, ra2⟩, ⟨ra3, ra4⟩, ra5, ra6, ra7⟩ := hrok
   obtain ⟨W6, hW6, hb6, k6⟩ := newb wr (.cells #[.int .i64 rcut, .int .i64 rstep, .int .i64 rlo, .int .i64 rhi] 54)
   obtain ⟨d0, d1, d2, d3⟩ := pc4 k6
   have hB6 := hB.le hb6
   have hb36 := bel_set hbw hb6
   have km6 := blk hb6 km
   clear b0 b1 b2
   obtain ⟨b0, b1, b2⟩ := pc3 km6
   have j3 : (j : Int) < (p.rds.length : Int) := by omega
   have j4 : (0 : Int) ≤ (j : Int) := by omega
   have hwf : (Lit.int .i64 rcut).wf = true := WalkArith.wf_i64 (by omega)
   have z6 : wr.heap.size < W6.heap.size := gsl k6
   have hsnoc := hasC_snoc rds ⟨rcut, rstep, rlo, rhi⟩
   have hn60 : n ≤ 60 := by have := hok'.out.reads; omega
   obtain ⟨B8, hB8⟩ : ∃ b, hasC rds rcut = b := ⟨_, rfl⟩
   cases B8
   case' true =>
    have hat := hB6.get rcut hB8
    have hnil := fun W => Lib.run_eql_slice_nil (P := Tryz.prog) W 98 101 (some ⟨bl rcut, 0, none⟩) p.steps p.steps 0 0 Tryz.underlying98
    have hI1 : ∃ n D bl, Below W3.heap.size W3 W6 ∧ W6.heap[P5]? = some (.cells #[.int .i64 (m : Int), .int .i64 throw, .map (some W3.heap.size)] 97) ∧ W6.heap[wr.heap.size]? = some (.cells #[.int .i64 rcut, .int .i64 rstep, .int .i64 rlo, .int .i64 rhi] 54) ∧ Z5 ≤ W6.heap.size ∧ n ≤ j + 1 ∧ Bases W6 W3.heap.size n D bl Z5 p.steps (hasC (rds ++ [⟨rcut, rstep, rlo, rhi⟩])) (fun d => if d = rcut then rowK rds lift throw p.steps rcut ⟨rcut, rstep, rlo, rhi⟩ 0 else rowS rds lift throw p.steps d) :=
     ⟨n, D, bl, hb36, km6, k6, by omega, by omega, hB6.congr (fun c => by
      rw [hsnoc c]
      by_cases e : rcut = c
      ·subst e; rw [hB8]; rfl
      ·simp [e]) (fun c hc => by
      by_cases e : c = rcut
      ·subst e; rw [if_pos rfl, rowK_zero]
      ·rw [if_neg e])⟩
    have ⟨hI', hbw', hn', hB', km', kp', kr', hmem'⟩ := hyd8 hI hbw hn hB km kp kr hmem
    have ⟨htk', hrr', hrds', hro2', hb6', k6', hB6', hb36'⟩ := hyd8 htk hrr hrds hro2 hb6 k6 hB6 hb36
    have ⟨km6', hat', hB8', hsnoc', hI1'⟩ := hyd5 km6 hat hB8 hsnoc hI1
    clear hI1 hsnoc hB8 hat km6 hb36 hB6 k6 hb6 hro2 hrds hrr htk hmem kr kp km hB hn hbw hI
    go_wp2_with (first | (at_lookup; refine wpList_lookHas rfl (.tmp 44) (.tmp 46) rfl rfl hB6'.out.own rcut rfl hwf _ _ _ hat'.out ?_) | fail)
    clear hW6 b0 b1 b2 c0 c1 c2 c3 c4 c5 d0 d1 d2 d3
    generalize hX6 : wr.heap.size = X6 at *
    have hX6' := hyd1 hX6
    clear hX6
   case' false =>
    have hnil := fun W => Lib.run_eql_slice_nil (P := Tryz.prog) W 98 101 none 0 0 0 0 Tryz.underlying98
    have hno := hB6.has rcut hwf
    rw [hB8] at hno
    have ⟨hI', hbw', hn', hB', km', kp', kr', hmem'⟩ := hyd8 hI hbw hn hB km kp kr hmem
    have ⟨htk', hrr', hrds', hro2', hb6', k6', hB6', hb36'⟩ := hyd8 htk hrr hrds hro2 hb6 k6 hB6 hb36
    have ⟨km6', hno', hB8', hsnoc'⟩ := hyd4 km6 hno hB8 hsnoc
    clear hsnoc hB8 hno km6 hb36 hB6 k6 hb6 hro2 hrds hrr htk hmem kr kp km hB hn hbw hI
    go_wp2_with (first | (at_lookup; refine wpList_lookNot rfl (.tmp 44) (.tmp 46) rfl rfl hB6'.out.own rcut rfl hwf hno'.out ?_) | fail)
    clear hW6 b0 b1 b2 c0 c1 c2 c3 c4 c5 d0 d1 d2 d3
    generalize hX6 : wr.heap.size = X6 at *
    have hX6' := hyd1 hX6
    clear hX6
--@ARM9
    refine wp_region_monoT (R := leRel) 8 [some 49, some 50, some 51, some 52, some 53, some 54, some 55, some 56, none] [[], [0], [], [2], [], [4], [], [5, 6], [1, 3, 7]]
     [.eq (.pointer (some ⟨P5, 2, none⟩)), .eq (.map (some W3.heap.size)), .eq (.pointer (some ⟨X6, 0, none⟩)), .eq (.int .i64 rcut), .eq (.agg #[.int .i64 (-1099511627776), .int .i64 1099511627776]), MPred.oneS X6 (-1099511627776, 1099511627776), .eq (.int .i64 (p.steps : Int)), MPred.rowS W6.heap.size p.steps (-1099511627776, 1099511627776)] (fun _ _ => False) (by kernel_rfl) (by kernel_rfl) (by kernel_rfl) (by kernel_rfl) (by kernel_rfl) ?_ (fun _ _ _ _ h => h.elim) ?_
    ·simp only [List.take_succ_cons, List.take_zero]
     refine sMc rfl ?_ (sMc rfl ?_ (sMc rfl ?_ (sMc rfl ?_ (sMc rfl ?_ (sMc rfl ?_ (sMc rfl ?_ (sMc rfl ?_ (stepsG_nil))))))))
     ·intro xv W hR hf Q hK hP
      simp only [fA] at hK ⊢
      go_wp2
      exact hK _ _ lrR rfl
     ·intro xv W hR hf Q hK hP
      obtain ⟨e0, -⟩ := hf
      change _ = _ at e0
      have cc := (pc3 (blk hR km6'.out)).2.2
      simp only [fA, e0] at hK ⊢
      go_wp2
      exact hK _ _ lrR rfl
     ·intro xv W hR hf Q hK hP
      simp only [fA] at hK ⊢
      go_wp2
      exact hK _ _ lrR rfl
     ·intro xv W hR hf Q hK hP
      obtain ⟨e0, -⟩ := hf
      change _ = _ at e0
      have cc := (pc4 (blk hR k6'.out)).1
      simp only [fA, e0] at hK ⊢
      go_wp2
      exact hK _ _ lrR rfl
     ·intro xv W hR hf Q hK hP
      simp only [fA] at hK ⊢
      go_wp2
      exact hK _ _ lrR rfl
     ·intro xv W hR hf Q hK hP
      obtain ⟨e0, -⟩ := hf
      change _ = _ at e0
      simp only [fA, e0] at hK ⊢
      go_wp2
      exact hK _ _ (alc1 _ _) ⟨_, rfl, by have h := hR.size; omega, by simp, alc_at _ _⟩
     ·intro xv W hR hf Q hK hP
      simp only [fA] at hK ⊢
      go_wp2
      exact hK _ _ lrR rfl
     ·intro xv W hR hf Q hK hP
      obtain ⟨e0, e1, -⟩ := hf
      change _ = _ at e1
      replace e0 : ∃ X, (xv 5) = .slice (some ⟨X, 0, none⟩) 1 1 ∧ X6 ≤ X ∧ X < W.heap.size ∧ W.heap[X]? = some (.cells #[.int .i64 (-1099511627776), .int .i64 1099511627776] 101) := e0
      obtain ⟨X, qx, zx1, zx2, kx⟩ := e0
      simp only [fA, e1, qx] at hK ⊢
      clear qx
      go_wp2_with (fail)
      go_at_call 69
      refine (pf_Repeat X p.steps (-1099511627776, 1099511627776) W (by omega) (by omega) zx2 kx).mono ?_
      rintro e w' ⟨rfl, y1, y2⟩
      have ⟨y1', y2'⟩ := hyd2 y1 y2
      clear y2 y1
      go_wp2
      exact hK _ _ y1'.out ⟨_, rfl, by have h := hR.size; omega, y2'.out⟩
    intro xv W7 hR hf Q' hQ1 _
    have e1 : xv 1 = .map (some W3.heap.size) := hf 1 (by decide)
    have e3 : xv 3 = .int .i64 rcut := hf 3 (by decide)
    obtain ⟨g, e7, hg7, kg7⟩ : ∃ g, xv 7 = .slice (some ⟨g, 0, none⟩) p.steps p.steps ∧ W6.heap.size ≤ g ∧ W7.heap[g]? = some (.cells ((List.replicate p.steps (-1099511627776, 1099511627776)).flatMap spnEnc).toArray 101) := hf 7 (by decide)
    simp only [List.drop_succ_cons, List.drop_zero]
    rw [show List.range 8 = [0, 1, 2, 3, 4, 5, 6, 7] from rfl]
    simp only [fA, e1, e3, e7]
    clear e1 e3 e7 hf
    have hB7 := hB6'.out.le hR
    have km7 := blk hR km6'.out
    have k67 := blk hR k6'.out
    have hb37 := bel_set hb36'.out hR
    have hnm : n < maxLen := by unfold maxLen; omega
    have hzg : Z5 ≤ g := by omega
    have zz7 := Below.size hR
    have ⟨hR', hB7', km7', k67', hb37', kg7'⟩ := hyd6 hR hB7 km7 k67 hb37 kg7
    clear kg7 hb37 k67 km7 hB7 hR
    go_wp2_with (first | (at_mapUpdate; refine wpList_mapUpdate_own _ rfl _ _ _ 95 rfl 3 98 keyed9 Tryz.underlying95 hdR W3.heap.size n D rfl hB7'.out.own hnm _ _ (.int .i64 rcut) rfl rfl (Maps.keyOf_int_mk Tryz.underlying3 hwf) (hdD g p.steps p.steps) [] (hdR_mk (some (g, p.steps, p.steps))) ?_; intro wq hown8 hgrow8) | fail)
    have hBp := hB7'.out.put (c := rcut) hB8'.out hwf (fun d hd e => by have h := gsl (hB6'.out.blk d hd).2; omega) hzg (by omega) kg7'.out (by simp) hown8 hgrow8
    have kmq : wq.heap[P5]? = some (.cells #[.int .i64 (m : Int), .int .i64 throw, .map (some W3.heap.size)] 97) := (hgrow8.block P5 (gsl km7'.out) (by simpa using map_ne_cells hB7'.out.own km7'.out)).trans km7'.out
    have k6q : wq.heap[X6]? = some (.cells #[.int .i64 rcut, .int .i64 rstep, .int .i64 rlo, .int .i64 rhi] 54) := (hgrow8.block X6 (gsl k67'.out) (by simpa using map_ne_cells hB7'.out.own k67'.out)).trans k67'.out
    have hb3q : Below W3.heap.size W3 wq := Below.grown hb37'.out hgrow8 hb37'.out.size (fun k e => by injection e with e; omega)
    have zzq := hgrow8.size
    have hI1 : ∃ n D bl, Below W3.heap.size W3 wq ∧ wq.heap[P5]? = some (.cells #[.int .i64 (m : Int), .int .i64 throw, .map (some W3.heap.size)] 97) ∧ wq.heap[X6]? = some (.cells #[.int .i64 rcut, .int .i64 rstep, .int .i64 rlo, .int .i64 rhi] 54) ∧ Z5 ≤ wq.heap.size ∧ n ≤ j + 1 ∧ Bases wq W3.heap.size n D bl Z5 p.steps (hasC (rds ++ [⟨rcut, rstep, rlo, rhi⟩])) (fun d => if d = rcut then rowK rds lift throw p.steps rcut ⟨rcut, rstep, rlo, rhi⟩ 0 else rowS rds lift throw p.steps d) :=
     ⟨n + 1, _, _, hb3q, kmq, k6q, by omega, by have := hn'.out; omega, hBp.congr (fun c => by rw [hsnoc'.out c, Bool.or_comm]; congr 1; exact decide_eq_decide.2 eq_comm) (fun c hc => by
      by_cases e : c = rcut
      ·subst e; simp only [if_true]; rw [rowK_zero, rowS_none hB8'.out]
      ·simp only [if_neg e])⟩
    have ⟨hown8', hgrow8', hBp', kmq', k6q', hb3q', hI1'⟩ := hyd7 hown8 hgrow8 hBp kmq k6q hb3q hI1
    clear hI1 hb3q k6q kmq hBp hgrow8 hown8
    refine hQ1 _ _ ?_
    clear hQ1
    go_wp2_with (fail)
--@END9
   all_goals
    go_loopw [58] (fun kx wv => ∃ k : Nat, k ≤ p.steps ∧ kx = .int .i64 (k : Int) ∧ Hid (∃ n D bl, Below W3.heap.size W3 wv ∧ wv.heap[P5]? = some (.cells #[.int .i64 (m : Int), .int .i64 throw, .map (some W3.heap.size)] 97) ∧ wv.heap[X6]? = some (.cells #[.int .i64 rcut, .int .i64 rstep, .int .i64 rlo, .int .i64 rhi] 54) ∧ Z5 ≤ wv.heap.size ∧ n ≤ j + 1 ∧ Bases wv W3.heap.size n D bl Z5 p.steps (hasC (rds ++ [⟨rcut, rstep, rlo, rhi⟩])) (fun d => if d = rcut then rowK rds lift throw p.steps rcut ⟨rcut, rstep, rlo, rhi⟩ k else rowS rds lift throw p.steps d))) (fun kx _ => p.steps - (intOf kx).toNat)
    case atStart => exact ⟨0, Nat.zero_le _, rfl, hI1'⟩
    case round =>
     clear hI1'
     rename World => wv
     obtain ⟨k, hk, rfl, hJ⟩ := hrel
     obtain ⟨nv, Dv, blv, hbv, kmv, k6v, hZv, hnv, hBv⟩ := hJ.out
     by_cases hkl : k < p.steps
     ·obtain ⟨b0, b1, b2⟩ := pc3 kmv
      obtain ⟨d0, d1, d2, d3⟩ := pc4 k6v
      have hcsr : hasC (rds ++ [⟨rcut, rstep, rlo, rhi⟩]) rcut = true := by rw [hsnoc'.out]; simp
      have hatv := hBv.get rcut hcsr
      have kgv := (hBv.blk rcut hcsr).2
      have zgv := (hBv.blk rcut hcsr).1
      simp only [if_true] at kgv
      obtain ⟨y0, y1⟩ := row_cell kgv (j := k) (by rw [rowK_length]; exact hkl)
      rw [rowK_get] at y0 y1
      have hlk : ∀ q, (Instr.lookup 95 (.map (some W3.heap.size)) (.int .i64 rcut) false).run Tryz.prog (wv.drewN q) = .ok (.slice (some ⟨blv rcut, 0, none⟩) p.steps p.steps) (wv.drewN q) := fun q => look_run (w := wv.drewN q) hBv.own hwf hatv
      have fg : ∀ i, wv.frozen? ⟨blv rcut, i, none⟩ = false := fun i => pfrz kgv i
      have f0 := fg (k * 2)
      have f1 := fg (k * 2 + 1)
      have hne : blv rcut ≠ X6 := span_ne kgv k6v (by decide)
      have n1 : ¬ blv rcut = X6 := hne
      have n2 : ¬ X6 = blv rcut := fun e => hne e.symm
      obtain ⟨q, hq⟩ : ∃ q : Nat, (rstep - (k : Int) + (p.steps : Int)) % (p.steps : Int) = (q : Int) := ⟨((rstep - (k : Int) + (p.steps : Int)) % (p.steps : Int)).toNat, by have := Int.emod_nonneg (rstep - (k : Int) + (p.steps : Int)) (show (p.steps : Int) ≠ 0 by omega); omega⟩
      have hq2 : q < p.steps := by have := Int.emod_lt_of_pos (rstep - (k : Int) + (p.steps : Int)) (show (0 : Int) < p.steps by omega); omega
      have hq3 : q < lift.length := by rw [hll'.out]; exact hq2
      have hh1 := lift_in hlo'.out ⟨rcut, rstep, rlo, rhi⟩ k
      have haq : hAt lift ⟨rcut, rstep, rlo, rhi⟩ k = lift[q] := by
       unfold hAt
       exact atR_ix (by show (rstep - (k : Int)) % (lift.length : Int) = (q : Int); rw [hll'.out, ← hq, Int.add_emod_right]) hq3
      rw [haq] at hh1
      obtain ⟨lb, lo, lc2, hle, hlb, -, -, hlcell⟩ := Ints.cells (hil0'.out.below hbv) (by omega)
      injection hle with e4 e5 e6
      subst e4 e6
      clear e5
      have hlc := hlcell q hq3
      obtain ⟨x, hx⟩ : ∃ x, lift[q] = x := ⟨_, rfl⟩
      rw [hx] at hlc hh1 haq
      have m2 := mul_in ht.1 ht.2 (b := x) (B := 10000) (by omega) (by omega) (by decide)
      have m3 := Int.mul_nonneg ht.1 hh1.1
      have hlc2 : wv.cell? ⟨lb, lo + ((rstep - (k : Int) + (p.steps : Int)) % (p.steps : Int)).toNat, none⟩ = some (.int .i64 x) := by rw [hq, Int.toNat_natCast]; exact hlc
      have i3 : (0 : Int) ≤ (rstep - (k : Int) + (p.steps : Int)) % (p.steps : Int) := by omega
      have i4 : (rstep - (k : Int) + (p.steps : Int)) % (p.steps : Int) < (p.steps : Int) := by omega
      have i5 : ¬ (p.steps : Int) = 0 := by omega
      rw [Int.add_emod_right] at hlc2 i3 i4
      have i9 : ¬ p.steps = 0 := by omega
      have i10 : (0 : Int) < (p.steps : Int) := by omega
      have i6 : (0 : Int) ≤ rstep - (k : Int) + (p.steps : Int) := by omega
      have i7 : (k : Int) < (p.steps : Int) := by omega
      have i8 : (0 : Int) ≤ (k : Int) := by omega
      obtain ⟨v1, v2, v3, v4⟩ := baseS_in2 (c := rcut) (ph := k) hlo'.out ht hro2'.out
      have hfold := baseS_snoc rds lift throw rcut k ⟨rcut, rstep, rlo, rhi⟩
      rw [if_pos rfl, haq] at hfold
      dsimp only at hfold
      obtain ⟨O, hO⟩ : ∃ O, baseS rds lift throw rcut k = O := ⟨_, rfl⟩
      rw [hO] at y0 y1 v1 v2 v3 v4 hfold
      obtain ⟨o1, o2⟩ := O
      dsimp only at y0 y1 v1 v2 v3 v4 hfold
      have ⟨hJ', hBv', hbv', kmv', k6v', hatv', kgv', fg'⟩ := hyd8 hJ hBv hbv kmv k6v hatv kgv fg
      have ⟨hne', hq', haq', hlcell', hx', hO', hfold', hcsr'⟩ := hyd8 hne hq haq hlcell hx hO hfold hcsr
      clear hcsr hfold hO hx hlcell haq hq hne fg kgv hatv k6v kmv hbv hBv hJ
      go_wp2_with (fail)
      go_quiet (fail)
      have hbu : Below wv.heap.size wv (wv.drewN nq) := below_drewN' (Below.refl _ _) nq
      have hBu := hBv'.out.le hbu
      have kmu := blk hbu kmv'.out
      have k6u := blk hbu k6v'.out
      have hb3u := bel_set hbv'.out hbu
      have zzu := hbu.size
      clear b0 b1 b2 d0 d1 d2 d3 y0 y1 f0 f1 hlk hlc2 hlc
      generalize wv.drewN nq = wu at hbu hBu kmu k6u hb3u zzu ⊢
      have kgu := (hBu.blk rcut hcsr'.out).2
      simp only [if_true] at kgu
      obtain ⟨y0, y1⟩ := row_cell kgu (j := k) (by rw [rowK_length]; exact hkl)
      rw [rowK_get, hO'.out] at y0 y1
      dsimp only at y0 y1
      obtain ⟨d0, d1, d2, d3⟩ := pc4 k6u
      have f0 := pfrz kgu (k * 2)
      have f1 := pfrz kgu (k * 2 + 1)
      generalize hG : blv rcut = G at *
      generalize hTX : throw * x = tx at *
      have ⟨hbu', hBu', kmu', k6u', hb3u', kgu', hG', hTX'⟩ := hyd8 hbu hBu kmu k6u hb3u kgu hG hTX
      clear hTX hG kgu hb3u k6u kmu hBu hbu
      go_wp2_with (fail)
      go_region
      obtain ⟨u1, hu1⟩ : ∃ u, (if o1 < rlo - tx then rlo - tx else o1) = u := ⟨_, rfl⟩
      obtain ⟨u2, hu2⟩ : ∃ u, (if rhi - tx < o2 then rhi - tx else o2) = u := ⟨_, rfl⟩
      have hs : ((u1, u2) : Spn) = baseS (rds ++ [⟨rcut, rstep, rlo, rhi⟩]) lift throw rcut k := by rw [hfold'.out, ← hu1, ← hu2, ifmax, ifmin]
      have hrow := row_set2 kgu'.out (j := k) (by rw [rowK_length]; exact hkl) (u1, u2)
      dsimp only at hrow
      rw [hs, rowK_set] at hrow
      have hGP : P5 ≠ G := (span_ne kgu'.out kmu'.out (by decide)).symm
      have hI2 : ∃ n D bl, Below W3.heap.size W3 (((wu.setCell ⟨G, k * 2, none⟩ (.int .i64 u1)).setCell ⟨G, k * 2 + 1, none⟩ (.int .i64 u2)).drew) ∧ (((wu.setCell ⟨G, k * 2, none⟩ (.int .i64 u1)).setCell ⟨G, k * 2 + 1, none⟩ (.int .i64 u2)).drew).heap[P5]? = some (.cells #[.int .i64 (m : Int), .int .i64 throw, .map (some W3.heap.size)] 97) ∧ (((wu.setCell ⟨G, k * 2, none⟩ (.int .i64 u1)).setCell ⟨G, k * 2 + 1, none⟩ (.int .i64 u2)).drew).heap[X6]? = some (.cells #[.int .i64 rcut, .int .i64 rstep, .int .i64 rlo, .int .i64 rhi] 54) ∧ Z5 ≤ (((wu.setCell ⟨G, k * 2, none⟩ (.int .i64 u1)).setCell ⟨G, k * 2 + 1, none⟩ (.int .i64 u2)).drew).heap.size ∧ n ≤ j + 1 ∧ Bases (((wu.setCell ⟨G, k * 2, none⟩ (.int .i64 u1)).setCell ⟨G, k * 2 + 1, none⟩ (.int .i64 u2)).drew) W3.heap.size n D bl Z5 p.steps (hasC (rds ++ [⟨rcut, rstep, rlo, rhi⟩])) (fun d => if d = rcut then rowK rds lift throw p.steps rcut ⟨rcut, rstep, rlo, rhi⟩ (k + 1) else rowS rds lift throw p.steps d) :=
       ⟨nv, Dv, blv, below_drewN' (set2b hb3u'.out (by omega) _ _) 1, (set2o _ _ _ _ _ _ _ hGP).trans kmu'.out, (set2o _ _ _ _ _ _ _ hne'.out.symm).trans k6u'.out, by show Z5 ≤ _; simp [World.setCell]; omega, hnv, ((hBu'.out.set (c := rcut) hcsr'.out (L := rowK rds lift throw p.steps rcut ⟨rcut, rstep, rlo, rhi⟩ (k + 1)) (rowK_length _ _ _ _ _ _ _) (W := ((wu.setCell ⟨G, k * 2, none⟩ (.int .i64 u1)).setCell ⟨G, k * 2 + 1, none⟩ (.int .i64 u2)).drew) (by rw [hG'.out]; exact hrow) (fun q hq => by rw [hG'.out] at hq; exact set2o _ _ _ _ _ _ _ hq)).congr (fun _ => rfl) (fun c _ => by
        by_cases e : c = rcut
        ·simp only [if_pos e]
        ·simp only [if_neg e]))⟩
      simp only [hu1, hu2]
      clear hu1 hu2
      have ⟨hI2', hs', hrow', hGP'⟩ := hyd4 hI2 hs hrow hGP
      clear hGP hrow hs hI2
      generalize ((wu.setCell ⟨G, k * 2, none⟩ (.int .i64 u1)).setCell ⟨G, k * 2 + 1, none⟩ (.int .i64 u2)).drew = wz at hI2' ⊢
      clear y0 y1 f0 f1 d0 d1 d2 d3
      go_wp2
      go_roundw
      case rel => exact ⟨k + 1, by omega, by go_num, hI2'⟩
      case measure => simp [intOf]; omega
     ·obtain rfl : k = p.steps := by omega
      have hI2 : ∃ n D bl, Below W3.heap.size W3 wv ∧ wv.heap[P5]? = some (.cells #[.int .i64 (m : Int), .int .i64 throw, .map (some W3.heap.size)] 97) ∧ Z5 ≤ wv.heap.size ∧ n ≤ j + 1 ∧ Bases wv W3.heap.size n D bl Z5 p.steps (hasC (p.rds.take (j + 1))) (rowS (p.rds.take (j + 1)) lift throw p.steps) :=
       ⟨nv, Dv, blv, hbv, kmv, hZv, hnv, by
        rw [htk'.out]
        refine hBv.congr (fun _ => rfl) fun c _ => ?_
        by_cases e : c = rcut
        ·subst e; rw [if_pos rfl, rowK_all]
        ·rw [if_neg e, rowS_other (by exact fun q => e q.symm)]⟩
      have ⟨hJ', hbv', kmv', k6v', hBv', hI2'⟩ := hyd6 hJ hbv kmv k6v hBv hI2
      clear hI2 hBv k6v kmv hbv hJ
      go_wp2
      go_roundw
      case rel => exact ⟨j + 1, by omega, by go_num, hI2'⟩
      case measure => simp [intOf]; omega
  ·obtain rfl : j = p.rds.length := by omega
   rw [List.take_length] at hB
   obtain ⟨y0, y1, y2⟩ := pc3 kr
   have f0 := pfrz kr 0
   have f1 := pfrz kr 1
   have f2 := pfrz kr 2
   have n1 : ¬ P5 = P1 := by have h := zz0'.out; omega
   have n2 : ¬ P1 = P5 := fun e => n1 e.symm
   have hwP : w.heap.size ≤ P1 := by have h := hb0'.out.size; have := hP1'.out; omega
   have hbw9 := bel_set hbw3'.out hbw
   obtain ⟨W9, hW9, hb9, k9, hB9⟩ : ∃ V, ((wr.setCell ⟨P1, 0, none⟩ (.int .i64 (m : Int))).setCell ⟨P1, 1, none⟩ (.int .i64 throw)).setCell ⟨P1, 2, none⟩ (.map (some W3.heap.size)) = V ∧ Below w.heap.size w V ∧ V.heap[P1]? = some (.cells #[.int .i64 (m : Int), .int .i64 throw, .map (some W3.heap.size)] 97) ∧ Bases V W3.heap.size n D bl Z5 p.steps (hasC p.rds) (rowS p.rds lift throw p.steps) := ⟨_, rfl, pset3b hbw9 hwP _ _ _, pset3 kr _ _ _, hB.other kr (by decide) (fun k hk => pset3o _ _ _ _ _ _ hk)⟩
   obtain ⟨d0, d1, d2⟩ := pc3 k9
   have hn60 : n ≤ 60 := by have := hok'.out.reads; omega
   have ⟨hI', hbw', km', kp', kr', hB', hbw9', hb9'⟩ := hyd8 hI hbw km kp kr hB hbw9 hb9
   have ⟨k9', hB9'⟩ := hyd2 k9 hB9
   clear hB9 k9 hb9 hbw9 hB kr kp km hbw hI
   go_wp2
   exact bodyPost_ret (v := .agg #[.int .i64 (m : Int), .int .i64 throw, .map (some W3.heap.size)]) (by simp [results, Tryz.results49, go_sem, d0, d1, d2]) rfl ⟨_, _, _, _, _, rfl, hb9'.out, hn60, hB9'.out, hbw3'.out.size⟩
end Go.Proofs.YtphdalgaemefoaaGreat
