/- The reference's Fits: the walk. -/
import Derived.Test.YtkblockodaiigaaRdFitsR
namespace Go.Proofs.Ytkblockodaiigaa
set_option maxRecDepth 100000
set_option maxHeartbeats 1000000
open Go.RowKit
set_option linter.unusedVariables false
set_option linter.unusedSimpArgs false
def fndV (f : Fnd) : Value := .agg #[.int .i64 f.head, .int .i64 f.throw, .int .i64 f.adv, .int .i64 f.lo, .int .i64 f.hi]
def Fnd.Fit (f : Fnd) : Prop := fit64 f.head ∧ fit64 f.throw ∧ fit64 f.adv ∧ fit64 f.lo ∧ fit64 f.hi
theorem GridL.nil (w : World) : GridL w (.slice none 0 0) [] := ⟨none, 0, rfl, Nat.le_refl _, Nat.zero_le _, fun _ => rfl, fun h => absurd h (Nat.lt_irrefl 0)⟩
theorem argB_eq (p : Pic) (f : Fnd) (start : Int) : argB p f start = (within f.head 0 ((p.hs.length : Int) - 1) && (within f.throw p.tl p.th && (within f.adv p.al p.ah && (within start f.lo f.hi && within start 0 10000)))) := rfl
theorem fitsV_no {p : Pic} {f : Fnd} {start : Int} (h : fitsE p f start ≠ 0) : fitsV p f start = [] := if_neg h
theorem pf_r9_Fits (v : Value) (p : Pic) (f : Fnd) (start : Int) (w : World) (hp : IsPic w v p) (hf : p.Fit) (hff : f.Fit) (hs : fit64 start) :
  Calls Try.prog 13 #[v, fndV f, .int .i64 start] w fun e w' => ∃ v', e = .returned (.tuple #[v', .int .i64 (fitsE p f start)]) ∧ Below w.heap.size w w' ∧ GridL w' v' (fitsV p f start) := by
 have hp9 := hp
 obtain ⟨vh, vr, rfl, hh, hr⟩ := hp
 obtain ⟨HA, hc, rfl, hhl⟩ := hh.slice
 obtain ⟨RA, rc, rfl, hrl⟩ := hr.slice
 unfold maxLen at hhl hrl
 obtain ⟨fh, ft, fa, fl, fi⟩ := f
 obtain ⟨f1, f2, f3, f4, f5⟩ := hff
 dsimp only at f1 f2 f3 f4 f5
 show Calls Try.prog 13 #[_, .agg #[.int .i64 fh, .int .i64 ft, .int .i64 fa, .int .i64 fl, .int .i64 fi], _] w _
 obtain ⟨W0, hW0, hb0, k0⟩ := newb w (.cells #[.slice HA p.hs.length hc, .int .i64 p.tl, .int .i64 p.th, .int .i64 p.al, .int .i64 p.ah, .slice RA p.rds.length rc] 25)
 obtain ⟨W1, hW1, hb1, k1⟩ := newb W0 (.cells #[.int .i64 fh, .int .i64 ft, .int .i64 fa, .int .i64 fl, .int .i64 fi] 27)
 have k01 := blk hb1 k0
 have hbw1 := bel_set hb0 hb1
 obtain ⟨c0, c1, c2, c3, c4, c5⟩ := pc6 k01
 have z0 : w.heap.size < W0.heap.size := by rw [← hW0]; simp
 have kck := pf_r9_Check _ p W1 (hp9.le hbw1) hf
 obtain ⟨E, hE⟩ : ∃ E, picE p = E := ⟨_, rfl⟩
 rw [hE] at kck
 have hEB : E = if picB p then 0 else 90 := by rw [← hE]; rfl
 have ⟨hp9', hh', hr', hf', hb0', hb1', k0', k1'⟩ := hyd8 hp9 hh hr hf hb0 hb1 k0 k1
 have ⟨k01', hbw1', kck', hE', hEB'⟩ := hyd5 k01 hbw1 kck hE hEB
 clear hEB hE kck hbw1 k01 k1 k0 hb1 hb0 hf hr hh hp9
 go_enter Try.func13, Try.ntmps13
 go_wp2_with (fail)
 clear hW0 hW1
 go_at_call 34
 refine kck'.out.mono ?_
 rintro e W2 ⟨rfl, hb2⟩
 have hbw2 := bel_set hbw1'.out hb2
 have k02 := blk hb2 k01'.out
 have k12 := blk hb2 k1'.out
 clear c0 c1 c2 c3 c4 c5
 obtain ⟨c0, c1, c2, c3, c4, c5⟩ := pc6 k02
 obtain ⟨d0, d1, d2, d3, d4⟩ := pc5 k12
 cases hB : picB p with
 | false =>
  have hE9 : E = 90 := by rw [hEB'.out, hB]; rfl
  have hres : fitsE p ⟨fh, ft, fa, fl, fi⟩ start = 90 := by unfold fitsE; rw [hB]; rfl
  have hv := fitsV_no (show fitsE p ⟨fh, ft, fa, fl, fi⟩ start ≠ 0 by rw [hres]; decide)
  subst hE9
  have ⟨hb2', hbw2', k02', k12', hB', hres', hv'⟩ := hyd7 hb2 hbw2 k02 k12 hB hres hv
  clear hv hres hB k12 k02 hbw2 hb2
  go_wp2
  exact bodyPost_ret (v := .tuple #[.slice none 0 0, .int .i64 90]) (by simp [results, Try.results13, go_sem]) rfl ⟨_, by rw [hres'.out], hbw2'.out, by rw [hv'.out]; exact GridL.nil _⟩
 | true =>
  have hE9 : E = 0 := by rw [hEB'.out, hB]; rfl
  subst hE9
  have hok := picB_iff.1 hB
  have hbad : argB p ⟨fh, ft, fa, fl, fi⟩ start = false → fitsE p ⟨fh, ft, fa, fl, fi⟩ start = 2 := fun h => by unfold fitsE; rw [hB, h]; rfl
  have hbadv : argB p ⟨fh, ft, fa, fl, fi⟩ start = false → fitsV p ⟨fh, ft, fa, fl, fi⟩ start = [] := fun h => fitsV_no (by rw [hbad h]; decide)
  have w1 := fun W => pf_within_barleycornref09 fh 0 ((p.hs.length : Int) - 1) W
  have w2 := fun W => pf_within_barleycornref09 ft p.tl p.th W
  have w3 := fun W => pf_within_barleycornref09 fa p.al p.ah W
  have w4 := fun W => pf_within_barleycornref09 start fl fi W
  have w5 := fun W => pf_within_barleycornref09 start 0 10000 W
  have harg := argB_eq p ⟨fh, ft, fa, fl, fi⟩ start
  dsimp only at harg
  obtain ⟨B1, hB1⟩ : ∃ B, within fh 0 ((p.hs.length : Int) - 1) = B := ⟨_, rfl⟩
  obtain ⟨B2, hB2⟩ : ∃ B, within ft p.tl p.th = B := ⟨_, rfl⟩
  obtain ⟨B3, hB3⟩ : ∃ B, within fa p.al p.ah = B := ⟨_, rfl⟩
  obtain ⟨B4, hB4⟩ : ∃ B, within start fl fi = B := ⟨_, rfl⟩
  obtain ⟨B5, hB5⟩ : ∃ B, within start 0 10000 = B := ⟨_, rfl⟩
  rw [hB1, hB2, hB3, hB4, hB5] at harg
  rw [hB1] at w1
  rw [hB2] at w2
  rw [hB3] at w3
  rw [hB4] at w4
  rw [hB5] at w5
  have hlen1 : (1 : Int) ≤ (p.hs.length : Int) := by have := hok.heads.1; omega
  have ⟨hb2', hbw2', k02', k12', hB', hok', hbad', hbadv'⟩ := hyd8 hb2 hbw2 k02 k12 hB hok hbad hbadv
  have ⟨harg', hB1', hB2', hB3', hB4', hB5', w1', w2'⟩ := hyd8 harg hB1 hB2 hB3 hB4 hB5 w1 w2
  have ⟨w3', w4', w5'⟩ := hyd3 w3 w4 w5
  clear w5 w4 w3 w2 w1 hB5 hB4 hB3 hB2 hB1 harg hbadv hbad hok hB k12 k02 hbw2 hb2
  by_cases hall : (B1 && (B2 && (B3 && (B4 && B5)))) = true
  ·simp only [Bool.and_eq_true] at hall
   obtain ⟨rfl, rfl, rfl, rfl, rfl⟩ := hall
   have harg2 : argB p ⟨fh, ft, fa, fl, fi⟩ start = true := harg'.out
   obtain ⟨r1, r2⟩ : 0 ≤ fh ∧ fh ≤ (p.hs.length : Int) - 1 := within_iff.1 hB1'.out
   obtain ⟨r3, r4⟩ : p.tl ≤ ft ∧ ft ≤ p.th := within_iff.1 hB2'.out
   obtain ⟨r5, r6⟩ : p.al ≤ fa ∧ fa ≤ p.ah := within_iff.1 hB3'.out
   obtain ⟨m, rfl⟩ : ∃ m : Nat, fh = (m : Int) := ⟨fh.toNat, by omega⟩
   have hm : m < p.hs.length := by omega
   obtain ⟨bh, oh, ch, vr0, vb0, heq, hbl, g0, g1, i0, i1⟩ := (hh'.out.le hbw2'.out).at hm
   injection heq with e1 e2 e3
   subst e1 e3
   clear e2
   obtain ⟨Ar, cr, rfl, -⟩ := id i0
   obtain ⟨Ab, cb, rfl, -⟩ := id i1
   have hhd := hok'.out.head _ (List.getElem_mem hm)
   have hro : ∀ r ∈ p.rds, RdOk p.steps r := fun r h => hok'.out.rd r h
   obtain ⟨lift, hlift⟩ : ∃ l, liftL p.hs[m].ros p.hs[m].rub = l := ⟨_, rfl⟩
   have hlp : p.lift m = lift := by unfold Pic.lift; rw [List.getD_eq_getElem?_getD, List.getElem?_eq_getElem hm]; exact hlift
   have hll : lift.length = p.steps := by rw [← hlift, liftL_length]; exact hhd.1
   have hrub : rubOk p.hs[m].rub p.hs[m].ros.length = true := by rw [hhd.1]; exact hhd.2.2
   have hlo : rosOk lift = true := by rw [← hlift]; exact lift_ok hhd.2.1 hrub
   obtain ⟨hl3, hl96, -⟩ := rosOk_iff.1 hlo
   have htl := hok'.out.tl
   have hth := hok'.out.th
   have hal := hok'.out.al
   have hah := hok'.out.ah
   have hlc := lastC_le (rds := p.rds) (fun r h => (hok'.out.rd r h).1)
   have klift : ∀ W, Below W2.heap.size W2 W → Calls Try.prog 38 #[.slice Ar p.hs[m].ros.length cr, .slice Ab p.hs[m].rub.length cb] W fun e w' => ∃ v', e = .returned v' ∧ Below W.heap.size W w' ∧ w'.ownsRow W.heap.size 3 1 v' lift.length (lift.map vint) := fun W h => by
    have := pf_Lifted _ _ _ _ W (i0.below h) (i1.below h) hhd.2.1 hrub
    rwa [hlift] at this
   have j1 : (m : Int) < (p.hs.length : Int) := by omega
   have j2 : (0 : Int) ≤ (m : Int) := by omega
   generalize hRL : p.hs[m].ros.length = RL at g0 klift
   generalize hBL : p.hs[m].rub.length = BL at g1 klift
   have ⟨harg2', i0', i1', hhd', hro', hlift', hlp', hrub'⟩ := hyd8 harg2 i0 i1 hhd hro hlift hlp hrub
   have ⟨hlo', klift', hRL', hBL', hlc', hll'⟩ := hyd6 hlo klift hRL hBL hlc hll
   clear hll hlc hBL hRL klift hlo hrub hlp hlift hro hhd i1 i0 harg2
   go_wp2_with (first | (go_at_call 37; ((with_reducible refine (w1'.out _).mono ?_); rintro e w' ⟨rfl, rfl⟩)) | (go_at_call 37; ((with_reducible refine (w2'.out _).mono ?_); rintro e w' ⟨rfl, rfl⟩)) | (go_at_call 37; ((with_reducible refine (w3'.out _).mono ?_); rintro e w' ⟨rfl, rfl⟩)) | (go_at_call 37; ((with_reducible refine (w4'.out _).mono ?_); rintro e w' ⟨rfl, rfl⟩)) | (go_at_call 37; ((with_reducible refine (w5'.out _).mono ?_); rintro e w' ⟨rfl, rfl⟩)))
   go_still_tail 14, (by kernel_rfl)
   change wpList _ _ _ _ _ W2.drew
   have hbd : Below W2.heap.size W2 W2.drew := below_drewN' (Below.refl _ _) 1
   clear c0 c1 c2 c3 c4 c5 d0 d1 d2 d3 d4 g0 g1
   generalize hW3 : W2.drew = W3 at hbd ⊢
   clear hW3
   go_wp2_with (fail)
   go_at_call 38
   refine (klift'.out W3 hbd).mono ?_
   rintro e W4 ⟨vl, rfl, hb4, hol⟩
   have hb24 := bel_set hbd hb4
   have hbw4 := bel_set hbw2'.out hb24
   have k04 := blk hb24 k02'.out
   have k14 := blk hb24 k12'.out
   have hil := own_ints hol
   obtain ⟨LA, lc, rfl, -⟩ := id hil
   have hp4 := hp9'.out.le hbw4
   have hI0 : Below W4.heap.size W4 W4 ∧ GrI W4 W4.heap.size (.slice none 0 0) (fitsTo p lift ⟨(m : Int), ft, fa, fl, fi⟩ start 0) := ⟨Below.refl _ _, GrI.nil _ _⟩
   have ⟨hbd', hb4', hol', hb24', hbw4', k04', k14', hil'⟩ := hyd8 hbd hb4 hol hb24 hbw4 k04 k14 hil
   have ⟨hp4', hI0'⟩ := hyd2 hp4 hI0
   clear hI0 hp4 hil k14 k04 hbw4 hb24 hol hb4 hbd
   go_wp2_with (fail)
   go_loopw [11, 10] (fun cx vo wr => ∃ c : Nat, c ≤ 12 ∧ cx = .int .i64 (c : Int) ∧ Hid (Below W4.heap.size W4 wr ∧ GrI wr W4.heap.size vo (fitsTo p lift ⟨(m : Int), ft, fa, fl, fi⟩ start c)) ∧ Hid ((c : Int) ≤ lastC p.rds + 1 ∧ ∀ k : Nat, k < c → phasesAt p.rds lift ft fa start (k : Int) ≠ [])) (fun cx _ _ => 13 - (intOf cx).toNat)
   case atStart => exact ⟨0, by omega, rfl, hI0', Lib.hid ⟨by have := hlc'.out.1; simp; omega, fun k h => absurd h (Nat.not_lt_zero k)⟩⟩
   case round =>
    obtain ⟨cu, hcu, rfl, hI, hJ⟩ := hrel
    obtain ⟨hbv, hgr⟩ := hI.out
    obtain ⟨hcl, hne⟩ := hJ.out
    obtain ⟨AO, cO, rfl⟩ : ∃ A c, u10 = .slice A (fitsTo p lift ⟨(m : Int), ft, fa, fl, fi⟩ start cu).length c := by obtain ⟨_, _, h2, _⟩ := hgr; exact slice_formR h2
    obtain ⟨c0, c1, c2, c3, c4, c5⟩ := pc6 (blk hbv k04'.out)
    have klast := pf_r9_Last _ p wr (hp4'.out.le hbv)
    obtain ⟨T, hT⟩ : ∃ T, lastC p.rds = T := ⟨_, rfl⟩
    have hlc2 := hlc'.out
    rw [hT] at klast hcl hlc2
    obtain ⟨t0, t1, -, -⟩ := hlc2
    have hfl := fitsTo_length p lift ⟨(m : Int), ft, fa, fl, fi⟩ start cu
    have ⟨hI', hJ', hbv', hgr', hne', klast', hT', hfl'⟩ := hyd8 hI hJ hbv hgr hne klast hT hfl
    clear hfl hT klast hne hgr hbv hJ hI
    go_wp2_with (fail)
    go_at_call 39
    refine klast'.out.mono ?_
    rintro e W5 ⟨rfl, hb5⟩
    have hbv5 := bel_set hbv'.out hb5
    have hgr5 := hgr'.out.le hb5
    have hbw5 := bel_set hbw4'.out hbv5
    have kp5 := blk hbv5 k04'.out
    have kf5 := blk hbv5 k14'.out
    clear c0 c1 c2 c3 c4 c5
    by_cases hle : (cu : Int) ≤ T
    ·have hI5 : Below W5.heap.size W5 W5 ∧ W5.ownsRow W5.heap.size 3 1 (.slice none 0 0) (phasesTo p.rds lift ft fa start (cu : Int) 0).length ((phasesTo p.rds lift ft fa start (cu : Int) 0).map vint) := ⟨Below.refl _ _, World.ownsRow_nil _ _ _ _⟩
     have ⟨hb5', hbv5', hgr5', hbw5', kp5', kf5', hI5'⟩ := hyd7 hb5 hbv5 hgr5 hbw5 kp5 kf5 hI5
     clear hI5 kf5 kp5 hbw5 hgr5 hbv5 hb5
     go_wp2_with (fail)
     go_loopw [13, 12] (fun px vl wr => ∃ ph : Nat, ph ≤ lift.length ∧ px = .int .i64 (ph : Int) ∧ Hid (Below W5.heap.size W5 wr ∧ wr.ownsRow W5.heap.size 3 1 vl (phasesTo p.rds lift ft fa start (cu : Int) ph).length ((phasesTo p.rds lift ft fa start (cu : Int) ph).map vint))) (fun px _ _ => lift.length - (intOf px).toNat)
     case atStart => exact ⟨0, Nat.zero_le _, rfl, hI5'⟩
     case round =>
      obtain ⟨ph, hph, rfl, hK⟩ := hrel
      obtain ⟨hbk, hown⟩ := hK.out
      obtain ⟨AL, cL, rfl⟩ := slice_formR hown
      have hpl := phasesTo_length p.rds lift ft fa start (cu : Int) ph
      by_cases hlt : ph < lift.length
      ·have kpk := blk hbk kp5'.out
       obtain ⟨c0, c1, c2, c3, c4, c5⟩ := pc6 kpk
       obtain ⟨d0, d1, d2, d3, d4⟩ := pc5 (blk hbk kf5'.out)
       have hb4k := bel_set hbv5'.out hbk
       have hpk := hp4'.out.le hb4k
       have kst := pf_r9_starts _ _ p lift ft fa (cu : Int) ph wr hpk (hil'.out.below hb4k) hlo'.out (fun r h => by rw [hll'.out]; exact hro'.out r h) ⟨by omega, by omega⟩ ⟨by omega, by omega⟩ ⟨by omega, by omega⟩ hlt
       have hsucc := phasesTo_succ p.rds lift ft fa start (cu : Int) ph
       have hin : inB start (startS p.rds lift ft fa (cu : Int) ph) = within start (startS p.rds lift ft fa (cu : Int) ph).1 (startS p.rds lift ft fa (cu : Int) ph).2 := rfl
       obtain ⟨⟨x1, x2⟩, hx⟩ : ∃ x, startS p.rds lift ft fa (cu : Int) ph = x := ⟨_, rfl⟩
       rw [hx] at kst hsucc hin
       dsimp only at kst hin
       have kw := fun W => pf_within_barleycornref09 start x1 x2 W
       obtain ⟨B, hBB⟩ : ∃ B, within start x1 x2 = B := ⟨_, rfl⟩
       rw [hBB] at hin kw
       rw [hin] at hsucc
       have j3 : (ph : Int) < (lift.length : Int) := by omega
       have hbw6 := bel_set hbw4'.out hb4k
       have ⟨hK', hbk', hown', kpk', hb4k', hpk', kst', hsucc'⟩ := hyd8 hK hbk hown kpk hb4k hpk kst hsucc
       have ⟨hin', hx', kw', hBB', hpl', hbw6'⟩ := hyd6 hin hx kw hBB hpl hbw6
       clear hbw6 hpl hBB kw hx hin hsucc kst hpk hb4k kpk hown hbk hK
       go_wp2_with (fail)
       go_at_call 40
       with_reducible refine kst'.out.mono ?_
       rintro e W6 ⟨rfl, hb6⟩
       obtain ⟨W7, hW7, hb7, k7⟩ := newb W6 (.cells #[.int .i64 x1, .int .i64 x2] 90)
       obtain ⟨y0, y1⟩ := pc2 k7
       have hbk7 := bel_set hbk'.out (bel_set hb6 hb7)
       have hown7 := own_below hown'.out (bel_set hb6 hb7)
       have hsz7 := hbk7.size
       clear c0 c1 c2 c3 c4 c5 d0 d1 d2 d3 d4
       have ⟨hb6', hb7', k7', hbk7', hown7'⟩ := hyd5 hb6 hb7 k7 hbk7 hown7
       clear hown7 hbk7 k7 hb7 hb6
       cases B with
       | true =>
        go_wp2_with (first | (go_at_call 37; ((with_reducible refine (kw'.out _).mono ?_); rintro e w' ⟨rfl, rfl⟩)) | (at_builtin; go_must (refine wpList_appI rfl _ _ 36 rfl W5.heap.size 3 elemInt _ (phasesTo p.rds lift ft fa start (cu : Int) ph) rfl (hown7'.out.alloc _) _ [(ph : Int)] rfl (one_newI _ _ _) (by have := hpl'.out; simp; omega) (by simp; omega) ?_)))
        intro v3 w3 h1 h2 h3 _
        have hbk3 : Below W5.heap.size W5 w3 := (hbk7'.out.alloc hsz7 _).trans h2
        have hown3 : w3.ownsRow W5.heap.size 3 1 v3 (phasesTo p.rds lift ft fa start (cu : Int) (ph + 1)).length ((phasesTo p.rds lift ft fa start (cu : Int) (ph + 1)).map vint) := by rw [hsucc'.out]; simpa using h1
        have ⟨h1', h2', h3', hbk3', hown3'⟩ := hyd5 h1 h2 h3 hbk3 hown3
        clear hown3 hbk3 h3 h2 h1
        go_wp2
        go_roundw
        case rel => exact ⟨ph + 1, by omega, by go_num, Lib.hid ⟨hbk3'.out, hown3'.out⟩⟩
        case measure => simp [intOf]; omega
       | false =>
        have hown3 : W7.ownsRow W5.heap.size 3 1 (.slice AL (phasesTo p.rds lift ft fa start (cu : Int) ph).length cL) (phasesTo p.rds lift ft fa start (cu : Int) (ph + 1)).length ((phasesTo p.rds lift ft fa start (cu : Int) (ph + 1)).map vint) := by rw [hsucc'.out]; simpa using hown7'.out
        have hown3' := hyd1 hown3
        clear hown3
        go_wp2_with (first | (go_at_call 37; ((with_reducible refine (kw'.out _).mono ?_); rintro e w' ⟨rfl, rfl⟩)))
        go_roundw
        case rel => exact ⟨ph + 1, by omega, by go_num, Lib.hid ⟨hbk7'.out, hown3'.out⟩⟩
        case measure => simp [intOf]; omega
      ·obtain rfl : ph = lift.length := by omega
       have hpa : phasesTo p.rds lift ft fa start (cu : Int) lift.length = phasesAt p.rds lift ft fa start (cu : Int) := rfl
       have hi := own_ints hown
       have hrun := hgr5'.out.le hbk
       have hb4k := bel_set hbv5'.out hbk
       have hbwk := bel_set hbw4'.out hb4k
       have hTn : cu ≤ (lastC p.rds).toNat := by have := hT'.out; omega
       by_cases hz : (phasesTo p.rds lift ft fa start (cu : Int) lift.length).length = 0
       ·have h6 : fitsE p ⟨(m : Int), ft, fa, fl, fi⟩ start = 6 := fits_bad hB'.out harg2'.out hTn (by
         show phasesAt p.rds (p.lift (m : Int).toNat) ft fa start (cu : Int) = []
         rw [Int.toNat_natCast, hlp'.out, ← hpa]
         exact List.eq_nil_of_length_eq_zero hz)
        have hv6 := fitsV_no (show fitsE p ⟨(m : Int), ft, fa, fl, fi⟩ start ≠ 0 by rw [h6]; decide)
        have ⟨hK', hbk', hown', hpl', hpa', hi', hrun', hb4k'⟩ := hyd8 hK hbk hown hpl hpa hi hrun hb4k
        have ⟨hbwk', h6', hv6'⟩ := hyd3 hbwk h6 hv6
        clear hv6 h6 hbwk hb4k hrun hi hpa hpl hown hbk hK
        go_wp2
        exact bodyPost_ret (v := .tuple #[.slice none 0 0, .int .i64 6]) (by simp [results, Try.results13, go_sem]) rfl ⟨_, by rw [h6'.out], hbwk'.out, by rw [hv6'.out]; exact GridL.nil _⟩
       ·have hz2 : ¬ ((phasesTo p.rds lift ft fa start (cu : Int) lift.length).length : Int) = 0 := by omega
        obtain ⟨W8, hW8, hb8, k8⟩ := newb wr (.cells #[.slice AL (phasesTo p.rds lift ft fa start (cu : Int) lift.length).length cL] 36)
        have x8 := cell_of_row W8 wr.heap.size 0 _ _ _ k8
        have hr8 := hrun.le hb8
        have hi8 := hi.below hb8
        have hb48 := bel_set hb4k hb8
        have hsz8 := hb48.size
        have hfsucc := fitsTo_succ p lift ⟨(m : Int), ft, fa, fl, fi⟩ start cu
        have hne2 : ∀ k : Nat, k < cu + 1 → phasesAt p.rds lift ft fa start (k : Int) ≠ [] := fun k hk => by
         by_cases e : k = cu
         ·subst e; rw [← hpa]; intro h0; rw [h0] at hz; exact hz rfl
         ·exact hne'.out k (by omega)
        have ⟨hK', hbk', hown', hpl', hpa', hi', hrun', hb4k'⟩ := hyd8 hK hbk hown hpl hpa hi hrun hb4k
        have ⟨hbwk', hb8', k8', hr8', hi8', hb48', hfsucc', hne2'⟩ := hyd8 hbwk hb8 k8 hr8 hi8 hb48 hfsucc hne2
        clear hne2 hfsucc hb48 hi8 hr8 k8 hb8 hbwk hb4k hrun hi hpa hpl hown hbk hK
        go_wp2_with (first | (at_builtin; go_must (refine wpList_appR _ rfl _ _ rfl W4.heap.size (.slice AO (fitsTo p lift ⟨(m : Int), ft, fa, fl, fi⟩ start cu).length cO) (fitsTo p lift ⟨(m : Int), ft, fa, fl, fi⟩ start cu) rfl hr8'.out wr.heap.size AL cL (phasesTo p.rds lift ft fa start (cu : Int) lift.length) rfl x8 hi8'.out (by have := hfl'.out; omega) hsz8 ?_)))
        intro v9 w9 hg9 hb9
        have hg9b : GrI w9 W4.heap.size v9 (fitsTo p lift ⟨(m : Int), ft, fa, fl, fi⟩ start (cu + 1)) := by rw [hfsucc'.out]; exact hg9
        have hb49 : Below W4.heap.size W4 w9 := hb48'.out.trans (hb9 _ (Nat.le_refl _))
        have ⟨hg9', hb9', hg9b', hb49'⟩ := hyd4 hg9 hb9 hg9b hb49
        clear hb49 hg9b hb9 hg9
        go_wp2
        go_roundw
        case rel => exact ⟨cu + 1, by omega, by go_num, Lib.hid ⟨hb49'.out, hg9b'.out⟩, Lib.hid ⟨by have := hT'.out; omega, hne2'.out⟩⟩
        case measure => simp [intOf]; omega
    ·have hcu2 : cu = (lastC p.rds).toNat + 1 := by have := hT'.out; omega
     obtain ⟨hE0, hV0⟩ := fits_good (p := p) (f := ⟨(m : Int), ft, fa, fl, fi⟩) (start := start) hB'.out harg2'.out (fun k hk => by
      show phasesAt p.rds (p.lift (m : Int).toNat) ft fa start (k : Int) ≠ []
      rw [Int.toNat_natCast, hlp'.out]
      exact hne'.out k (by omega))
     have hV1 : fitsV p ⟨(m : Int), ft, fa, fl, fi⟩ start = fitsTo p lift ⟨(m : Int), ft, fa, fl, fi⟩ start cu := by
      rw [hV0, hcu2]
      show fitsTo p (p.lift (m : Int).toNat) _ start _ = _
      rw [Int.toNat_natCast, hlp'.out]
     have hgf := hgr5.grid
     have ⟨hb5', hbv5', hgr5', hbw5', kp5', kf5', hcu2', hE0'⟩ := hyd8 hb5 hbv5 hgr5 hbw5 kp5 kf5 hcu2 hE0
     have ⟨hV0', hV1', hgf'⟩ := hyd3 hV0 hV1 hgf
     clear hgf hV1 hV0 hE0 hcu2 kf5 kp5 hbw5 hgr5 hbv5 hb5
     go_wp2
     exact bodyPost_ret (v := .tuple #[.slice AO (fitsTo p lift ⟨(m : Int), ft, fa, fl, fi⟩ start cu).length cO, .int .i64 0]) (by simp [results, Try.results13, go_sem]) rfl ⟨_, by rw [hE0'.out], hbw5'.out, by rw [hV1'.out]; exact hgf'.out⟩
  ·have hno : argB p ⟨fh, ft, fa, fl, fi⟩ start = false := by rw [harg'.out]; simpa using hall
   have h1 := hbad'.out hno
   have h2 := hbadv'.out hno
   have ⟨hno', h1', h2', hall'⟩ := hyd4 hno h1 h2 hall
   clear hall h2 h1 hno
   cases B1
   ·go_wp2_with (first | (go_at_call 37; ((with_reducible refine (w1'.out _).mono ?_); rintro e w' ⟨rfl, rfl⟩)))
    exact bodyPost_ret (v := .tuple #[.slice none 0 0, .int .i64 2]) (by simp [results, Try.results13, go_sem]) rfl ⟨_, by rw [h1'.out], hbw2'.out, by rw [h2'.out]; exact GridL.nil _⟩
   cases B2
   ·go_wp2_with (first | (go_at_call 37; ((with_reducible refine (w1'.out _).mono ?_); rintro e w' ⟨rfl, rfl⟩)) | (go_at_call 37; ((with_reducible refine (w2'.out _).mono ?_); rintro e w' ⟨rfl, rfl⟩)))
    exact bodyPost_ret (v := .tuple #[.slice none 0 0, .int .i64 2]) (by simp [results, Try.results13, go_sem]) rfl ⟨_, by rw [h1'.out], hbw2'.out, by rw [h2'.out]; exact GridL.nil _⟩
   cases B3
   ·go_wp2_with (first | (go_at_call 37; ((with_reducible refine (w1'.out _).mono ?_); rintro e w' ⟨rfl, rfl⟩)) | (go_at_call 37; ((with_reducible refine (w2'.out _).mono ?_); rintro e w' ⟨rfl, rfl⟩)) | (go_at_call 37; ((with_reducible refine (w3'.out _).mono ?_); rintro e w' ⟨rfl, rfl⟩)))
    exact bodyPost_ret (v := .tuple #[.slice none 0 0, .int .i64 2]) (by simp [results, Try.results13, go_sem]) rfl ⟨_, by rw [h1'.out], hbw2'.out, by rw [h2'.out]; exact GridL.nil _⟩
   cases B4
   ·go_wp2_with (first | (go_at_call 37; ((with_reducible refine (w1'.out _).mono ?_); rintro e w' ⟨rfl, rfl⟩)) | (go_at_call 37; ((with_reducible refine (w2'.out _).mono ?_); rintro e w' ⟨rfl, rfl⟩)) | (go_at_call 37; ((with_reducible refine (w3'.out _).mono ?_); rintro e w' ⟨rfl, rfl⟩)) | (go_at_call 37; ((with_reducible refine (w4'.out _).mono ?_); rintro e w' ⟨rfl, rfl⟩)))
    exact bodyPost_ret (v := .tuple #[.slice none 0 0, .int .i64 2]) (by simp [results, Try.results13, go_sem]) rfl ⟨_, by rw [h1'.out], hbw2'.out, by rw [h2'.out]; exact GridL.nil _⟩
   cases B5
   ·go_wp2_with (first | (go_at_call 37; ((with_reducible refine (w1'.out _).mono ?_); rintro e w' ⟨rfl, rfl⟩)) | (go_at_call 37; ((with_reducible refine (w2'.out _).mono ?_); rintro e w' ⟨rfl, rfl⟩)) | (go_at_call 37; ((with_reducible refine (w3'.out _).mono ?_); rintro e w' ⟨rfl, rfl⟩)) | (go_at_call 37; ((with_reducible refine (w4'.out _).mono ?_); rintro e w' ⟨rfl, rfl⟩)) | (go_at_call 37; ((with_reducible refine (w5'.out _).mono ?_); rintro e w' ⟨rfl, rfl⟩)))
    exact bodyPost_ret (v := .tuple #[.slice none 0 0, .int .i64 2]) (by simp [results, Try.results13, go_sem]) rfl ⟨_, by rw [h1'.out], hbw2'.out, by rw [h2'.out]; exact GridL.nil _⟩
   exact absurd rfl hall'.out
end Go.Proofs.Ytkblockodaiigaa
