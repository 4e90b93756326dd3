/- read.Fits: the walk. -/
import Derived.Test.YtkblockodaiigaaRdFitQ
import Derived.Test.YtkblockodaiigaaRdMount
import Derived.Lib.MinMax
namespace Go.Proofs.Ytkblockodaiigaa
set_option maxRecDepth 100000
set_option maxHeartbeats 1000000
open Go.RowKit
set_option linter.unusedVariables false
set_option linter.unusedSimpArgs false
theorem within_both (s a b : Int) : within s (max a 0) (min b 10000) = (within s a b && within s 0 10000) := by
 rw [Bool.eq_iff_iff, Bool.and_eq_true, within_iff, within_iff, within_iff]
 omega
theorem pf_rd_Fits (v : Value) (p : Pic) (f : Fnd) (start : Int) (w : World) (hp : IsPic w v p) (hf : p.Fit) (hff : f.Fit) (hs : fit64 start) :
  Calls Try.prog 12 #[v, fndV f, .int .i64 start] w fun e w' => ∃ v', e = .returned (.tuple #[v', .int .i64 (fitsE p f start)]) ∧ Below w.heap.size w w' ∧ GridL w' v' (fitsV p f start) := by
 have hp9 := hp
 obtain ⟨vh, vr, rfl, hh, hr⟩ := hp
 obtain ⟨HA, hc, rfl, hhl⟩ := hh.slice
 obtain ⟨RA, rc, rfl, hrl⟩ := hr.slice
 unfold maxLen at hhl hrl
 obtain ⟨fh, ft, fa, fl, fi⟩ := f
 obtain ⟨f1, f2, f3, f4, f5⟩ := hff
 dsimp only at f1 f2 f3 f4 f5
 show Calls Try.prog 12 #[_, .agg #[.int .i64 fh, .int .i64 ft, .int .i64 fa, .int .i64 fl, .int .i64 fi], _] w _
 obtain ⟨W0, hW0, hb0, k0⟩ := newb w (.cells #[.slice HA p.hs.length hc, .int .i64 p.tl, .int .i64 p.th, .int .i64 p.al, .int .i64 p.ah, .slice RA p.rds.length rc] 25)
 obtain ⟨W1, hW1, hb1, k1⟩ := newb W0 (.cells #[.int .i64 fh, .int .i64 ft, .int .i64 fa, .int .i64 fl, .int .i64 fi] 27)
 have k01 := blk hb1 k0
 have hbw1 := bel_set hb0 hb1
 obtain ⟨c0, c1, c2, c3, c4, c5⟩ := pc6 k01
 have z0 : w.heap.size < W0.heap.size := by rw [← hW0]; simp
 have kck := pf_rd_Check _ p W1 (hp9.le hbw1) hf
 obtain ⟨E, hE⟩ : ∃ E, picE p = E := ⟨_, rfl⟩
 rw [hE] at kck
 have hEB : E = if picB p then 0 else 90 := by rw [← hE]; rfl
 have ⟨hp9', hh', hr', hf', hb0', hb1', k0', k1'⟩ := hyd8 hp9 hh hr hf hb0 hb1 k0 k1
 have ⟨k01', hbw1', kck', hE', hEB'⟩ := hyd5 k01 hbw1 kck hE hEB
 clear hEB hE kck hbw1 k01 k1 k0 hb1 hb0 hf hr hh hp9
 go_enter Try.func12, Try.ntmps12
 go_wp2_with (fail)
 clear hW0 hW1
 go_at_call 24
 refine kck'.out.mono ?_
 rintro e W2 ⟨rfl, hb2⟩
 have hbw2 := bel_set hbw1'.out hb2
 have k02 := blk hb2 k01'.out
 have k12 := blk hb2 k1'.out
 clear c0 c1 c2 c3 c4 c5
 obtain ⟨c0, c1, c2, c3, c4, c5⟩ := pc6 k02
 obtain ⟨d0, d1, d2, d3, d4⟩ := pc5 k12
 cases hB : picB p with
 | false =>
  have hE9 : E = 90 := by rw [hEB'.out, hB]; rfl
  have hres : fitsE p ⟨fh, ft, fa, fl, fi⟩ start = 90 := by unfold fitsE; rw [hB]; rfl
  have hv := fitsV_no (show fitsE p ⟨fh, ft, fa, fl, fi⟩ start ≠ 0 by rw [hres]; decide)
  subst hE9
  have ⟨hb2', hbw2', k02', k12', hB', hres', hv'⟩ := hyd7 hb2 hbw2 k02 k12 hB hres hv
  clear hv hres hB k12 k02 hbw2 hb2
  go_wp2
  exact bodyPost_ret (v := .tuple #[.slice none 0 0, .int .i64 90]) (by simp [results, Try.results12, go_sem]) rfl ⟨_, by rw [hres'.out], hbw2'.out, by rw [hv'.out]; exact GridL.nil _⟩
 | true =>
  have hE9 : E = 0 := by rw [hEB'.out, hB]; rfl
  subst hE9
  have hok := picB_iff.1 hB
  have hbad : argB p ⟨fh, ft, fa, fl, fi⟩ start = false → fitsE p ⟨fh, ft, fa, fl, fi⟩ start = 2 := fun h => by unfold fitsE; rw [hB, h]; rfl
  have hbadv : argB p ⟨fh, ft, fa, fl, fi⟩ start = false → fitsV p ⟨fh, ft, fa, fl, fi⟩ start = [] := fun h => fitsV_no (by rw [hbad h]; decide)
  have w1 := fun W => pf_within_read fh 0 ((p.hs.length : Int) - 1) W
  have w2 := fun W => pf_within_read ft p.tl p.th W
  have w3 := fun W => pf_within_read fa p.al p.ah W
  have w4 := fun W => pf_within_read start (max fl 0) (min fi 10000) W
  have harg := argB_eq p ⟨fh, ft, fa, fl, fi⟩ start
  dsimp only at harg
  rw [← within_both] at harg
  obtain ⟨B1, hB1⟩ : ∃ B, within fh 0 ((p.hs.length : Int) - 1) = B := ⟨_, rfl⟩
  obtain ⟨B2, hB2⟩ : ∃ B, within ft p.tl p.th = B := ⟨_, rfl⟩
  obtain ⟨B3, hB3⟩ : ∃ B, within fa p.al p.ah = B := ⟨_, rfl⟩
  obtain ⟨B4, hB4⟩ : ∃ B, within start (max fl 0) (min fi 10000) = B := ⟨_, rfl⟩
  rw [hB4] at w4
  rw [hB1] at w1
  rw [hB2] at w2
  rw [hB3] at w3
  rw [hB1, hB2, hB3, hB4] at harg
  have hlen1 : (1 : Int) ≤ (p.hs.length : Int) := by have := hok.heads.1; omega
  have ⟨hb2', hbw2', k02', k12', hB', hok', hbad', hbadv'⟩ := hyd8 hb2 hbw2 k02 k12 hB hok hbad hbadv
  have ⟨harg', hB1', hB2', hB3', hB4', w1', w2', w3'⟩ := hyd8 harg hB1 hB2 hB3 hB4 w1 w2 w3
  have w4' := hyd1 w4
  clear w4 w3 w2 w1 hB4 hB3 hB2 hB1 harg hbadv hbad hok hB k12 k02 hbw2 hb2
  by_cases hall : (B1 && (B2 && (B3 && B4))) = true
  ·simp only [Bool.and_eq_true] at hall
   obtain ⟨rfl, rfl, rfl, rfl⟩ := hall
   have harg2 : argB p ⟨fh, ft, fa, fl, fi⟩ start = true := harg'.out
   obtain ⟨r1, r2⟩ : 0 ≤ fh ∧ fh ≤ (p.hs.length : Int) - 1 := within_iff.1 hB1'.out
   obtain ⟨r3, r4⟩ : p.tl ≤ ft ∧ ft ≤ p.th := within_iff.1 hB2'.out
   obtain ⟨r5, r6⟩ : p.al ≤ fa ∧ fa ≤ p.ah := within_iff.1 hB3'.out
   obtain ⟨r7, r8⟩ : 0 ≤ start ∧ start ≤ 10000 := by have h := within_iff.1 hB4'.out; omega
   obtain ⟨m, rfl⟩ : ∃ m : Nat, fh = (m : Int) := ⟨fh.toNat, by omega⟩
   have hm : m < p.hs.length := by omega
   have htl := hok'.out.tl
   have hth := hok'.out.th
   have hal := hok'.out.al
   have hah := hok'.out.ah
   have hst := hok'.out.steps
   have hhd := hok'.out.head _ (List.getElem_mem hm)
   have hro : ∀ r ∈ p.rds, RdOk p.steps r := fun r h => hok'.out.rd r h
   obtain ⟨lift, hlift⟩ : ∃ l, liftL p.hs[m].ros p.hs[m].rub = l := ⟨_, rfl⟩
   have hlp : p.lift m = lift := by unfold Pic.lift; rw [List.getD_eq_getElem?_getD, List.getElem?_eq_getElem hm]; exact hlift
   have hll : lift.length = p.steps := by rw [← hlift, liftL_length]; exact hhd.1
   have hrub : rubOk p.hs[m].rub p.hs[m].ros.length = true := by rw [hhd.1]; exact hhd.2.2
   have hlo : rosOk lift = true := by rw [← hlift]; exact lift_ok hhd.2.1 hrub
   have kmt := pf_rd_mounted _ p m ft W2 (hp9'.out.le hbw2'.out) hok'.out.toM hm ⟨by omega, by omega⟩
   rw [hlp] at kmt
   have hmZ : ((m : Int)).toNat = m := Int.toNat_natCast m
   have ⟨harg2', hhd', hro', hlift', hlp', hll', hrub', hlo'⟩ := hyd8 harg2 hhd hro hlift hlp hll hrub hlo
   have ⟨kmt', hmZ'⟩ := hyd2 kmt hmZ
   clear hmZ kmt hlo hrub hll hlp hlift hro hhd harg2
   go_wp2_with (first | (go_at_call 35; ((with_reducible refine (w1'.out _).mono ?_); rintro e w' ⟨rfl, rfl⟩)) | (go_at_call 35; ((with_reducible refine (w2'.out _).mono ?_); rintro e w' ⟨rfl, rfl⟩)) | (go_at_call 35; ((with_reducible refine (w3'.out _).mono ?_); rintro e w' ⟨rfl, rfl⟩)) | (go_at_call 35; ((with_reducible refine (w4'.out _).mono ?_); rintro e w' ⟨rfl, rfl⟩)))
   go_at_call 36
   refine kmt'.out.mono ?_
   rintro e W3 ⟨B, n, D, bl, Z, rfl, hb3, hn60, hBs, -⟩
   obtain ⟨W4, hW4, hb4, k4⟩ := newb W3 (.cells #[.int .i64 (m : Int), .int .i64 ft, .map (some B)] 82)
   have hB4s := hBs.le hb4
   have hb24 := bel_set hb3 hb4
   have hbw4 := bel_set hbw2'.out hb24
   have k04 := blk hb24 k02'.out
   have k14 := blk hb24 k12'.out
   clear c0 c1 c2 c3 c4 c5 d0 d1 d2 d3 d4
   obtain ⟨b0, b1, b2⟩ := pc3 k4
   have hb44 : Below W4.heap.size W4 W4 := Below.refl _ _
   have ⟨hb3', hBs', hb4', k4', hB4s', hb24', hbw4', k04'⟩ := hyd8 hb3 hBs hb4 k4 hB4s hb24 hbw4 k04
   have ⟨k14', hb44'⟩ := hyd2 k14 hb44
   clear hb44 k14 k04 hbw4 hb24 hB4s k4 hb4 hBs hb3
   go_wp2_with (first | (at_range; refine wpList_range_own _ rfl _ 80 rfl 3 84 keyed9 Try.underlying80 hdR B n D rfl hB4s'.out.own ?_; intro w5 hrg0 hg0 hs0) | fail)
   go_frame
   have hb45 : Below W4.heap.size W4 w5 := Below.grown (Below.refl _ _) hg0 (Nat.le_refl _) (fun k e => by cases e)
   have hI0 : ∃ left cnt, w5.ranges Try.prog 3 hdR B W4.heap.size n D left cnt ∧ Below W4.heap.size W4 w5 ∧ (∀ c, (Lit.int .i64 c).wf = true → hasC p.rds c = true → left (.int .i64 c) = false → c ≤ 0) ∧ ((0 : Int) = 0 ∨ hasC p.rds 0 = true) := ⟨_, _, hrg0, hb45, fun c hw hcc hl => (by rw [hB4s'.out.has c hw, hcc] at hl; cases hl), .inl rfl⟩
   clear hrg0 hb45 b0 b1 b2
   have ⟨hI0', hg0'⟩ := hyd2 hI0 hg0
   clear hg0 hI0
   go_loopw [10] (fun mx wr => ∃ mv : Int, 0 ≤ mv ∧ mv ≤ 11 ∧ mx = .int .i64 mv ∧ Hid (∃ left cnt, wr.ranges Try.prog 3 hdR B W4.heap.size n D left cnt ∧ Below W4.heap.size W4 wr ∧ (∀ c, (Lit.int .i64 c).wf = true → hasC p.rds c = true → left (.int .i64 c) = false → c ≤ mv) ∧ (mv = 0 ∨ hasC p.rds mv = true))) (fun _ wr => wr.rangeLeft B W4.heap.size)
   case atStart => exact ⟨0, by omega, by omega, rfl, hI0'⟩
   case round =>
    obtain ⟨mv, hm0, hm11, rfl, hI⟩ := hrel
    obtain ⟨left, cnt, hrg, hbw, hle, hmv⟩ := hI.out
    go_wp2_with (first | (at_next; refine wpList_nextHd rfl _ rfl rfl hrg ?_ ?_) | fail)
    ·intro hc0 hl0
     have hml := lastC_of (fun r h => (hok'.out.rd r h).1) hm0 (fun c hcc => hle c (hB4s'.out.wf c hcc) hcc (hl0 _)) hmv
     obtain ⟨mN, rfl⟩ : ∃ k : Nat, mv = (k : Int) := ⟨mv.toNat, by omega⟩
     have k0w := blk hbw k04'.out
     have k1w := blk hbw k14'.out
     have kmw := blk hbw k4'.out
     have hBw := hB4s'.out.le hbw
     have hbww := bel_set hbw4'.out hbw
     have hpw := hp9'.out.le hbww
     clear hle hmv hl0
     rename World => wr0
     have ⟨hI', hrg', hbw', hml', k0w', k1w', kmw', hBw'⟩ := hyd8 hI hrg hbw hml k0w k1w kmw hBw
     have ⟨hbww', hpw'⟩ := hyd2 hbww hpw
     clear hpw hbww hBw kmw k1w k0w hml hbw hrg hI
     go_wp2_with (first | (at_make; go_must (refine wpList_makeX _ rfl _ _ 30 rfl 36 _ 1 24 Try.underlying30 rowInfo (by decide) (mN + 1) rfl rfl (by omega) ?_)) | fail)
     intro w7 hk7 hb7
     have hrs : RowsTo w7 wr0.heap.size (mN + 1) 0 (fun i : Nat => phasesAt p.rds lift ft fa start (i : Int)) _ := RowsTo.start (by rw [hk7.out, madeNil])
     have hI7 : ∃ vs, Below wr0.heap.size wr0 w7 ∧ RowsTo w7 wr0.heap.size (mN + 1) 0 (fun i : Nat => phasesAt p.rds lift ft fa start (i : Int)) vs := ⟨_, hb7, hrs⟩
     have ⟨hk7', hb7', hrs', hI7'⟩ := hyd4 hk7 hb7 hrs hI7
     clear hI7 hrs hb7 hk7
     go_wp2_with (fail)
     go_loopw [82] (fun cx wv => ∃ c : Nat, c ≤ mN + 1 ∧ cx = .int .i64 (c : Int) ∧ Hid (∃ vs, Below wr0.heap.size wr0 wv ∧ RowsTo wv wr0.heap.size (mN + 1) c (fun i : Nat => phasesAt p.rds lift ft fa start (i : Int)) vs) ∧ Hid (∀ k : Nat, k < c → phasesAt p.rds lift ft fa start (k : Int) ≠ [])) (fun cx _ => mN + 1 - (intOf cx).toNat)
     case atStart => exact ⟨0, Nat.zero_le _, rfl, hI7', Lib.hid fun k h => absurd h (Nat.not_lt_zero k)⟩
     case round =>
      rename World => wv
      obtain ⟨c, hcN, rfl, hJ, hne⟩ := hrel
      obtain ⟨vs, hbrv, hrows⟩ := hJ.out
      by_cases hcl : c < mN + 1
      ·have k0v := blk hbrv k0w'.out
       have k1v := blk hbrv k1w'.out
       have kmv := blk hbrv kmw'.out
       have hBv := hBw'.out.le hbrv
       have hpv := hpw'.out.le hbrv
       have hcv2 : c < vs.length := by rw [hrows.len]; exact hcl
       have hgv : wr0.heap.size < wv.heap.size := gsl hrows.blk
       have hne1 : W0.heap.size ≠ wr0.heap.size := Nat.ne_of_lt (gsl k1w'.out)
       have hne2 : W3.heap.size ≠ wr0.heap.size := Nat.ne_of_lt (gsl kmw'.out)
       obtain ⟨c0, c1, c2, c3, c4, c5⟩ := pc6 k0v
       obtain ⟨b0, b1, b2⟩ := pc3 kmv
       obtain ⟨vh9, vr9, hve, hhv, hrv⟩ := hpv
       injection hve with hve
       injection hve with hve
       injection hve with e1 hve
       subst e1
       clear hve
       obtain ⟨bh, oh, ch, vr0, vb0, heq, hbl, g0, g1, i0, i1⟩ := hhv.at (j := 0) (by omega)
       injection heq with e1 e2 e3
       subst e1 e3
       clear e2 g1 i1
       rw [Nat.zero_mul, Nat.add_zero] at g0
       obtain ⟨A0, cc0, rfl, -⟩ := id i0
       rw [← steps_eq (p := p) (by omega)] at g0
       have hpos : (0 : Int) < (p.hs.length : Int) := by omega
       have hc11 : (c : Int) ≤ 11 := by omega
       have j1 : (c : Int) < (mN : Int) + 1 := by omega
       have j2 : (0 : Int) ≤ (c : Int) := by omega
       have hwf : (Lit.int .i64 (c : Int)).wf = true := WalkArith.wf_i64 (by omega)
       have m1 := mul_in j2 hc11 (b := fa) (B := 1000) (by omega) (by omega) (by decide)
       have hI9 : ∃ vl, RowOn wv wv wr0.heap.size c vs vl (phasesTo p.rds lift ft fa start (c : Int) 0) := ⟨_, hrows.on hcl⟩
       obtain ⟨RH, hRH⟩ : ∃ b, hasC p.rds (c : Int) = b := ⟨_, rfl⟩
       cases RH with
       | true =>
        have hat := hBv.get (c : Int) hRH
        have hhs := hBv.has (c : Int) hwf
        rw [hRH] at hhs
        have ⟨hJ', hbrv', hrows', hne', k0v', k1v', kmv', hBv'⟩ := hyd8 hJ hbrv hrows hne k0v k1v kmv hBv
        have ⟨hrv', hhv', i0', hI9', hRH', hat', hhs'⟩ := hyd7 hrv hhv i0 hI9 hRH hat hhs
        clear hhs hat hRH hI9 i0 hhv hrv hBv kmv k1v k0v hne hrows hbrv hJ
        go_wp2_with (first | (at_lookup; refine wpList_okHas rfl (.tmp 87) (.tmp 88) rfl rfl hBv'.out.own (c : Int) rfl hwf _ _ _ hat'.out hhs'.out ?_) | fail)
        clear c0 c1 c2 c3 c4 c5 b0 b1 b2 g0
        go_loopw [98] (fun px wq => ∃ ph : Nat, ph ≤ p.steps ∧ px = .int .i64 (ph : Int) ∧ Hid (∃ vl, RowOn wv wq wr0.heap.size c vs vl (phasesTo p.rds lift ft fa start (c : Int) ph))) (fun px _ => p.steps - (intOf px).toNat)
        case atStart => exact ⟨0, Nat.zero_le _, rfl, hI9'⟩
        case round =>
         obtain ⟨ph, hph, rfl, hK⟩ := hrel
         obtain ⟨vl, hon⟩ := hK.out
         by_cases hlt : ph < p.steps
         ·have hpl := phasesTo_length p.rds lift ft fa start (c : Int) ph
          have hsucc := phasesTo_succ p.rds lift ft fa start (c : Int) ph
          have hfe := fitP_eq (rds := p.rds) (lift := lift) (throw := ft) (adv := fa) (start := start) (c := (c : Int)) (ph := ph) ⟨r7, r8⟩ ⟨by omega, by omega⟩ ⟨by omega, by omega⟩
          rw [← hfe] at hsucc
          unfold fitP at hsucc
          rw [if_pos hRH'.out] at hsucc
          have kfq := (hon.kept W0.heap.size (gsl k1v'.out) hne1).trans k1v'.out
          obtain ⟨d0, d1, d2, d3, d4⟩ := pc5 kfq
          have kbv := (hBv'.out.blk (c : Int) hRH'.out).2
          have hneb := span_ne kbv hrows'.out.blk (by decide)
          have kbq := (hon.kept _ (gsl kbv) hneb).trans kbv
          obtain ⟨y0, y1⟩ := row_cell kbq (j := ph) (by rw [rowS_length]; exact hlt)
          have hrg9 : (rowS p.rds lift ft p.steps (c : Int))[ph]'(by rw [rowS_length]; exact hlt) = baseS p.rds lift ft (c : Int) ph := by simp [rowS]
          rw [hrg9] at y0 y1
          obtain ⟨O, hO⟩ : ∃ O, baseS p.rds lift ft (c : Int) ph = O := ⟨_, rfl⟩
          rw [hO] at y0 y1 hsucc
          obtain ⟨o1, o2⟩ := O
          dsimp only at y0 y1 hsucc
          have kw := fun W => pf_within_read (start + (c : Int) * fa) o1 o2 W
          obtain ⟨Bw, hBw⟩ : ∃ b, within (start + (c : Int) * fa) o1 o2 = b := ⟨_, rfl⟩
          rw [hBw] at kw hsucc
          have j3 : (ph : Int) < (p.steps : Int) := by omega
          have j4 : (0 : Int) ≤ (ph : Int) := by omega
          have ⟨hon', hK', hpl', hsucc', hfe', kfq', kbv', hneb'⟩ := hyd8 hon hK hpl hsucc hfe kfq kbv hneb
          have ⟨kbq', hrg9', hO', kw', hBw'⟩ := hyd5 kbq hrg9 hO kw hBw
          clear hBw kw hO hrg9 kbq hneb kbv kfq hfe hsucc hpl hK hon
          go_wp2_with (fail)
          go_quiet ((go_at_call 35; exact quiet_same' (kw'.out _)))
          have hoq : RowOn wv (wr.drewN nq) wr0.heap.size c vs vl (phasesTo p.rds lift ft fa start (c : Int) ph) := ⟨hon'.out.blk, hon'.out.own, hon'.out.size, hon'.out.kept, below_drewN' hon'.out.below nq⟩
          clear d0 d1 d2 d3 d4 y0 y1
          generalize wr.drewN nq = wq2 at hoq ⊢
          have cgq := hoq.cell hcv2
          obtain ⟨Al, cl, rfl⟩ := slice_formR hoq.own
          have fgq := pfrz hoq.blk c
          cases Bw with
          | true =>
           have hoq' := hyd1 hoq
           clear hoq
           go_wp2_with (first | (at_builtin; go_must (refine wpList_appI rfl _ _ 36 rfl wv.heap.size 3 elemInt _ (phasesTo p.rds lift ft fa start (c : Int) ph) rfl (hoq'.out.own.alloc _) _ [(ph : Int)] rfl (one_newI _ _ _) (by have := hpl'.out; simp; omega) (Nat.le_trans hoq'.out.size (by simp)) ?_)))
           intro v3 w3 h1 h2 h3 _
           have hb3q : Below wv.heap.size wq2 w3 := ((Below.refl _ _).alloc hoq'.out.size _).trans h2
           have hox := hoq'.out.push (x := (ph : Int)) (v2 := v3) hgv (by simpa using h1) hb3q
           have hsx : IsSl v3 := by obtain ⟨A9, c9, e9⟩ := slice_formR h1; exact ⟨_, _, _, e9⟩
           have hI3 : ∃ vl, RowOn wv (w3.setCell ⟨wr0.heap.size, c, none⟩ v3) wr0.heap.size c vs vl (phasesTo p.rds lift ft fa start (c : Int) (ph + 1)) := ⟨v3, by rw [hsucc'.out]; exact hox⟩
           have kg3 := (hb3q.block wr0.heap.size hgv).trans hoq'.out.blk
           have fg3 := pfrz kg3 c
           have cg3 : w3.cell? ⟨wr0.heap.size, c, none⟩ = some (.slice Al (phasesTo p.rds lift ft fa start (c : Int) ph).length cl) := by simp only [World.cell?, kg3]; simp [hcv2]
           obtain ⟨A9, c9, rfl⟩ := slice_formR h1
           have ⟨h1', h2', h3', hb3q', hox', hsx', hI3', kg3'⟩ := hyd8 h1 h2 h3 hb3q hox hsx hI3 kg3
           clear kg3 hI3 hsx hox hb3q h3 h2 h1
           go_wp2
           go_roundw
           case rel => exact ⟨ph + 1, by omega, by go_num, hI3'⟩
           case measure => simp [intOf]; omega
          | false =>
           have hI3 : ∃ vl, RowOn wv wq2 wr0.heap.size c vs vl (phasesTo p.rds lift ft fa start (c : Int) (ph + 1)) := ⟨_, by rw [hsucc'.out]; simpa using hoq⟩
           have ⟨hoq', hI3'⟩ := hyd2 hoq hI3
           clear hI3 hoq
           go_wp2
           go_roundw
           case rel => exact ⟨ph + 1, by omega, by go_num, hI3'⟩
           case measure => simp [intOf]; omega
         ·obtain rfl : ph = p.steps := by omega
          have hpa : phasesTo p.rds lift ft fa start (c : Int) p.steps = phasesAt p.rds lift ft fa start (c : Int) := by unfold phasesTo phasesAt; rw [hll'.out]
          have cgq := hon.cell hcv2
          obtain ⟨Al, cl, rfl⟩ := slice_formR hon.own
          have hbE := bel_set hbww'.out (hbrv'.out.trans hon.below)
          have hTn : c ≤ (lastC p.rds).toNat := by have h := hml'.out; omega
          by_cases hz : (phasesTo p.rds lift ft fa start (c : Int) p.steps).length = 0
          ·have h6 : fitsE p ⟨(m : Int), ft, fa, fl, fi⟩ start = 6 := fits_bad hB'.out harg2'.out hTn (by
            show phasesAt p.rds (p.lift (m : Int).toNat) ft fa start (c : Int) = []
            rw [Int.toNat_natCast, hlp'.out, ← hpa]
            exact List.eq_nil_of_length_eq_zero hz)
           have hv6 := fitsV_no (show fitsE p ⟨(m : Int), ft, fa, fl, fi⟩ start ≠ 0 by rw [h6]; decide)
           have ⟨hon', hK', hpa', hbE', h6', hv6'⟩ := hyd6 hon hK hpa hbE h6 hv6
           clear hv6 h6 hbE hpa hK hon
           go_wp2
           exact bodyPost_ret (v := .tuple #[.slice none 0 0, .int .i64 6]) (by simp [results, Try.results12, go_sem]) rfl ⟨_, by rw [h6'.out], hbE'.out, by rw [hv6'.out]; exact GridL.nil _⟩
          ·have hz2 : ¬ ((phasesTo p.rds lift ft fa start (c : Int) p.steps).length : Int) = 0 := by omega
           have hnx := hrows'.out.next (by omega) hon hpa.symm ⟨_, _, _, rfl⟩
           have hb0v := hbrv'.out.trans hon.below
           have hI4 : ∃ vs, Below wr0.heap.size wr0 wr ∧ RowsTo wr wr0.heap.size (mN + 1) (c + 1) (fun i : Nat => phasesAt p.rds lift ft fa start (i : Int)) vs := ⟨_, hb0v, hnx⟩
           have hne4 : ∀ k : Nat, k < c + 1 → phasesAt p.rds lift ft fa start (k : Int) ≠ [] := fun k hk => by
            by_cases e : k = c
            ·subst e; rw [← hpa]; intro h0; rw [h0] at hz; exact hz rfl
            ·exact hne'.out k (by omega)
           have ⟨hon', hK', hpa', hbE', hnx', hb0v', hI4', hne4'⟩ := hyd8 hon hK hpa hbE hnx hb0v hI4 hne4
           clear hne4 hI4 hb0v hnx hbE hpa hK hon
           go_wp2
           go_roundw
           case rel => exact ⟨c + 1, by omega, by go_num, hI4', hne4'⟩
           case measure => simp [intOf]; omega
       | false =>
        have hhs := hBv.has (c : Int) hwf
        rw [hRH] at hhs
        have ⟨hJ', hbrv', hrows', hne', k0v', k1v', kmv', hBv'⟩ := hyd8 hJ hbrv hrows hne k0v k1v kmv hBv
        have ⟨hrv', hhv', i0', hI9', hRH', hhs'⟩ := hyd6 hrv hhv i0 hI9 hRH hhs
        clear hhs hRH hI9 i0 hhv hrv hBv kmv k1v k0v hne hrows hbrv hJ
        go_wp2_with (first | (at_lookup; refine wpList_okNot rfl (.tmp 87) (.tmp 88) rfl rfl hBv'.out.own (c : Int) rfl hwf hhs'.out ?_) | fail)
        clear c0 c1 c2 c3 c4 c5 b0 b1 b2 g0
        go_loopw [98] (fun px wq => ∃ ph : Nat, ph ≤ p.steps ∧ px = .int .i64 (ph : Int) ∧ Hid (∃ vl, RowOn wv wq wr0.heap.size c vs vl (phasesTo p.rds lift ft fa start (c : Int) ph))) (fun px _ => p.steps - (intOf px).toNat)
        case atStart => exact ⟨0, Nat.zero_le _, rfl, hI9'⟩
        case round =>
         obtain ⟨ph, hph, rfl, hK⟩ := hrel
         obtain ⟨vl, hon⟩ := hK.out
         by_cases hlt : ph < p.steps
         ·have hpl := phasesTo_length p.rds lift ft fa start (c : Int) ph
          have hsucc := phasesTo_succ p.rds lift ft fa start (c : Int) ph
          have hfe := fitP_eq (rds := p.rds) (lift := lift) (throw := ft) (adv := fa) (start := start) (c := (c : Int)) (ph := ph) ⟨r7, r8⟩ ⟨by omega, by omega⟩ ⟨by omega, by omega⟩
          rw [← hfe] at hsucc
          unfold fitP at hsucc
          rw [hRH'.out] at hsucc
          simp only [Bool.false_eq_true, if_false, if_true] at hsucc
          have kfq := (hon.kept W0.heap.size (gsl k1v'.out) hne1).trans k1v'.out
          obtain ⟨d0, d1, d2, d3, d4⟩ := pc5 kfq
          have j3 : (ph : Int) < (p.steps : Int) := by omega
          have j4 : (0 : Int) ≤ (ph : Int) := by omega
          have ⟨hon', hK', hpl', hsucc', hfe', kfq'⟩ := hyd6 hon hK hpl hsucc hfe kfq
          clear kfq hfe hsucc hpl hK hon
          go_wp2_with (fail)
          go_quiet (fail)
          have hoq : RowOn wv (wr.drewN nq) wr0.heap.size c vs vl (phasesTo p.rds lift ft fa start (c : Int) ph) := ⟨hon'.out.blk, hon'.out.own, hon'.out.size, hon'.out.kept, below_drewN' hon'.out.below nq⟩
          clear d0 d1 d2 d3 d4
          generalize wr.drewN nq = wq2 at hoq ⊢
          have cgq := hoq.cell hcv2
          obtain ⟨Al, cl, rfl⟩ := slice_formR hoq.own
          have fgq := pfrz hoq.blk c
          have hoq' := hyd1 hoq
          clear hoq
          go_wp2_with (first | (at_builtin; go_must (refine wpList_appI rfl _ _ 36 rfl wv.heap.size 3 elemInt _ (phasesTo p.rds lift ft fa start (c : Int) ph) rfl (hoq'.out.own.alloc _) _ [(ph : Int)] rfl (one_newI _ _ _) (by have := hpl'.out; simp; omega) (Nat.le_trans hoq'.out.size (by simp)) ?_)))
          intro v3 w3 h1 h2 h3 _
          have hb3q : Below wv.heap.size wq2 w3 := ((Below.refl _ _).alloc hoq'.out.size _).trans h2
          have hox := hoq'.out.push (x := (ph : Int)) (v2 := v3) hgv (by simpa using h1) hb3q
          have hsx : IsSl v3 := by obtain ⟨A9, c9, e9⟩ := slice_formR h1; exact ⟨_, _, _, e9⟩
          have hI3 : ∃ vl, RowOn wv (w3.setCell ⟨wr0.heap.size, c, none⟩ v3) wr0.heap.size c vs vl (phasesTo p.rds lift ft fa start (c : Int) (ph + 1)) := ⟨v3, by rw [hsucc'.out]; exact hox⟩
          have kg3 := (hb3q.block wr0.heap.size hgv).trans hoq'.out.blk
          have fg3 := pfrz kg3 c
          have cg3 : w3.cell? ⟨wr0.heap.size, c, none⟩ = some (.slice Al (phasesTo p.rds lift ft fa start (c : Int) ph).length cl) := by simp only [World.cell?, kg3]; simp [hcv2]
          obtain ⟨A9, c9, rfl⟩ := slice_formR h1
          have ⟨h1', h2', h3', hb3q', hox', hsx', hI3', kg3'⟩ := hyd8 h1 h2 h3 hb3q hox hsx hI3 kg3
          clear kg3 hI3 hsx hox hb3q h3 h2 h1
          go_wp2
          go_roundw
          case rel => exact ⟨ph + 1, by omega, by go_num, hI3'⟩
          case measure => simp [intOf]; omega
         ·obtain rfl : ph = p.steps := by omega
          have hpa : phasesTo p.rds lift ft fa start (c : Int) p.steps = phasesAt p.rds lift ft fa start (c : Int) := by unfold phasesTo phasesAt; rw [hll'.out]
          have cgq := hon.cell hcv2
          obtain ⟨Al, cl, rfl⟩ := slice_formR hon.own
          have hbE := bel_set hbww'.out (hbrv'.out.trans hon.below)
          have hTn : c ≤ (lastC p.rds).toNat := by have h := hml'.out; omega
          by_cases hz : (phasesTo p.rds lift ft fa start (c : Int) p.steps).length = 0
          ·have h6 : fitsE p ⟨(m : Int), ft, fa, fl, fi⟩ start = 6 := fits_bad hB'.out harg2'.out hTn (by
            show phasesAt p.rds (p.lift (m : Int).toNat) ft fa start (c : Int) = []
            rw [Int.toNat_natCast, hlp'.out, ← hpa]
            exact List.eq_nil_of_length_eq_zero hz)
           have hv6 := fitsV_no (show fitsE p ⟨(m : Int), ft, fa, fl, fi⟩ start ≠ 0 by rw [h6]; decide)
           have ⟨hon', hK', hpa', hbE', h6', hv6'⟩ := hyd6 hon hK hpa hbE h6 hv6
           clear hv6 h6 hbE hpa hK hon
           go_wp2
           exact bodyPost_ret (v := .tuple #[.slice none 0 0, .int .i64 6]) (by simp [results, Try.results12, go_sem]) rfl ⟨_, by rw [h6'.out], hbE'.out, by rw [hv6'.out]; exact GridL.nil _⟩
          ·have hz2 : ¬ ((phasesTo p.rds lift ft fa start (c : Int) p.steps).length : Int) = 0 := by omega
           have hnx := hrows'.out.next (by omega) hon hpa.symm ⟨_, _, _, rfl⟩
           have hb0v := hbrv'.out.trans hon.below
           have hI4 : ∃ vs, Below wr0.heap.size wr0 wr ∧ RowsTo wr wr0.heap.size (mN + 1) (c + 1) (fun i : Nat => phasesAt p.rds lift ft fa start (i : Int)) vs := ⟨_, hb0v, hnx⟩
           have hne4 : ∀ k : Nat, k < c + 1 → phasesAt p.rds lift ft fa start (k : Int) ≠ [] := fun k hk => by
            by_cases e : k = c
            ·subst e; rw [← hpa]; intro h0; rw [h0] at hz; exact hz rfl
            ·exact hne'.out k (by omega)
           have ⟨hon', hK', hpa', hbE', hnx', hb0v', hI4', hne4'⟩ := hyd8 hon hK hpa hbE hnx hb0v hI4 hne4
           clear hne4 hI4 hb0v hnx hbE hpa hK hon
           go_wp2
           go_roundw
           case rel => exact ⟨c + 1, by omega, by go_num, hI4', hne4'⟩
           case measure => simp [intOf]; omega
      ·obtain rfl : c = mN + 1 := by omega
       obtain ⟨hE0, hV0⟩ := fits_good (p := p) (f := ⟨(m : Int), ft, fa, fl, fi⟩) (start := start) hB'.out harg2'.out (fun k hk => by
        show phasesAt p.rds (p.lift (m : Int).toNat) ft fa start (k : Int) ≠ []
        rw [Int.toNat_natCast, hlp'.out]
        exact hne.out k (by have h := hml'.out; omega))
       have hV1 : fitsV p ⟨(m : Int), ft, fa, fl, fi⟩ start = (List.range (mN + 1)).map fun i : Nat => phasesAt p.rds lift ft fa start (i : Int) := by
        rw [hV0, show (lastC p.rds).toNat + 1 = mN + 1 by have h := hml'.out; omega]
        show fitsTo p (p.lift (m : Int).toNat) _ start _ = _
        rw [Int.toNat_natCast, hlp'.out]; rfl
       have hgf := hrows.grid (by omega)
       have hbE := bel_set hbww'.out hbrv
       have jn : ¬ ((mN + 1 : Nat) : Int) < (mN : Int) + 1 := by omega
       have ⟨hJ', hbrv', hrows', hne', hE0', hV0', hV1', hgf'⟩ := hyd8 hJ hbrv hrows hne hE0 hV0 hV1 hgf
       have hbE' := hyd1 hbE
       clear hbE hgf hV1 hV0 hE0 hne hrows hbrv hJ
       go_wp2
       exact bodyPost_ret (v := .tuple #[.slice (some ⟨wr0.heap.size, 0, none⟩) (mN + 1) (mN + 1), .int .i64 0]) (by simp [results, Try.results12, go_sem]) rfl ⟨_, by rw [hE0'.out], hbE'.out, by rw [hV1'.out]; exact hgf'.out⟩
    ·intro x y w6 cnt1 hwx hlx hat hrg1 hlt hg1 hs1 hen
     have hhx : hasC p.rds x = true := by
      rw [← hB4s'.out.has x hwx]
      exact Maps.has_true_of_atKey hat
     obtain ⟨q1, q2⟩ := hasC_wf hro'.out hhx
     have hb46 : Below W4.heap.size W4 w6 := Below.grown hbw hg1 hbw.size (fun k e => by injection e with e; omega)
     have hI2 : ∃ left cnt, w6.ranges Try.prog 3 hdR B W4.heap.size n D left cnt ∧ Below W4.heap.size W4 w6 ∧ (∀ c, (Lit.int .i64 c).wf = true → hasC p.rds c = true → left (.int .i64 c) = false → c ≤ max mv x) ∧ (max mv x = 0 ∨ hasC p.rds (max mv x) = true) := ⟨_, _, hrg1, hb46, fun c hw hcc hl => (by
      by_cases e : c = x
      ·omega
      ·have h9 : (Lit.int .i64 c).sameKey (.int .i64 x) = false := by
        simp [Lit.sameKey, e]
       rw [h9] at hl
       have := hle c hw hcc (by simpa using hl)
       omega), (by
      by_cases e : mv ≤ x
      ·right; rw [show max mv x = x by omega]; exact hhx
      ·rw [show max mv x = mv by omega]; exact hmv)⟩
     have hmeas : w6.rangeLeft B W4.heap.size < wr.rangeLeft B W4.heap.size := by rw [hrg1.left_eq, hrg.left_eq]; exact hlt
     clear hle hmv
     have ⟨hI', hrg', hbw', hat', hrg1', hg1', hs1', hhx'⟩ := hyd8 hI hrg hbw hat hrg1 hg1 hs1 hhx
     have ⟨hb46', hI2', hmeas'⟩ := hyd3 hb46 hI2 hmeas
     clear hmeas hI2 hb46 hhx hs1 hg1 hrg1 hat hbw hrg hI
     go_wp2
     go_roundw
     case rel => exact ⟨max mv x, by omega, by omega, by go_num, hI2'⟩
     case measure => exact hmeas'.out
  ·have hno : argB p ⟨fh, ft, fa, fl, fi⟩ start = false := by rw [harg'.out]; simpa using hall
   have h1 := hbad'.out hno
   have h2 := hbadv'.out hno
   have ⟨hno', h1', h2', hall'⟩ := hyd4 hno h1 h2 hall
   clear hall h2 h1 hno
   cases B1
   ·go_wp2_with (first | (go_at_call 35; ((with_reducible refine (w1'.out _).mono ?_); rintro e w' ⟨rfl, rfl⟩)))
    exact bodyPost_ret (v := .tuple #[.slice none 0 0, .int .i64 2]) (by simp [results, Try.results12, go_sem]) rfl ⟨_, by rw [h1'.out], hbw2'.out, by rw [h2'.out]; exact GridL.nil _⟩
   cases B2
   ·go_wp2_with (first | (go_at_call 35; ((with_reducible refine (w1'.out _).mono ?_); rintro e w' ⟨rfl, rfl⟩)) | (go_at_call 35; ((with_reducible refine (w2'.out _).mono ?_); rintro e w' ⟨rfl, rfl⟩)))
    exact bodyPost_ret (v := .tuple #[.slice none 0 0, .int .i64 2]) (by simp [results, Try.results12, go_sem]) rfl ⟨_, by rw [h1'.out], hbw2'.out, by rw [h2'.out]; exact GridL.nil _⟩
   cases B3
   ·go_wp2_with (first | (go_at_call 35; ((with_reducible refine (w1'.out _).mono ?_); rintro e w' ⟨rfl, rfl⟩)) | (go_at_call 35; ((with_reducible refine (w2'.out _).mono ?_); rintro e w' ⟨rfl, rfl⟩)) | (go_at_call 35; ((with_reducible refine (w3'.out _).mono ?_); rintro e w' ⟨rfl, rfl⟩)))
    exact bodyPost_ret (v := .tuple #[.slice none 0 0, .int .i64 2]) (by simp [results, Try.results12, go_sem]) rfl ⟨_, by rw [h1'.out], hbw2'.out, by rw [h2'.out]; exact GridL.nil _⟩
   cases B4
   ·go_wp2_with (first | (go_at_call 35; ((with_reducible refine (w1'.out _).mono ?_); rintro e w' ⟨rfl, rfl⟩)) | (go_at_call 35; ((with_reducible refine (w2'.out _).mono ?_); rintro e w' ⟨rfl, rfl⟩)) | (go_at_call 35; ((with_reducible refine (w3'.out _).mono ?_); rintro e w' ⟨rfl, rfl⟩)) | (go_at_call 35; ((with_reducible refine (w4'.out _).mono ?_); rintro e w' ⟨rfl, rfl⟩)))
    exact bodyPost_ret (v := .tuple #[.slice none 0 0, .int .i64 2]) (by simp [results, Try.results12, go_sem]) rfl ⟨_, by rw [h1'.out], hbw2'.out, by rw [h2'.out]; exact GridL.nil _⟩
   exact absurd rfl hall'.out
end Go.Proofs.Ytkblockodaiigaa
