/- The reference's Steps and Check: whether a picture is valid. The reference's starts: the Starts with which a phase fits a cut. A valid picture, or one whose readings are few or none. The reference's Great: what is not too great is short. -/
import Derived.Test.YtphdalgaemefoaaGreatRdValid
import Derived.Test.YtphdalgaemefoaaGreatReadLaw
namespace Go.Proofs.YtphdalgaemefoaaGreat
set_option maxRecDepth 100000
set_option maxHeartbeats 2000000
open Go.RowKit
set_option linter.unusedVariables false
set_option linter.unusedSimpArgs false
theorem pf_r9_Steps (v : Value) (p : Pic) (w : World) (hp : IsPic w v p) : Calls Tryz.prog 40 #[v] w fun e w' => e = .returned (.int .i64 (p.steps : Int)) ∧ Below w.heap.size w w' := by
 obtain ⟨vh, vr, rfl, hh, hr⟩ := hp
 obtain ⟨HA, hc, rfl, hhl⟩ := hh.slice
 obtain ⟨RA, rc, rfl, hrl⟩ := hr.slice
 obtain ⟨W0, hW0, hb0, k0⟩ := newb w (.cells #[.slice HA p.hs.length hc, .int .i64 p.tl, .int .i64 p.th, .int .i64 p.al, .int .i64 p.ah, .slice RA p.rds.length rc] 25)
 obtain ⟨c0, c1, c2, c3, c4, c5⟩ := pc6 k0
 unfold maxLen at hhl hrl
 by_cases h0 : p.hs.length = 0
 ·have hst : p.steps = 0 := by unfold Pic.steps; rw [List.eq_nil_of_length_eq_zero h0]; rfl
  rw [hst]
  generalize hL : p.hs.length = L at *
  subst h0
  have ⟨hh', hr', k0', hb0', hst', hL'⟩ := hyd6 hh hr k0 hb0 hst hL
  clear hL hst hb0 k0 hr hh
  go_enter Tryz.func40, Tryz.ntmps40
  go_wp2
  go_ret
  exact ⟨rfl, hb0'.out⟩
 ·have hst := steps_eq (p := p) (by omega)
  obtain ⟨b, off, hc', vr0, vb0, heq, hbl, d0, d1, i0, i1⟩ := (hh.le hb0).at (j := 0) (by omega)
  injection heq with e1 e2 e3
  subst e1 e3
  clear e2 d1 i1
  rw [Nat.zero_mul, Nat.add_zero] at d0
  obtain ⟨A0, cc0, rfl, -⟩ := id i0
  rw [← hst] at d0
  have hpos : (0 : Int) < (p.hs.length : Int) := by omega
  have hne : ¬ (p.hs.length : Int) = 0 := by omega
  have ⟨hh', hr', k0', hb0', hst', i0'⟩ := hyd6 hh hr k0 hb0 hst i0
  clear i0 hst hb0 k0 hr hh
  go_enter Tryz.func40, Tryz.ntmps40
  go_wp2
  go_ret
  exact ⟨rfl, hb0'.out⟩
theorem pf_r9_Check (v : Value) (p : Pic) (w : World) (hp : IsPic w v p) (hf : p.Fit) : Calls Tryz.prog 18 #[v] w fun e w' => e = .returned (.int .i64 (picE p)) ∧ Below w.heap.size w w' := by
 have hE : ∀ B, picB p = B → picE p = if B then 0 else 90 := fun B h => by unfold picE; rw [h]
 have hp9 := hp
 obtain ⟨vh, vr, rfl, hh, hr⟩ := hp
 obtain ⟨HA, hc, rfl, hhl⟩ := hh.slice
 obtain ⟨RA, rc, rfl, hrl⟩ := hr.slice
 obtain ⟨W0, hW0, hb0, k0⟩ := newb w (.cells #[.slice HA p.hs.length hc, .int .i64 p.tl, .int .i64 p.th, .int .i64 p.al, .int .i64 p.ah, .slice RA p.rds.length rc] 25)
 obtain ⟨c0, c1, c2, c3, c4, c5⟩ := pc6 k0
 have kst := fun W h => pf_r9_Steps _ p W (hp9.le (W := W) h)
 unfold maxLen at hhl hrl
 have w1 := fun W => pf_within_barleycornref09 (p.hs.length : Int) 1 4 W
 have w2 := fun W => pf_within_barleycornref09 (p.rds.length : Int) 1 60 W
 obtain ⟨B1, hB1⟩ : ∃ B, within (p.hs.length : Int) 1 4 = B := ⟨_, rfl⟩
 obtain ⟨B2, hB2⟩ : ∃ B, within (p.rds.length : Int) 1 60 = B := ⟨_, rfl⟩
 rw [hB1] at w1
 rw [hB2] at w2
 have q1 : decide (1 ≤ p.hs.length ∧ p.hs.length ≤ 4) = B1 := by rw [← hB1]; unfold within; rw [Bool.decide_and]; congr 1 <;> simp <;> omega
 have q2 : decide (1 ≤ p.rds.length ∧ p.rds.length ≤ 60) = B2 := by rw [← hB2]; unfold within; rw [Bool.decide_and]; congr 1 <;> simp <;> omega
 have hpb : picB p = (B1 && (B2 && (p.hs.all (headB p.steps) && (setB p && p.rds.all (rdB p.steps))))) := by unfold picB; rw [q1, q2]
 clear q1 q2
 have ⟨hh', hr', hf', k0', hB1', hB2', hpb', w1'⟩ := hyd8 hh hr hf k0 hB1 hB2 hpb w1
 have ⟨w2', hb0', hp9', kst', hE'⟩ := hyd5 w2 hb0 hp9 kst hE
 clear hE kst hp9 hb0 w2 w1 hpb hB2 hB1 k0 hf hr hh
 go_enter Tryz.func18, Tryz.ntmps18
 go_wp2_with (fail)
 clear hW0
 go_at_call 40
 refine (kst'.out W0 hb0'.out).mono ?_
 rintro e W1 ⟨rfl, hb1⟩
 have hbE0 := bel_set hb0'.out hb1
 have k1 := blk hb1 k0'.out
 clear c0 c1 c2 c3 c4 c5
 obtain ⟨c0, c1, c2, c3, c4, c5⟩ := pc6 k1
 have ⟨hb1', hbE0', k1'⟩ := hyd3 hb1 hbE0 k1
 clear k1 hbE0 hb1
 cases B1 with
 | false =>
  go_wp2_with (first | (go_at_call 41; ((with_reducible refine (w1'.out _).mono ?_); rintro e w' ⟨rfl, rfl⟩)))
  go_ret
  exact ⟨by rw [hE'.out false (by rw [hpb'.out]; rfl)]; rfl, hbE0'.out⟩
 | true =>
  cases B2 with
  | false =>
   go_wp2_with (first | (go_at_call 41; ((with_reducible refine (w1'.out _).mono ?_); rintro e w' ⟨rfl, rfl⟩)) | (go_at_call 41; ((with_reducible refine (w2'.out _).mono ?_); rintro e w' ⟨rfl, rfl⟩)))
   go_ret
   exact ⟨by rw [hE'.out false (by rw [hpb'.out]; rfl)]; rfl, hbE0'.out⟩
  | true =>
   have h14 : 1 ≤ p.hs.length ∧ p.hs.length ≤ 4 := by have hB1 := hB1'.out; unfold within at hB1; simp at hB1; omega
   have h160 : 1 ≤ p.rds.length ∧ p.rds.length ≤ 60 := by have hB2 := hB2'.out; unfold within at hB2; simp at hB2; omega
   have hh0 := hh'.out.le hbE0'.out
   have hr0 := hr'.out.le hbE0'.out
   have ⟨hh0', hr0'⟩ := hyd2 hh0 hr0
   clear hr0 hh0
   go_wp2_with (first | (go_at_call 41; ((with_reducible refine (w1'.out _).mono ?_); rintro e w' ⟨rfl, rfl⟩)) | (go_at_call 41; ((with_reducible refine (w2'.out _).mono ?_); rintro e w' ⟨rfl, rfl⟩)))
   clear c0 c1 c2 c3 c4 c5
   go_loopw [4] (fun ix wr => ∃ j : Nat, j ≤ p.hs.length ∧ ix = .int .i64 j ∧ Hid (Below W1.heap.size W1 wr ∧ ∀ i (hi : i < p.hs.length), i < j → headB p.steps p.hs[i] = true)) (fun ix _ => p.hs.length - (intOf ix).toNat)
   case atStart => exact ⟨0, Nat.zero_le _, rfl, Lib.hid ⟨Below.refl _ _, fun i _ h => absurd h (Nat.not_lt_zero i)⟩⟩
   case round =>
    obtain ⟨j, hj, rfl, hI⟩ := hrel
    obtain ⟨hbw, hok⟩ := hI.out
    obtain ⟨c0, c1, c2, c3, c4, c5⟩ := pc6 (blk hbw k1'.out)
    by_cases hlt : j < p.hs.length
    ·obtain ⟨b2, off2, hc2, vr, vb, heq, hbl2, d3, d4, i3, i4⟩ := (hh0'.out.le hbw).at hlt
     injection heq with e1 e2 e3
     subst e1 e3
     clear e2
     obtain ⟨A1, cc1, rfl, -⟩ := id i3
     obtain ⟨A2, cc2, rfl, -⟩ := id i4
     obtain ⟨W2, hW2, hb2, k2⟩ := newb wr (.cells #[.slice A1 p.hs[j].ros.length cc1, .slice A2 p.hs[j].rub.length cc2] 44)
     obtain ⟨g0, g1⟩ := pc2 k2
     have j1 : (j : Int) < (p.hs.length : Int) := by omega
     have j2 : (0 : Int) ≤ (j : Int) := by omega
     obtain ⟨R, hR⟩ : ∃ R, rosOk p.hs[j].ros = R := ⟨_, rfl⟩
     obtain ⟨U, hU⟩ : ∃ R, rubOk p.hs[j].rub (p.steps : Int) = R := ⟨_, rfl⟩
     have kr := pf_r3_Check _ p.hs[j].ros W2 (i3.below hb2) R hR
     have ku := pf_r3_CheckRubber _ p.hs[j].rub (p.steps : Int) W2 (i4.below hb2) U hU
     have hbE := bel_set hbE0'.out (bel_set hbw hb2)
     have hbN := bel_set hbw hb2
     have hhd : headB p.steps p.hs[j] = (decide (p.hs[j].ros.length = p.steps) && (R && U)) := by unfold headB; rw [hR, hU]
     have hmiss : headB p.steps p.hs[j] = false → picB p = false := fun h => by rw [hpb'.out, all_miss hlt h]; rfl
     generalize hLL : p.hs[j].ros.length = LL at *
     generalize hMM : p.hs[j].rub.length = MM at *
     have ⟨hI', hbw', hok', i3', i4', hb2', k2', hR'⟩ := hyd8 hI hbw hok i3 i4 hb2 k2 hR
     have ⟨hU', kr', ku', hbE', hbN', hhd', hmiss', hLL'⟩ := hyd8 hU kr ku hbE hbN hhd hmiss hLL
     have hMM' := hyd1 hMM
     clear hMM hLL hmiss hhd hbN hbE ku kr hU hR k2 hb2 i4 i3 hok hbw hI
     cases R with
     | false =>
      go_wp2_with (first | (go_at_call 42; ((with_reducible refine (kr'.out).mono ?_); rintro e w' ⟨rfl, rfl⟩)))
      go_ret
      exact ⟨by rw [hE'.out _ (hmiss'.out (by rw [hhd'.out]; simp))]; rfl, hbE'.out⟩
     | true =>
      by_cases hl : LL = p.steps
      ·subst hl
       cases U with
       | false =>
        go_wp2_with (first | (go_at_call 42; ((with_reducible refine (kr'.out).mono ?_); rintro e w' ⟨rfl, rfl⟩)) | (go_at_call 43; ((with_reducible refine (ku'.out).mono ?_); rintro e w' ⟨rfl, rfl⟩)))
        go_ret
        exact ⟨by rw [hE'.out _ (hmiss'.out (by rw [hhd'.out]; simp))]; rfl, hbE'.out⟩
       | true =>
        go_wp2_with (first | (go_at_call 42; ((with_reducible refine (kr'.out).mono ?_); rintro e w' ⟨rfl, rfl⟩)) | (go_at_call 43; ((with_reducible refine (ku'.out).mono ?_); rintro e w' ⟨rfl, rfl⟩)))
        go_roundw
        case rel => exact ⟨j + 1, by omega, by go_num, Lib.hid ⟨hbN'.out, fun i hi hij => by
         by_cases e : i = j
         ·subst e; rw [hhd'.out]; simp
         ·exact hok'.out i hi (by omega)⟩⟩
        case measure => simp [intOf]; omega
      ·have hl1 : ¬ (LL : Int) = (p.steps : Int) := by omega
       go_wp2_with (first | (go_at_call 42; ((with_reducible refine (kr'.out).mono ?_); rintro e w' ⟨rfl, rfl⟩)))
       go_ret
       exact ⟨by rw [hE'.out _ (hmiss'.out (by rw [hhd'.out]; simp [hl]))]; rfl, hbE'.out⟩
    ·obtain rfl : j = p.hs.length := by omega
     have hall : p.hs.all (headB p.steps) = true := all_upto fun i hi => hok i hi hi
     have kb := blk hbw k1'.out
     have hbE := bel_set hbE0'.out hbw
     obtain ⟨f1, f2⟩ := hf'.out.al
     obtain ⟨f3, f4⟩ := hf'.out.ah
     have hset : ∀ B, setB p = B → picB p = (B && p.rds.all (rdB p.steps)) := fun B h => by rw [hpb'.out, hall, h]; rfl
     have hno : setB p = false → picB p = false := fun h => by rw [hset _ h]; rfl
     have hsb : setB p = (decide (1 ≤ p.tl) && (decide (p.tl ≤ p.th) && (decide (p.th ≤ 16) && (decide (-1000 ≤ p.al) && (decide (p.al ≤ p.ah) && (decide (p.ah ≤ 1000) && decide (p.ah - p.al ≤ 40))))))) := rfl
     have hr2 := hr0'.out.le hbw
     have ⟨hI', hbw', hok', hall', kb', hbE', hset', hno'⟩ := hyd8 hI hbw hok hall kb hbE hset hno
     have ⟨hsb', hr2'⟩ := hyd2 hsb hr2
     clear hr2 hsb hno hset hbE kb hall hok hbw hI
     by_cases s1 : p.tl < 1
     ·go_wp2
      go_ret
      exact ⟨by rw [hE'.out _ (hno'.out (by rw [hsb'.out]; simp; omega))]; rfl, hbE'.out⟩
     by_cases s2 : p.th < p.tl
     ·go_wp2
      go_ret
      exact ⟨by rw [hE'.out _ (hno'.out (by rw [hsb'.out]; simp; omega))]; rfl, hbE'.out⟩
     by_cases s3 : 16 < p.th
     ·go_wp2
      go_ret
      exact ⟨by rw [hE'.out _ (hno'.out (by rw [hsb'.out]; simp; omega))]; rfl, hbE'.out⟩
     by_cases s4 : p.al < -1000
     ·go_wp2
      go_ret
      exact ⟨by rw [hE'.out _ (hno'.out (by rw [hsb'.out]; simp; omega))]; rfl, hbE'.out⟩
     by_cases s5 : p.ah < p.al
     ·go_wp2
      go_ret
      exact ⟨by rw [hE'.out _ (hno'.out (by rw [hsb'.out]; simp; omega))]; rfl, hbE'.out⟩
     by_cases s6 : 1000 < p.ah
     ·go_wp2
      go_ret
      exact ⟨by rw [hE'.out _ (hno'.out (by rw [hsb'.out]; simp; omega))]; rfl, hbE'.out⟩
     have s9 : -9223372036854775808 ≤ p.ah - p.al := by omega
     have s10 : p.ah - p.al ≤ 9223372036854775807 := by omega
     by_cases s7 : 40 < p.ah - p.al
     ·go_wp2
      go_ret
      exact ⟨by rw [hE'.out _ (hno'.out (by rw [hsb'.out]; simp; omega))]; rfl, hbE'.out⟩
     have hyes : setB p = true := by rw [hsb'.out]; simp; omega
     have hyes' := hyd1 hyes
     clear hyes
     obtain ⟨hst1, hst2⟩ : p.steps ≤ 1000000 ∧ True := by
      have h := hall'.out
      rw [List.all_eq_true] at h
      have h2 := h _ (List.getElem_mem (show 0 < p.hs.length by omega))
      unfold headB at h2
      simp only [Bool.and_eq_true, decide_eq_true_eq] at h2
      have h3 := (rosOk_iff.1 h2.2.1).2.1
      have h4 := h2.1
      exact ⟨by omega, trivial⟩
     go_wp2_with (fail)
     clear c0 c1 c2 c3 c4 c5
     rename World => wo
     go_loopw [6] (fun ix wq => ∃ k : Nat, k ≤ p.rds.length ∧ ix = .int .i64 k ∧ Hid (Below wo.heap.size wo wq ∧ ∀ i (hi : i < p.rds.length), i < k → rdB p.steps p.rds[i] = true)) (fun ix _ => p.rds.length - (intOf ix).toNat)
     case atStart => exact ⟨0, Nat.zero_le _, rfl, Lib.hid ⟨Below.refl _ _, fun i _ h => absurd h (Nat.not_lt_zero i)⟩⟩
     case round =>
      obtain ⟨k, hk, rfl, hJ⟩ := hrel
      obtain ⟨hbq, hok⟩ := hJ.out
      obtain ⟨c0, c1, c2, c3, c4, c5⟩ := pc6 (blk hbq kb'.out)
      by_cases hlt : k < p.rds.length
      ·obtain ⟨b2, off2, rc2, heq, hbl2, g0, g1, g2, g3⟩ := RdsL.cells (hr2'.out.le hbq) hlt
       injection heq with e1 e2 e3
       subst e1 e3
       clear e2
       obtain ⟨W2, hW2, hb2, k2⟩ := newb wr (.cells #[.int .i64 p.rds[k].cut, .int .i64 p.rds[k].step, .int .i64 p.rds[k].lo, .int .i64 p.rds[k].hi] 54)
       obtain ⟨d0, d1, d2, d3⟩ := pc4 k2
       have j1 : (k : Int) < (p.rds.length : Int) := by omega
       have j2 : (0 : Int) ≤ (k : Int) := by omega
       have w3 := fun W => pf_within_barleycornref09 p.rds[k].cut 0 11 W
       have w4 := fun W => pf_within_barleycornref09 p.rds[k].step 0 ((p.steps : Int) - 1) W
       obtain ⟨R, hR⟩ : ∃ R, within p.rds[k].cut 0 11 = R := ⟨_, rfl⟩
       obtain ⟨U, hU⟩ : ∃ R, within p.rds[k].step 0 ((p.steps : Int) - 1) = R := ⟨_, rfl⟩
       rw [hR] at w3
       rw [hU] at w4
       have hbE := bel_set hbE'.out (bel_set hbq hb2)
       have hbN := bel_set hbq hb2
       have hrd : rdB p.steps p.rds[k] = (R && (U && (decide (-300000 ≤ p.rds[k].lo) && (decide (p.rds[k].lo ≤ p.rds[k].hi) && decide (p.rds[k].hi ≤ 300000))))) := by
        unfold rdB; rw [← hR, ← hU]; unfold within; rw [Bool.decide_and, Bool.decide_and]
       have hmiss : rdB p.steps p.rds[k] = false → picB p = false := fun h => by rw [hset'.out _ hyes'.out, all_miss hlt h]; rfl
       have ⟨hJ', hbq', hok', hb2', k2', hR', hU', w3'⟩ := hyd8 hJ hbq hok hb2 k2 hR hU w3
       have ⟨w4', hbE', hbN', hrd', hmiss'⟩ := hyd5 w4 hbE hbN hrd hmiss
       clear hmiss hrd hbN hbE w4 w3 hU hR k2 hb2 hok hbq hJ
       cases R with
       | false =>
        go_wp2_with (first | (go_at_call 41; ((with_reducible refine (w3'.out _).mono ?_); rintro e w' ⟨rfl, rfl⟩)))
        go_ret
        exact ⟨by rw [hE'.out _ (hmiss'.out (by rw [hrd'.out]; simp))]; rfl, hbE'.out⟩
       | true =>
        cases U with
        | false =>
         go_wp2_with (first | (go_at_call 41; ((with_reducible refine (w3'.out _).mono ?_); rintro e w' ⟨rfl, rfl⟩)) | (go_at_call 41; ((with_reducible refine (w4'.out _).mono ?_); rintro e w' ⟨rfl, rfl⟩)))
         go_ret
         exact ⟨by rw [hE'.out _ (hmiss'.out (by rw [hrd'.out]; simp))]; rfl, hbE'.out⟩
        | true =>
         by_cases t1 : p.rds[k].lo < -300000
         ·go_wp2_with (first | (go_at_call 41; ((with_reducible refine (w3'.out _).mono ?_); rintro e w' ⟨rfl, rfl⟩)) | (go_at_call 41; ((with_reducible refine (w4'.out _).mono ?_); rintro e w' ⟨rfl, rfl⟩)))
          go_ret
          exact ⟨by rw [hE'.out _ (hmiss'.out (by rw [hrd'.out]; simp; omega))]; rfl, hbE'.out⟩
         by_cases t2 : p.rds[k].hi < p.rds[k].lo
         ·go_wp2_with (first | (go_at_call 41; ((with_reducible refine (w3'.out _).mono ?_); rintro e w' ⟨rfl, rfl⟩)) | (go_at_call 41; ((with_reducible refine (w4'.out _).mono ?_); rintro e w' ⟨rfl, rfl⟩)))
          go_ret
          exact ⟨by rw [hE'.out _ (hmiss'.out (by rw [hrd'.out]; simp; omega))]; rfl, hbE'.out⟩
         by_cases t3 : 300000 < p.rds[k].hi
         ·go_wp2_with (first | (go_at_call 41; ((with_reducible refine (w3'.out _).mono ?_); rintro e w' ⟨rfl, rfl⟩)) | (go_at_call 41; ((with_reducible refine (w4'.out _).mono ?_); rintro e w' ⟨rfl, rfl⟩)))
          go_ret
          exact ⟨by rw [hE'.out _ (hmiss'.out (by rw [hrd'.out]; simp; omega))]; rfl, hbE'.out⟩
         have hgood : rdB p.steps p.rds[k] = true := by rw [hrd'.out]; simp; omega
         have hgood' := hyd1 hgood
         clear hgood
         go_wp2_with (first | (go_at_call 41; ((with_reducible refine (w3'.out _).mono ?_); rintro e w' ⟨rfl, rfl⟩)) | (go_at_call 41; ((with_reducible refine (w4'.out _).mono ?_); rintro e w' ⟨rfl, rfl⟩)))
         go_roundw
         case rel => exact ⟨k + 1, by omega, by go_num, Lib.hid ⟨hbN'.out, fun i hi hik => by
          by_cases e : i = k
          ·subst e; exact hgood'.out
          ·exact hok'.out i hi (by omega)⟩⟩
         case measure => simp [intOf]; omega
      ·obtain rfl : k = p.rds.length := by omega
       have hall2 : p.rds.all (rdB p.steps) = true := all_upto fun i hi => hok i hi hi
       have hbE2 := bel_set hbE'.out hbq
       have ⟨hJ', hbq', hok', hall2', hbE2'⟩ := hyd5 hJ hbq hok hall2 hbE2
       clear hbE2 hall2 hok hbq hJ
       go_wp2
       go_ret
       exact ⟨by rw [hE'.out true (by rw [hset'.out _ hyes'.out, hall2'.out]; rfl)]; rfl, hbE2'.out⟩
end Go.Proofs.YtphdalgaemefoaaGreat
namespace Go.Proofs.YtphdalgaemefoaaGreat
set_option maxRecDepth 100000
set_option maxHeartbeats 2000000
open Go.RowKit
set_option linter.unusedVariables false
set_option linter.unusedSimpArgs false
theorem foldl_take {α β : Type} (f : β → α → β) (o : β) (l : List α) (k : Nat) (h : k < l.length) : (l.take (k + 1)).foldl f o = f ((l.take k).foldl f o) l[k] := by
 rw [List.take_succ_eq_append_getElem h, List.foldl_append]; rfl
def RdOk (n : Nat) (r : Rd) : Prop := (0 ≤ r.cut ∧ r.cut ≤ 11) ∧ (0 ≤ r.step ∧ r.step ≤ (n : Int) - 1) ∧ -300000 ≤ r.lo ∧ r.lo ≤ r.hi ∧ r.hi ≤ 300000
theorem lift_in {lift : List Int} (h : rosOk lift = true) (r : Rd) (ph : Nat) : 0 ≤ hAt lift r ph ∧ hAt lift r ph ≤ 10000 := by
 obtain ⟨h1, h2, h3⟩ := rosOk_iff.1 h
 unfold hAt atR
 have hlt : ((r.step - (ph : Int)) % (lift.length : Int)).toNat < lift.length := by
  have a := Int.emod_nonneg (r.step - (ph : Int)) (show (lift.length : Int) ≠ 0 by omega)
  have b := Int.emod_lt_of_pos (r.step - (ph : Int)) (show (0 : Int) < lift.length by omega)
  omega
 rw [List.getD_eq_getElem?_getD, List.getElem?_eq_getElem hlt]
 exact h3 _ hlt
theorem mul_in {a b A B : Int} (h0 : 0 ≤ a) (h1 : a ≤ A) (h2 : -B ≤ b) (h3 : b ≤ B) (hB : 0 ≤ B) : -(A * B) ≤ a * b ∧ a * b ≤ A * B := by
 have x := Int.mul_le_mul_of_nonneg_left h3 h0
 have y := Int.mul_le_mul_of_nonneg_left h2 h0
 have z := Int.mul_le_mul_of_nonneg_right h1 hB
 rw [Int.mul_neg] at y
 omega
theorem ifmax (a b : Int) : (if a < b then b else a) = max a b := by omega
theorem ifmin (a b : Int) : (if b < a then b else a) = min a b := by omega
def stpS (lift : List Int) (throw adv cut : Int) (ph : Nat) (o : Spn) (r : Rd) : Spn := if r.cut = cut then (max o.1 (r.lo - (cut * adv + throw * hAt lift r ph)), min o.2 (r.hi - (cut * adv + throw * hAt lift r ph))) else o
theorem startS_eq (rds : List Rd) (lift : List Int) (throw adv cut : Int) (ph : Nat) : startS rds lift throw adv cut ph = rds.foldl (stpS lift throw adv cut ph) (0, 10000) := rfl
theorem startS_bound {n : Nat} {rds : List Rd} {lift : List Int} {throw adv cut : Int} {ph : Nat} (hr : ∀ r ∈ rds, RdOk n r) (hl : rosOk lift = true) (ht : 0 ≤ throw ∧ throw ≤ 16) (ha : -1000 ≤ adv ∧ adv ≤ 1000) (hc : 0 ≤ cut ∧ cut ≤ 11) :
  ∀ o : Spn, 0 ≤ o.1 → o.1 ≤ 400000 → -600000 ≤ o.2 → o.2 ≤ 10000 → 0 ≤ (rds.foldl (stpS lift throw adv cut ph) o).1 ∧ (rds.foldl (stpS lift throw adv cut ph) o).1 ≤ 400000 ∧ -600000 ≤ (rds.foldl (stpS lift throw adv cut ph) o).2 ∧ (rds.foldl (stpS lift throw adv cut ph) o).2 ≤ 10000 := by
 induction rds with
 | nil => intro o h0 h1 h2 h3; exact ⟨h0, h1, h2, h3⟩
 | cons r rds ih =>
  intro o h0 h1 h2 h3
  have hro := hr r List.mem_cons_self
  have hh := lift_in hl r ph
  have m1 := mul_in hc.1 hc.2 (b := adv) (B := 1000) (by omega) (by omega) (by decide)
  have m2 := mul_in ht.1 ht.2 (b := hAt lift r ph) (B := 10000) (by omega) (by omega) (by decide)
  have m3 := Int.mul_nonneg ht.1 hh.1
  unfold RdOk at hro
  simp only [List.foldl_cons]
  apply ih (fun q hq => hr q (List.mem_cons_of_mem _ hq))
  all_goals
   unfold stpS
   split
   ·simp only; omega
   ·assumption
end Go.Proofs.YtphdalgaemefoaaGreat
namespace Go.Proofs.YtphdalgaemefoaaGreat
set_option maxRecDepth 100000
set_option maxHeartbeats 2000000
set_option linter.unusedVariables false
structure PicM (p : Pic) : Prop where
 heads : 1 ≤ p.hs.length ∧ p.hs.length ≤ 4
 reads : p.rds.length ≤ 60
 head : ∀ h ∈ p.hs, h.ros.length = p.steps ∧ rosOk h.ros = true ∧ rubOk h.rub p.steps = true
 tl : 1 ≤ p.tl
 tle : p.tl ≤ p.th
 th : p.th ≤ 16
 al : -1000 ≤ p.al
 ale : p.al ≤ p.ah
 ah : p.ah ≤ 1000
 span : p.ah - p.al ≤ 40
 rd : ∀ r ∈ p.rds, RdOk p.steps r
theorem PicOk.toM {p : Pic} (h : PicOk p) : PicM p := ⟨h.heads, h.reads.2, h.head, h.tl, h.tle, h.th, h.al, h.ale, h.ah, h.span, h.rd⟩
theorem PicM.sub {p : Pic} (h : PicM p) {l : List Int} (hl : ∀ i ∈ l, 0 ≤ i ∧ i < (p.rds.length : Int)) (h60 : l.length ≤ 60) : PicM (p.with (subR p.rds l)) :=
 ⟨h.heads, by show (subR p.rds l).length ≤ 60; unfold subR; rw [List.length_map]; exact h60, h.head, h.tl, h.tle, h.th, h.al, h.ale, h.ah, h.span, fun r hr => h.rd r (subR_mem hl r hr)⟩
theorem PicM.steps {p : Pic} (h : PicM p) : 3 ≤ p.steps ∧ p.steps ≤ 96 := by
 obtain ⟨h1, h2⟩ := h.heads
 have h0 : 0 < p.hs.length := by omega
 have hm : p.hs.getD 0 default ∈ p.hs := by
  rw [List.getD_eq_getElem?_getD, List.getElem?_eq_getElem h0]
  exact List.getElem_mem h0
 have hr := rosOk_iff.1 (h.head _ hm).2.1
 exact ⟨hr.1, hr.2.1⟩
end Go.Proofs.YtphdalgaemefoaaGreat
namespace Go.Proofs.YtphdalgaemefoaaGreat
set_option maxRecDepth 100000
set_option maxHeartbeats 2000000
open Go.RowKit
set_option linter.unusedVariables false
set_option linter.unusedSimpArgs false
theorem pf_r9_Great (v : Value) (p : Pic) (w : World) (hp : IsPic w v p) (hf : p.Fit) :
  Calls Tryz.prog 5 #[v] w fun e w' => ∃ b, e = .returned (.bool b) ∧ Below w.heap.size w w' ∧ (b = false → p.hs.length ≤ 6 ∧ p.rds.length ≤ 70 ∧ ∀ h ∈ p.hs, h.ros.length ≤ 24 ∧ h.rub.length ≤ 40) := by
 have hp9 := hp
 obtain ⟨vh, vr, rfl, hh, hr⟩ := hp
 obtain ⟨HA, hc, rfl, hhl⟩ := hh.slice
 obtain ⟨RA, rc, rfl, hrl⟩ := hr.slice
 obtain ⟨W0, hW0, hb0, k0⟩ := newb w (.cells #[.slice HA p.hs.length hc, .int .i64 p.tl, .int .i64 p.th, .int .i64 p.al, .int .i64 p.ah, .slice RA p.rds.length rc] 25)
 obtain ⟨c0, c1, c2, c3, c4, c5⟩ := pc6 k0
 have kck := fun W h => pf_r9_Check _ p W (hp9.le (W := W) h) hf
 unfold maxLen at hhl hrl
 by_cases h6 : 6 < p.hs.length
 ·have h6i : (6 : Int) < (p.hs.length : Int) := by omega
  have ⟨hh', hr', hf', k0', hb0', hp9', kck'⟩ := hyd7 hh hr hf k0 hb0 hp9 kck
  clear kck hp9 hb0 k0 hf hr hh
  go_enter Tryz.func5, Tryz.ntmps5
  go_wp2
  go_ret
  first | exact ⟨_, rfl, hb0'.out, fun h => by cases h⟩ | exact .inr ⟨rfl, hb0'.out⟩
 by_cases h70 : 70 < p.rds.length
 ·have h6i : ¬ (6 : Int) < (p.hs.length : Int) := by omega
  have h70i : (70 : Int) < (p.rds.length : Int) := by omega
  have ⟨hh', hr', hf', k0', hb0', hp9', kck'⟩ := hyd7 hh hr hf k0 hb0 hp9 kck
  clear kck hp9 hb0 k0 hf hr hh
  go_enter Tryz.func5, Tryz.ntmps5
  go_wp2
  go_ret
  first | exact ⟨_, rfl, hb0'.out, fun h => by cases h⟩ | exact .inr ⟨rfl, hb0'.out⟩
 have h6i : ¬ (6 : Int) < (p.hs.length : Int) := by omega
 have h70i : ¬ (70 : Int) < (p.rds.length : Int) := by omega
 have hh0 := hh.le hb0
 have ⟨hh', hr', hf', k0', hb0', hp9', kck', hh0'⟩ := hyd8 hh hr hf k0 hb0 hp9 kck hh0
 clear hh0 kck hp9 hb0 k0 hf hr hh
 go_enter Tryz.func5, Tryz.ntmps5
 go_wp2
 clear hW0
 go_loopw [3] (fun ix wr => ∃ j : Nat, j ≤ p.hs.length ∧ ix = .int .i64 j ∧ Hid (Below W0.heap.size W0 wr ∧ ∀ i (hi : i < p.hs.length), i < j → p.hs[i].ros.length ≤ 24 ∧ p.hs[i].rub.length ≤ 40)) (fun ix _ => p.hs.length - (intOf ix).toNat)
 case atStart => exact ⟨0, Nat.zero_le _, rfl, Lib.hid ⟨Below.refl _ _, fun i _ h => absurd h (Nat.not_lt_zero i)⟩⟩
 case round =>
  obtain ⟨j, hj, rfl, hI⟩ := hrel
  obtain ⟨hbw, hok⟩ := hI.out
  have kj := blk hbw k0'.out
  obtain ⟨c0, c1, c2, c3, c4, c5⟩ := pc6 kj
  have hbE := bel_set hb0'.out hbw
  by_cases hlt : j < p.hs.length
  ·obtain ⟨b2, off2, hc2, vr, vb, heq, hbl2, d3, d4, i3, i4⟩ := (hh0'.out.le hbw).at hlt
   injection heq with e1 e2 e3
   subst e1 e3
   clear e2
   obtain ⟨A1, cc1, rfl, -⟩ := id i3
   obtain ⟨A2, cc2, rfl, -⟩ := id i4
   have j1 : (j : Int) < (p.hs.length : Int) := by omega
   have j2 : (0 : Int) ≤ (j : Int) := by omega
   have hok2 : p.hs[j].ros.length ≤ 24 → p.hs[j].rub.length ≤ 40 → ∀ i (hi : i < p.hs.length), i < j + 1 → p.hs[i].ros.length ≤ 24 ∧ p.hs[i].rub.length ≤ 40 := fun a b i hi hij => by
    by_cases e : i = j
    ·subst e; exact ⟨a, b⟩
    ·exact hok i hi (by omega)
   generalize hLL : p.hs[j].ros.length = LL at *
   generalize hMM : p.hs[j].rub.length = MM at *
   by_cases h24 : 24 < LL
   ·have h24i : (24 : Int) < (LL : Int) := by omega
    have ⟨hI', hbw', hok', i3', i4', hok2', hLL', hMM'⟩ := hyd8 hI hbw hok i3 i4 hok2 hLL hMM
    have ⟨hbE', kj'⟩ := hyd2 hbE kj
    clear kj hbE hMM hLL hok2 i4 i3 hok hbw hI
    go_wp2
    go_ret
    first | exact ⟨_, rfl, hbE'.out, fun h => by cases h⟩ | exact .inr ⟨rfl, hbE'.out⟩
   ·have h24i : ¬ (24 : Int) < (LL : Int) := by omega
    by_cases h40 : 40 < MM
    ·have h40i : (40 : Int) < (MM : Int) := by omega
     have ⟨hI', hbw', hok', i3', i4', hok2', hLL', hMM'⟩ := hyd8 hI hbw hok i3 i4 hok2 hLL hMM
     have ⟨hbE', kj'⟩ := hyd2 hbE kj
     clear kj hbE hMM hLL hok2 i4 i3 hok hbw hI
     go_wp2
     go_ret
     first | exact ⟨_, rfl, hbE'.out, fun h => by cases h⟩ | exact .inr ⟨rfl, hbE'.out⟩
    ·have h40i : ¬ (40 : Int) < (MM : Int) := by omega
     have hn : Below W0.heap.size W0 wr ∧ ∀ i (hi : i < p.hs.length), i < j + 1 → p.hs[i].ros.length ≤ 24 ∧ p.hs[i].rub.length ≤ 40 := ⟨hbw, hok2 (by omega) (by omega)⟩
     have ⟨hI', hbw', hok', i3', i4', hok2', hLL', hMM'⟩ := hyd8 hI hbw hok i3 i4 hok2 hLL hMM
     have ⟨hbE', kj', hn'⟩ := hyd3 hbE kj hn
     clear hn kj hbE hMM hLL hok2 i4 i3 hok hbw hI
     go_wp2
     go_roundw
     case rel => exact ⟨j + 1, by omega, by go_num, hn'⟩
     case measure => simp [intOf]; omega
  ·obtain rfl : j = p.hs.length := by omega
   have hall : ∀ h ∈ p.hs, h.ros.length ≤ 24 ∧ h.rub.length ≤ 40 := fun h hm => by
    obtain ⟨i, hi, rfl⟩ := List.getElem_of_mem hm
    exact hok i hi hi
   have hkc := kck'.out wr hbE
   obtain ⟨E, hE⟩ : ∃ E, picE p = E := ⟨_, rfl⟩
   rw [hE] at hkc
   by_cases hE0 : E = 0
   ·subst hE0
    have hpb : picB p = true := by
     cases h : picB p with
     | true => rfl
     | false => unfold picE at hE; rw [h] at hE; cases hE
    have ok := picB_iff.1 hpb
    have e1 := ok.heads
    have e2 := ok.tl
    have e3 := ok.tle
    have e4 := ok.th
    have e5 := ok.al
    have e6 := ok.ale
    have e7 := ok.ah
    have e8 := ok.span
    obtain ⟨X, hX⟩ : ∃ X : Int, (p.hs.length : Int) * (p.th - p.tl + 1) = X := ⟨_, rfl⟩
    have hX0 : 0 ≤ X ∧ X ≤ 64 := by
     have a1 : (p.hs.length : Int) * (p.th - p.tl + 1) ≤ 4 * 16 := Int.mul_le_mul (by omega) (by omega) (by omega) (by omega)
     have a0 : 0 ≤ (p.hs.length : Int) * (p.th - p.tl + 1) := Int.mul_nonneg (by omega) (by omega)
     omega
    obtain ⟨Y, hY⟩ : ∃ Y : Int, X * (p.ah - p.al + 1) = Y := ⟨_, rfl⟩
    have hY0 : 0 ≤ Y ∧ Y ≤ 2624 := by
     have a1 : X * (p.ah - p.al + 1) ≤ 64 * 41 := Int.mul_le_mul (by omega) (by omega) (by omega) (by omega)
     have a0 : 0 ≤ X * (p.ah - p.al + 1) := Int.mul_nonneg (by omega) (by omega)
     omega
    have ⟨hI', hbw', hok', hbE', kj', hkc', hE', hpb'⟩ := hyd8 hI hbw hok hbE kj hkc hE hpb
    have ⟨ok', hall'⟩ := hyd2 ok hall
    clear hall ok hpb hE hkc kj hbE hok hbw hI
    go_wp2_with (fail)
    go_at_call 18
    refine (hkc'.out).mono ?_
    rintro e W9 ⟨rfl, hb9⟩
    obtain ⟨g0, g1, g2, g3, g4, g5⟩ := pc6 (blk hb9 kj'.out)
    have hbZ := bel_set hbE'.out hb9
    clear c0 c1 c2 c3 c4 c5
    have ⟨hb9', hbZ'⟩ := hyd2 hb9 hbZ
    clear hbZ hb9
    go_wp2
    go_ret
    exact ⟨_, rfl, hbZ'.out, fun _ => ⟨by omega, by omega, hall'.out⟩⟩
   ·have ⟨hI', hbw', hok', hbE', kj', hkc', hE', hall'⟩ := hyd8 hI hbw hok hbE kj hkc hE hall
    clear hall hE hkc kj hbE hok hbw hI
    go_wp2_with (fail)
    go_at_call 18
    refine (hkc'.out).mono ?_
    rintro e W9 ⟨rfl, hb9⟩
    have hbZ := bel_set hbE'.out hb9
    clear c0 c1 c2 c3 c4 c5
    have ⟨hb9', hbZ'⟩ := hyd2 hb9 hbZ
    clear hbZ hb9
    go_wp2
    go_ret
    exact ⟨_, rfl, hbZ'.out, fun _ => ⟨by omega, by omega, hall'.out⟩⟩
end Go.Proofs.YtphdalgaemefoaaGreat
