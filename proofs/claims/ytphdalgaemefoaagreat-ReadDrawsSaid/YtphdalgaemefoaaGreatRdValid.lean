/- read.valid, read.Check: whether a picture is valid. -/
import Derived.Test.YtphdalgaemefoaaGreatPicKit
import Derived.Test.YtphdalgaemefoaaGreatRef3
namespace Go.Proofs.YtphdalgaemefoaaGreat
set_option maxRecDepth 100000
set_option maxHeartbeats 2000000
open Go.RowKit
set_option linter.unusedVariables false
set_option linter.unusedSimpArgs false
theorem bel_set {w W : World} (h : Below w.heap.size w W) {V : World} (k : Below W.heap.size W V) : Below w.heap.size w V := h.trans (k.mono h.size)
theorem all_upto {α : Type} [Inhabited α] {l : List α} {q : α → Bool} (h : ∀ i (hi : i < l.length), q l[i] = true) : l.all q = true := by
 rw [List.all_eq_true]
 intro x hx
 obtain ⟨i, hi, rfl⟩ := List.getElem_of_mem hx
 exact h i hi
theorem all_miss {α : Type} {l : List α} {q : α → Bool} {i : Nat} (hi : i < l.length) (h : q l[i] = false) : l.all q = false := by
 cases e : l.all q with
 | false => rfl
 | true => rw [List.all_eq_true] at e; rw [e _ (List.getElem_mem hi)] at h; cases h
theorem steps_eq {p : Pic} (h : 0 < p.hs.length) : p.steps = p.hs[0].ros.length := by unfold Pic.steps; rw [List.getD_eq_getElem?_getD, List.getElem?_eq_getElem h]; rfl
theorem pf_rd_valid (v : Value) (p : Pic) (w : World) (hp : IsPic w v p) (hf : p.Fit) : Calls Tryz.prog 44 #[v] w fun e w' => e = .returned (.bool (picB p)) ∧ Below w.heap.size w w' := by
 obtain ⟨vh, vr, rfl, hh, hr⟩ := hp
 obtain ⟨HA, hc, rfl, hhl⟩ := hh.slice
 obtain ⟨RA, rc, rfl, hrl⟩ := hr.slice
 obtain ⟨W0, hW0, hb0, k0⟩ := newb w (.cells #[.slice HA p.hs.length hc, .int .i64 p.tl, .int .i64 p.th, .int .i64 p.al, .int .i64 p.ah, .slice RA p.rds.length rc] 25)
 obtain ⟨c0, c1, c2, c3, c4, c5⟩ := pc6 k0
 unfold maxLen at hhl hrl
 have w1 := fun W => pf_within_read (p.hs.length : Int) 1 4 W
 have w2 := fun W => pf_within_read (p.rds.length : Int) 1 60 W
 obtain ⟨B1, hB1⟩ : ∃ B, within (p.hs.length : Int) 1 4 = B := ⟨_, rfl⟩
 obtain ⟨B2, hB2⟩ : ∃ B, within (p.rds.length : Int) 1 60 = B := ⟨_, rfl⟩
 rw [hB1] at w1
 rw [hB2] at w2
 have q1 : decide (1 ≤ p.hs.length ∧ p.hs.length ≤ 4) = B1 := by rw [← hB1]; unfold within; rw [Bool.decide_and]; congr 1 <;> simp <;> omega
 have q2 : decide (1 ≤ p.rds.length ∧ p.rds.length ≤ 60) = B2 := by rw [← hB2]; unfold within; rw [Bool.decide_and]; congr 1 <;> simp <;> omega
 have hpb : picB p = (B1 && (B2 && (p.hs.all (headB p.steps) && (setB p && p.rds.all (rdB p.steps))))) := by unfold picB; rw [q1, q2]
 clear q1 q2
 cases B1 with
 | false =>
  have ⟨hh', hr', hf', k0', hB1', hB2', hpb', w1'⟩ := hyd8 hh hr hf k0 hB1 hB2 hpb w1
  have ⟨w2', hb0'⟩ := hyd2 w2 hb0
  clear hb0 w2 w1 hpb hB2 hB1 k0 hf hr hh
  go_enter Tryz.func44, Tryz.ntmps44
  go_wp2_with (first | (go_at_call 48; ((with_reducible refine (w1'.out _).mono ?_); rintro e w' ⟨rfl, rfl⟩)))
  go_ret
  exact ⟨by rw [hpb'.out]; rfl, hb0'.out⟩
 | true =>
  cases B2 with
  | false =>
   have ⟨hh', hr', hf', k0', hB1', hB2', hpb', w1'⟩ := hyd8 hh hr hf k0 hB1 hB2 hpb w1
   have ⟨w2', hb0'⟩ := hyd2 w2 hb0
   clear hb0 w2 w1 hpb hB2 hB1 k0 hf hr hh
   go_enter Tryz.func44, Tryz.ntmps44
   go_wp2_with (first | (go_at_call 48; ((with_reducible refine (w1'.out _).mono ?_); rintro e w' ⟨rfl, rfl⟩)) | (go_at_call 48; ((with_reducible refine (w2'.out _).mono ?_); rintro e w' ⟨rfl, rfl⟩)))
   go_ret
   exact ⟨by rw [hpb'.out]; rfl, hb0'.out⟩
  | true =>
   have h14 : 1 ≤ p.hs.length ∧ p.hs.length ≤ 4 := by unfold within at hB1; simp at hB1; omega
   have h160 : 1 ≤ p.rds.length ∧ p.rds.length ≤ 60 := by unfold within at hB2; simp at hB2; omega
   have hst := steps_eq (p := p) (by omega)
   obtain ⟨b, off, hc', vr0, vb0, heq, hbl, d0, d1, i0, i1⟩ := (hh.le hb0).at (j := 0) (by omega)
   injection heq with e1 e2 e3
   subst e1 e3
   clear e2 d1 i1
   rw [Nat.zero_mul, Nat.add_zero] at d0
   obtain ⟨A0, cc0, rfl, -⟩ := id i0
   rw [← hst] at d0
   have hpos : (0 : Int) < (p.hs.length : Int) := by omega
   have hI0 : Below W0.heap.size W0 W0 := Below.refl _ _
   have hh0 := hh.le hb0
   have hr0 := hr.le hb0
   have ⟨hh', hr', hf', k0', hB1', hB2', hpb', w1'⟩ := hyd8 hh hr hf k0 hB1 hB2 hpb w1
   have ⟨w2', hb0', hst', i0', hI0', hh0', hr0'⟩ := hyd7 w2 hb0 hst i0 hI0 hh0 hr0
   clear hr0 hh0 hI0 i0 hst hb0 w2 w1 hpb hB2 hB1 k0 hf hr hh
   go_enter Tryz.func44, Tryz.ntmps44
   go_wp2_with (first | (go_at_call 48; ((with_reducible refine (w1'.out _).mono ?_); rintro e w' ⟨rfl, rfl⟩)) | (go_at_call 48; ((with_reducible refine (w2'.out _).mono ?_); rintro e w' ⟨rfl, rfl⟩)))
   clear hW0
   go_loopw [29] (fun ix wr => ∃ j : Nat, j ≤ p.hs.length ∧ ix = .int .i64 j ∧ Hid (Below W0.heap.size W0 wr ∧ ∀ i (hi : i < p.hs.length), i < j → headB p.steps p.hs[i] = true)) (fun ix _ => p.hs.length - (intOf ix).toNat)
   case atStart => exact ⟨0, Nat.zero_le _, rfl, Lib.hid ⟨hI0'.out, fun i _ h => absurd h (Nat.not_lt_zero i)⟩⟩
   case round =>
    obtain ⟨j, hj, rfl, hI⟩ := hrel
    obtain ⟨hbw, hok⟩ := hI.out
    by_cases hlt : j < p.hs.length
    ·obtain ⟨b2, off2, hc2, vr, vb, heq, hbl2, d3, d4, i3, i4⟩ := (hh0'.out.le hbw).at hlt
     injection heq with e1 e2 e3
     injection e1 with e1
     injection e1 with e1 e4
     subst e1 e3 e4
     clear e2
     obtain ⟨A1, cc1, rfl, -⟩ := id i3
     obtain ⟨A2, cc2, rfl, -⟩ := id i4
     obtain ⟨W2, hW2, hb2, k2⟩ := newb wr (.cells #[.slice A1 p.hs[j].ros.length cc1, .slice A2 p.hs[j].rub.length cc2] 44)
     obtain ⟨g0, g1⟩ := pc2 k2
     have j1 : (j : Int) < (p.hs.length : Int) := by omega
     have j2 : (0 : Int) ≤ (j : Int) := by omega
     obtain ⟨R, hR⟩ : ∃ R, rosOk p.hs[j].ros = R := ⟨_, rfl⟩
     obtain ⟨U, hU⟩ : ∃ R, rubOk p.hs[j].rub (p.steps : Int) = R := ⟨_, rfl⟩
     have kr := pf_ros_Check _ p.hs[j].ros W2 (i3.below hb2) R hR
     have ku := pf_ros_CheckRubber _ p.hs[j].rub (p.steps : Int) W2 (i4.below hb2) U hU
     have hbE := bel_set hb0'.out (bel_set hbw hb2)
     have hbN := bel_set hbw hb2
     have hhd : headB p.steps p.hs[j] = (decide (p.hs[j].ros.length = p.steps) && (R && U)) := by unfold headB; rw [hR, hU]
     have hmiss : headB p.steps p.hs[j] = false → picB p = false := fun h => by rw [hpb'.out, all_miss hlt h]; rfl
     generalize hLL : p.hs[j].ros.length = LL at *
     generalize hMM : p.hs[j].rub.length = MM at *
     have ⟨hI', hbw', hok', i3', i4', hb2', k2', hR'⟩ := hyd8 hI hbw hok i3 i4 hb2 k2 hR
     have ⟨hU', kr', ku', hbE', hbN', hhd', hmiss', hLL'⟩ := hyd8 hU kr ku hbE hbN hhd hmiss hLL
     have hMM' := hyd1 hMM
     clear hMM hLL hmiss hhd hbN hbE ku kr hU hR k2 hb2 i4 i3 hok hbw hI
     by_cases hl : LL = p.steps
     ·subst hl
      cases R with
      | false =>
       go_wp2_with (first | (go_at_call 25; ((with_reducible refine (kr'.out).mono ?_); rintro e w' ⟨rfl, rfl⟩)))
       go_ret
       exact ⟨by rw [hmiss'.out (by rw [hhd'.out]; simp)]; rfl, hbE'.out⟩
      | true =>
       cases U with
       | false =>
        go_wp2_with (first | (go_at_call 25; ((with_reducible refine (kr'.out).mono ?_); rintro e w' ⟨rfl, rfl⟩)) | (go_at_call 26; ((with_reducible refine (ku'.out).mono ?_); rintro e w' ⟨rfl, rfl⟩)))
        go_ret
        exact ⟨by rw [hmiss'.out (by rw [hhd'.out]; simp)]; rfl, hbE'.out⟩
       | true =>
        go_wp2_with (first | (go_at_call 25; ((with_reducible refine (kr'.out).mono ?_); rintro e w' ⟨rfl, rfl⟩)) | (go_at_call 26; ((with_reducible refine (ku'.out).mono ?_); rintro e w' ⟨rfl, rfl⟩)))
        go_roundw
        case rel => exact ⟨j + 1, by omega, by go_num, Lib.hid ⟨hbN'.out, fun i hi hij => by
         by_cases e : i = j
         ·subst e; rw [hhd'.out]; simp
         ·exact hok'.out i hi (by omega)⟩⟩
        case measure => simp [intOf]; omega
     ·have hl1 : ¬ (LL : Int) = (p.steps : Int) := by omega
      go_wp2
      go_ret
      exact ⟨by rw [hmiss'.out (by rw [hhd'.out]; simp [hl])]; rfl, hbE'.out⟩
    ·obtain rfl : j = p.hs.length := by omega
     have hall : p.hs.all (headB p.steps) = true := all_upto fun i hi => hok i hi hi
     have kb := blk hbw k0'.out
     clear c0 c1 c2 c3 c4 c5
     obtain ⟨c0, c1, c2, c3, c4, c5⟩ := pc6 kb
     have hbE := bel_set hb0'.out hbw
     obtain ⟨f1, f2⟩ := hf'.out.al
     obtain ⟨f3, f4⟩ := hf'.out.ah
     have hset : ∀ B, setB p = B → picB p = (B && p.rds.all (rdB p.steps)) := fun B h => by rw [hpb'.out, hall, h]; rfl
     have hno : setB p = false → picB p = false := fun h => by rw [hset _ h]; rfl
     have hsb : setB p = (decide (1 ≤ p.tl) && (decide (p.tl ≤ p.th) && (decide (p.th ≤ 16) && (decide (-1000 ≤ p.al) && (decide (p.al ≤ p.ah) && (decide (p.ah ≤ 1000) && decide (p.ah - p.al ≤ 40))))))) := rfl
     have hr2 := hr0'.out.le hbw
     have ⟨hI', hbw', hok', hall', kb', hbE', hset', hno'⟩ := hyd8 hI hbw hok hall kb hbE hset hno
     have ⟨hsb', hr2'⟩ := hyd2 hsb hr2
     clear hr2 hsb hno hset hbE kb hall hok hbw hI
     by_cases s1 : p.tl < 1
     ·go_wp2
      go_ret
      exact ⟨by rw [hno'.out (by rw [hsb'.out]; simp; omega)]; rfl, hbE'.out⟩
     by_cases s2 : p.th < p.tl
     ·go_wp2
      go_ret
      exact ⟨by rw [hno'.out (by rw [hsb'.out]; simp; omega)]; rfl, hbE'.out⟩
     by_cases s3 : 16 < p.th
     ·go_wp2
      go_ret
      exact ⟨by rw [hno'.out (by rw [hsb'.out]; simp; omega)]; rfl, hbE'.out⟩
     by_cases s4 : p.al < -1000
     ·go_wp2
      go_ret
      exact ⟨by rw [hno'.out (by rw [hsb'.out]; simp; omega)]; rfl, hbE'.out⟩
     by_cases s5 : p.ah < p.al
     ·go_wp2
      go_ret
      exact ⟨by rw [hno'.out (by rw [hsb'.out]; simp; omega)]; rfl, hbE'.out⟩
     by_cases s6 : 1000 < p.ah
     ·go_wp2
      go_ret
      exact ⟨by rw [hno'.out (by rw [hsb'.out]; simp; omega)]; rfl, hbE'.out⟩
     have s9 : -9223372036854775808 ≤ p.ah - p.al := by omega
     have s10 : p.ah - p.al ≤ 9223372036854775807 := by omega
     by_cases s7 : 40 < p.ah - p.al
     ·go_wp2
      go_ret
      exact ⟨by rw [hno'.out (by rw [hsb'.out]; simp; omega)]; rfl, hbE'.out⟩
     have hyes : setB p = true := by rw [hsb'.out]; simp; omega
     have hyes' := hyd1 hyes
     clear hyes
     obtain ⟨hst1, hst2⟩ : p.steps ≤ 1000000 ∧ True := by
      have h := hall'.out
      rw [List.all_eq_true] at h
      have h2 := h _ (List.getElem_mem (show 0 < p.hs.length by omega))
      unfold headB at h2
      simp only [Bool.and_eq_true, decide_eq_true_eq] at h2
      have h3 := (rosOk_iff.1 h2.2.1).2.1
      have h4 := h2.1
      exact ⟨by omega, trivial⟩
     go_wp2_with (fail)
     clear c0 c1 c2 c3 c4 c5
     rename World => wo
     go_loopw [93] (fun ix wq => ∃ k : Nat, k ≤ p.rds.length ∧ ix = .int .i64 k ∧ Hid (Below wo.heap.size wo wq ∧ ∀ i (hi : i < p.rds.length), i < k → rdB p.steps p.rds[i] = true)) (fun ix _ => p.rds.length - (intOf ix).toNat)
     case atStart => exact ⟨0, Nat.zero_le _, rfl, Lib.hid ⟨Below.refl _ _, fun i _ h => absurd h (Nat.not_lt_zero i)⟩⟩
     case round =>
      obtain ⟨k, hk, rfl, hJ⟩ := hrel
      obtain ⟨hbq, hok⟩ := hJ.out
      by_cases hlt : k < p.rds.length
      ·obtain ⟨b2, off2, rc2, heq, hbl2, g0, g1, g2, g3⟩ := RdsL.cells (hr2'.out.le hbq) hlt
       injection heq with e1 e2 e3
       subst e1 e3
       clear e2
       obtain ⟨W2, hW2, hb2, k2⟩ := newb wr (.cells #[.int .i64 p.rds[k].cut, .int .i64 p.rds[k].step, .int .i64 p.rds[k].lo, .int .i64 p.rds[k].hi] 54)
       obtain ⟨d0, d1, d2, d3⟩ := pc4 k2
       have j1 : (k : Int) < (p.rds.length : Int) := by omega
       have j2 : (0 : Int) ≤ (k : Int) := by omega
       have w3 := fun W => pf_within_read p.rds[k].cut 0 11 W
       have w4 := fun W => pf_within_read p.rds[k].step 0 ((p.steps : Int) - 1) W
       obtain ⟨R, hR⟩ : ∃ R, within p.rds[k].cut 0 11 = R := ⟨_, rfl⟩
       obtain ⟨U, hU⟩ : ∃ R, within p.rds[k].step 0 ((p.steps : Int) - 1) = R := ⟨_, rfl⟩
       rw [hR] at w3
       rw [hU] at w4
       have hbE := bel_set hbE'.out (bel_set hbq hb2)
       have hbN := bel_set hbq hb2
       have hrd : rdB p.steps p.rds[k] = (R && (U && (decide (-300000 ≤ p.rds[k].lo) && (decide (p.rds[k].lo ≤ p.rds[k].hi) && decide (p.rds[k].hi ≤ 300000))))) := by
        unfold rdB; rw [← hR, ← hU]; unfold within; rw [Bool.decide_and, Bool.decide_and]
       have hmiss : rdB p.steps p.rds[k] = false → picB p = false := fun h => by rw [hset'.out _ hyes'.out, all_miss hlt h]; rfl
       have ⟨hJ', hbq', hok', hb2', k2', hR', hU', w3'⟩ := hyd8 hJ hbq hok hb2 k2 hR hU w3
       have ⟨w4', hbE', hbN', hrd', hmiss'⟩ := hyd5 w4 hbE hbN hrd hmiss
       clear hmiss hrd hbN hbE w4 w3 hU hR k2 hb2 hok hbq hJ
       cases R with
       | false =>
        go_wp2_with (first | (go_at_call 48; ((with_reducible refine (w3'.out _).mono ?_); rintro e w' ⟨rfl, rfl⟩)))
        go_ret
        exact ⟨by rw [hmiss'.out (by rw [hrd'.out]; simp)]; rfl, hbE'.out⟩
       | true =>
        cases U with
        | false =>
         go_wp2_with (first | (go_at_call 48; ((with_reducible refine (w3'.out _).mono ?_); rintro e w' ⟨rfl, rfl⟩)) | (go_at_call 48; ((with_reducible refine (w4'.out _).mono ?_); rintro e w' ⟨rfl, rfl⟩)))
         go_ret
         exact ⟨by rw [hmiss'.out (by rw [hrd'.out]; simp)]; rfl, hbE'.out⟩
        | true =>
         by_cases t1 : p.rds[k].lo < -300000
         ·go_wp2_with (first | (go_at_call 48; ((with_reducible refine (w3'.out _).mono ?_); rintro e w' ⟨rfl, rfl⟩)) | (go_at_call 48; ((with_reducible refine (w4'.out _).mono ?_); rintro e w' ⟨rfl, rfl⟩)))
          go_ret
          exact ⟨by rw [hmiss'.out (by rw [hrd'.out]; simp; omega)]; rfl, hbE'.out⟩
         by_cases t2 : p.rds[k].hi < p.rds[k].lo
         ·go_wp2_with (first | (go_at_call 48; ((with_reducible refine (w3'.out _).mono ?_); rintro e w' ⟨rfl, rfl⟩)) | (go_at_call 48; ((with_reducible refine (w4'.out _).mono ?_); rintro e w' ⟨rfl, rfl⟩)))
          go_ret
          exact ⟨by rw [hmiss'.out (by rw [hrd'.out]; simp; omega)]; rfl, hbE'.out⟩
         by_cases t3 : 300000 < p.rds[k].hi
         ·go_wp2_with (first | (go_at_call 48; ((with_reducible refine (w3'.out _).mono ?_); rintro e w' ⟨rfl, rfl⟩)) | (go_at_call 48; ((with_reducible refine (w4'.out _).mono ?_); rintro e w' ⟨rfl, rfl⟩)))
          go_ret
          exact ⟨by rw [hmiss'.out (by rw [hrd'.out]; simp; omega)]; rfl, hbE'.out⟩
         have hgood : rdB p.steps p.rds[k] = true := by rw [hrd'.out]; simp; omega
         have hgood' := hyd1 hgood
         clear hgood
         go_wp2_with (first | (go_at_call 48; ((with_reducible refine (w3'.out _).mono ?_); rintro e w' ⟨rfl, rfl⟩)) | (go_at_call 48; ((with_reducible refine (w4'.out _).mono ?_); rintro e w' ⟨rfl, rfl⟩)))
         go_roundw
         case rel => exact ⟨k + 1, by omega, by go_num, Lib.hid ⟨hbN'.out, fun i hi hik => by
          by_cases e : i = k
          ·subst e; exact hgood'.out
          ·exact hok'.out i hi (by omega)⟩⟩
         case measure => simp [intOf]; omega
      ·obtain rfl : k = p.rds.length := by omega
       have hall2 : p.rds.all (rdB p.steps) = true := all_upto fun i hi => hok i hi hi
       have hbE2 := bel_set hbE'.out hbq
       have ⟨hJ', hbq', hok', hall2', hbE2'⟩ := hyd5 hJ hbq hok hall2 hbE2
       clear hbE2 hall2 hok hbq hJ
       go_wp2
       go_ret
       exact ⟨by rw [hset'.out _ hyes'.out, hall2'.out]; rfl, hbE2'.out⟩
theorem pf_rd_Check (v : Value) (p : Pic) (w : World) (hp : IsPic w v p) (hf : p.Fit) : Calls Tryz.prog 19 #[v] w fun e w' => e = .returned (.int .i64 (picE p)) ∧ Below w.heap.size w w' := by
 have hp0 := hp
 obtain ⟨vh, vr, rfl, hh, hr⟩ := hp
 obtain ⟨W0, hW0, hb0, k0⟩ := newb w (.cells #[vh, .int .i64 p.tl, .int .i64 p.th, .int .i64 p.al, .int .i64 p.ah, vr] 25)
 obtain ⟨HA, hc, rfl, -⟩ := hh.slice
 obtain ⟨RA, rc, rfl, -⟩ := hr.slice
 obtain ⟨c0, c1, c2, c3, c4, c5⟩ := pc6 k0
 have hv := pf_rd_valid _ p W0 (hp0.le hb0) hf
 obtain ⟨B, hB⟩ : ∃ B, picB p = B := ⟨_, rfl⟩
 have hE : picE p = if B then 0 else 90 := by unfold picE; rw [hB]
 rw [hB] at hv
 rw [hE]
 have ⟨hp0', hh', hr', hf', k0', hb0', hB', hE'⟩ := hyd8 hp0 hh hr hf k0 hb0 hB hE
 have hv' := hyd1 hv
 clear hv hE hB hb0 k0 hf hr hh hp0
 go_enter Tryz.func19, Tryz.ntmps19
 go_wp2_with (fail)
 go_at_call 44
 refine hv'.out.mono ?_
 rintro e W1 ⟨rfl, hb1⟩
 have hbE := bel_set hb0'.out hb1
 have ⟨hb1', hbE'⟩ := hyd2 hb1 hbE
 clear hbE hb1
 cases B with
 | true =>
  go_wp2
  go_ret
  exact ⟨rfl, hbE'.out⟩
 | false =>
  go_wp2
  go_ret
  exact ⟨rfl, hbE'.out⟩
end Go.Proofs.YtphdalgaemefoaaGreat
