/- The law PatternPhases: its walk. -/
import Derived.Test.YtnboppombhibbaaAlive
import Derived.Test.YtnboppombhibbaaFitLaw
import Derived.Test.YtnboppombhibbaaL4Then
namespace Go.Proofs.Ytnboppombhibbaa
open Go.RowKit Go.Lib
set_option linter.unusedVariables false
set_option linter.unusedSimpArgs false
attribute [local go_sem] Oper.semAt_some
attribute [local go_sem ↓] Go.wp_at_zero Go.wp_at_succ
set_option maxRecDepth 100000 in
set_option maxHeartbeats 4000000 in
theorem walk_PatternPhases (p : Prog) (vp : Value) (fr : Int) (n : Nat) (w : World) (hvp : IsProg w vp p) (hfr : -32768 ≤ fr ∧ fr ≤ 32767) (hnn : n ≤ 255) :
    Calls Try.prog 12 #[vp, .int .i16 fr, .int .u8 n] w fun e w' => e = .returned (.bool true) ∧ Below w.heap.size w w' := by
  have hp0 := Lib.hid hvp
  obtain ⟨A0, c0, A1, c1, A5, c5, rfl⟩ := hvp.open
  have hsh0 : Ints w (.slice A5 p.shifts.length c5) p.shifts := by
    obtain ⟨v0, v1, v5, he, -, -, h5⟩ := hvp
    injection he with he
    injection he with he
    simp only [List.cons.injEq, and_true] at he
    rw [he.2.2.2.2.2]
    exact h5
  have hsh := Lib.hid hsh0
  clear hvp hsh0
  have hbx0 := Box.start w (.cells #[.slice A0 p.ros.length c0, .slice A1 p.rub.length c1, .int .i64 p.start, .int .i64 p.throw, .int .i64 p.adv, .slice A5 p.shifts.length c5] 24)
  obtain ⟨G, hG⟩ : ∃ G, greatB p = G := ⟨_, rfl⟩
  by_cases hbig : G = true ∨ 4000 < fr ∨ fr < -4000 ∨ 150 < n
  · have hcase : G = true ∨ (G = false ∧ 4000 < fr) ∨ (G = false ∧ ¬ 4000 < fr ∧ fr < -4000) ∨ (G = false ∧ ¬ 4000 < fr ∧ ¬ fr < -4000 ∧ 150 < (n : Int)) := by
      cases G
      · by_cases h : 4000 < fr
        · exact .inr (.inl ⟨rfl, h⟩)
        · by_cases h2 : fr < -4000
          · exact .inr (.inr (.inl ⟨rfl, h, h2⟩))
          · rcases hbig with h1 | h1 | h1 | h1
            · cases h1
            · exact absurd h1 h
            · exact absurd h1 h2
            · exact .inr (.inr (.inr ⟨rfl, h, h2, by omega⟩))
      · exact .inl rfl
    clear hbig
    rcases hcase with rfl | ⟨rfl, h1⟩ | ⟨rfl, h1, h2⟩ | ⟨rfl, h1, h2, h3⟩
    all_goals
      have hG' := Lib.hid hG
      clear hG
      go_enter Try.func12, Try.ntmps12
      go_wp2_with (first | (go_at_call 37; ((with_reducible refine (pf_alive _).mono ?_); rintro e w' ⟨rfl, hb⟩; have hbx1 := hbx0.next hb; clear hb hbx0; obtain ⟨p0, p1, p2, p3, p4, p5⟩ := hbx1.prog)) | (go_at_call 14; ((with_reducible refine (pf_r4_Great _ p _ (hp0.out.below hbx1.below)).mono ?_); rintro e w' ⟨rfl, hb⟩; rw [hG'.out]; have hbx2 := hbx1.next hb; clear hb hbx1 p0 p1 p2 p3 p4 p5)))
      go_ret
      exact ⟨rfl, hbx2.below⟩
  · have hGf : G = false := by cases G <;> simp_all
    subst hGf
    have hj1 : ¬ 4000 < fr := fun h => hbig (.inr (.inl h))
    have hj2 : ¬ fr < -4000 := fun h => hbig (.inr (.inr (.inl h)))
    have hj3 : n ≤ 150 := by omega
    have hj4 : ¬ (150 : Int) < (n : Int) := by omega
    clear hbig
    by_cases hE : progE p = 0
    · have hbf := benchFacts hE
      have kph : ∀ (a : Int) (k : Nat) W V, -5000 ≤ a ∧ a ≤ 5000 → k ≤ 200 → IsProg W V p → Calls Try.prog 18 #[V, .int .i64 a, .int .i64 k] W fun e w' => ∃ v', e = .returned (.tuple #[v', .int .i64 0]) ∧ Below W.heap.size W w' ∧ Ints w' v' (phasesL p a k) := fun a k W V ha hk h => (pf_pat_Phases_ok V p a k W h hE (within_iff.2 ha) (within_iff.2 (by omega))).mono (by rintro e w' ⟨v', h1, h2, h3⟩; exact ⟨v', h1, h2, own_ints h3⟩)
      have kfit : ∀ W V, Ints W V (phasesL p fr n) → Calls Try.prog 48 #[V, .int .i64 p.ros.length] W fun e w' => ∃ v', e = .returned (.tuple #[v', .int .i64 (fitE (phasesL p fr n) p.ros.length)]) ∧ Below W.heap.size W w' ∧ Ints w' v' (fitL (phasesL p fr n) p.ros.length) := fun W V h => (pf_pat_Fit V _ _ W h).mono (by rintro e w' ⟨v', h1, h2, h3⟩; exact ⟨v', h1, h2, own_ints h3⟩)
      have hro0 := hbf.ros0
      have hro1 := hbf.ros1
      have hs0 := hbf.sh0
      have hs1 := hbf.sh1
      have hsm : ∀ i (h : i < p.shifts.length), 0 ≤ p.shifts[i] ∧ p.shifts[i] < p.ros.length := hbf.sh
      have hpr : ∀ j, 0 ≤ phaseI p j ∧ phaseI p j < p.ros.length := phase_range hbf
      have hps : ∀ j : Int, (phaseI p j + shAt p j).tmod p.ros.length = phaseI p (j + 1) := fun j => by
        have h1 := hpr j
        have h2 := shAt_mem hbf.sh0 j
        obtain ⟨i, hi, he⟩ := List.mem_iff_getElem.1 h2
        have h3 := hsm i hi
        rw [Int.tmod_eq_emod_of_nonneg (by omega), phase_succ hbf.sh0]
      have hlaw := phases_fit hbf fr n
      have hshort : n < 2 → fitE (phasesL p fr n) p.ros.length = 2 := fun h => by
        unfold fitE fitArg
        rw [phasesL_length, if_neg (by omega)]
        simp [show ¬ 2 ≤ n by omega]
      have hAl := phasesL_length p fr n
      have hAg : ∀ j (h : j < (phasesL p fr n).length), (phasesL p fr n)[j] = phaseI p (fr + j) := fun j h => by
        have h1 := phasesL_get p fr n j (by omega)
        rwa [List.getD_eq_getElem?_getD, List.getElem?_eq_getElem h, Option.getD_some] at h1
      have hG' := Lib.hid hG
      have hsm' := Lib.hid hsm
      have hpr' := Lib.hid hpr
      have hps' := Lib.hid hps
      have hlaw' := Lib.hid hlaw
      have hshort' := Lib.hid hshort
      have hAl' := Lib.hid hAl
      have hAg' := Lib.hid hAg
      have kph' := Lib.hid kph
      have kfit' := Lib.hid kfit
      have hbf' := Lib.hid hbf
      clear hbf kfit kph hAg hAl hshort hlaw hps hpr hsm hG
      go_enter Try.func12, Try.ntmps12
      go_upto_region 7 with (first | (go_at_call 37; (with_reducible refine (pf_alive _).mono ?_); rintro e w' ⟨rfl, hb⟩; have hbx1 := hbx0.next hb; clear hb hbx0; obtain ⟨p0, p1, p2, p3, p4, p5⟩ := hbx1.prog) | (go_at_call 14; (with_reducible refine (pf_r4_Great _ p _ (hp0.out.below hbx1.below)).mono ?_); rintro e w' ⟨rfl, hb⟩; rw [hG'.out]; have hbx2 := hbx1.next hb; clear hb hbx1 p0 p1 p2 p3 p4 p5; obtain ⟨p0, p1, p2, p3, p4, p5⟩ := hbx2.prog) | (go_at_call 18; (with_reducible refine (kph'.out fr n _ _ (by omega) (by omega) (hp0.out.below hbx2.below)).mono ?_); rintro e w' ⟨va, rfl, hb, hi⟩; have hA := Lib.hid hi; have hbx3 := hbx2.next hb; clear hb hi hbx2 p0 p1 p2 p3 p4 p5; obtain ⟨p0, p1, p2, p3, p4, p5⟩ := hbx3.prog))
      obtain ⟨Aa, ca, rfl, -⟩ := id hA.out
      rw [hAl'.out]
      go_quiet (fail)
      have hbq := Lib.hid (hbx3.drewN nq)
      have hAq : Hid (Ints (w'.drewN nq) (.slice Aa n ca) (phasesL p fr n)) := by have h := hA.out; rw [hAl'.out] at h; exact h
      clear hbx3 hA p0 p1 p2 p3 p4 p5
      generalize w'.drewN nq = W0 at hbq hAq ⊢
      go_wp2
      go_loopw [68] (fun j wr => ∃ k : Nat, k ≤ n ∧ j = .int .i64 k ∧ Hid (Below W0.heap.size W0 wr)) (fun j _ => n - (intOf j).toNat)
      case atStart => exact ⟨0, Nat.zero_le _, rfl, Lib.hid (Below.refl _ _)⟩
      case round =>
        obtain ⟨k, hk, rfl, hbw⟩ := hrel
        by_cases hlt : k < n
        · obtain ⟨la, lo, ca2, heq, hla, -, -, hca⟩ := Ints.cells hAq.out (by rw [hAl'.out]; omega)
          injection heq with a1 a2 a3
          subst a1 a3
          clear a2
          obtain ⟨ls, lp, cs2, heq, hls, -, -, hcs⟩ := Ints.cells hsh.out (by omega)
          injection heq with a1 a2 a3
          subst a1 a3
          clear a2
          have hbx := hbq.out.next hbw.out
          have cA : ∀ i, i < n → wr.cell? ⟨la, lo + i, none⟩ = some (.int .i64 (phaseI p (fr + i))) := fun i hi => by
            have h1 := hca i (by rw [hAl'.out]; exact hi)
            rw [hAg'.out] at h1
            exact (hbw.out.cell (p := ⟨la, lo + i, none⟩) hla).trans h1
          have hr0 := Int.emod_nonneg (fr + (k : Int)) (show (p.shifts.length : Int) ≠ 0 by omega)
          have hr1 := Int.emod_lt_of_pos (fr + (k : Int)) (show (0 : Int) < (p.shifts.length : Int) by omega)
          obtain ⟨r, hr⟩ : ∃ r : Nat, (fr + (k : Int)) % (p.shifts.length : Int) = (r : Int) := ⟨_, (Int.toNat_of_nonneg hr0).symm⟩
          have hrl : r < p.shifts.length := by omega
          have hni : (0 : Int) < (p.shifts.length : Int) := by omega
          have hnz : ¬ (p.shifts.length : Int) = 0 := by omega
          obtain ⟨t, ht⟩ : ∃ t, (fr + (k : Int)).tmod (p.shifts.length : Int) = t := ⟨_, rfl⟩
          obtain ⟨f1, f2, -, -⟩ := tmod_facts (fr + (k : Int)) (p.shifts.length : Int) hni
          rw [ht] at f1 f2
          have e1 : (t + (p.shifts.length : Int)).tmod (p.shifts.length : Int) = (r : Int) := (tmod_twice _ _ t hni ht).trans hr
          have w1 : IntKind.i64.wrap (fr + (k : Int)) = fr + (k : Int) := IntWalk.i64_in _ (by omega)
          have w2 : IntKind.i64.wrap (t + (p.shifts.length : Int)) = t + (p.shifts.length : Int) := IntWalk.i64_in _ (by omega)
          have hsr : shAt p (fr + k) = p.shifts[r] := by
            unfold shAt
            rw [hr, Int.toNat_natCast]
            simp [hrl]
          have cS : wr.cell? ⟨ls, lp + r, none⟩ = some (.int .i64 (p.shifts[r])) := (hbx.below.cell (p := ⟨ls, lp + r, none⟩) hls).trans (hcs r hrl)
          have hsb := hsm'.out r hrl
          have hstep := hps'.out (fr + k)
          rw [hsr] at hstep
          generalize p.shifts[r] = s at cS hsb hstep
          have hxb := hpr'.out (fr + k)
          have cX := cA k hlt
          obtain ⟨x, hx⟩ : ∃ x, phaseI p (fr + k) = x := ⟨_, rfl⟩
          rw [hx] at hstep hxb cX
          have w3 : IntKind.i64.wrap (x + s) = x + s := IntWalk.i64_in _ (by omega)
          have hrz : ¬ (p.ros.length : Int) = 0 := by omega
          have i1 : (0 : Int) ≤ (r : Int) := by omega
          have i2 : (r : Int) < (p.shifts.length : Int) := by omega
          have i3 : (0 : Int) ≤ (k : Int) := by omega
          have i4 : (k : Int) < (n : Int) := by omega
          have w4 : IntKind.i64.wrap ((k : Int) + 1) = ((k + 1 : Nat) : Int) := by rw [IntWalk.i64_in _ (by omega)]; simp
          obtain ⟨k1, hk1⟩ : ∃ k1 : Nat, k + 1 = k1 := ⟨_, rfl⟩
          rw [hk1] at w4
          obtain ⟨p0, p1, p2, p3, p4, p5⟩ := hbx.prog
          have hbx' := Lib.hid hbx
          have hfin : ∀ W : World, Hid (Below W0.heap.size W0 W) → True := fun _ _ => trivial
          have cAl : ∀ i, i < n → W0.cell? ⟨la, lo + i, none⟩ = some (.int .i64 (phaseI p (fr + i))) := fun i hi => by
            have h1 := hca i (by rw [hAl'.out]; exact hi)
            rwa [hAg'.out] at h1
          clear hbx hcs hca hr0 hr1 f1 f2 hfin
          have hl1 : phasesL p (fr + k) 1 = [x] := by
            unfold phasesL
            simp [hx]
          have hone : ∀ W V, IsProg W V p → Calls Try.prog 18 #[V, .int .i64 (fr + k), .int .i64 1] W fun e w' => ∃ v', e = .returned (.tuple #[v', .int .i64 0]) ∧ Below W.heap.size W w' ∧ Ints w' v' [x] := fun W V h => by
            have h1 := kph'.out (fr + k) 1 W V (by omega) (by omega) h
            rw [hl1] at h1
            exact h1
          clear hl1
          by_cases hlast : k1 < n
          · have cY := cA k1 hlast
            have hstep2 : (x + s).tmod (p.ros.length : Int) = phaseI p (fr + k1) := by rw [hstep, ← hk1]; congr 1; omega
            generalize phaseI p (fr + k1) = y at cY hstep2
            have i5 : (k1 : Int) < (n : Int) := by omega
            have i6 : (0 : Int) ≤ (k1 : Int) := by omega
            have cA' := Lib.hid cA
            have cAl' := Lib.hid cAl
            have hr' := Lib.hid hr
            have hsr' := Lib.hid hsr
            have hx' := Lib.hid hx
            have hk1' := Lib.hid hk1
            have hstep' := Lib.hid hstep
            have hone' := Lib.hid hone
            clear hone hstep hk1 hx hsr hr cAl cA
            go_upto_region 12 with (fail)
            go_quiet (fail)
            have hbd := Lib.hid (hbx'.out.drewN nq)
            have hbwd : Hid (Below W0.heap.size W0 (wr.drewN nq)) := Lib.hid (below_drewN' hbw.out nq)
            clear p0 p1 p2 p3 p4 p5 cX cS hbw hbx' cA'
            generalize wr.drewN nq = W1 at hbd hbwd ⊢
            obtain ⟨p0, p1, p2, p3, p4, p5⟩ := hbd.out.prog
            go_upto_region 15 with (first | (go_at_call 18; (with_reducible refine (hone'.out _ _ (hp0.out.below hbd.out.below)).mono ?_); rintro e w' ⟨v1, rfl, hb, hi⟩; have hi' := Lib.hid hi; have hbe := Lib.hid (hbwd.out.trans (hb.mono hbwd.out.size)); clear hi hb hbd hbwd))
            clear p0 p1 p2 p3 p4 p5
            obtain ⟨lb, lob, cb, rfl, -, -, -, hcb⟩ := Ints.cells hi'.out (by simp)
            have cO : w'.cell? ⟨lb, lob, none⟩ = some (.int .i64 x) := by have h := hcb 0 (by simp); simpa using h
            have cX : w'.cell? ⟨la, lo + k, none⟩ = some (.int .i64 x) := by
              have h1 := cAl'.out k hlt
              rw [hx'.out] at h1
              exact (hbe.out.cell (p := ⟨la, lo + k, none⟩) hla).trans h1
            clear hcb
            go_quiet (fail)
            go_wp2
            go_roundw
            case rel => exact ⟨k1, by have := hk1'.out; omega, by have := hk1'.out; go_num, Lib.hid (below_drewN' hbe.out _)⟩
            case measure => have := hk1'.out; simp [intOf]; omega
          · have i5 : ¬ (k1 : Int) < (n : Int) := by omega
            have cA' := Lib.hid cA
            have cAl' := Lib.hid cAl
            have hr' := Lib.hid hr
            have hsr' := Lib.hid hsr
            have hx' := Lib.hid hx
            have hk1' := Lib.hid hk1
            have hstep' := Lib.hid hstep
            have hone' := Lib.hid hone
            clear hone hstep hk1 hx hsr hr cAl cA
            go_upto_region 12 with (fail)
            go_quiet (fail)
            have hbd := Lib.hid (hbx'.out.drewN nq)
            have hbwd : Hid (Below W0.heap.size W0 (wr.drewN nq)) := Lib.hid (below_drewN' hbw.out nq)
            clear p0 p1 p2 p3 p4 p5 cX cS hbw hbx' cA'
            generalize wr.drewN nq = W1 at hbd hbwd ⊢
            obtain ⟨p0, p1, p2, p3, p4, p5⟩ := hbd.out.prog
            go_upto_region 15 with (first | (go_at_call 18; (with_reducible refine (hone'.out _ _ (hp0.out.below hbd.out.below)).mono ?_); rintro e w' ⟨v1, rfl, hb, hi⟩; have hi' := Lib.hid hi; have hbe := Lib.hid (hbwd.out.trans (hb.mono hbwd.out.size)); clear hi hb hbd hbwd))
            clear p0 p1 p2 p3 p4 p5
            obtain ⟨lb, lob, cb, rfl, -, -, -, hcb⟩ := Ints.cells hi'.out (by simp)
            have cO : w'.cell? ⟨lb, lob, none⟩ = some (.int .i64 x) := by have h := hcb 0 (by simp); simpa using h
            have cX : w'.cell? ⟨la, lo + k, none⟩ = some (.int .i64 x) := by
              have h1 := cAl'.out k hlt
              rw [hx'.out] at h1
              exact (hbe.out.cell (p := ⟨la, lo + k, none⟩) hla).trans h1
            clear hcb
            go_quiet (fail)
            go_wp2
            go_roundw
            case rel => exact ⟨k1, by have := hk1'.out; omega, by have := hk1'.out; go_num, Lib.hid (below_drewN' hbe.out _)⟩
            case measure => have := hk1'.out; simp [intOf]; omega
        · obtain rfl : n = k := by omega
          obtain ⟨E1, hE1⟩ : ∃ E, fitE (phasesL p fr n) p.ros.length = E := ⟨_, rfl⟩
          obtain ⟨S, hS⟩ : ∃ S, fitL (phasesL p fr n) p.ros.length = S := ⟨_, rfl⟩
          have hfit := kfit'.out wr (.slice Aa n ca) (by have h := hAq.out.below hbw.out; exact h)
          have hlw := hlaw'.out
          have hsho := hshort'.out
          rw [hE1, hS] at hfit hlw
          rw [hE1] at hsho
          clear kph' kfit' hlaw' hshort'
          have hnI : ((n : Int) == (n : Int)) = true := by simp
          by_cases hn2 : n < 2
          · obtain rfl : E1 = 2 := hsho hn2
            have hfit' := Lib.hid hfit
            have hlw' := Lib.hid hlw
            have hE1' := Lib.hid hE1
            have hS' := Lib.hid hS
            have hsho' := Lib.hid hsho
            clear hsho hS hE1 hlw hfit
            go_wp2_with (first | (go_at_call 48; ((with_reducible refine (hfit'.out).mono ?_); rintro e w' ⟨v1, rfl, hb, -⟩)))
            go_ret
            exact ⟨rfl, (hbq.out.next (hbw.out.trans (hb.mono hbw.out.size))).below⟩
          · obtain ⟨rfl, hS1, hS2, hS3, hS4, hS5, hS6⟩ := hlw (by omega) (by omega)
            have hfit' := Lib.hid hfit
            have hE1' := Lib.hid hE1
            have hS' := Lib.hid hS
            have hsho' := Lib.hid hsho
            have hlw' := Lib.hid hlw
            have hS4' := Lib.hid hS4
            have hS5' := Lib.hid hS5
            have hS6' := Lib.hid hS6
            clear hS6 hS5 hS4 hlw hsho hS hE1 hfit
            go_upto_region 21 with (first | (go_at_call 48; (with_reducible refine (hfit'.out).mono ?_); rintro e w' ⟨v1, rfl, hb, hi⟩; have hSi := Lib.hid hi; have hbw2 := Lib.hid (hbw.out.trans (hb.mono hbw.out.size)); clear hi hb hbw))
            obtain ⟨la, lo, ca2, heq, hla, -, -, hca⟩ := Ints.cells hAq.out (by rw [hAl'.out]; omega)
            injection heq with a1 a2 a3
            subst a1 a3
            clear a2
            have cAl : ∀ i, i < n → W0.cell? ⟨la, lo + i, none⟩ = some (.int .i64 (phaseI p (fr + i))) := fun i hi => by
              have h1 := hca i (by rw [hAl'.out]; exact hi)
              rwa [hAg'.out] at h1
            obtain ⟨lS, oS, cS, rfl, hlS, -, -, hcS⟩ := Ints.cells hSi.out (by omega)
            have hcSg : ∀ i, i < S.length → w'.cell? ⟨lS, oS + i, none⟩ = some (.int .i64 (S.getD i 0)) := fun i hi => by
              rw [hcS i hi]
              simp [List.getElem?_eq_getElem hi]
            have hSr : ∀ i, i < S.length → 0 ≤ S.getD i 0 ∧ S.getD i 0 < p.ros.length := fun i hi => by
              have h1 := hS4'.out S[i] (List.getElem_mem hi)
              simpa [List.getElem?_eq_getElem hi] using h1
            obtain ⟨sl, hsl⟩ : ∃ sl, S.length = sl := ⟨_, rfl⟩
            rw [hsl] at hS1 hS2 hS3 hcSg hSr ⊢
            have hS5 := hS5'.out
            have hS6 := hS6'.out
            rw [hsl] at hS5 hS6
            obtain ⟨N1, hN1⟩ : ∃ N1, n - 1 = N1 := ⟨_, rfl⟩
            rw [hN1] at hS3 hS6
            have wN : IntKind.i64.wrap ((n : Int) - 1) = (N1 : Int) := by rw [IntWalk.i64_in _ (by omega)]; omega
            have hq1 : ¬ sl < 1 := by omega
            have hq2 : ¬ (sl : Int) < 1 := by omega
            have hq3 : ¬ p.shifts.length < sl := by omega
            have hq4 : ¬ N1 < sl := by omega
            have hbL := Lib.hid (hbq.out.next hbw2.out)
            have cA : ∀ i, i < n → ∀ W, Below w'.heap.size w' W → W.cell? ⟨la, lo + i, none⟩ = some (.int .i64 (phaseI p (fr + i))) := fun i hi W hW => (hW.cell (p := ⟨la, lo + i, none⟩) (Nat.lt_of_lt_of_le hla hbw2.out.size)).trans ((hbw2.out.cell (p := ⟨la, lo + i, none⟩) hla).trans (cAl i hi))
            have cSg : ∀ i, i < sl → ∀ W, Below w'.heap.size w' W → W.cell? ⟨lS, oS + i, none⟩ = some (.int .i64 (S.getD i 0)) := fun i hi W hW => (hW.cell (p := ⟨lS, oS + i, none⟩) hlS).trans (hcSg i hi)
            clear hcS hca cAl hcSg hlw' hS4' hS5' hS6' hSi hAq
            have hsl' := Lib.hid hsl
            have hS5' := Lib.hid hS5
            have hS6' := Lib.hid hS6
            have hSr' := Lib.hid hSr
            have cA' := Lib.hid cA
            have cSg' := Lib.hid cSg
            have hN1' := Lib.hid hN1
            clear hN1 cSg cA hSr hS6 hS5 hsl
            generalize w' = WL at hbL cA' cSg' ⊢
            have hN1b : 1 ≤ N1 ∧ N1 ≤ 149 := by have := hN1'.out; omega
            have hcmp : N1 < p.shifts.length ∨ p.shifts.length ≤ N1 := Nat.lt_or_ge _ _
            have hrz : ¬ (p.ros.length : Int) = 0 := by omega
            have hslz : ¬ (sl : Int) = 0 := by omega
            rcases hcmp with hcm | hcm
            all_goals
              go_wp2
              clear hq1 hq2 hq3 hq4
              go_loopw [174] (fun j wr => ∃ k : Nat, k ≤ N1 ∧ j = .int .i64 k ∧ Hid (Below WL.heap.size WL wr)) (fun j _ => N1 - (intOf j).toNat)
              case atStart => exact ⟨0, Nat.zero_le _, rfl, Lib.hid (Below.refl _ _)⟩
              case round =>
                obtain ⟨k, hk, rfl, hbw⟩ := hrel
                by_cases hlt : k < N1
                · have hkn : k + 1 < n := by have := hN1'.out; omega
                  obtain ⟨k1, hk1⟩ : ∃ k1 : Nat, k + 1 = k1 := ⟨_, rfl⟩
                  obtain ⟨q, hq⟩ : ∃ q : Nat, k % sl = q := ⟨_, rfl⟩
                  have hqs : q < sl := by rw [← hq]; exact Nat.mod_lt _ (by omega)
                  have cX := cA'.out k (by omega) _ hbw.out
                  have cY := cA'.out k1 (by omega) _ hbw.out
                  have cS := cSg'.out q hqs _ hbw.out
                  have hst := hS5'.out k hkn
                  rw [hk1, hq] at hst
                  have hxb := hpr'.out (fr + k)
                  have hsb := hSr'.out q hqs
                  generalize phaseI p (fr + k) = x at cX hst hxb
                  generalize phaseI p (fr + k1) = y at cY hst
                  generalize S.getD q 0 = z at cS hst hsb
                  have e1 : (k : Int).tmod (sl : Int) = (q : Int) := by rw [← hq]; rfl
                  have w3 : IntKind.i64.wrap (x + z) = x + z := IntWalk.i64_in _ (by omega)
                  have w4 : IntKind.i64.wrap ((k : Int) + 1) = (k1 : Int) := by rw [← hk1, IntWalk.i64_in _ (by omega)]; simp
                  have i1 : (0 : Int) ≤ (k : Int) := by omega
                  have i2 : (k : Int) < (n : Int) := by omega
                  have i3 : (0 : Int) ≤ (k1 : Int) := by omega
                  have i4 : (k1 : Int) < (n : Int) := by omega
                  have i5 : (0 : Int) ≤ (q : Int) := by omega
                  have i6 : (q : Int) < (sl : Int) := by omega
                  have hk1' := Lib.hid hk1
                  have hq' := Lib.hid hq
                  clear hq hk1
                  go_wp2
                  go_quiet (fail)
                  go_wp2
                  go_roundw
                  case rel => exact ⟨k1, by have := hk1'.out; omega, by have := hk1'.out; go_num, Lib.hid (below_drewN' hbw.out _)⟩
                  case measure => have := hk1'.out; simp [intOf]; omega
                · obtain rfl : N1 = k := by omega
                  go_wp2
                  go_loopw [19] (fun i wr => ∃ m : Nat, 1 ≤ m ∧ m ≤ sl ∧ i = .int .i64 m ∧ Hid (Below WL.heap.size WL wr)) (fun i _ => sl - (intOf i).toNat)
                  case atStart => exact ⟨1, Nat.le_refl _, hS1, rfl, hbw⟩
                  case round =>
                    clear hbw
                    obtain ⟨m, hm1, hm2, rfl, hbw⟩ := hrel
                    by_cases hml : m < sl
                    · have hmz : ¬ (m : Int) = 0 := by omega
                      have hdoes := hS6'.out m hm1 hml
                      obtain ⟨T, hT⟩ : ∃ T : Nat → Bool, T = (fun j : Nat => decide ((phaseI p (fr + j) + S.getD (j % m) 0).tmod p.ros.length = phaseI p (fr + (j + 1 : Nat)))) := ⟨_, rfl⟩
                      rw [← hT] at hdoes
                      have hT' := Lib.hid hT
                      have hdoes' := Lib.hid hdoes
                      clear hdoes hT
                      go_wp2
                      go_loopw [207, 20] (fun j d wr => ∃ k : Nat, k ≤ N1 ∧ j = .int .i64 k ∧ d = .bool (allB T k) ∧ Hid (Below WL.heap.size WL wr)) (fun j _ _ => N1 - (intOf j).toNat)
                      case atStart => exact ⟨0, Nat.zero_le _, rfl, rfl, hbw⟩
                      case round =>
                        clear hbw
                        obtain ⟨k, hk, rfl, rfl, hbw⟩ := hrel
                        by_cases hlt : k < N1
                        · have hsuc := allB_succ T k
                          have hTk : T k = decide ((phaseI p (fr + k) + S.getD (k % m) 0).tmod p.ros.length = phaseI p (fr + (k + 1 : Nat))) := by rw [hT'.out]
                          rw [hTk] at hsuc
                          generalize allB T k = D at hsuc ⊢
                          cases D with
                          | true =>
                            have hkn : k + 1 < n := by have := hN1'.out; omega
                            obtain ⟨k1, hk1⟩ : ∃ k1 : Nat, k + 1 = k1 := ⟨_, rfl⟩
                            obtain ⟨q, hq⟩ : ∃ q : Nat, k % m = q := ⟨_, rfl⟩
                            have hqs : q < m := by rw [← hq]; exact Nat.mod_lt _ (by omega)
                            have cX := cA'.out k (by omega) _ hbw.out
                            have cY := cA'.out k1 (by omega) _ hbw.out
                            have cS := cSg'.out q (by omega) _ hbw.out
                            rw [hq, hk1] at hsuc
                            have hxb := hpr'.out (fr + k)
                            have hsb := hSr'.out q (by omega)
                            generalize phaseI p (fr + k) = x at cX hsuc hxb
                            generalize phaseI p (fr + k1) = y at cY hsuc
                            generalize S.getD q 0 = z at cS hsuc hsb
                            have e1 : (k : Int).tmod (m : Int) = (q : Int) := by rw [← hq]; rfl
                            have w3 : IntKind.i64.wrap (x + z) = x + z := IntWalk.i64_in _ (by omega)
                            have w4 : IntKind.i64.wrap ((k : Int) + 1) = (k1 : Int) := by rw [← hk1, IntWalk.i64_in _ (by omega)]; simp
                            have i1 : (0 : Int) ≤ (k : Int) := by omega
                            have i2 : (k : Int) < (n : Int) := by omega
                            have i3 : (0 : Int) ≤ (k1 : Int) := by omega
                            have i4 : (k1 : Int) < (n : Int) := by omega
                            have i5 : (0 : Int) ≤ (q : Int) := by omega
                            have i6 : (q : Int) < (sl : Int) := by omega
                            rw [Int.tmod_eq_emod_of_nonneg (by omega)] at hsuc
                            have hk1' := Lib.hid hk1
                            have hq' := Lib.hid hq
                            have hsuc' := Lib.hid hsuc
                            have hTk' := Lib.hid hTk
                            clear hTk hsuc hq hk1
                            go_wp2
                            go_quiet (fail)
                            go_wp2
                            go_roundw
                            case rel => exact ⟨k1, by have := hk1'.out; omega, by have := hk1'.out; go_num, by rw [hsuc'.out]; rfl, Lib.hid (below_drewN' hbw.out _)⟩
                            case measure => have := hk1'.out; simp [intOf]; omega
                          | false =>
                            have hsuc' := Lib.hid hsuc
                            have hTk' := Lib.hid hTk
                            clear hTk hsuc
                            go_wp2
                            go_quiet (fail)
                            go_wp2
                            go_roundw
                            case rel => exact ⟨k + 1, by omega, by go_num, by rw [hsuc'.out]; rfl, Lib.hid (below_drewN' hbw.out _)⟩
                            case measure => simp [intOf]; omega
                        · obtain rfl : N1 = k := by omega
                          rw [hdoes'.out]
                          go_wp2
                          go_roundw
                          case rel => exact ⟨m + 1, by omega, by omega, by go_num, hbw⟩
                          case measure => simp [intOf]; omega
                    · obtain rfl : m = sl := by omega
                      go_wp2
                      go_ret
                      exact ⟨rfl, (hbL.out.next hbw.out).below⟩
    · obtain ⟨E, hEE⟩ : ∃ E, progE p = E := ⟨_, rfl⟩
      have hEz : (E != 0) = true := by rw [← hEE]; simpa using hE
      have hph : phasesE p fr n = E := by unfold phasesE; rw [if_pos hE, hEE]
      clear hE
      have hG' := Lib.hid hG
      have hEE' := Lib.hid hEE
      have hph' := Lib.hid hph
      clear hph hEE hG
      go_enter Try.func12, Try.ntmps12
      go_wp2_with (first | (go_at_call 37; ((with_reducible refine (pf_alive _).mono ?_); rintro e w' ⟨rfl, hb⟩; have hbx1 := hbx0.next hb; clear hb hbx0; obtain ⟨p0, p1, p2, p3, p4, p5⟩ := hbx1.prog)) | (go_at_call 14; ((with_reducible refine (pf_r4_Great _ p _ (hp0.out.below hbx1.below)).mono ?_); rintro e w' ⟨rfl, hb⟩; rw [hG'.out]; have hbx2 := hbx1.next hb; clear hb hbx1 p0 p1 p2 p3 p4 p5; obtain ⟨p0, p1, p2, p3, p4, p5⟩ := hbx2.prog)) | (go_at_call 18; ((with_reducible refine (pf_pat_Phases _ p fr n _ (hp0.out.below hbx2.below) E hph'.out).mono ?_); rintro e w' ⟨va, rfl, hb, -⟩; have hbx3 := hbx2.next hb; clear hb hbx2 p0 p1 p2 p3 p4 p5; obtain ⟨p0, p1, p2, p3, p4, p5⟩ := hbx3.prog)) | (go_at_call 22; ((with_reducible refine (pf_pat_Check _ p _ (hp0.out.below hbx3.below) E hEE'.out).mono ?_); rintro e w' ⟨rfl, hb⟩)))
      go_ret
      exact ⟨rfl, (hbx3.next hb).below⟩
theorem law_PatternPhases (a0 : Prog) (x0 : Value) (a1 a2 : Int) (w : World) (w0 : IsProg w x0 a0 ∧ a0.fits) (w1 : (Lit.int .i16 a1).wf = true) (w2 : (Lit.int .u8 a2).wf = true) :
    Calls Try.prog 12 #[x0, .int .i16 a1, .int .u8 a2] w fun e w' => e = .returned (.bool true) ∧ Below w.heap.size w w' := by
  have h1' : IntKind.i16.min ≤ a1 ∧ a1 ≤ IntKind.i16.max := by simpa [Lit.wf] using w1
  have h2' : IntKind.u8.min ≤ a2 ∧ a2 ≤ IntKind.u8.max := by simpa [Lit.wf] using w2
  have h1 : -32768 ≤ a1 ∧ a1 ≤ 32767 := h1'
  have h2 : 0 ≤ a2 ∧ a2 ≤ 255 := h2'
  obtain ⟨sn, rfl⟩ : ∃ sn : Nat, a2 = sn := ⟨a2.toNat, by omega⟩
  exact walk_PatternPhases a0 x0 a1 sn w w0.1 h1 (by omega)
end Go.Proofs.Ytnboppombhibbaa
