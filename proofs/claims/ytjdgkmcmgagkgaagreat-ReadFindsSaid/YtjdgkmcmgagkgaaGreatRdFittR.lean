/- The reference's Fitting: the walk. -/
import Derived.Test.YtjdgkmcmgagkgaaGreatFindLaw
import Derived.Test.YtjdgkmcmgagkgaaGreatRdFitsW
namespace Go.Proofs.YtjdgkmcmgagkgaaGreat
set_option maxRecDepth 100000
set_option maxHeartbeats 2000000
open Go.RowKit
set_option linter.unusedVariables false
set_option linter.unusedSimpArgs false
theorem pf_r9_Fitting (v : Value) (p : Pic) (m : Nat) (throw adv : Int) (w : World) (hp : IsPic w v p) (hok : PicM p) (hm : m < p.hs.length) (ht : 0 ≤ throw ∧ throw ≤ 16) (ha : -1000 ≤ adv ∧ adv ≤ 1000) (hst : p.steps ≤ 24) :
  Calls Tryz.prog 59 #[v, .int .i64 (m : Int), .int .i64 throw, .int .i64 adv] w fun e w' => ∃ v', e = .returned v' ∧ Below w.heap.size w w' ∧ SpnL w' v' (fitL p.rds (p.lift m) throw adv) := by
 have hp9 := hp
 obtain ⟨vh, vr, rfl, hh, hr⟩ := hp
 obtain ⟨HA, hc, rfl, -⟩ := hh.slice
 obtain ⟨RA, rc, rfl, -⟩ := hr.slice
 obtain ⟨W0, hW0, hb0, k0⟩ := newb w (.cells #[.slice HA p.hs.length hc, .int .i64 p.tl, .int .i64 p.th, .int .i64 p.al, .int .i64 p.ah, .slice RA p.rds.length rc] 25)
 obtain ⟨bh, oh, ch, vr0, vb0, heq, hbl, g0, g1, i0, i1⟩ := (hh.le hb0).at hm
 injection heq with e1 e2 e3
 subst e1 e3
 clear e2
 obtain ⟨Ar, cr, rfl, -⟩ := id i0
 obtain ⟨Ab, cb, rfl, -⟩ := id i1
 obtain ⟨c0, c1, c2, c3, c4, c5⟩ := pc6 k0
 have hhd := hok.head _ (List.getElem_mem hm)
 have hro : ∀ r ∈ p.rds, RdOk p.steps r := hok.rd
 obtain ⟨lift, hlift⟩ : ∃ l, liftL p.hs[m].ros p.hs[m].rub = l := ⟨_, rfl⟩
 have hlp : p.lift m = lift := by unfold Pic.lift; rw [List.getD_eq_getElem?_getD, List.getElem?_eq_getElem hm]; exact hlift
 have hll : lift.length = p.steps := by rw [← hlift, liftL_length]; exact hhd.1
 have hrub : rubOk p.hs[m].rub p.hs[m].ros.length = true := by rw [hhd.1]; exact hhd.2.2
 have hlo : rosOk lift = true := by rw [← hlift]; exact lift_ok hhd.2.1 hrub
 have h24 : lift.length ≤ 24 := by omega
 have klift : ∀ W, Below W0.heap.size W0 W → Calls Tryz.prog 82 #[.slice Ar p.hs[m].ros.length cr, .slice Ab p.hs[m].rub.length cb] W fun e w' => ∃ v', e = .returned v' ∧ Below W.heap.size W w' ∧ w'.ownsRow W.heap.size 3 1 v' lift.length (lift.map vint) := fun W h => by
  have := pf_Lifted _ _ _ _ W (i0.below h) (i1.below h) hhd.2.1 hrub
  rwa [hlift] at this
 rw [hlp]
 have hro2 : ∀ r ∈ p.rds, RdOk lift.length r := by rw [hll]; exact hro
 have j1 : (m : Int) < (p.hs.length : Int) := by omega
 have j2 : (0 : Int) ≤ (m : Int) := by omega
 generalize hRL : p.hs[m].ros.length = RL at g0 klift
 generalize hBL : p.hs[m].rub.length = BL at g1 klift
 obtain ⟨z, hz⟩ : ∃ n, p.hs.length = n := ⟨_, rfl⟩
 have f1 : ∀ c, c ≤ 12 → Nm (fitGo p.rds lift throw adv c) ∧ SpB (fitGo p.rds lift throw adv c) ∧ (fitGo p.rds lift throw adv c).length ≤ 400 := fun c h => by
  obtain ⟨a, b, d⟩ := fitGo_facts hro2 hlo ht ha c h
  have : c * lift.length ≤ 12 * 24 := Nat.mul_le_mul h h24
  exact ⟨a, b, by omega⟩
 have f2 : ∀ c, c ≤ 11 → ∀ k, Nm (cutsF p.rds lift throw adv c k) ∧ SpB (cutsF p.rds lift throw adv c k) ∧ (cutsF p.rds lift throw adv c k).length ≤ k := fun c h k => cutsF_facts hro2 hlo ht ha h k
 have f3 : ∀ c : Nat, c ≤ 11 → ∀ ph, SpB [startS p.rds lift throw adv (c : Int) ph] := fun c h ph => startS_spb hro2 hlo ht ha h ph
 have ⟨hp9', hh', hr', hok', hb0', k0', i0', i1'⟩ := hyd8 hp9 hh hr hok hb0 k0 i0 i1
 have ⟨hhd', hro', hro2', hlift', hlp', hrub', hlo', klift'⟩ := hyd8 hhd hro hro2 hlift hlp hrub hlo klift
 have ⟨hRL', hBL', hll', hst', f1', f2', f3', hz'⟩ := hyd8 hRL hBL hll hst f1 f2 f3 hz
 clear hz f3 f2 f1 hst hll hBL hRL klift hlo hrub hlp hlift hro2 hro hhd i1 i0 k0 hb0 hok hr hh hp9
 go_enter Tryz.func59, Tryz.ntmps59
 go_wp2_with (fail)
 clear hW0
 go_still_tail 12, (by kernel_rfl)
 change wpList _ _ _ _ _ W0.drew
 have hbd : Below W0.heap.size W0 W0.drew := below_drewN' (Below.refl _ _) 1
 clear c0 c1 c2 c3 c4 c5 g0 g1
 generalize hW3 : W0.drew = W3 at hbd ⊢
 clear hW3
 go_wp2_with (fail)
 go_at_call 82
 refine (klift'.out W3 hbd).mono ?_
 rintro e W4 ⟨vl, rfl, hb4, hol⟩
 have hb04 := bel_set hbd hb4
 have hbw4 := bel_set hb0'.out hb04
 have k4 := blk hb04 k0'.out
 have hil := own_ints hol
 obtain ⟨LA, lc, rfl, -⟩ := id hil
 have ⟨hbd', hb4', hol', hb04', hbw4', k4', hil'⟩ := hyd7 hbd hb4 hol hb04 hbw4 k4 hil
 clear hil k4 hbw4 hb04 hol hb4 hbd
 go_wp2_with (fail)
 go_at_call 83
 refine (pf_r9_whole W4).mono ?_
 rintro e W5 ⟨vo, rfl, hb5, hs5⟩
 have hbw5 := bel_set hbw4'.out hb5
 have k5 := blk hb5 k4'.out
 have hil5 := hil'.out.below hb5
 have hp5 := hp9'.out.le hbw5
 have hI0 : Below W5.heap.size W5 W5 ∧ SpnL W5 vo (fitGo p.rds lift throw adv 0) := ⟨Below.refl _ _, hs5⟩
 have ⟨hb5', hs5', hbw5', k5', hil5', hp5', hI0'⟩ := hyd7 hb5 hs5 hbw5 k5 hil5 hp5 hI0
 clear hI0 hp5 hil5 k5 hbw5 hs5 hb5
 go_wp2_with (fail)
 go_loopw [11, 10] (fun cx vo wr => ∃ c : Nat, c ≤ 12 ∧ cx = .int .i64 (c : Int) ∧ Hid (Below W5.heap.size W5 wr ∧ SpnL wr vo (fitGo p.rds lift throw adv c))) (fun cx _ _ => 13 - (intOf cx).toNat)
 case atStart => exact ⟨0, by omega, rfl, hI0'⟩
 case round =>
  obtain ⟨c, hc12, rfl, hI⟩ := hrel
  obtain ⟨hbr, hso⟩ := hI.out
  obtain ⟨OA, oc, rfl, -⟩ := id hso.slice
  have hbwr := bel_set hbw5'.out hbr
  by_cases hlt : c < 12
  ·obtain ⟨F, hF⟩ : ∃ F, fitGo p.rds lift throw adv c = F := ⟨_, rfl⟩
   obtain ⟨n1, n2, n3⟩ := f1'.out c hc12
   rw [hF] at n1 n2 n3 hso ⊢
   have hlti : (c : Int) < 12 := by omega
   by_cases hnil : F.length = 0
   ·have hfin : fitL p.rds lift throw adv = F := by
     have h0 : F = [] := List.eq_nil_of_length_eq_zero hnil
     rw [← fitGo_all, h0]
     have := fitGo_nil (hF.trans h0) (12 - c)
     rwa [show c + (12 - c) = 12 by omega] at this
    have hso2 : SpnL wr (.slice OA F.length oc) (fitL p.rds lift throw adv) := by rw [hfin]; exact hso
    rw [hnil] at hso2 ⊢
    have ⟨hI', hbr', hso', hbwr', hF', n1', n2', n3'⟩ := hyd8 hI hbr hso hbwr hF n1 n2 n3
    have ⟨hfin', hso2', hnil'⟩ := hyd3 hfin hso2 hnil
    clear hnil hso2 hfin n3 n2 n1 hF hbwr hso hbr hI
    go_wp2
    go_ret
    exact ⟨_, rfl, hbwr'.out, hso2'.out⟩
   ·have hpos : (0 : Int) < (F.length : Int) := by omega
    have hposn : 0 < F.length := by omega
    have hposd : decide (0 < F.length) = true := decide_eq_true hposn
    have hI1 : Below wr.heap.size wr wr ∧ SpnL wr (.slice none 0 0) (cutsF p.rds lift throw adv c 0) := ⟨Below.refl _ _, SV.nil _⟩
    have hilr := hil5'.out.below hbr
    have hpr := hp5'.out.le hbr
    have kr := blk hbr k5'.out
    have ⟨hI', hbr', hso', hbwr', hF', n1', n2', n3'⟩ := hyd8 hI hbr hso hbwr hF n1 n2 n3
    have ⟨hI1', hilr', hpr', kr'⟩ := hyd4 hI1 hilr hpr kr
    clear kr hpr hilr hI1 n3 n2 n1 hF hbwr hso hbr hI
    go_wp2_with (fail)
    rename World => wo
    go_loopw [13, 12] (fun kx vl wr => ∃ k : Nat, k ≤ lift.length ∧ kx = .int .i64 (k : Int) ∧ Hid (Below wo.heap.size wo wr ∧ SpnL wr vl (cutsF p.rds lift throw adv c k))) (fun kx _ _ => lift.length - (intOf kx).toNat)
    case atStart => exact ⟨0, Nat.zero_le _, rfl, hI1'⟩
    case round =>
     obtain ⟨k, hk, rfl, hJ⟩ := hrel
     obtain ⟨hbk, hsk⟩ := hJ.out
     obtain ⟨KA, kc, rfl, -⟩ := id hsk.slice
     have hbwk := bel_set hbwr'.out hbk
     by_cases hkl : k < lift.length
     ·have hkli : (k : Int) < (lift.length : Int) := by omega
      obtain ⟨c0, c1, c2, c3, c4, c5⟩ := pc6 (blk hbk kr'.out)
      have kst := pf_r9_starts _ _ p lift throw adv (c : Int) k wr (hpr'.out.le hbk) (hilr'.out.below hbk) hlo'.out hro2'.out ht ha ⟨by omega, by omega⟩ hkl
      obtain ⟨m1, m2, m3⟩ := f2'.out c (by omega) k
      have hx := f3'.out c (by omega) k
      have hsx := cutsF_succ p.rds lift throw adv c k
      obtain ⟨C, hC⟩ : ∃ C, cutsF p.rds lift throw adv c k = C := ⟨_, rfl⟩
      rw [hC] at m1 m2 m3 hsk hsx
      obtain ⟨⟨s1, s2⟩, hs⟩ : ∃ s, startS p.rds lift throw adv (c : Int) k = s := ⟨_, rfl⟩
      rw [hs] at kst hx hsx
      have hC1 : C.length ≤ 100000 := by omega
      rw [hC]
      have ⟨hJ', hbk', hsk', hbwk', kst', m1', m2', m3'⟩ := hyd8 hJ hbk hsk hbwk kst m1 m2 m3
      have ⟨hx', hsx', hC', hs'⟩ := hyd4 hx hsx hC hs
      clear hs hC hsx hx m3 m2 m1 kst hbwk hsk hbk hJ
      go_wp2_with (fail)
      go_at_call 85
      refine kst'.out.mono ?_
      rintro e W6 ⟨rfl, hb6⟩
      have hs6 := hsk'.out.le hb6
      have ⟨hb6', hs6'⟩ := hyd2 hb6 hs6
      clear hs6 hb6
      go_wp2_with (fail)
      go_at_call 84
      refine (pf_r9_joined _ C (s1, s2) W6 hs6'.out m1'.out m2'.out hx'.out hC1).mono ?_
      rintro e W7 ⟨vj, rfl, hb7, hs7⟩
      obtain ⟨A7, c7, rfl, -⟩ := id hs7.slice
      have hn : Below wo.heap.size wo W7 ∧ SpnL W7 (.slice A7 (joinedL C (s1, s2)).length c7) (cutsF p.rds lift throw adv c (k + 1)) := ⟨bel_set (bel_set hbk'.out hb6'.out) hb7, by rw [hsx'.out]; exact hs7⟩
      clear c0 c1 c2 c3 c4 c5
      have ⟨hb7', hs7', hn'⟩ := hyd3 hb7 hs7 hn
      clear hn hs7 hb7
      go_wp2
      go_roundw
      case rel => exact ⟨k + 1, by omega, by go_num, hn'⟩
      case measure => simp [intOf]; omega
     ·obtain rfl : k = lift.length := by omega
      obtain ⟨m1, m2, m3⟩ := f2'.out c (by omega) lift.length
      have hsx := fitGo_succ p.rds lift throw adv c
      have hso3 := hso'.out.le hbk
      rw [hF'.out] at hsx
      obtain ⟨C, hC⟩ : ∃ C, cutsF p.rds lift throw adv c lift.length = C := ⟨_, rfl⟩
      rw [hC] at m2 m3 hsk hsx ⊢
      have hC1 : C.length ≤ 200 := by omega
      have ⟨hJ', hbk', hsk', hbwk', m2', m3', hC', hsx'⟩ := hyd8 hJ hbk hsk hbwk m2 m3 hC hsx
      have hso3' := hyd1 hso3
      clear hso3 hsx hC m3 m2 hbwk hsk hbk hJ
      go_wp2_with (fail)
      go_at_call 86
      refine (pf_r9_both _ _ F C wr hso3'.out hsk'.out n2'.out m2'.out n3'.out hC1).mono ?_
      rintro e W6 ⟨vb, rfl, hb6, hs6⟩
      obtain ⟨A6, c6, rfl, -⟩ := id hs6.slice
      have hn : Below W5.heap.size W5 W6 ∧ SpnL W6 (.slice A6 (bothL F C).length c6) (fitGo p.rds lift throw adv (c + 1)) := ⟨bel_set (bel_set hbr'.out hbk'.out) hb6, by rw [hsx'.out]; exact hs6⟩
      have ⟨hb6', hs6', hn'⟩ := hyd3 hb6 hs6 hn
      clear hn hs6 hb6
      go_wp2
      go_roundw
      case rel => exact ⟨c + 1, by omega, by go_num, hn'⟩
      case measure => simp [intOf]; omega
  ·obtain rfl : c = 12 := by omega
   have hso2 : SpnL wr (.slice OA (fitGo p.rds lift throw adv 12).length oc) (fitL p.rds lift throw adv) := by rw [← fitGo_all]; exact hso
   generalize (fitGo p.rds lift throw adv 12).length = FL at *
   have ⟨hI', hbr', hso', hbwr', hso2'⟩ := hyd5 hI hbr hso hbwr hso2
   clear hso2 hbwr hso hbr hI
   go_wp2
   go_ret
   exact ⟨_, rfl, hbwr'.out, hso2'.out⟩
end Go.Proofs.YtjdgkmcmgagkgaaGreat
