/- The height of a head's lift at a step, counted around: barleycornlaw09.height. Whether settings fit a picture, tried phase by phase: barleycornlaw09.fit. -/
import Derived.Test.YtjdgkmcmgagkgaaReb
import Derived.Test.YtjdgkmcmgagkgaaRdValid
import Derived.Test.YtjdgkmcmgagkgaaReadLaw
import Derived.Test.YtjdgkmcmgagkgaaRdStartR
import Derived.Deep.RegionHeld3
import Derived.BigRegion
namespace Go.Proofs.Ytjdgkmcmgagkgaa
set_option maxRecDepth 100000
set_option maxHeartbeats 1000000
open Go.RowKit
set_option linter.unusedVariables false
set_option linter.unusedSimpArgs false
theorem tmod_around (s : Int) (n : Nat) (h : 0 < n) : (s.tmod (n : Int) + (n : Int)).tmod (n : Int) = s % (n : Int) := by
 have h0 : (0 : Int) < (n : Int) := by omega
 have h1 := Int.tmod_lt_of_pos s h0
 have h2 : -(n : Int) < s.tmod n := by
  have := Int.tmod_lt_of_pos (-s) h0
  rw [Int.neg_tmod] at this
  omega
 rw [Int.tmod_eq_emod_of_nonneg (by omega), Int.add_emod_right]
 have h3 := Int.tmod_add_mul_tdiv s n
 have h4 : s % (n : Int) = (s.tmod n + n * s.tdiv n) % n := by rw [h3]
 rw [h4, Int.add_mul_emod_self_left]
theorem pf_l9_height (vr vb : Value) (ros rub : List Int) (s : Int) (w : World) (hr : Ints w vr ros) (hb : Ints w vb rub) (hE : bothE ros rub = 0) (hs : -1000000 ≤ s ∧ s ≤ 1000000) :
  Calls Try.prog 25 #[.agg #[vr, vb], .int .i64 s] w fun e w' => e = .returned (.tuple #[.int .i64 (atR (liftL ros rub) s), .bool true]) ∧ Below w.heap.size w w' := by
 have hro := rosOk_iff.1 (bothE_zero hE).1
 have hll := liftL_length ros rub
 obtain ⟨x, hx⟩ : ∃ x, liftL ros rub = x := ⟨_, rfl⟩
 obtain ⟨n, hn⟩ : ∃ n, x.length = n := ⟨_, rfl⟩
 have hn3 : 3 ≤ n ∧ n ≤ 96 := by rw [← hn, ← hx]; omega
 have h0 : (0 : Int) < (n : Int) := by omega
 have hn0 : 0 < n := by omega
 have hnz : ¬ n = 0 := by omega
 have hnz2 : ¬ (n : Int) = 0 := by omega
 have hnb : ((n : Int) == 0) = false := by simp; omega
 have m1 := Int.emod_nonneg s hnz2
 have m2 := Int.emod_lt_of_pos s h0
 obtain ⟨m, hm⟩ : ∃ m : Nat, s % (n : Int) = (m : Int) := ⟨(s % (n : Int)).toNat, by omega⟩
 have hmn : m < n := by omega
 have t0 := tmod_around s n hn0
 rw [hm] at t0
 have hw : IntKind.i64.wrap (s.tmod (n : Int) + (n : Int)) = s.tmod (n : Int) + (n : Int) := IntWalk.i64_in _ (by
  have a1 := Int.tmod_lt_of_pos s h0
  have a2 := Int.tmod_lt_of_pos (-s) h0
  rw [Int.neg_tmod] at a2
  omega)
 have hval : atR (liftL ros rub) s = x.getD m 0 := by
  rw [hx]
  unfold atR
  rw [hn, hm]
  rfl
 rw [hval]
 have kl := pf_ros_Lift vr vb ros rub
 obtain ⟨W1, hW1, hb1, k1⟩ := newb w (.cells #[vr, vb] 33)
 obtain ⟨c0, c1⟩ := pc2 k1
 obtain ⟨A, c, rfl, -⟩ := id hr
 obtain ⟨A1, c1', rfl, -⟩ := id hb
 have i1 : (0 : Int) ≤ (m : Int) := by omega
 have i2 : (m : Int) < (n : Int) := by omega
 have hkl := kl W1 (hr.below hb1) (hb.below hb1) 0 hE
 rw [hx] at hkl
 have ⟨hr', hb', hE', hro', hll', hx', hm', hval'⟩ := hyd8 hr hb hE hro hll hx hm hval
 have ⟨hb1', k1', kl', hkl', m1', m2', hn'⟩ := hyd7 hb1 k1 kl hkl m1 m2 hn
 clear hn m2 m1 hkl kl k1 hb1 hval hm hx hll hro hE hb hr
 go_enter Try.func25, Try.ntmps25
 go_wp2_with (fail)
 clear hW1
 go_at_call 51
 refine hkl'.out.mono ?_
 rintro e W2 ⟨v', rfl, hb2, ho, -⟩
 have ho := ho (by trivial)
 rw [hn'.out] at ho
 have hxg : x[m]? = some (x.getD m 0) := by
  have : m < x.length := by rw [hn'.out]; exact hmn
  rw [List.getD_eq_getElem?_getD, List.getElem?_eq_getElem this]; rfl
 obtain ⟨g, cg, rfl⟩ : ∃ g cg, v' = .slice (some ⟨g, 0, none⟩) n cg := by
  rcases ho.2 with ⟨-, h1⟩ | ⟨g, cap, cur, rfl, -⟩
  ·omega
  ·exact ⟨g, cap, rfl⟩
 have hc := own_cell ho hn'.out hxg
 have hbw := bel_set hb1'.out hb2
 have ⟨hb2', ho', hxg', hbw'⟩ := hyd4 hb2 ho hxg hbw
 clear hbw hxg ho hb2
 go_wp2
 exact bodyPost_ret (v := .tuple #[.int .i64 (x.getD m 0), .bool true]) (by simp [results, Try.results25, go_sem]) rfl ⟨rfl, hbw'.out⟩
end Go.Proofs.Ytjdgkmcmgagkgaa
namespace Go.Proofs.Ytjdgkmcmgagkgaa
set_option maxRecDepth 100000
set_option maxHeartbeats 1000000
open Go.RowKit
set_option linter.unusedVariables false
set_option linter.unusedSimpArgs false
def okC (rds : List Rd) (lift : List Int) (throw adv x : Int) (k : Nat) : Prop := ∀ cut : Nat, cut < k → okP rds lift throw adv (cut : Int) x lift.length = true
theorem pf_l9_fit (HA : Option Addr) (hc : Nat) (RA : Option Addr) (rc : Nat) (p : Pic) (hd : Nat) (t a x : Int) (w : World) (hh : HeadsL w (.slice HA p.hs.length hc) p.hs) (hr : RdsL w (.slice RA p.rds.length rc) p.rds) (hok : PicOk p) (hdl : hd < p.hs.length) (ht : 1 ≤ t ∧ t ≤ 16) (ha : -1000 ≤ a ∧ a ≤ 1000) (hx : 0 ≤ x ∧ x ≤ 10000) :
  Calls Try.prog 10 #[.agg #[.slice HA p.hs.length hc, .int .i64 p.tl, .int .i64 p.th, .int .i64 p.al, .int .i64 p.ah, .slice RA p.rds.length rc], .int .i64 (hd : Int), .int .i64 t, .int .i64 a, .int .i64 x] w fun e w' => ∃ b, e = .returned (.bool b) ∧ Below w.heap.size w w' ∧ (b = true ↔ AllFit p.rds (p.lift hd) t a x) := by
 have hhl : p.hs.length ≤ maxLen := by obtain ⟨A, c, e, h⟩ := hh.slice; exact h
 have hrl : p.rds.length ≤ maxLen := by obtain ⟨A, c, e, h⟩ := hr.slice; exact h
 unfold maxLen at hhl hrl
 obtain ⟨b, off, c, vr, vb, e, hbl, g0, g1, i0, i1⟩ := hh.at hdl
 injection e with e1 e2 e3
 subst e1 e3
 clear e2
 have hm := hok.head p.hs[hd] (List.getElem_mem hdl)
 have hst := hok.steps
 have hlift : p.lift hd = liftL p.hs[hd].ros p.hs[hd].rub := by unfold Pic.lift; rw [List.getD_eq_getElem?_getD, List.getElem?_eq_getElem hdl]; rfl
 obtain ⟨lf, hlf⟩ : ∃ l, p.lift hd = l := ⟨_, rfl⟩
 have hll : lf.length = p.steps := by rw [← hlf, hlift, liftL_length]; exact hm.1
 have hE : bothE p.hs[hd].ros p.hs[hd].rub = 0 := by unfold bothE; rw [hm.2.1, if_pos rfl, hm.1, hm.2.2, if_pos rfl]
 obtain ⟨A0, n0, rfl, -⟩ := id i0
 obtain ⟨A1, n1, rfl, -⟩ := id i1
 obtain ⟨ros, hros⟩ : ∃ l, p.hs[hd].ros = l := ⟨_, rfl⟩
 obtain ⟨rub, hrub⟩ : ∃ l, p.hs[hd].rub = l := ⟨_, rfl⟩
 rw [hros] at g0 i0 hE hlift hm
 rw [hrub] at g1 i1 hE hlift hm
 have hrl2 : ros.length = p.steps := hm.1
 obtain ⟨n, hn⟩ : ∃ n, p.steps = n := ⟨_, rfl⟩
 rw [hn] at hrl2 hll hst
 rw [hrl2] at g0 i0
 rw [hlf]
 have khg : ∀ W s, Below w.heap.size w W → -1000000 ≤ s ∧ s ≤ 1000000 → Calls Try.prog 25 #[.agg #[.slice A0 n n0, .slice A1 rub.length n1], .int .i64 s] W fun e w' => e = .returned (.tuple #[.int .i64 (atR lf s), .bool true]) ∧ Below W.heap.size W w' := fun W s h1 h2 => by
  have := pf_l9_height (.slice A0 n n0) (.slice A1 rub.length n1) ros rub s W (i0.below h1) (i1.below h1) hE h2
  rwa [← hlift, hlf] at this
 have hbd : ∀ s, 0 ≤ atR lf s ∧ atR lf s ≤ 10000 := fun s => by
  have hlo := rosOk_iff.1 (lift_ok (b := rub) hm.2.1 (by rw [hrl2, ← hn]; exact hm.2.2))
  rw [← hlift, hlf] at hlo
  obtain ⟨q, hq, -, e⟩ := atR_rep lf (by omega) s
  rw [e]
  exact hlo.2.2 q hq
 have i0' : (0 : Int) ≤ (hd : Int) := by omega
 have i1' : (hd : Int) < (p.hs.length : Int) := by omega
 obtain ⟨W1, hW1, hb1, k1⟩ := newb w (.cells #[.slice (some ⟨b, off, none⟩) p.hs.length hc, .int .i64 p.tl, .int .i64 p.th, .int .i64 p.al, .int .i64 p.ah, .slice RA p.rds.length rc] 25)
 obtain ⟨c0, c1, c2, c3, c4, c5⟩ := pc6 k1
 have f0 := (Below.cell hb1 (p := ⟨b, off + hd * 2, none⟩) hbl).trans g0
 have ⟨hh', hr', hok', hm', hlift', hlf', hE', i0'⟩ := hyd8 hh hr hok hm hlift hlf hE i0
 have ⟨i1', hros', hrub', hn', khg', hbd', hb1', k1'⟩ := hyd8 i1 hros hrub hn khg hbd hb1 k1
 have ⟨hll', hrl2', g0', g1'⟩ := hyd4 hll hrl2 g0 g1
 clear g1 g0 hrl2 hll k1 hb1 hbd khg hn hrub hros i1 i0 hE hlf hlift hm hok hr hh
 go_enter Try.func10, Try.ntmps10
 go_wp2_with (fail)
 go_loopw [28] (fun kx wr => ∃ cu : Nat, cu ≤ 12 ∧ kx = .int .i64 (cu : Int) ∧ Hid (okC p.rds lf t a x cu) ∧ Hid (Below W1.heap.size W1 wr)) (fun kx _ => 12 - (intOf kx).toNat)
 case atStart => exact ⟨0, Nat.zero_le _, rfl, Lib.hid (fun cut h => absurd h (Nat.not_lt_zero cut)), Lib.hid (Below.refl _ _)⟩
 case round =>
  obtain ⟨cu, hcu, rfl, hC, hbr⟩ := hrel
  clear c0 c1 c2 c3 c4 c5 f0
  by_cases hlt : cu < 12
  ·have j1 : (cu : Int) < 12 := by omega
   go_wp2_with (fail)
   go_loopw [32, 13] (fun kx an wv => ∃ ph : Nat, ph ≤ n ∧ kx = .int .i64 (ph : Int) ∧ an = .bool (okP p.rds lf t a (cu : Int) x ph) ∧ Hid (Below W1.heap.size W1 wv)) (fun kx _ _ => n - (intOf kx).toNat)
   case atStart => exact ⟨0, Nat.zero_le _, rfl, rfl, hbr⟩
   case round =>
    obtain ⟨ph, hph, rfl, rfl, hbv⟩ := hrel
    have k2 := blk hbv.out k1'.out
    obtain ⟨c0, c1, c2, c3, c4, c5⟩ := pc6 k2
    by_cases hlt2 : ph < n
    ·have j2 : (ph : Int) < (n : Int) := by omega
     have k2' := hyd1 k2
     clear k2
     go_wp2_with (fail)
     clear c0 c1 c2 c3 c4 c5
     go_loopw [38, 15] (fun kx al wu => ∃ k : Nat, k ≤ p.rds.length ∧ kx = .int .i64 (k : Int) ∧ al = .bool (okA p.rds lf t a (cu : Int) ph x k) ∧ Hid (Below W1.heap.size W1 wu)) (fun kx _ _ => p.rds.length - (intOf kx).toNat)
     case atStart => exact ⟨0, Nat.zero_le _, rfl, rfl, hbv⟩
     case round =>
      obtain ⟨k, hk, rfl, rfl, hbu⟩ := hrel
      rename World => wu
      by_cases hlt3 : k < p.rds.length
      ·have hbw := bel_set hb1'.out hbu.out
       obtain ⟨b1, o1, z1, heq, hb1l, q0, q1, q2, q3⟩ := RdsL.cells (hr'.out.le hbw) hlt3
       injection heq with e1 e2 e3
       subst e1 e3
       clear e2
       have hrd := hok'.out.rd _ (List.getElem_mem hlt3)
       have hsu := okA_succ (lift := lf) (throw := t) (adv := a) (cut := (cu : Int)) (ph := ph) (x := x) hlt3
       obtain ⟨⟨r1, r2, r3, r4⟩, hrr⟩ : ∃ r, p.rds[k] = r := ⟨_, rfl⟩
       rw [hrr] at q0 q1 q2 q3 hrd hsu
       dsimp only at q0 q1 q2 q3 hrd
       have j3 : (k : Int) < (p.rds.length : Int) := by omega
       obtain ⟨Wa, hWa, hba, ka⟩ := newb wu (.cells #[.int .i64 r1, .int .i64 r2, .int .i64 r3, .int .i64 r4] 43)
       have hba1 := bel_set hbu.out hba
       have kpa := blk hba1 k1'.out
       have hbwa := bel_set hb1'.out hba1
       by_cases hcut : r1 = (cu : Int)
       ·subst hcut
        obtain ⟨h9, hh9⟩ : ∃ h, atR lf (r2 - (ph : Int)) = h := ⟨_, rfl⟩
        have hb9 := hbd'.out (r2 - (ph : Int))
        rw [hh9] at hb9
        have hq1 : okR lf t a (cu : Int) ph x ⟨(cu : Int), r2, r3, r4⟩ = (decide (r3 ≤ x + ((cu : Int) * a + t * h9)) && decide (x + ((cu : Int) * a + t * h9) ≤ r4)) := by unfold okR hAt; simp only [hh9]; simp
        obtain ⟨ca, hca⟩ : ∃ z, (cu : Int) * a = z := ⟨_, rfl⟩
        obtain ⟨tz, htz⟩ : ∃ z, t * h9 = z := ⟨_, rfl⟩
        have ba : -11000 ≤ ca ∧ ca ≤ 11000 := by
         have a1 := Int.mul_le_mul_of_nonneg_left ha.1 (show (0 : Int) ≤ (cu : Int) by omega)
         have a2 := Int.mul_le_mul_of_nonneg_left ha.2 (show (0 : Int) ≤ (cu : Int) by omega)
         omega
        have bt : 0 ≤ tz ∧ tz ≤ 160000 := by
         have a1 := Int.mul_nonneg (show (0 : Int) ≤ t by omega) hb9.1
         have a2 := Int.mul_le_mul_of_nonneg_left hb9.2 (show (0 : Int) ≤ t by omega)
         omega
        rw [hca, htz] at hq1
        rw [hq1] at hsu
        have w1 : IntKind.i64.wrap ca = ca := IntWalk.i64_in _ (by omega)
        have w2 : IntKind.i64.wrap (x + ca) = x + ca := IntWalk.i64_in _ (by omega)
        have w3 : IntKind.i64.wrap tz = tz := IntWalk.i64_in _ (by omega)
        have w4 : IntKind.i64.wrap (x + ca + tz) = x + ca + tz := IntWalk.i64_in _ (by omega)
        have hps := hst.2
        have w5 : IntKind.i64.wrap (r2 - (ph : Int)) = r2 - (ph : Int) := IntWalk.i64_in _ (by have := hrd.2.1; have := hn'.out; omega)
        have hsr : -1000000 ≤ r2 - (ph : Int) ∧ r2 - (ph : Int) ≤ 1000000 := by have := hrd.2.1; have := hn'.out; omega
        have khc := khg'.out Wa.drew (r2 - (ph : Int)) hbwa.drew hsr
        rw [hh9] at khc
        obtain ⟨d0, d1, d2, d3⟩ := pc4 ka
        obtain ⟨c0, c1, c2, c3, c4, c5⟩ := pc6 kpa
        have f0 := (Below.cell hbwa (p := ⟨b, off + hd * 2, none⟩) hbl).trans g0'.out
        have f1 := (Below.cell hbwa (p := ⟨b, off + hd * 2 + 1, none⟩) hbl).trans g1'.out
        have hS : ∀ w', Below Wa.heap.size Wa w' → w'.cell? ⟨w.heap.size, 0, none⟩ = some (.slice (some ⟨b, off, none⟩) p.hs.length hc) ∧ w'.cell? ⟨b, off + hd * 2, none⟩ = some (.slice A0 n n0) ∧ w'.cell? ⟨b, off + hd * 2 + 1, none⟩ = some (.slice A1 rub.length n1) ∧ w'.cell? ⟨wu.heap.size, 1, none⟩ = some (.int .i64 r2) := fun w' hb => ⟨(pc6 (blk hb kpa)).1, (Below.cell hb (p := ⟨b, off + hd * 2, none⟩) (by have := hbwa.size; show b < _; omega)).trans f0, (Below.cell hb (p := ⟨b, off + hd * 2 + 1, none⟩) (by have := hbwa.size; show b < _; omega)).trans f1, (pc4 (blk hb ka)).2.1⟩
        have hsm : x + (ca + tz) = x + ca + tz := by omega
        rw [hsm] at hsu
        have ⟨hrd', hrr', hS', ka', hba1', kpa', hbwa', hbw'⟩ := hyd8 hrd hrr hS ka hba1 kpa hbwa hbw
        have ⟨hba', hsu', khc', hq1', hh9', hsm', hb9', ba'⟩ := hyd8 hba hsu khc hq1 hh9 hsm hb9 ba
        have bt' := hyd1 bt
        clear bt ba hb9 hsm hh9 hq1 khc hsu hba hbw hbwa kpa hba1 ka hS hrr hrd
        go_wp2_with (fail)
        clear hWa
        go_region_held3 (fun w' => w'.cell? ⟨w.heap.size, 0, none⟩ = some (.slice (some ⟨b, off, none⟩) p.hs.length hc) ∧ w'.cell? ⟨b, off + hd * 2, none⟩ = some (.slice A0 n n0) ∧ w'.cell? ⟨b, off + hd * 2 + 1, none⟩ = some (.slice A1 rub.length n1) ∧ w'.cell? ⟨wu.heap.size, 1, none⟩ = some (.int .i64 r2)) (go_keep) (first | (go_at_call 25; refine khc'.out.mono ?_; rintro e w9 ⟨rfl, hb9⟩; obtain ⟨t1, t2, t3, t4⟩ := hS'.out w9 (bel_set ((Below.refl Wa.heap.size Wa).drew) hb9)))
        have hb99 : Below Wa.heap.size Wa w9 := bel_set ((Below.refl Wa.heap.size Wa).drew) hb9
        have hb19 : Below W1.heap.size W1 w9 := bel_set hba1'.out hb99
        have kr9 := blk hb99 ka'.out
        clear d0 d1 d2 d3 c0 c1 c2 c3 c4 c5 f0 f1
        obtain ⟨d0, d1, d2, d3⟩ := pc4 kr9
        obtain ⟨B, hB⟩ : ∃ B, okA p.rds lf t a (cu : Int) ph x k = B := ⟨_, rfl⟩
        have hsu := hsu'.out
        rw [hB] at hsu ⊢
        have ⟨hB', hb9', hb99', hb19', kr9'⟩ := hyd5 hB hb9 hb99 hb19 kr9
        clear kr9 hb19 hb99 hb9 hB
        cases B with
        | false =>
         rw [Bool.false_and] at hsu
         have hsu' := hyd1 hsu
         clear hsu
         go_wp2
         go_roundw
         case rel => exact ⟨k + 1, by omega, by go_num, by rw [hsu'.out], hb19'⟩
         case measure => simp [intOf]; omega
        | true =>
         rw [Bool.true_and] at hsu
         by_cases u1 : r3 ≤ x + ca + tz
         ·have u1d : decide (r3 ≤ x + ca + tz) = true := decide_eq_true u1
          rw [u1d, Bool.true_and] at hsu
          have hsu' := hyd1 hsu
          clear hsu
          go_wp2
          go_roundw
          case rel => exact ⟨k + 1, by omega, by go_num, by rw [hsu'.out], hb19'⟩
          case measure => simp [intOf]; omega
         ·have u1d : decide (r3 ≤ x + ca + tz) = false := decide_eq_false u1
          rw [u1d, Bool.false_and] at hsu
          have hsu' := hyd1 hsu
          clear hsu
          go_wp2
          go_roundw
          case rel => exact ⟨k + 1, by omega, by go_num, by rw [hsu'.out], hb19'⟩
          case measure => simp [intOf]; omega
       ·have e9 : okR lf t a (cu : Int) ph x ⟨r1, r2, r3, r4⟩ = true := by unfold okR; simp [hcut]
        rw [e9, Bool.and_true] at hsu
        obtain ⟨d0, d1, d2, d3⟩ := pc4 ka
        have hcd : decide (r1 = (cu : Int)) = false := decide_eq_false hcut
        have ⟨hrd', hrr', ka', hba1', kpa', hbwa', hbw', hba'⟩ := hyd8 hrd hrr ka hba1 kpa hbwa hbw hba
        have hsu' := hyd1 hsu
        clear hsu hba hbw hbwa kpa hba1 ka hrr hrd
        go_wp2
        go_roundw
        case rel => exact ⟨k + 1, by omega, by go_num, by rw [hsu'.out], hba1'⟩
        case measure => simp [intOf]; omega
      ·obtain rfl : k = p.rds.length := by omega
       have hS := okP_succ p.rds lf t a (cu : Int) x ph
       obtain ⟨B, hB⟩ : ∃ B, okP p.rds lf t a (cu : Int) x ph = B := ⟨_, rfl⟩
       rw [hB] at hS ⊢
       have hB' := hyd1 hB
       clear hB
       cases B with
       | true =>
        rw [Bool.true_or] at hS
        have hS' := hyd1 hS
        clear hS
        go_wp2
        go_roundw
        case rel => exact ⟨ph + 1, by omega, by go_num, by rw [hS'.out], hbu⟩
        case measure => simp [intOf]; omega
       | false =>
        rw [Bool.false_or] at hS
        have hS' := hyd1 hS
        clear hS
        go_wp2
        go_roundw
        case rel => exact ⟨ph + 1, by omega, by go_num, by rw [hS'.out], hbu⟩
        case measure => simp [intOf]; omega
    ·obtain rfl : ph = n := by omega
     obtain ⟨B, hB⟩ : ∃ B, okP p.rds lf t a (cu : Int) x ph = B := ⟨_, rfl⟩
     rw [hB]
     have k2' := hyd1 k2
     clear k2
     cases B with
     | true =>
      have hC2 : okC p.rds lf t a x (cu + 1) := fun cut h => by
       by_cases e : cut = cu
       ·rw [e, hll'.out]; exact hB
       ·exact hC.out cut (by omega)
      have ⟨hB', hC2'⟩ := hyd2 hB hC2
      clear hC2 hB
      go_wp2
      go_roundw
      case rel => exact ⟨cu + 1, by omega, by go_num, hC2', hbv⟩
      case measure => simp [intOf]; omega
     | false =>
      have hno : ¬ AllFit p.rds lf t a x := fun h => by
       have := allFit_iff.1 h cu hlt
       rw [hll'.out, hB] at this
       cases this
      have ⟨hB', hno'⟩ := hyd2 hB hno
      clear hno hB
      go_wp2
      go_ret
      exact ⟨false, rfl, bel_set hb1'.out hbv.out, by simp [hno'.out]⟩
  ·obtain rfl : cu = 12 := by omega
   have hyes : AllFit p.rds lf t a x := allFit_iff.2 hC.out
   have hyes' := hyd1 hyes
   clear hyes
   go_wp2
   go_ret
   exact ⟨true, rfl, bel_set hb1'.out hbr.out, by simp [hyes'.out]⟩
end Go.Proofs.Ytjdgkmcmgagkgaa
