/- reference 1: fractions: lowest, Sign, Minus. reference 1: fractions: Plus. reference 1: fractions: Times, By. reference 1: fractions: absolute, Int, Over, Order. -/
import Derived.Test.YtlhfonhbbpbmpaaGreatRN1
import Derived.Test.YtlhfonhbbpbmpaaGreatRat4
import Derived.Test.YtlhfonhbbpbmpaaGreatMonoR
namespace Go.Proofs.YtlhfonhbbpbmpaaGreat
set_option maxRecDepth 100000
set_option maxHeartbeats 4000000
open Go.RowKit Go.Shelf
set_option linter.unusedVariables false
set_option linter.unusedSimpArgs false
theorem qCF (L : Nat → Prop) (a b : Nat) (va vb : Value) (w : World) (hL : Up w L) (ha : NumL L .i64 w va a) (hb : NumL L .i64 w vb b) (hma : (dg a).length ≤ 100000000) (hmb : (dg b).length ≤ 100000000) :
  Calls Tryz.prog 99 #[va, vb] w fun e w' => ∃ v', e = .returned v' ∧ Le w w' ∧ NumL L .i64 w' v' (a * b) := qDs L L L a b va vb w hL ha hb hma hmb
theorem qHY (L : Nat → Prop) (a b : Nat) (va vb : Value) (w : World) (hL : Up w L) (ha : NumL L .i64 w va a) (hb : NumL L .i64 w vb b) (hma : (dg a).length ≤ 100000000) (hmb : (dg b).length ≤ 100000000) :
  Calls Tryz.prog 101 #[va, vb] w fun e w' => ∃ v', e = .returned v' ∧ Le w w' ∧ NumL L .i64 w' v' (a + b) := qFk L L L a b va vb w hL ha hb hma hmb
theorem qGQ (L : Nat → Prop) (a b : Nat) (va vb : Value) (w : World) (hL : Up w L) (ha : NumL L .i64 w va a) (hb : NumL L .i64 w vb b) (hle : b ≤ a) (hm : (dg a).length ≤ 100000000) :
  Calls Tryz.prog 103 #[va, vb] w fun e w' => ∃ v', e = .returned v' ∧ Le w w' ∧ NumL L .i64 w' v' (a - b) := qFB L L L a b va vb w hL ha hb hle hm
theorem qBz : (1 : Nat) < B9 := by have := qAT; omega
theorem qGR {L : Nat → Prop} {neg : Bool} {n d : Nat} {w W : World} {B : Nat} {t : TypeId} {An Ad : Option Addr} {cn cd ln ld : Nat} (hn0 : n ≠ 0) (hd : d ≠ 0) (hle : Le w W) (hB : w.heap.size ≤ B)
  (hbx : W.heap[B]? = some (Obj.cells #[.bool false, .slice none 0 0, .slice none 0 0] t)) (hn : NumL L .i64 W (.slice An ln cn) (n / Nat.gcd n d)) (hdn : NumL L .i64 W (.slice Ad ld cd) (d / Nat.gcd n d)) :
  RatL L .i64 (((W.setCell ⟨B, 0, none⟩ (.bool neg)).setCell ⟨B, 1, none⟩ (.slice An ln cn)).setCell ⟨B, 2, none⟩ (.slice Ad ld cd)) (.agg #[.bool neg, .slice An ln cn, .slice Ad ld cd]) (mkR neg n d) := by
 refine ⟨_, _, by rw [qFS _ _ _ hd, show decide (0 < n) = true by simp; omega, Bool.and_true], ?_, ?_⟩
 ·rw [qDg _ _ _ hd]; exact hn.box3 hbx
 ·rw [qEM _ _ _ hd]; exact hdn.box3 hbx
theorem qBw (L : Nat → Prop) (neg : Bool) (n d : Nat) (vn vd : Value) (w : World) (hL : Up w L) (hn : NumL L .i64 w vn n) (hd : NumL L .i64 w vd d) (hd0 : d ≠ 0) (hmn : (dg n).length ≤ 10000000) (hmd : (dg d).length ≤ 10000000) :
  Calls Tryz.prog 100 #[.bool neg, vn, vd] w fun e w' => ∃ v', e = .returned v' ∧ Le w w' ∧ RatL L .i64 w' v' (mkR neg n d) := by
 obtain ⟨An, cn, rfl⟩ := hn.slice
 obtain ⟨Ad, cd, rfl⟩ := hd.slice
 by_cases hz : n = 0
 ·have hl1 : (dg n).length = 0 := by rw [hz, qAg]; rfl
  rw [hl1]
  have ⟨hn', hd', hL', hz', hl1'⟩ := hyd5 hn hd hL hz hl1
  clear hl1 hz hL hd hn
  go_enter Tryz.func100, Tryz.ntmps100
  go_wp2
  have hrat : RatL L .i64 ((w.alloc (.cells #[.bool false, .slice none 0 0, .slice (some ⟨w.heap.size + 1, 0, none⟩) 1 1] 59)).alloc (.cells #[.int .i64 1] 3)) (.agg #[.bool false, .slice none 0 0, .slice (some ⟨w.heap.size + 1, 0, none⟩) 1 1]) (mkR neg n d) := by
   rw [hz'.out, qHx]
   refine ⟨_, _, rfl, by unfold NumL; rw [show rnum 0 = 0 from rfl, qAg]; exact ArrL.nil _ _ _, ?_⟩
   have h := qBF (L := L) (k := .i64) (V := w.alloc (.cells #[.bool false, .slice none 0 0, .slice (some ⟨w.heap.size + 1, 0, none⟩) 1 1] 59)) (g := 1) (hL'.out.le (qAA _ _)) (by omega) qBz 3
   rw [World.size_alloc] at h
   exact h
  exact bodyPost_ret (v := .agg #[.bool false, .slice none 0 0, .slice (some ⟨w.heap.size + 1, 0, none⟩) 1 1]) (by simp [results, Tryz.results100, go_sem]) rfl ⟨_, rfl, (qAA _ _).trans (qAA _ _), hrat⟩
 ·have hl1 : (((dg n).length : Int) == 0) = false := beq_eq_false_iff_ne.2 (by have := dg_length_pos.2 hz; omega)
  have hl3 : ¬ ((dg n).length : Int) = 0 := by have := dg_length_pos.2 hz; omega
  have ⟨hn', hd', hL'⟩ := hyd3 hn hd hL
  clear hL hd hn
  go_enter Tryz.func100, Tryz.ntmps100
  go_wp2_with (fail)
  go_at_call 124
  refine (qF2 L n d _ _ _ (hL'.out.le (qAA _ _)) (hn'.out.le (qAA _ _)) (hd'.out.le (qAA _ _)) hmn hmd).mono ?_
  rintro e w1 ⟨vg, rfl, hle, hg⟩
  obtain ⟨hle1, hbx⟩ := qB4 hle
  obtain ⟨G, hG⟩ : ∃ G, Nat.gcd n d = G := ⟨_, rfl⟩
  have hG0 : 0 < G := by rw [← hG]; exact Nat.gcd_pos_of_pos_right _ (Nat.pos_of_ne_zero hd0)
  have hGl : (dg G).length ≤ 10000000 := by
   rw [← hG]
   have := qJH n d (.inr hd0)
   omega
  rw [hG] at hg
  obtain ⟨Ag, cg, rfl⟩ := hg.slice
  have hn1 := hn'.out.le hle1
  have hd1 := hd'.out.le hle1
  have hUp1 := hL'.out.le hle1
  have hbx2 := fun o => (Below.block (qAA w1 o) w.heap.size (gsl hbx)).trans hbx
  have ⟨hle', hle1', hbx', hg', hn1', hd1', hUp1', hbx2'⟩ := hyd8 hle hle1 hbx hg hn1 hd1 hUp1 hbx2
  clear hbx2 hUp1 hd1 hn1 hg hbx hle1 hle
  go_wp2_with (fail)
  go_at_call 102
  refine (qCE L L G 1 _ _ _ (hg'.out.le (qAA _ _)) (qBF (g := 1) hUp1'.out (by omega) qBz _)).mono ?_
  rintro e w2 ⟨rfl, nd, rfl⟩
  obtain ⟨w2, hw2⟩ : ∃ w2, (w1.alloc (.cells #[.int .i64 ((1 : Nat) : Int)] 3)).drewN nd = w2 := ⟨_, rfl⟩
  have hle12 : Le w1 w2 := by rw [← hw2]; exact (qAA _ _).trans (Le.quiet nd)
  rw [hw2]
  have hle2 := hle1'.out.trans hle12
  have hbx3 := (Below.block hle12 w.heap.size (gsl hbx'.out)).trans hbx'.out
  have hn2 := hn1'.out.le hle12
  have hd2 := hd1'.out.le hle12
  have hg2 := hg'.out.le hle12
  have hUp2 := hUp1'.out.le hle12
  clear hn1' hd1' hg' hUp1' hbx2' hbx' hle' hle1'
  have ⟨hw2', hle12', hle2', hbx3', hn2', hd2', hg2', hUp2'⟩ := hyd8 hw2 hle12 hle2 hbx3 hn2 hd2 hg2 hUp2
  clear hUp2 hg2 hd2 hn2 hbx3 hle2 hle12 hw2
  by_cases hG1 : G = 1
  ·have ho : ordI G 1 = 0 := ordI_zero.2 hG1
   have ho2 : (ordI G 1 == 0) = true := by rw [ho]; rfl
   obtain ⟨c0, c1, c2, f0, f1, f2⟩ := qAD hbx3'.out
   have hfin := qGR (neg := neg) hz hd0 hle2'.out (Nat.le_refl _) hbx3'.out (by rw [hG, hG1, Nat.div_one]; exact hn2'.out) (by rw [hG, hG1, Nat.div_one]; exact hd2'.out)
   have hle9 := fun u0 u1 u2 => qA8 (u0 := u0) (u1 := u1) (u2 := u2) hle2'.out (Nat.le_refl _)
   have hb9 := fun u0 u1 u2 => qAD (qAY (u0 := u0) (u1 := u1) (u2 := u2) hbx3'.out)
   rw [ho]
   clear ho ho2
   have ⟨hfin', hle9', hG', hG1', hb9'⟩ := hyd5 hfin hle9 hG hG1 hb9
   clear hb9 hG1 hG hle9 hfin
   go_wp2
   obtain ⟨d0, d1, d2, -⟩ := hb9'.out (.bool neg) (.slice An (dg n).length cn) (.slice Ad (dg d).length cd)
   exact bodyPost_ret (v := .agg #[.bool neg, .slice An (dg n).length cn, .slice Ad (dg d).length cd]) (by simp [results, Tryz.results100, go_sem, d0, d1, d2]) rfl ⟨_, rfl, hle9'.out _ _ _, hfin'.out⟩
  ·obtain ⟨o, ho⟩ : ∃ o, ordI G 1 = o := ⟨_, rfl⟩
   rw [ho]
   have ho1 : (o == 0) = false := beq_eq_false_iff_ne.2 (fun h => hG1 (ordI_zero.1 (ho.trans h)))
   have ho2 : ¬ o = 0 := fun h => hG1 (ordI_zero.1 (ho.trans h))
   have ⟨ho', hG1'⟩ := hyd2 ho hG1
   clear hG1 ho
   go_wp2_with (fail)
   go_at_call 125
   refine (qDb L n G _ _ w2 hUp2'.out hn2'.out hg2'.out hmn hGl (by omega)).mono ?_
   rintro e w3 ⟨v1, v2, rfl, hle3, hq, hr⟩
   obtain ⟨A1, c1, rfl⟩ := hq.slice
   obtain ⟨A2, c2, rfl⟩ := hr.slice
   have hbx4 := (Below.block hle3 _ (gsl hbx3'.out)).trans hbx3'.out
   have hd3 := hd2'.out.le hle3
   have hg3 := hg2'.out.le hle3
   have hUp3 := hUp2'.out.le hle3
   have ⟨hle3', hq', hr', hbx4', hd3', hg3', hUp3'⟩ := hyd7 hle3 hq hr hbx4 hd3 hg3 hUp3
   clear hUp3 hg3 hd3 hbx4 hr hq hle3
   go_wp2_with (fail)
   go_at_call 125
   refine (qDb L d G _ _ w3 hUp3'.out hd3'.out hg3'.out hmd hGl (by omega)).mono ?_
   rintro e w4 ⟨v1, v2, rfl, hle4, hq3, hr3⟩
   obtain ⟨A3, c3, rfl⟩ := hq3.slice
   obtain ⟨A4, c4, rfl⟩ := hr3.slice
   have hbx5 := (Below.block hle4 _ (gsl hbx4'.out)).trans hbx4'.out
   have hq2 := hq'.out.le hle4
   have hle5 := Le.trans (Le.trans hle2'.out hle3'.out) hle4
   obtain ⟨c0, e1, e2, f0, f1, f2⟩ := qAD hbx5
   have hfin := qGR (neg := neg) hz hd0 hle5 (Nat.le_refl _) hbx5 (by rw [hG]; exact hq2) (by rw [hG]; exact hq3)
   have hle9 := fun u0 u1 u2 => qA8 (u0 := u0) (u1 := u1) (u2 := u2) hle5 (Nat.le_refl _)
   have hb9 := fun u0 u1 u2 => qAD (qAY (u0 := u0) (u1 := u1) (u2 := u2) hbx5)
   have ⟨hfin', hle9', hG', hb9', hbx5', hq2', hle5', hle4'⟩ := hyd8 hfin hle9 hG hb9 hbx5 hq2 hle5 hle4
   have ⟨hq3', hr3'⟩ := hyd2 hq3 hr3
   clear hr3 hq3 hle4 hle5 hq2 hbx5 hb9 hG hle9 hfin
   go_wp2
   obtain ⟨d0, d1, d2, -⟩ := hb9'.out (.bool neg) (.slice A1 (dg (n / G)).length c1) (.slice A3 (dg (d / G)).length c3)
   exact bodyPost_ret (v := .agg #[.bool neg, .slice A1 (dg (n / G)).length c1, .slice A3 (dg (d / G)).length c3]) (by simp [results, Tryz.results100, go_sem, d0, d1, d2]) rfl ⟨_, rfl, hle9'.out _ _ _, hfin'.out⟩
theorem qFC (L : Nat → Prop) (r : Rat) (v : Value) (w : World) (h : RatL L .i64 w v r) :
  Calls Tryz.prog 56 #[v] w fun e w' => e = .returned (.int .i64 (rsgn r)) ∧ Le w w' := by
 obtain ⟨A1, c1, A2, c2, rfl, -, -⟩ := h.form
 have hle := qAA w (.cells #[.bool (rneg r), .slice A1 (dg (rnum r)).length c1, .slice A2 (dg r.den).length c2] 59)
 rw [qJJ]
 obtain ⟨sr, hsr⟩ : ∃ sr, rneg r = sr := ⟨_, rfl⟩
 rw [hsr] at hle ⊢
 have ⟨hsr', hle'⟩ := hyd2 hsr hle
 clear hle hsr
 by_cases h0 : rnum r = 0
 ·rw [if_pos h0]
  have hl : (dg (rnum r)).length = 0 := by rw [h0, qAg]; rfl
  have hle2 := hle'.out
  clear hle'
  rw [hl] at hle2 ⊢
  have hle2' := hyd1 hle2
  clear hle2
  clear h0 hl
  go_enter Tryz.func56, Tryz.ntmps56
  go_wp2
  go_ret
  exact ⟨rfl, hle2'.out⟩
 ·rw [if_neg h0]
  have hl : 0 < (dg (rnum r)).length := dg_length_pos.2 h0
  have hl2 : (((dg (rnum r)).length : Int) == 0) = false := beq_eq_false_iff_ne.2 (by omega)
  have hl3 : ¬ (dg (rnum r)).length = 0 := by omega
  have hl4 : ¬ ((dg (rnum r)).length : Int) = 0 := by omega
  have hle2 := hle'.out
  clear hle'
  generalize (dg (rnum r)).length = l1 at *
  have hle2' := hyd1 hle2
  clear hle2
  clear h0
  cases sr
  ·go_enter Tryz.func56, Tryz.ntmps56
   go_wp2
   go_ret
   exact ⟨rfl, hle2'.out⟩
  ·go_enter Tryz.func56, Tryz.ntmps56
   go_wp2
   go_ret
   exact ⟨rfl, hle2'.out⟩
theorem qCi (L : Nat → Prop) (r : Rat) (v : Value) (w : World) (h : RatL L .i64 w v r) :
  Calls Tryz.prog 58 #[v] w fun e w' => ∃ v', e = .returned v' ∧ Le w w' ∧ RatL L .i64 w' v' (-r) := by
 obtain ⟨A1, c1, A2, c2, rfl, h1, h2⟩ := h.form
 obtain ⟨n1, n2, n3⟩ := qEN r
 obtain ⟨sr, hsr⟩ : ∃ sr, rneg r = sr := ⟨_, rfl⟩
 rw [hsr] at n1 ⊢
 obtain ⟨l1, hl1⟩ : ∃ l1, (dg (rnum r)).length = l1 := ⟨_, rfl⟩
 obtain ⟨l2, hl2⟩ : ∃ l2, (dg r.den).length = l2 := ⟨_, rfl⟩
 have hz : decide (0 < rnum r) = decide (0 < l1) := by rw [← hl1]; exact decide_eq_decide.2 (show 0 < rnum r ↔ 0 < (dg (rnum r)).length by rw [dg_length_pos]; omega)
 rw [hz] at n1
 rw [hl1] at h1
 rw [hl2] at h2
 rw [hl1, hl2]
 have hR : ∀ s o0 o1, rneg (-r) = s → (∃ v', Ending.returned (.agg #[.bool s, .slice A1 l1 c1, .slice A2 l2 c2]) = .returned v' ∧ Le w ((w.alloc o0).alloc o1) ∧ RatL L .i64 ((w.alloc o0).alloc o1) v' (-r)) := fun s o0 o1 hs => by
  have hw := (qAA w o0).trans (qAA _ o1)
  exact ⟨_, rfl, hw, _, _, by rw [hs], by rw [n2]; exact h1.le hw, by rw [n3]; exact h2.le hw⟩
 have ⟨h', h1', h2', hR', hsr', n1', n2', n3'⟩ := hyd8 h h1 h2 hR hsr n1 n2 n3
 have ⟨hl1', hl2', hz'⟩ := hyd3 hl1 hl2 hz
 clear hz hl2 hl1 n3 n2 n1 hsr hR h2 h1 h
 by_cases h0 : 0 < l1
 ·have h4 : 0 < (l1 : Int) := by omega
  cases sr
  ·go_enter Tryz.func58, Tryz.ntmps58
   go_wp2
   exact bodyPost_ret (v := .agg #[.bool true, .slice A1 l1 c1, .slice A2 l2 c2]) (by simp [results, Tryz.results58, go_sem]) rfl (hR'.out _ _ _ (by rw [n1'.out]; simp; omega))
  ·go_enter Tryz.func58, Tryz.ntmps58
   go_wp2
   exact bodyPost_ret (v := .agg #[.bool false, .slice A1 l1 c1, .slice A2 l2 c2]) (by simp [results, Tryz.results58, go_sem]) rfl (hR'.out _ _ _ (by rw [n1'.out]; simp))
 ·have h4 : ¬ 0 < (l1 : Int) := by omega
  cases sr
  ·go_enter Tryz.func58, Tryz.ntmps58
   go_wp2
   exact bodyPost_ret (v := .agg #[.bool false, .slice A1 l1 c1, .slice A2 l2 c2]) (by simp [results, Tryz.results58, go_sem]) rfl (hR'.out _ _ _ (by rw [n1'.out]; simp; omega))
  ·go_enter Tryz.func58, Tryz.ntmps58
   go_wp2
   exact bodyPost_ret (v := .agg #[.bool false, .slice A1 l1 c1, .slice A2 l2 c2]) (by simp [results, Tryz.results58, go_sem]) rfl (hR'.out _ _ _ (by rw [n1'.out]; simp))
theorem qCV (L : Nat → Prop) (a b : Rat) (va vb : Value) (w : World) (hL : Up w L) (ha : RatL L .i64 w va a) (hb : RatL L .i64 w vb b) (hma : Rsz a 2000000) (hmb : Rsz b 2000000) :
  Calls Tryz.prog 57 #[va, vb] w fun e w' => ∃ v', e = .returned v' ∧ Le w w' ∧ RatL L .i64 w' v' (a + b) := by
 obtain ⟨An, cn, Ad, cd, rfl, han, had⟩ := ha.form
 obtain ⟨Bn, dn, Bd, dd, rfl, hbn, hbd⟩ := hb.form
 obtain ⟨ma1, ma2⟩ := hma
 obtain ⟨mb1, mb2⟩ := hmb
 have hp1 := qAO (rnum a) b.den
 have hp2 := qAO (rnum b) a.den
 have hp3 := qAO a.den b.den
 have hdz : a.den * b.den ≠ 0 := Nat.ne_of_gt (Nat.mul_pos (qAd a) (qAd b))
 obtain ⟨X, hX⟩ : ∃ X, rnum a * b.den = X := ⟨_, rfl⟩
 obtain ⟨Y, hY⟩ : ∃ Y, rnum b * a.den = Y := ⟨_, rfl⟩
 obtain ⟨D, hD⟩ : ∃ D, a.den * b.den = D := ⟨_, rfl⟩
 have hlaw1 : rneg a = rneg b → mkR (rneg a) (X + Y) D = a + b := fun h => by rw [← hX, ← hY, ← hD]; exact qFe h
 have hlaw2 : rneg a ≠ rneg b → (if X < Y then mkR (rneg b) (Y - X) D else mkR (rneg a) (X - Y) D) = a + b := fun h => by rw [← hX, ← hY, ← hD]; exact qHz h
 have hs1 := qCG X Y
 have hs2 : (dg (X - Y)).length ≤ (dg X).length := qAK (Nat.sub_le _ _)
 have hs3 : (dg (Y - X)).length ≤ (dg Y).length := qAK (Nat.sub_le _ _)
 obtain ⟨sa, hsa⟩ : ∃ sa, rneg a = sa := ⟨_, rfl⟩
 obtain ⟨sb, hsb⟩ : ∃ sb, rneg b = sb := ⟨_, rfl⟩
 rw [hX] at hp1
 rw [hY] at hp2
 rw [hD] at hp3 hdz
 rw [hsa, hsb] at hlaw1 hlaw2 ⊢
 have qX : (dg X).length ≤ 4000000 := by omega
 have qY : (dg Y).length ≤ 4000000 := by omega
 have qD : (dg D).length ≤ 4000000 := by omega
 have ⟨hL', ha', hb', han', had', hbn', hbd', hsa'⟩ := hyd8 hL ha hb han had hbn hbd hsa
 have ⟨hsb', hp1', hp2', hp3', hs1', hs2', hs3', hdz'⟩ := hyd8 hsb hp1 hp2 hp3 hs1 hs2 hs3 hdz
 have ⟨hlaw1', hlaw2', hX', hY', hD'⟩ := hyd5 hlaw1 hlaw2 hX hY hD
 clear hD hY hX hlaw2 hlaw1 hdz hs3 hs2 hs1 hp3 hp2 hp1 hsb hsa hbd hbn had han hb ha hL
 go_enter Tryz.func57, Tryz.ntmps57
 go_wp2
 obtain ⟨W0, hW0, hsz, hle, h0, h1, h2⟩ := qAw w (.cells #[.bool sa, .slice An (dg (rnum a)).length cn, .slice Ad (dg a.den).length cd] 59) (.cells #[.bool sb, .slice Bn (dg (rnum b)).length dn, .slice Bd (dg b.den).length dd] 59) (.cells #[.bool false, .slice none 0 0, .slice none 0 0] 59)
 rw [hW0]
 clear hW0
 obtain ⟨ca0, ca1, ca2, -⟩ := qAD h0
 obtain ⟨cb0, cb1, cb2, -⟩ := qAD h1
 have hUp0 := hL'.out.le hle
 have ⟨h0', h1', h2', hle', hUp0'⟩ := hyd5 h0 h1 h2 hle hUp0
 clear hUp0 hle h2 h1 h0
 refine qAG (R := leRel) 12 [some 8, some 9, some 10, some 11, some 12, some 13, some 14, some 15, some 16, some 17, some 5, some 6] [[], [0], [], [2], [1, 3], [], [5], [], [7], [6, 8], [4], [9]]
  [.eq (.pointer (some ⟨w.heap.size, 1, none⟩)), .eq (.slice An (dg (rnum a)).length cn), .eq (.pointer (some ⟨w.heap.size + 1, 2, none⟩)), .eq (.slice Bd (dg b.den).length dd), MPred.num L .i64 X, .eq (.pointer (some ⟨w.heap.size + 1, 1, none⟩)), .eq (.slice Bn (dg (rnum b)).length dn), .eq (.pointer (some ⟨w.heap.size, 2, none⟩)), .eq (.slice Ad (dg a.den).length cd), MPred.num L .i64 Y, MPred.num L .i64 X, MPred.num L .i64 Y] (fun _ _ => False) (by kernel_rfl) (by kernel_rfl) (by kernel_rfl) (by kernel_rfl) ?_ (fun _ _ _ _ _ h => h.elim) ?_
 ·simp only [List.take_succ_cons, List.take_zero]
  refine mSc ?_ (mSc ?_ (mSc ?_ (mSc ?_ (mSc ?_ (mSc ?_ (mSc ?_ (mSc ?_ (mSc ?_ (mSc ?_ (mSc ?_ (mSc ?_ (qAJ))))))))))))
  ·refine mSl rfl fun x W hR hf Q hK _ => ?_
   simp only [fA] at hK ⊢
   go_wp2
   exact hK _ _ lrR rfl
  ·refine mSl rfl fun x W hR hf Q hK _ => ?_
   obtain ⟨e0, -⟩ := hf
   change _ = _ at e0
   have cc := bcl hR (by omega) ca1
   simp only [fA, e0] at hK ⊢
   go_wp2
   exact hK _ _ lrR rfl
  ·refine mSl rfl fun x W hR hf Q hK _ => ?_
   simp only [fA] at hK ⊢
   go_wp2
   exact hK _ _ lrR rfl
  ·refine mSl rfl fun x W hR hf Q hK _ => ?_
   obtain ⟨e0, -⟩ := hf
   change _ = _ at e0
   have cc := bcl hR (by omega) cb2
   simp only [fA, e0] at hK ⊢
   go_wp2
   exact hK _ _ lrR rfl
  ·refine mSl rfl fun x W hR hf Q hK _ => ?_
   obtain ⟨e0, e1, -⟩ := hf
   change _ = _ at e0 e1
   simp only [fA, e0, e1] at hK ⊢
   go_wp2_with (fail)
   go_at_call 99
   refine (qCF L (rnum a) (b.den) _ _ W (hUp0'.out.le hR) ((han'.out.le hle'.out).le hR) ((hbd'.out.le hle'.out).le hR) (by omega) (by omega)).mono ?_
   rintro e w' ⟨v', rfl, y1, y2⟩
   rw [hX'.out] at y2
   obtain ⟨A9, c9, rfl⟩ := y2.slice
   go_wp2
   exact hK _ _ y1 y2
  ·refine mSl rfl fun x W hR hf Q hK _ => ?_
   simp only [fA] at hK ⊢
   go_wp2
   exact hK _ _ lrR rfl
  ·refine mSl rfl fun x W hR hf Q hK _ => ?_
   obtain ⟨e0, -⟩ := hf
   change _ = _ at e0
   have cc := bcl hR (by omega) cb1
   simp only [fA, e0] at hK ⊢
   go_wp2
   exact hK _ _ lrR rfl
  ·refine mSl rfl fun x W hR hf Q hK _ => ?_
   simp only [fA] at hK ⊢
   go_wp2
   exact hK _ _ lrR rfl
  ·refine mSl rfl fun x W hR hf Q hK _ => ?_
   obtain ⟨e0, -⟩ := hf
   change _ = _ at e0
   have cc := bcl hR (by omega) ca2
   simp only [fA, e0] at hK ⊢
   go_wp2
   exact hK _ _ lrR rfl
  ·refine mSl rfl fun x W hR hf Q hK _ => ?_
   obtain ⟨e0, e1, -⟩ := hf
   change _ = _ at e0 e1
   simp only [fA, e0, e1] at hK ⊢
   go_wp2_with (fail)
   go_at_call 99
   refine (qCF L (rnum b) (a.den) _ _ W (hUp0'.out.le hR) ((hbn'.out.le hle'.out).le hR) ((had'.out.le hle'.out).le hR) (by omega) (by omega)).mono ?_
   rintro e w' ⟨v', rfl, y1, y2⟩
   rw [hY'.out] at y2
   obtain ⟨A9, c9, rfl⟩ := y2.slice
   go_wp2
   exact hK _ _ y1 y2
  ·refine mSl rfl fun x W hR hf Q hK _ => ?_
   obtain ⟨e0, -⟩ := hf
   replace e0 : NumL L .i64 W (x 4) X := e0
   obtain ⟨A9, c9, e1⟩ := e0.slice
   rw [e1] at e0
   simp only [fA, e1] at hK ⊢
   go_wp2
   exact hK _ _ lrR e0
  ·refine mSl rfl fun x W hR hf Q hK _ => ?_
   obtain ⟨e0, -⟩ := hf
   replace e0 : NumL L .i64 W (x 9) Y := e0
   obtain ⟨A9, c9, e1⟩ := e0.slice
   rw [e1] at e0
   simp only [fA, e1] at hK ⊢
   go_wp2
   exact hK _ _ lrR e0
 ·intro x W hR hf Q' hQ1 _
  have e0 := hf 0 (by decide)
  have e1 := hf 1 (by decide)
  have e2 := hf 2 (by decide)
  have e3 := hf 3 (by decide)
  have e5 := hf 5 (by decide)
  have e6 := hf 6 (by decide)
  have e7 := hf 7 (by decide)
  have e8 := hf 8 (by decide)
  have e10 : NumL L .i64 W (x 10) X := hf 10 (by decide)
  have e11 : NumL L .i64 W (x 11) Y := hf 11 (by decide)
  change _ = _ at e0 e1 e2 e3 e5 e6 e7 e8
  obtain ⟨Ax, cx, e12⟩ := e10.slice
  obtain ⟨Ay, cy, e13⟩ := e11.slice
  rw [e12] at e10
  rw [e13] at e11
  simp only [List.drop_succ_cons, List.drop_zero]
  rw [show List.range 12 = [0, 1, 2, 3, 4, 5, 6, 7, 8, 9, 10, 11] from rfl]
  simp only [fA, e0, e1, e2, e3, e5, e6, e7, e8, e12, e13]
  generalize x 4 = x4
  generalize x 9 = x9
  clear e0 e1 e2 e3 e5 e6 e7 e8 hf
  have ca0 := bcl hR (by omega) ca0
  have cb0 := bcl hR (by omega) cb0
  have ca2 := bcl hR (by omega) ca2
  have cb2 := bcl hR (by omega) cb2
  have h2W := (Below.block hR (w.heap.size + 1 + 1) (by omega)).trans h2'.out
  have hleW := Le.trans hle'.out hR
  have hUpW := hL'.out.le hleW
  have hzW := Below.size hR
  have ⟨e10', e11', e12', e13', h2W', hleW', hUpW', hR'⟩ := hyd8 e10 e11 e12 e13 h2W hleW hUpW hR
  clear hR hUpW hleW h2W e13 e12 e11 e10
  refine wpList_nil (hQ1 _ _ ?_)
  go_wp2_with (fail)
  go_at_call 99
  refine (qCF L a.den b.den _ _ W hUpW'.out (had'.out.le hleW'.out) (hbd'.out.le hleW'.out) (by omega) (by omega)).mono ?_
  rintro e W1 ⟨v', rfl, y1, y2⟩
  rw [hD'.out] at y2
  obtain ⟨Az, cz, rfl⟩ := y2.slice
  have ca0 := (Below.cell y1 (p := ⟨w.heap.size, 0, none⟩) (by show w.heap.size < W.heap.size; omega)).trans ca0
  have cb0 := (Below.cell y1 (p := ⟨w.heap.size + 1, 0, none⟩) (by show w.heap.size + 1 < W.heap.size; omega)).trans cb0
  have h21 := (Below.block y1 (w.heap.size + 1 + 1) (by omega)).trans h2W'.out
  have hle1 := Le.trans hleW'.out y1
  have hUp1 := hL'.out.le hle1
  have hX1 := e10'.out.le y1
  have hY1 := e11'.out.le y1
  have hz1 := Below.size y1
  have ⟨y1', y2', h21', hle1', hUp1', hX1', hY1'⟩ := hyd7 y1 y2 h21 hle1 hUp1 hX1 hY1
  clear hY1 hX1 hUp1 hle1 h21 y2 y1
  by_cases hs : sa = sb
  ·have hsb2 : (sa == sb) = true := by simp [hs]
   have hl9 : mkR sa (X + Y) D = a + b := hlaw1'.out hs
   have ⟨hs', hl9'⟩ := hyd2 hs hl9
   clear hl9 hs
   go_wp2
   refine qAG (R := leRel) 7 [some 28, some 29, some 30, some 31, some 32, some 33, some 34, none] [[], [0], [], [], [2, 3], [], [1, 4, 5], [6]]
    [.eq (.pointer (some ⟨w.heap.size, 0, none⟩)), .eq (.bool sa), .eq (.slice Ax (dg X).length cx), .eq (.slice Ay (dg Y).length cy), MPred.num L .i64 (X + Y), .eq (.slice Az (dg D).length cz), MPred.rat L .i64 (a + b)] (fun _ _ => False) (by kernel_rfl) (by kernel_rfl) (by kernel_rfl) (by kernel_rfl) ?_ (fun _ _ _ _ _ h => h.elim) ?_
   ·simp only [List.take_succ_cons, List.take_zero]
    refine mSc ?_ (mSc ?_ (mSc ?_ (mSc ?_ (mSc ?_ (mSc ?_ (mSc ?_ (qAJ)))))))
    ·refine mSl rfl fun x W hR hf Q hK _ => ?_
     simp only [fA] at hK ⊢
     go_wp2
     exact hK _ _ lrR rfl
    ·refine mSl rfl fun x W hR hf Q hK _ => ?_
     obtain ⟨e0, -⟩ := hf
     change _ = _ at e0
     have cc := (Below.cell hR (p := ⟨w.heap.size, 0, none⟩) (by show w.heap.size < W1.heap.size; omega)).trans ca0
     simp only [fA, e0] at hK ⊢
     go_wp2
     exact hK _ _ lrR rfl
    ·refine mSl rfl fun x W hR hf Q hK _ => ?_
     simp only [fA] at hK ⊢
     go_wp2
     exact hK _ _ lrR rfl
    ·refine mSl rfl fun x W hR hf Q hK _ => ?_
     simp only [fA] at hK ⊢
     go_wp2
     exact hK _ _ lrR rfl
    ·refine mSl rfl fun x W hR hf Q hK _ => ?_
     obtain ⟨e0, e1, -⟩ := hf
     change _ = _ at e0 e1
     simp only [fA, e0, e1] at hK ⊢
     go_wp2_with (fail)
     go_at_call 101
     refine (qHY L X Y _ _ W (hUp1'.out.le hR) (hX1'.out.le hR) (hY1'.out.le hR) (by omega) (by omega)).mono ?_
     rintro e w' ⟨v', rfl, y1, y2⟩
     obtain ⟨A9, c9, rfl⟩ := y2.slice
     go_wp2
     exact hK _ _ y1 y2
    ·refine mSl rfl fun x W hR hf Q hK _ => ?_
     simp only [fA] at hK ⊢
     go_wp2
     exact hK _ _ lrR rfl
    ·refine mSl rfl fun x W hR hf Q hK _ => ?_
     obtain ⟨e0, e1, e2, -⟩ := hf
     change _ = _ at e0 e2
     replace e1 : NumL L .i64 W (x 4) (X + Y) := e1
     simp only [fA, e0, e2] at hK ⊢
     go_wp2_with (fail)
     go_at_call 100
     refine (qBw L sa (X + Y) D _ _ W (hUp1'.out.le hR) e1 (y2'.out.le hR) hdz'.out (by have := hs1'.out; have := hs2'.out; have := hs3'.out; omega) (by omega)).mono ?_
     rintro e w' ⟨v', rfl, y1, y3⟩
     rw [hl9'.out] at y3
     obtain ⟨A1, c1, A2, c2, rfl, -, -⟩ := y3.form
     go_wp2
     exact hK _ _ y1 y3
   ·intro x W2 hR hf Q' hQ1 _
    have e0 := hf 0 (by decide)
    have e1 := hf 1 (by decide)
    have e2 := hf 2 (by decide)
    have e3 := hf 3 (by decide)
    have e5 := hf 5 (by decide)
    have e15 : RatL L .i64 W2 (x 6) (a + b) := hf 6 (by decide)
    change _ = _ at e0 e1 e2 e3 e5
    obtain ⟨A1, c1, A2, c2, e16, y3, y4⟩ := e15.form
    have h2W := (Below.block hR (w.heap.size + 1 + 1) (by omega)).trans h21'.out
    obtain ⟨z0, z1, z2, g0, g1, g2⟩ := qAD h2W
    simp only [List.drop_succ_cons, List.drop_zero]
    rw [show List.range 7 = [0, 1, 2, 3, 4, 5, 6] from rfl]
    simp only [fA, e0, e1, e2, e3, e5, e16]
    generalize x 4 = x4
    clear e0 e1 e2 e3 e5 hf
    have hle9 := fun u0 u1 u2 => qA8 (u0 := u0) (u1 := u1) (u2 := u2) (Le.trans hle1'.out hR) (show w.heap.size ≤ w.heap.size + 1 + 1 by omega)
    have hb9 := fun u0 u1 u2 => qAD (qAY (u0 := u0) (u1 := u1) (u2 := u2) h2W)
    have hfin := fun u0 u1 u2 => And.intro (NumL.box3 (u0 := u0) (u1 := u1) (u2 := u2) y3 h2W) (NumL.box3 (u0 := u0) (u1 := u1) (u2 := u2) y4 h2W)
    obtain ⟨sr, hsr⟩ : ∃ sr, rneg (a + b) = sr := ⟨_, rfl⟩
    rw [hsr]
    have ⟨hle9', hb9', hfin', h2W', y3', y4', e16', e15'⟩ := hyd8 hle9 hb9 hfin h2W y3 y4 e16 e15
    have ⟨hR', hsr'⟩ := hyd2 hR hsr
    clear hsr hR e15 e16 y4 y3 h2W hfin hb9 hle9
    go_wp2
    refine hQ1 _ _ ?_
    go_wp2
    obtain ⟨d0, d1, d2, -⟩ := hb9'.out (.bool sr) (.slice A1 (dg (rnum (a + b))).length c1) (.slice A2 (dg (a + b).den).length c2)
    refine bodyPost_ret (v := .agg #[.bool sr, .slice A1 (dg (rnum (a + b))).length c1, .slice A2 (dg (a + b).den).length c2]) (by simp [results, Tryz.results57, go_sem, d0, d1, d2]) rfl ⟨_, rfl, hle9'.out _ _ _, ?_⟩
    exact ⟨_, _, by rw [hsr'.out], (hfin'.out _ _ _).1, (hfin'.out _ _ _).2⟩
  ·have hsb2 : (sa == sb) = false := by simpa using hs
   have hl9 := hlaw2'.out hs
   have ⟨hs', hl9'⟩ := hyd2 hs hl9
   clear hl9 hs
   go_wp2_with (fail)
   go_at_call 102
   refine (qCE L L X Y _ _ W1 hX1'.out hY1'.out).mono ?_
   rintro e W3 ⟨rfl, nd9, rfl⟩
   have y3 : Le W1 (W1.drewN nd9) := Le.quiet nd9
   obtain ⟨cc9, hcc9⟩ : ∃ cc9, ordI X Y = cc9 := ⟨_, rfl⟩
   rw [hcc9]
   generalize W1.drewN nd9 = W3 at *
   have ca0 := (Below.cell y3 (p := ⟨w.heap.size, 0, none⟩) (by show w.heap.size < W1.heap.size; omega)).trans ca0
   have cb0 := (Below.cell y3 (p := ⟨w.heap.size + 1, 0, none⟩) (by show w.heap.size + 1 < W1.heap.size; omega)).trans cb0
   have h23 := (Below.block y3 (w.heap.size + 1 + 1) (by omega)).trans h21'.out
   have hle3 := Le.trans hle1'.out y3
   have hUp3 := hL'.out.le hle3
   have hX3 := hX1'.out.le y3
   have hY3 := hY1'.out.le y3
   have hD3 := y2'.out.le y3
   have hz3 := Below.size y3
   clear y2' h21' hle1' hUp1' hX1' hY1'
   have ⟨y2', h21', hle1', hUp1', hX1', hY1'⟩ := hyd6 hD3 h23 hle3 hUp3 hX3 hY3
   clear hD3 h23 hle3 hUp3 hX3 hY3
   have y3' := hyd1 y3
   clear y3
   by_cases hlt : X < Y
   ·have hcn : ¬ 0 ≤ cc9 := by rw [← hcc9, qDU]; omega
    have hl8 : mkR sb (Y - X) D = a + b := by have := hl9'.out; rw [if_pos hlt] at this; exact this
    have hlt' := hyd1 hlt
    clear hlt
    have ⟨hl8', hcc9'⟩ := hyd2 hl8 hcc9
    clear hcc9 hl8
    go_wp2
    refine qAG (R := leRel) 7 [some 46, some 47, some 48, some 49, some 50, some 51, some 52, none] [[], [0], [], [], [2, 3], [], [1, 4, 5], [6]]
     [.eq (.pointer (some ⟨w.heap.size + 1, 0, none⟩)), .eq (.bool sb), .eq (.slice Ay (dg Y).length cy), .eq (.slice Ax (dg X).length cx), MPred.num L .i64 (Y - X), .eq (.slice Az (dg D).length cz), MPred.rat L .i64 (a + b)] (fun _ _ => False) (by kernel_rfl) (by kernel_rfl) (by kernel_rfl) (by kernel_rfl) ?_ (fun _ _ _ _ _ h => h.elim) ?_
    ·simp only [List.take_succ_cons, List.take_zero]
     refine mSc ?_ (mSc ?_ (mSc ?_ (mSc ?_ (mSc ?_ (mSc ?_ (mSc ?_ (qAJ)))))))
     ·refine mSl rfl fun x W hR hf Q hK _ => ?_
      simp only [fA] at hK ⊢
      go_wp2
      exact hK _ _ lrR rfl
     ·refine mSl rfl fun x W hR hf Q hK _ => ?_
      obtain ⟨e0, -⟩ := hf
      change _ = _ at e0
      have cc := (Below.cell hR (p := ⟨w.heap.size + 1, 0, none⟩) (by show w.heap.size + 1 < W3.heap.size; omega)).trans cb0
      simp only [fA, e0] at hK ⊢
      go_wp2
      exact hK _ _ lrR rfl
     ·refine mSl rfl fun x W hR hf Q hK _ => ?_
      simp only [fA] at hK ⊢
      go_wp2
      exact hK _ _ lrR rfl
     ·refine mSl rfl fun x W hR hf Q hK _ => ?_
      simp only [fA] at hK ⊢
      go_wp2
      exact hK _ _ lrR rfl
     ·refine mSl rfl fun x W hR hf Q hK _ => ?_
      obtain ⟨e0, e1, -⟩ := hf
      change _ = _ at e0 e1
      simp only [fA, e0, e1] at hK ⊢
      go_wp2_with (fail)
      go_at_call 103
      refine (qGQ L Y X _ _ W (hUp1'.out.le hR) (hY1'.out.le hR) (hX1'.out.le hR) (Nat.le_of_lt hlt'.out) (by omega)).mono ?_
      rintro e w' ⟨v', rfl, y1, y2⟩
      obtain ⟨A9, c9, rfl⟩ := y2.slice
      go_wp2
      exact hK _ _ y1 y2
     ·refine mSl rfl fun x W hR hf Q hK _ => ?_
      simp only [fA] at hK ⊢
      go_wp2
      exact hK _ _ lrR rfl
     ·refine mSl rfl fun x W hR hf Q hK _ => ?_
      obtain ⟨e0, e1, e2, -⟩ := hf
      change _ = _ at e0 e2
      replace e1 : NumL L .i64 W (x 4) (Y - X) := e1
      simp only [fA, e0, e2] at hK ⊢
      go_wp2_with (fail)
      go_at_call 100
      refine (qBw L sb (Y - X) D _ _ W (hUp1'.out.le hR) e1 (y2'.out.le hR) hdz'.out (by have := hs1'.out; have := hs2'.out; have := hs3'.out; omega) (by omega)).mono ?_
      rintro e w' ⟨v', rfl, y1, y3⟩
      rw [hl8'.out] at y3
      obtain ⟨A1, c1, A2, c2, rfl, -, -⟩ := y3.form
      go_wp2
      exact hK _ _ y1 y3
    ·intro x W2 hR hf Q' hQ1 _
     have e0 := hf 0 (by decide)
     have e1 := hf 1 (by decide)
     have e2 := hf 2 (by decide)
     have e3 := hf 3 (by decide)
     have e5 := hf 5 (by decide)
     have e15 : RatL L .i64 W2 (x 6) (a + b) := hf 6 (by decide)
     change _ = _ at e0 e1 e2 e3 e5
     obtain ⟨A1, c1, A2, c2, e16, y3, y4⟩ := e15.form
     have h2W := (Below.block hR (w.heap.size + 1 + 1) (by omega)).trans h21'.out
     obtain ⟨z0, z1, z2, g0, g1, g2⟩ := qAD h2W
     simp only [List.drop_succ_cons, List.drop_zero]
     rw [show List.range 7 = [0, 1, 2, 3, 4, 5, 6] from rfl]
     simp only [fA, e0, e1, e2, e3, e5, e16]
     generalize x 4 = x4
     clear e0 e1 e2 e3 e5 hf
     have hle9 := fun u0 u1 u2 => qA8 (u0 := u0) (u1 := u1) (u2 := u2) (Le.trans hle1'.out hR) (show w.heap.size ≤ w.heap.size + 1 + 1 by omega)
     have hb9 := fun u0 u1 u2 => qAD (qAY (u0 := u0) (u1 := u1) (u2 := u2) h2W)
     have hfin := fun u0 u1 u2 => And.intro (NumL.box3 (u0 := u0) (u1 := u1) (u2 := u2) y3 h2W) (NumL.box3 (u0 := u0) (u1 := u1) (u2 := u2) y4 h2W)
     obtain ⟨sr, hsr⟩ : ∃ sr, rneg (a + b) = sr := ⟨_, rfl⟩
     rw [hsr]
     have ⟨hle9', hb9', hfin', h2W', y3', y4', e16', e15'⟩ := hyd8 hle9 hb9 hfin h2W y3 y4 e16 e15
     have ⟨hR', hsr'⟩ := hyd2 hR hsr
     clear hsr hR e15 e16 y4 y3 h2W hfin hb9 hle9
     go_wp2
     refine hQ1 _ _ ?_
     go_wp2
     obtain ⟨d0, d1, d2, -⟩ := hb9'.out (.bool sr) (.slice A1 (dg (rnum (a + b))).length c1) (.slice A2 (dg (a + b).den).length c2)
     refine bodyPost_ret (v := .agg #[.bool sr, .slice A1 (dg (rnum (a + b))).length c1, .slice A2 (dg (a + b).den).length c2]) (by simp [results, Tryz.results57, go_sem, d0, d1, d2]) rfl ⟨_, rfl, hle9'.out _ _ _, ?_⟩
     exact ⟨_, _, by rw [hsr'.out], (hfin'.out _ _ _).1, (hfin'.out _ _ _).2⟩
   ·have hcn : 0 ≤ cc9 := by rw [← hcc9, qDU]; omega
    have hl8 : mkR sa (X - Y) D = a + b := by have := hl9'.out; rw [if_neg hlt] at this; exact this
    have hlt' := hyd1 hlt
    clear hlt
    have ⟨hl8', hcc9'⟩ := hyd2 hl8 hcc9
    clear hcc9 hl8
    go_wp2
    refine qAG (R := leRel) 7 [some 39, some 40, some 41, some 42, some 43, some 44, some 45, none] [[], [0], [], [], [2, 3], [], [1, 4, 5], [6]]
     [.eq (.pointer (some ⟨w.heap.size, 0, none⟩)), .eq (.bool sa), .eq (.slice Ax (dg X).length cx), .eq (.slice Ay (dg Y).length cy), MPred.num L .i64 (X - Y), .eq (.slice Az (dg D).length cz), MPred.rat L .i64 (a + b)] (fun _ _ => False) (by kernel_rfl) (by kernel_rfl) (by kernel_rfl) (by kernel_rfl) ?_ (fun _ _ _ _ _ h => h.elim) ?_
    ·simp only [List.take_succ_cons, List.take_zero]
     refine mSc ?_ (mSc ?_ (mSc ?_ (mSc ?_ (mSc ?_ (mSc ?_ (mSc ?_ (qAJ)))))))
     ·refine mSl rfl fun x W hR hf Q hK _ => ?_
      simp only [fA] at hK ⊢
      go_wp2
      exact hK _ _ lrR rfl
     ·refine mSl rfl fun x W hR hf Q hK _ => ?_
      obtain ⟨e0, -⟩ := hf
      change _ = _ at e0
      have cc := (Below.cell hR (p := ⟨w.heap.size, 0, none⟩) (by show w.heap.size < W3.heap.size; omega)).trans ca0
      simp only [fA, e0] at hK ⊢
      go_wp2
      exact hK _ _ lrR rfl
     ·refine mSl rfl fun x W hR hf Q hK _ => ?_
      simp only [fA] at hK ⊢
      go_wp2
      exact hK _ _ lrR rfl
     ·refine mSl rfl fun x W hR hf Q hK _ => ?_
      simp only [fA] at hK ⊢
      go_wp2
      exact hK _ _ lrR rfl
     ·refine mSl rfl fun x W hR hf Q hK _ => ?_
      obtain ⟨e0, e1, -⟩ := hf
      change _ = _ at e0 e1
      simp only [fA, e0, e1] at hK ⊢
      go_wp2_with (fail)
      go_at_call 103
      refine (qGQ L X Y _ _ W (hUp1'.out.le hR) (hX1'.out.le hR) (hY1'.out.le hR) (Nat.le_of_not_lt hlt'.out) (by omega)).mono ?_
      rintro e w' ⟨v', rfl, y1, y2⟩
      obtain ⟨A9, c9, rfl⟩ := y2.slice
      go_wp2
      exact hK _ _ y1 y2
     ·refine mSl rfl fun x W hR hf Q hK _ => ?_
      simp only [fA] at hK ⊢
      go_wp2
      exact hK _ _ lrR rfl
     ·refine mSl rfl fun x W hR hf Q hK _ => ?_
      obtain ⟨e0, e1, e2, -⟩ := hf
      change _ = _ at e0 e2
      replace e1 : NumL L .i64 W (x 4) (X - Y) := e1
      simp only [fA, e0, e2] at hK ⊢
      go_wp2_with (fail)
      go_at_call 100
      refine (qBw L sa (X - Y) D _ _ W (hUp1'.out.le hR) e1 (y2'.out.le hR) hdz'.out (by have := hs1'.out; have := hs2'.out; have := hs3'.out; omega) (by omega)).mono ?_
      rintro e w' ⟨v', rfl, y1, y3⟩
      rw [hl8'.out] at y3
      obtain ⟨A1, c1, A2, c2, rfl, -, -⟩ := y3.form
      go_wp2
      exact hK _ _ y1 y3
    ·intro x W2 hR hf Q' hQ1 _
     have e0 := hf 0 (by decide)
     have e1 := hf 1 (by decide)
     have e2 := hf 2 (by decide)
     have e3 := hf 3 (by decide)
     have e5 := hf 5 (by decide)
     have e15 : RatL L .i64 W2 (x 6) (a + b) := hf 6 (by decide)
     change _ = _ at e0 e1 e2 e3 e5
     obtain ⟨A1, c1, A2, c2, e16, y3, y4⟩ := e15.form
     have h2W := (Below.block hR (w.heap.size + 1 + 1) (by omega)).trans h21'.out
     obtain ⟨z0, z1, z2, g0, g1, g2⟩ := qAD h2W
     simp only [List.drop_succ_cons, List.drop_zero]
     rw [show List.range 7 = [0, 1, 2, 3, 4, 5, 6] from rfl]
     simp only [fA, e0, e1, e2, e3, e5, e16]
     generalize x 4 = x4
     clear e0 e1 e2 e3 e5 hf
     have hle9 := fun u0 u1 u2 => qA8 (u0 := u0) (u1 := u1) (u2 := u2) (Le.trans hle1'.out hR) (show w.heap.size ≤ w.heap.size + 1 + 1 by omega)
     have hb9 := fun u0 u1 u2 => qAD (qAY (u0 := u0) (u1 := u1) (u2 := u2) h2W)
     have hfin := fun u0 u1 u2 => And.intro (NumL.box3 (u0 := u0) (u1 := u1) (u2 := u2) y3 h2W) (NumL.box3 (u0 := u0) (u1 := u1) (u2 := u2) y4 h2W)
     obtain ⟨sr, hsr⟩ : ∃ sr, rneg (a + b) = sr := ⟨_, rfl⟩
     rw [hsr]
     have ⟨hle9', hb9', hfin', h2W', y3', y4', e16', e15'⟩ := hyd8 hle9 hb9 hfin h2W y3 y4 e16 e15
     have ⟨hR', hsr'⟩ := hyd2 hR hsr
     clear hsr hR e15 e16 y4 y3 h2W hfin hb9 hle9
     go_wp2
     refine hQ1 _ _ ?_
     go_wp2
     obtain ⟨d0, d1, d2, -⟩ := hb9'.out (.bool sr) (.slice A1 (dg (rnum (a + b))).length c1) (.slice A2 (dg (a + b).den).length c2)
     refine bodyPost_ret (v := .agg #[.bool sr, .slice A1 (dg (rnum (a + b))).length c1, .slice A2 (dg (a + b).den).length c2]) (by simp [results, Tryz.results57, go_sem, d0, d1, d2]) rfl ⟨_, rfl, hle9'.out _ _ _, ?_⟩
     exact ⟨_, _, by rw [hsr'.out], (hfin'.out _ _ _).1, (hfin'.out _ _ _).2⟩
theorem qC5 (L : Nat → Prop) (a b : Rat) (va vb : Value) (w : World) (hL : Up w L) (ha : RatL L .i64 w va a) (hb : RatL L .i64 w vb b) (hma : Rsz a 5000000) (hmb : Rsz b 5000000) :
  Calls Tryz.prog 59 #[va, vb] w fun e w' => ∃ v', e = .returned v' ∧ Le w w' ∧ RatL L .i64 w' v' (a * b) := by
 obtain ⟨An, cn, Ad, cd, rfl, han, had⟩ := ha.form
 obtain ⟨Bn, dn, Bd, dd, rfl, hbn, hbd⟩ := hb.form
 obtain ⟨ma1, ma2⟩ := hma
 obtain ⟨mb1, mb2⟩ := hmb
 have hp1 := qAO (rnum a) (rnum b)
 have hp2 := qAO (a.den) (b.den)
 have hdz : (a.den) * (b.den) ≠ 0 := Nat.ne_of_gt (Nat.mul_pos (qAd a) (qAd b))
 obtain ⟨sa, hsa⟩ : ∃ sa, rneg a = sa := ⟨_, rfl⟩
 obtain ⟨sb, hsb⟩ : ∃ sb, rneg b = sb := ⟨_, rfl⟩
 have hlaw := qGm a b
 rw [hsa, hsb] at *
 have ⟨hL', ha', hb', han', had', hbn', hbd', hsa'⟩ := hyd8 hL ha hb han had hbn hbd hsa
 have ⟨hsb', hp1', hp2', hdz', hlaw'⟩ := hyd5 hsb hp1 hp2 hdz hlaw
 clear hlaw hdz hp2 hp1 hsb hsa hbd hbn had han hb ha hL
 go_enter Tryz.func59, Tryz.ntmps59
 go_wp2
 obtain ⟨W0, hW0, hsz, hle, h0, h1, h2⟩ := qAw w (.cells #[.bool sa, .slice An (dg (rnum a)).length cn, .slice Ad (dg a.den).length cd] 59) (.cells #[.bool sb, .slice Bn (dg (rnum b)).length dn, .slice Bd (dg b.den).length dd] 59) (.cells #[.bool false, .slice none 0 0, .slice none 0 0] 59)
 rw [hW0]
 clear hW0
 obtain ⟨ca0, ca1, ca2, -⟩ := qAD h0
 obtain ⟨cb0, cb1, cb2, -⟩ := qAD h1
 have hUp0 := hL'.out.le hle
 have ⟨h0', h1', h2', hle', hUp0'⟩ := hyd5 h0 h1 h2 hle hUp0
 clear hUp0 hle h2 h1 h0
 refine qAG (R := leRel) 16 [some 5, some 6, some 7, some 8, some 9, some 10, some 11, some 12, some 13, some 14, some 15, some 16, some 17, some 18, some 19, some 20, none] [[], [0], [], [2], [1, 3], [], [5], [], [7], [6, 8], [], [10], [], [12], [11, 13], [4, 9, 14], [15]]
  [.eq (.pointer (some ⟨w.heap.size, 0, none⟩)), .eq (.bool sa), .eq (.pointer (some ⟨w.heap.size + 1, 0, none⟩)), .eq (.bool sb), .eq (.bool (sa != sb)), .eq (.pointer (some ⟨w.heap.size, 1, none⟩)), .eq (.slice An (dg (rnum a)).length cn), .eq (.pointer (some ⟨w.heap.size + 1, 1, none⟩)), .eq (.slice Bn (dg (rnum b)).length dn), MPred.num L .i64 (rnum a * rnum b),
   .eq (.pointer (some ⟨w.heap.size, 2, none⟩)), .eq (.slice Ad (dg a.den).length cd), .eq (.pointer (some ⟨w.heap.size + 1, 2, none⟩)), .eq (.slice Bd (dg b.den).length dd), MPred.num L .i64 (a.den * b.den), MPred.rat L .i64 (a * b)] (fun _ _ => False) (by kernel_rfl) (by kernel_rfl) (by kernel_rfl) (by kernel_rfl) ?_ (fun _ _ _ _ _ h => h.elim) ?_
 ·simp only [List.take_succ_cons, List.take_zero]
  refine mSc ?_ (mSc ?_ (mSc ?_ (mSc ?_ (mSc ?_ (mSc ?_ (mSc ?_ (mSc ?_ (mSc ?_ (mSc ?_ (mSc ?_ (mSc ?_ (mSc ?_ (mSc ?_ (mSc ?_ (mSc ?_ (qAJ))))))))))))))))
  ·refine mSl rfl fun x W hR hf Q hK _ => ?_
   simp only [fA] at hK ⊢
   go_wp2
   exact hK _ _ lrR rfl
  ·refine mSl rfl fun x W hR hf Q hK _ => ?_
   obtain ⟨e0, -⟩ := hf
   change _ = _ at e0
   have cc := bcl hR (by omega) ca0
   simp only [fA, e0] at hK ⊢
   go_wp2
   exact hK _ _ lrR rfl
  ·refine mSl rfl fun x W hR hf Q hK _ => ?_
   simp only [fA] at hK ⊢
   go_wp2
   exact hK _ _ lrR rfl
  ·refine mSl rfl fun x W hR hf Q hK _ => ?_
   obtain ⟨e0, -⟩ := hf
   change _ = _ at e0
   have cc := bcl hR (by omega) cb0
   simp only [fA, e0] at hK ⊢
   go_wp2
   exact hK _ _ lrR rfl
  ·refine mSl rfl fun x W hR hf Q hK _ => ?_
   obtain ⟨e0, e1, -⟩ := hf
   change _ = _ at e0 e1
   simp only [fA, e0, e1] at hK ⊢
   go_wp2
   exact hK _ _ lrR rfl
  ·refine mSl rfl fun x W hR hf Q hK _ => ?_
   simp only [fA] at hK ⊢
   go_wp2
   exact hK _ _ lrR rfl
  ·refine mSl rfl fun x W hR hf Q hK _ => ?_
   obtain ⟨e0, -⟩ := hf
   change _ = _ at e0
   have cc := bcl hR (by omega) ca1
   simp only [fA, e0] at hK ⊢
   go_wp2
   exact hK _ _ lrR rfl
  ·refine mSl rfl fun x W hR hf Q hK _ => ?_
   simp only [fA] at hK ⊢
   go_wp2
   exact hK _ _ lrR rfl
  ·refine mSl rfl fun x W hR hf Q hK _ => ?_
   obtain ⟨e0, -⟩ := hf
   change _ = _ at e0
   have cc := bcl hR (by omega) cb1
   simp only [fA, e0] at hK ⊢
   go_wp2
   exact hK _ _ lrR rfl
  ·refine mSl rfl fun x W hR hf Q hK _ => ?_
   obtain ⟨e0, e1, -⟩ := hf
   change _ = _ at e0 e1
   simp only [fA, e0, e1] at hK ⊢
   go_wp2_with (fail)
   go_at_call 99
   refine (qCF L (rnum a) (rnum b) _ _ W (hUp0'.out.le hR) ((han'.out.le hle'.out).le hR) ((hbn'.out.le hle'.out).le hR) (by omega) (by omega)).mono ?_
   rintro e w' ⟨v', rfl, y1, y2⟩
   obtain ⟨A9, c9, rfl⟩ := y2.slice
   go_wp2
   exact hK _ _ y1 y2
  ·refine mSl rfl fun x W hR hf Q hK _ => ?_
   simp only [fA] at hK ⊢
   go_wp2
   exact hK _ _ lrR rfl
  ·refine mSl rfl fun x W hR hf Q hK _ => ?_
   obtain ⟨e0, -⟩ := hf
   change _ = _ at e0
   have cc := bcl hR (by omega) ca2
   simp only [fA, e0] at hK ⊢
   go_wp2
   exact hK _ _ lrR rfl
  ·refine mSl rfl fun x W hR hf Q hK _ => ?_
   simp only [fA] at hK ⊢
   go_wp2
   exact hK _ _ lrR rfl
  ·refine mSl rfl fun x W hR hf Q hK _ => ?_
   obtain ⟨e0, -⟩ := hf
   change _ = _ at e0
   have cc := bcl hR (by omega) cb2
   simp only [fA, e0] at hK ⊢
   go_wp2
   exact hK _ _ lrR rfl
  ·refine mSl rfl fun x W hR hf Q hK _ => ?_
   obtain ⟨e0, e1, -⟩ := hf
   change _ = _ at e0 e1
   simp only [fA, e0, e1] at hK ⊢
   go_wp2_with (fail)
   go_at_call 99
   refine (qCF L (a.den) (b.den) _ _ W (hUp0'.out.le hR) ((had'.out.le hle'.out).le hR) ((hbd'.out.le hle'.out).le hR) (by omega) (by omega)).mono ?_
   rintro e w' ⟨v', rfl, y1, y2⟩
   obtain ⟨A9, c9, rfl⟩ := y2.slice
   go_wp2
   exact hK _ _ y1 y2
  ·refine mSl rfl fun x W hR hf Q hK _ => ?_
   obtain ⟨e0, e1, e2, -⟩ := hf
   change _ = _ at e0
   replace e1 : NumL L .i64 W (x 9) (rnum a * rnum b) := e1
   replace e2 : NumL L .i64 W (x 14) (a.den * b.den) := e2
   simp only [fA, e0] at hK ⊢
   go_wp2_with (fail)
   go_at_call 100
   refine (qBw L (sa != sb) (rnum a * rnum b) (a.den * b.den) _ _ W (hUp0'.out.le hR) e1 e2 hdz'.out (by have := hp1'.out; omega) (by have := hp2'.out; omega)).mono ?_
   rintro e w' ⟨v', rfl, y1, y2⟩
   rw [hlaw'.out] at y2
   obtain ⟨A1, c1, A2, c2, rfl, -, -⟩ := y2.form
   go_wp2
   exact hK _ _ y1 y2
 ·intro x W hR hf Q' hQ1 _
  have e0 := hf 0 (by decide)
  have e1 := hf 1 (by decide)
  have e2 := hf 2 (by decide)
  have e3 := hf 3 (by decide)
  have e4 := hf 4 (by decide)
  have e5 := hf 5 (by decide)
  have e6 := hf 6 (by decide)
  have e7 := hf 7 (by decide)
  have e8 := hf 8 (by decide)
  have e10 := hf 10 (by decide)
  have e11 := hf 11 (by decide)
  have e12 := hf 12 (by decide)
  have e13 := hf 13 (by decide)
  have e15 : RatL L .i64 W (x 15) (a * b) := hf 15 (by decide)
  change _ = _ at e0 e1 e2 e3 e4 e5 e6 e7 e8 e10 e11 e12 e13
  obtain ⟨A1, c1, A2, c2, e16, y1, y2⟩ := e15.form
  have h2W := (Below.block hR (w.heap.size + 1 + 1) (by omega)).trans h2'.out
  obtain ⟨z0, z1, z2, g0, g1, g2⟩ := qAD h2W
  simp only [List.drop_succ_cons, List.drop_zero]
  rw [show List.range 16 = [0, 1, 2, 3, 4, 5, 6, 7, 8, 9, 10, 11, 12, 13, 14, 15] from rfl]
  simp only [fA, e0, e1, e2, e3, e4, e5, e6, e7, e8, e10, e11, e12, e13, e16]
  generalize x 9 = x9
  generalize x 14 = x14
  clear e0 e1 e2 e3 e4 e5 e6 e7 e8 e10 e11 e12 e13 hf
  have hle9 := fun u0 u1 u2 => qA8 (u0 := u0) (u1 := u1) (u2 := u2) (Le.trans hle'.out hR) (show w.heap.size ≤ w.heap.size + 1 + 1 by omega)
  have hb9 := fun u0 u1 u2 => qAD (qAY (u0 := u0) (u1 := u1) (u2 := u2) h2W)
  have hfin := fun u0 u1 u2 => And.intro (NumL.box3 (u0 := u0) (u1 := u1) (u2 := u2) y1 h2W) (NumL.box3 (u0 := u0) (u1 := u1) (u2 := u2) y2 h2W)
  obtain ⟨sr, hsr⟩ : ∃ sr, rneg (a * b) = sr := ⟨_, rfl⟩
  rw [hsr]
  have ⟨hle9', hb9', hfin', h2W', y1', y2', e16', e15'⟩ := hyd8 hle9 hb9 hfin h2W y1 y2 e16 e15
  have ⟨hR', hsr'⟩ := hyd2 hR hsr
  clear hsr hR e15 e16 y2 y1 h2W hfin hb9 hle9
  go_wp2
  refine hQ1 _ _ ?_
  go_wp2
  obtain ⟨d0, d1, d2, -⟩ := hb9'.out (.bool sr) (.slice A1 (dg (rnum (a * b))).length c1) (.slice A2 (dg (a * b).den).length c2)
  refine bodyPost_ret (v := .agg #[.bool sr, .slice A1 (dg (rnum (a * b))).length c1, .slice A2 (dg (a * b).den).length c2]) (by simp [results, Tryz.results59, go_sem, d0, d1, d2]) rfl ⟨_, rfl, hle9'.out _ _ _, ?_⟩
  exact ⟨_, _, by rw [hsr'.out], (hfin'.out _ _ _).1, (hfin'.out _ _ _).2⟩
theorem qHZ (L : Nat → Prop) (a b : Rat) (va vb : Value) (w : World) (hL : Up w L) (ha : RatL L .i64 w va a) (hb : RatL L .i64 w vb b) (hma : Rsz a 5000000) (hmb : Rsz b 5000000) (hb0 : b ≠ 0) :
  Calls Tryz.prog 132 #[va, vb] w fun e w' => ∃ v', e = .returned v' ∧ Le w w' ∧ RatL L .i64 w' v' (a / b) := by
 obtain ⟨An, cn, Ad, cd, rfl, han, had⟩ := ha.form
 obtain ⟨Bn, dn, Bd, dd, rfl, hbn, hbd⟩ := hb.form
 obtain ⟨ma1, ma2⟩ := hma
 obtain ⟨mb1, mb2⟩ := hmb
 have hp1 := qAO (rnum a) (b.den)
 have hp2 := qAO (a.den) (rnum b)
 have hdz : (a.den) * (rnum b) ≠ 0 := Nat.ne_of_gt (Nat.mul_pos (qAd a) (Nat.pos_of_ne_zero fun h => hb0 (rnum_zero.1 h)))
 obtain ⟨sa, hsa⟩ : ∃ sa, rneg a = sa := ⟨_, rfl⟩
 obtain ⟨sb, hsb⟩ : ∃ sb, rneg b = sb := ⟨_, rfl⟩
 have hlaw := qFT (a := a) hb0
 rw [hsa, hsb] at *
 have ⟨hL', ha', hb', han', had', hbn', hbd', hsa'⟩ := hyd8 hL ha hb han had hbn hbd hsa
 have ⟨hsb', hp1', hp2', hdz', hlaw'⟩ := hyd5 hsb hp1 hp2 hdz hlaw
 clear hlaw hdz hp2 hp1 hsb hsa hbd hbn had han hb ha hL
 go_enter Tryz.func132, Tryz.ntmps132
 go_wp2
 obtain ⟨W0, hW0, hsz, hle, h0, h1, h2⟩ := qAw w (.cells #[.bool sa, .slice An (dg (rnum a)).length cn, .slice Ad (dg a.den).length cd] 59) (.cells #[.bool sb, .slice Bn (dg (rnum b)).length dn, .slice Bd (dg b.den).length dd] 59) (.cells #[.bool false, .slice none 0 0, .slice none 0 0] 59)
 rw [hW0]
 clear hW0
 obtain ⟨ca0, ca1, ca2, -⟩ := qAD h0
 obtain ⟨cb0, cb1, cb2, -⟩ := qAD h1
 have hUp0 := hL'.out.le hle
 have ⟨h0', h1', h2', hle', hUp0'⟩ := hyd5 h0 h1 h2 hle hUp0
 clear hUp0 hle h2 h1 h0
 refine qAG (R := leRel) 16 [some 5, some 6, some 7, some 8, some 9, some 10, some 11, some 12, some 13, some 14, some 15, some 16, some 17, some 18, some 19, some 20, none] [[], [0], [], [2], [1, 3], [], [5], [], [7], [6, 8], [], [10], [], [12], [11, 13], [4, 9, 14], [15]]
  [.eq (.pointer (some ⟨w.heap.size, 0, none⟩)), .eq (.bool sa), .eq (.pointer (some ⟨w.heap.size + 1, 0, none⟩)), .eq (.bool sb), .eq (.bool (sa != sb)), .eq (.pointer (some ⟨w.heap.size, 1, none⟩)), .eq (.slice An (dg (rnum a)).length cn), .eq (.pointer (some ⟨w.heap.size + 1, 2, none⟩)), .eq (.slice Bd (dg b.den).length dd), MPred.num L .i64 (rnum a * b.den),
   .eq (.pointer (some ⟨w.heap.size, 2, none⟩)), .eq (.slice Ad (dg a.den).length cd), .eq (.pointer (some ⟨w.heap.size + 1, 1, none⟩)), .eq (.slice Bn (dg (rnum b)).length dn), MPred.num L .i64 (a.den * rnum b), MPred.rat L .i64 (a / b)] (fun _ _ => False) (by kernel_rfl) (by kernel_rfl) (by kernel_rfl) (by kernel_rfl) ?_ (fun _ _ _ _ _ h => h.elim) ?_
 ·simp only [List.take_succ_cons, List.take_zero]
  refine mSc ?_ (mSc ?_ (mSc ?_ (mSc ?_ (mSc ?_ (mSc ?_ (mSc ?_ (mSc ?_ (mSc ?_ (mSc ?_ (mSc ?_ (mSc ?_ (mSc ?_ (mSc ?_ (mSc ?_ (mSc ?_ (qAJ))))))))))))))))
  ·refine mSl rfl fun x W hR hf Q hK _ => ?_
   simp only [fA] at hK ⊢
   go_wp2
   exact hK _ _ lrR rfl
  ·refine mSl rfl fun x W hR hf Q hK _ => ?_
   obtain ⟨e0, -⟩ := hf
   change _ = _ at e0
   have cc := bcl hR (by omega) ca0
   simp only [fA, e0] at hK ⊢
   go_wp2
   exact hK _ _ lrR rfl
  ·refine mSl rfl fun x W hR hf Q hK _ => ?_
   simp only [fA] at hK ⊢
   go_wp2
   exact hK _ _ lrR rfl
  ·refine mSl rfl fun x W hR hf Q hK _ => ?_
   obtain ⟨e0, -⟩ := hf
   change _ = _ at e0
   have cc := bcl hR (by omega) cb0
   simp only [fA, e0] at hK ⊢
   go_wp2
   exact hK _ _ lrR rfl
  ·refine mSl rfl fun x W hR hf Q hK _ => ?_
   obtain ⟨e0, e1, -⟩ := hf
   change _ = _ at e0 e1
   simp only [fA, e0, e1] at hK ⊢
   go_wp2
   exact hK _ _ lrR rfl
  ·refine mSl rfl fun x W hR hf Q hK _ => ?_
   simp only [fA] at hK ⊢
   go_wp2
   exact hK _ _ lrR rfl
  ·refine mSl rfl fun x W hR hf Q hK _ => ?_
   obtain ⟨e0, -⟩ := hf
   change _ = _ at e0
   have cc := bcl hR (by omega) ca1
   simp only [fA, e0] at hK ⊢
   go_wp2
   exact hK _ _ lrR rfl
  ·refine mSl rfl fun x W hR hf Q hK _ => ?_
   simp only [fA] at hK ⊢
   go_wp2
   exact hK _ _ lrR rfl
  ·refine mSl rfl fun x W hR hf Q hK _ => ?_
   obtain ⟨e0, -⟩ := hf
   change _ = _ at e0
   have cc := bcl hR (by omega) cb2
   simp only [fA, e0] at hK ⊢
   go_wp2
   exact hK _ _ lrR rfl
  ·refine mSl rfl fun x W hR hf Q hK _ => ?_
   obtain ⟨e0, e1, -⟩ := hf
   change _ = _ at e0 e1
   simp only [fA, e0, e1] at hK ⊢
   go_wp2_with (fail)
   go_at_call 99
   refine (qCF L (rnum a) (b.den) _ _ W (hUp0'.out.le hR) ((han'.out.le hle'.out).le hR) ((hbd'.out.le hle'.out).le hR) (by omega) (by omega)).mono ?_
   rintro e w' ⟨v', rfl, y1, y2⟩
   obtain ⟨A9, c9, rfl⟩ := y2.slice
   go_wp2
   exact hK _ _ y1 y2
  ·refine mSl rfl fun x W hR hf Q hK _ => ?_
   simp only [fA] at hK ⊢
   go_wp2
   exact hK _ _ lrR rfl
  ·refine mSl rfl fun x W hR hf Q hK _ => ?_
   obtain ⟨e0, -⟩ := hf
   change _ = _ at e0
   have cc := bcl hR (by omega) ca2
   simp only [fA, e0] at hK ⊢
   go_wp2
   exact hK _ _ lrR rfl
  ·refine mSl rfl fun x W hR hf Q hK _ => ?_
   simp only [fA] at hK ⊢
   go_wp2
   exact hK _ _ lrR rfl
  ·refine mSl rfl fun x W hR hf Q hK _ => ?_
   obtain ⟨e0, -⟩ := hf
   change _ = _ at e0
   have cc := bcl hR (by omega) cb1
   simp only [fA, e0] at hK ⊢
   go_wp2
   exact hK _ _ lrR rfl
  ·refine mSl rfl fun x W hR hf Q hK _ => ?_
   obtain ⟨e0, e1, -⟩ := hf
   change _ = _ at e0 e1
   simp only [fA, e0, e1] at hK ⊢
   go_wp2_with (fail)
   go_at_call 99
   refine (qCF L (a.den) (rnum b) _ _ W (hUp0'.out.le hR) ((had'.out.le hle'.out).le hR) ((hbn'.out.le hle'.out).le hR) (by omega) (by omega)).mono ?_
   rintro e w' ⟨v', rfl, y1, y2⟩
   obtain ⟨A9, c9, rfl⟩ := y2.slice
   go_wp2
   exact hK _ _ y1 y2
  ·refine mSl rfl fun x W hR hf Q hK _ => ?_
   obtain ⟨e0, e1, e2, -⟩ := hf
   change _ = _ at e0
   replace e1 : NumL L .i64 W (x 9) (rnum a * b.den) := e1
   replace e2 : NumL L .i64 W (x 14) (a.den * rnum b) := e2
   simp only [fA, e0] at hK ⊢
   go_wp2_with (fail)
   go_at_call 100
   refine (qBw L (sa != sb) (rnum a * b.den) (a.den * rnum b) _ _ W (hUp0'.out.le hR) e1 e2 hdz'.out (by have := hp1'.out; omega) (by have := hp2'.out; omega)).mono ?_
   rintro e w' ⟨v', rfl, y1, y2⟩
   rw [hlaw'.out] at y2
   obtain ⟨A1, c1, A2, c2, rfl, -, -⟩ := y2.form
   go_wp2
   exact hK _ _ y1 y2
 ·intro x W hR hf Q' hQ1 _
  have e0 := hf 0 (by decide)
  have e1 := hf 1 (by decide)
  have e2 := hf 2 (by decide)
  have e3 := hf 3 (by decide)
  have e4 := hf 4 (by decide)
  have e5 := hf 5 (by decide)
  have e6 := hf 6 (by decide)
  have e7 := hf 7 (by decide)
  have e8 := hf 8 (by decide)
  have e10 := hf 10 (by decide)
  have e11 := hf 11 (by decide)
  have e12 := hf 12 (by decide)
  have e13 := hf 13 (by decide)
  have e15 : RatL L .i64 W (x 15) (a / b) := hf 15 (by decide)
  change _ = _ at e0 e1 e2 e3 e4 e5 e6 e7 e8 e10 e11 e12 e13
  obtain ⟨A1, c1, A2, c2, e16, y1, y2⟩ := e15.form
  have h2W := (Below.block hR (w.heap.size + 1 + 1) (by omega)).trans h2'.out
  obtain ⟨z0, z1, z2, g0, g1, g2⟩ := qAD h2W
  simp only [List.drop_succ_cons, List.drop_zero]
  rw [show List.range 16 = [0, 1, 2, 3, 4, 5, 6, 7, 8, 9, 10, 11, 12, 13, 14, 15] from rfl]
  simp only [fA, e0, e1, e2, e3, e4, e5, e6, e7, e8, e10, e11, e12, e13, e16]
  generalize x 9 = x9
  generalize x 14 = x14
  clear e0 e1 e2 e3 e4 e5 e6 e7 e8 e10 e11 e12 e13 hf
  have hle9 := fun u0 u1 u2 => qA8 (u0 := u0) (u1 := u1) (u2 := u2) (Le.trans hle'.out hR) (show w.heap.size ≤ w.heap.size + 1 + 1 by omega)
  have hb9 := fun u0 u1 u2 => qAD (qAY (u0 := u0) (u1 := u1) (u2 := u2) h2W)
  have hfin := fun u0 u1 u2 => And.intro (NumL.box3 (u0 := u0) (u1 := u1) (u2 := u2) y1 h2W) (NumL.box3 (u0 := u0) (u1 := u1) (u2 := u2) y2 h2W)
  obtain ⟨sr, hsr⟩ : ∃ sr, rneg (a / b) = sr := ⟨_, rfl⟩
  rw [hsr]
  have ⟨hle9', hb9', hfin', h2W', y1', y2', e16', e15'⟩ := hyd8 hle9 hb9 hfin h2W y1 y2 e16 e15
  have ⟨hR', hsr'⟩ := hyd2 hR hsr
  clear hsr hR e15 e16 y2 y1 h2W hfin hb9 hle9
  go_wp2
  refine hQ1 _ _ ?_
  go_wp2
  obtain ⟨d0, d1, d2, -⟩ := hb9'.out (.bool sr) (.slice A1 (dg (rnum (a / b))).length c1) (.slice A2 (dg (a / b).den).length c2)
  refine bodyPost_ret (v := .agg #[.bool sr, .slice A1 (dg (rnum (a / b))).length c1, .slice A2 (dg (a / b).den).length c2]) (by simp [results, Tryz.results132, go_sem, d0, d1, d2]) rfl ⟨_, rfl, hle9'.out _ _ _, ?_⟩
  exact ⟨_, _, by rw [hsr'.out], (hfin'.out _ _ _).1, (hfin'.out _ _ _).2⟩
theorem qK2 {L : Nat → Prop} {V : World} (hL : ∀ b, V.heap.size ≤ b → L b) (a b c : Nat) (t : TypeId) : ArrL L (gv .i64) (V.alloc (.cells #[.int .i64 a, .int .i64 b, .int .i64 c] t)) (.slice (some ⟨V.heap.size, 0, none⟩) 3 3) [a, b, c] := by
 refine ⟨some ⟨V.heap.size, 0, none⟩, 3, rfl, Nat.le_refl _, by unfold maxLen; omega, nofun, fun _ => ⟨V.heap.size, 0, rfl, hL _ (Nat.le_refl _), by unfold World.alloc; show V.heap.size < (V.heap.push _).size; rw [Array.size_push]; omega, fun j hj => ?_⟩⟩
 have hk : (V.alloc (.cells #[.int .i64 a, .int .i64 b, .int .i64 c] t)).heap[V.heap.size]? = some (.cells #[.int .i64 a, .int .i64 b, .int .i64 c] t) := by unfold World.alloc; exact Array.getElem?_push_size
 rw [Nat.zero_add, cell_of_row _ _ _ _ t (0, 0) hk]
 match j, hj with
 | 0, _ => rfl
 | 1, _ => rfl
 | 2, _ => rfl
theorem dg3 {N r0 r1 r2 q1 : Nat} (h0 : N % 1000000000 = r0) (h1 : N / 1000000000 = q1) (h2 : q1 % 1000000000 = r1) (h3 : q1 / 1000000000 = r2) (hN : N ≤ 18446744073709551615) : qA4 [r0, r1, r2] = dg N := by
 have hB := qAT
 have hl : Low [r0, r1, r2] := fun g hg => by
  simp at hg
  rcases hg with rfl | rfl | rfl <;> omega
 rw [qFd hl]
 congr 1
 simp only [nv, hB]
 omega
theorem qBm {N : Nat} (hN : N ≤ 18446744073709551615) : (dg N).length ≤ 3 := qAu (by
 have h1 : B9 ^ 3 = 1000000000000000000000000000 := by rw [qAT]
 omega)
theorem qBi (L : Nat → Prop) (z : Int) (w : World) (hL : Up w L) (hz0 : -9223372036854775808 ≤ z) (hz1 : z ≤ 9223372036854775807) :
  Calls Tryz.prog 60 #[.int .i64 z] w fun e w' => ∃ v', e = .returned v' ∧ Le w w' ∧ NumL L .i64 w' v' z.natAbs := by
 obtain ⟨N, hN⟩ : ∃ N, z.natAbs = N := ⟨_, rfl⟩
 rw [hN]
 have hNl : N ≤ 18446744073709551615 := by omega
 obtain ⟨r0, h0⟩ : ∃ r0, N % 1000000000 = r0 := ⟨_, rfl⟩
 obtain ⟨q1, h1⟩ : ∃ q1, N / 1000000000 = q1 := ⟨_, rfl⟩
 obtain ⟨r1, h2⟩ : ∃ r1, q1 % 1000000000 = r1 := ⟨_, rfl⟩
 obtain ⟨r2, h3⟩ : ∃ r2, q1 / 1000000000 = r2 := ⟨_, rfl⟩
 have hd := dg3 h0 h1 h2 h3 hNl
 have b0 : r0 < 1000000000 := by omega
 have b1 : r1 < 1000000000 := by omega
 have b2 : r2 < 1000000000 := by omega
 have bq : (q1 : Int) ≤ 18446744074 := by omega
 have bN : (N : Int) ≤ 18446744073709551615 := by omega
 have i0 : (N : Int) % 1000000000 = (r0 : Int) := by omega
 have i1 : (N : Int) / 1000000000 = (q1 : Int) := by omega
 have i2 : (q1 : Int) % 1000000000 = (r1 : Int) := by omega
 have i3 : (q1 : Int) / 1000000000 = (r2 : Int) := by omega
 have hlit := qK2 (L := L) (V := w) hL r0 r1 r2 3
 have hlz := qAA w (.cells #[.int .i64 r0, .int .i64 r1, .int .i64 r2] 3)
 by_cases hz : z < 0
 ·have j0 : -(z + 1) + 1 = (N : Int) := by omega
  have ⟨hL', hN', h0', h1', h2', h3', hd', hlit'⟩ := hyd8 hL hN h0 h1 h2 h3 hd hlit
  have hlz' := hyd1 hlz
  clear hlz hlit hd h3 h2 h1 h0 hN hL
  go_enter Tryz.func60, Tryz.ntmps60
  go_wp2_with (first | (go_at_call 104; ((with_reducible refine (qDN L _ _ _ hlit'.out).mono ?_); rintro e w' ⟨v2, rfl, rfl, hv2⟩)))
  go_ret
  exact ⟨_, rfl, hlz'.out, by unfold NumL; rw [← hd'.out]; exact hv2⟩
 ·have j0 : z = (N : Int) := by omega
  subst j0
  have w1 : IntKind.u64.wrap (N : Int) = (N : Int) := by
   have := qJK (N : Int) (by omega) hz1
   simpa using this
  have ⟨hL', hN', h0', h1', h2', h3', hd', hlit'⟩ := hyd8 hL hN h0 h1 h2 h3 hd hlit
  have hlz' := hyd1 hlz
  clear hlz hlit hd h3 h2 h1 h0 hN hL
  go_enter Tryz.func60, Tryz.ntmps60
  go_wp2_with (first | (go_at_call 104; ((with_reducible refine (qDN L _ _ _ hlit'.out).mono ?_); rintro e w' ⟨v2, rfl, rfl, hv2⟩)))
  go_ret
  exact ⟨_, rfl, hlz'.out, by unfold NumL; rw [← hd'.out]; exact hv2⟩
theorem qIP (a b : Int) (hb : b ≠ 0) : mkR (decide (a < 0) != decide (b < 0)) a.natAbs b.natAbs = (a : Rat) / (b : Rat) := by
 have h := qFT (a := (a : Rat)) (b := (b : Rat)) (fun h => hb (by exact_mod_cast h))
 rw [← h]
 show mkR _ _ _ = mkR (decide (a < 0) != decide (b < 0)) (a.natAbs * 1) (1 * b.natAbs)
 rw [Nat.mul_one, Nat.one_mul]
theorem qK3 (L : Nat → Prop) (a b : Int) (w : World) (hL : Up w L) (ha0 : -9223372036854775808 ≤ a) (ha1 : a ≤ 9223372036854775807) (hb0 : -9223372036854775808 ≤ b) (hb1 : b ≤ 9223372036854775807) (hb : b ≠ 0) :
  Calls Tryz.prog 133 #[.int .i64 a, .int .i64 b] w fun e w' => ∃ v', e = .returned v' ∧ Le w w' ∧ RatL L .i64 w' v' ((a : Rat) / (b : Rat)) := by
 have hlaw := qIP a b hb
 obtain ⟨R, hR⟩ : ∃ R, (a : Rat) / (b : Rat) = R := ⟨_, rfl⟩
 rw [hR] at hlaw ⊢
 have la := qBm (N := a.natAbs) (by omega)
 have lb := qBm (N := b.natAbs) (by omega)
 have hbn : b.natAbs ≠ 0 := by omega
 obtain ⟨sa, hsa⟩ : ∃ sa, decide (a < 0) = sa := ⟨_, rfl⟩
 obtain ⟨sb, hsb⟩ : ∃ sb, decide (b < 0) = sb := ⟨_, rfl⟩
 rw [hsa, hsb] at hlaw
 have ⟨hL', hlaw', la', lb', hbn', hb'⟩ := hyd6 hL hlaw la lb hbn hb
 clear hb hbn lb la hlaw hL
 go_enter Tryz.func133, Tryz.ntmps133
 go_wp2_with (fail)
 go_at_call 60
 refine (qBi L a _ (hL'.out.le (qAA _ _)) ha0 ha1).mono ?_
 rintro e W1 ⟨v1, rfl, hle1, hn1⟩
 obtain ⟨hle1, hbx⟩ := qB4 hle1
 obtain ⟨A1, c1, rfl⟩ := hn1.slice
 have hU1 := hL'.out.le hle1
 have ⟨hle1', hn1', hU1', hbx'⟩ := hyd4 hle1 hn1 hU1 hbx
 clear hbx hU1 hn1 hle1
 go_wp2_with (fail)
 go_at_call 60
 refine (qBi L b _ hU1'.out hb0 hb1).mono ?_
 rintro e W2 ⟨v2, rfl, hle2, hn2⟩
 obtain ⟨A2, c2, rfl⟩ := hn2.slice
 have hU2 := hU1'.out.le hle2
 have hn12 := hn1'.out.le hle2
 have ⟨hle2', hn2', hU2', hn12'⟩ := hyd4 hle2 hn2 hU2 hn12
 clear hn12 hU2 hn2 hle2
 go_wp2_with (fail)
 go_at_call 100
 refine (qBw L (sa != sb) a.natAbs b.natAbs _ _ W2 hU2'.out hn12'.out hn2'.out hbn'.out (by have := la'.out; omega) (by have := lb'.out; omega)).mono ?_
 rintro e W3 ⟨v3, rfl, hle3, hr⟩
 rw [hlaw'.out] at hr
 have hle4 := (hle1'.out.trans hle2'.out).trans hle3
 have hbx3 := (Below.block (hle2'.out.trans hle3) _ (gsl hbx'.out)).trans hbx'.out
 obtain ⟨A3, c3, A4, c4, rfl, hrn, hrd⟩ := hr.form
 obtain ⟨z0, z1, z2, g0, g1, g2⟩ := qAD hbx3
 obtain ⟨sr, hsr⟩ : ∃ sr, rneg R = sr := ⟨_, rfl⟩
 rw [hsr]
 have hb9 := fun u0 u1 u2 => qAD (qAY (u0 := u0) (u1 := u1) (u2 := u2) hbx3)
 have hle9 := fun u0 u1 u2 => qA8 (u0 := u0) (u1 := u1) (u2 := u2) hle4 (Nat.le_refl _)
 have hfin := fun u0 u1 u2 => And.intro (NumL.box3 (u0 := u0) (u1 := u1) (u2 := u2) hrn hbx3) (NumL.box3 (u0 := u0) (u1 := u1) (u2 := u2) hrd hbx3)
 have ⟨hle3', hr', hle4', hbx3', hrn', hrd', hb9', hle9'⟩ := hyd8 hle3 hr hle4 hbx3 hrn hrd hb9 hle9
 have ⟨hfin', hR', hsr', hsa', hsb'⟩ := hyd5 hfin hR hsr hsa hsb
 clear hsb hsa hsr hR hfin hle9 hb9 hrd hrn hbx3 hle4 hr hle3
 go_wp2
 obtain ⟨d0, d1, d2, -⟩ := hb9'.out (.bool sr) (.slice A3 (dg (rnum R)).length c3) (.slice A4 (dg R.den).length c4)
 exact bodyPost_ret (v := .agg #[.bool sr, .slice A3 (dg (rnum R)).length c3, .slice A4 (dg R.den).length c4]) (by simp [results, Tryz.results133, go_sem, d0, d1, d2]) rfl ⟨_, rfl, hle9'.out _ _ _, _, _, by rw [hsr'.out], (hfin'.out _ _ _).1, (hfin'.out _ _ _).2⟩
theorem qIQ {L : Nat → Prop} {w W : World} {z : Int} {N : Nat} {s : Bool} {t t2 : TypeId} {A1 : Option Addr} {c1 : Nat} (hUp : Up w L) (hle : Le w W) (hlt : w.heap.size < W.heap.size)
  (hbx : W.heap[w.heap.size]? = some (.cells #[.bool false, .slice none 0 0, .slice none 0 0] t)) (hn : NumL L .i64 W (.slice A1 (dg N).length c1) N) (hN : z.natAbs = N) (hs : decide (z < 0) = s) :
  ∃ X, (((W.setCell ⟨w.heap.size, 0, none⟩ (.bool s)).setCell ⟨w.heap.size, 1, none⟩ (.slice A1 (dg N).length c1)).setCell ⟨w.heap.size, 2, none⟩ (.slice (some ⟨W.heap.size, 0, none⟩) 1 1)).alloc (.cells #[.int .i64 1] t2) = X ∧ (X.cell? ⟨w.heap.size, 0, none⟩ = some (.bool s) ∧ X.cell? ⟨w.heap.size, 1, none⟩ = some (.slice A1 (dg N).length c1) ∧ X.cell? ⟨w.heap.size, 2, none⟩ = some (.slice (some ⟨W.heap.size, 0, none⟩) 1 1)) ∧
   Le w X ∧ RatL L .i64 X (.agg #[.bool s, .slice A1 (dg N).length c1, .slice (some ⟨W.heap.size, 0, none⟩) 1 1]) (z : Rat) := by
 have h1 := qA8 (u0 := .bool s) (u1 := .slice A1 (dg N).length c1) (u2 := .slice (some ⟨W.heap.size, 0, none⟩) 1 1) hle (Nat.le_refl _)
 have h2 := qAY (u0 := .bool s) (u1 := .slice A1 (dg N).length c1) (u2 := .slice (some ⟨W.heap.size, 0, none⟩) 1 1) hbx
 have h3 := NumL.box3 (u0 := .bool s) (u1 := .slice A1 (dg N).length c1) (u2 := .slice (some ⟨W.heap.size, 0, none⟩) 1 1) hn hbx
 have h4 : (((W.setCell ⟨w.heap.size, 0, none⟩ (.bool s)).setCell ⟨w.heap.size, 1, none⟩ (.slice A1 (dg N).length c1)).setCell ⟨w.heap.size, 2, none⟩ (.slice (some ⟨W.heap.size, 0, none⟩) 1 1)).heap.size = W.heap.size := by simp [World.setCell]
 generalize (((W.setCell ⟨w.heap.size, 0, none⟩ (.bool s)).setCell ⟨w.heap.size, 1, none⟩ (.slice A1 (dg N).length c1)).setCell ⟨w.heap.size, 2, none⟩ (.slice (some ⟨W.heap.size, 0, none⟩) 1 1)) = V at *
 refine ⟨_, rfl, ?_, h1.trans (qAA _ _), ?_⟩
 ·have hk := qAA V (.cells #[.int .i64 1] t2)
  obtain ⟨d0, d1, d2, -⟩ := qAD ((Below.block hk w.heap.size (by omega)).trans h2)
  exact ⟨d0, d1, d2⟩
 ·refine ⟨_, _, by rw [show rneg (z : Rat) = s by rw [← hs]; rfl], ?_, ?_⟩
  ·rw [show rnum (z : Rat) = N by rw [← hN]; rfl]
   exact h3.le (qAA _ _)
  ·rw [show (z : Rat).den = 1 from rfl, ← h4]
   exact qBF (g := 1) (fun b hb => hUp b (by omega)) (by omega) qBz _
theorem qDO (L : Nat → Prop) (z : Int) (w : World) (hL : Up w L) (hz0 : -9223372036854775808 ≤ z) (hz1 : z ≤ 9223372036854775807) :
  Calls Tryz.prog 25 #[.int .i64 z] w fun e w' => ∃ v', e = .returned v' ∧ Le w w' ∧ RatL L .i64 w' v' (z : Rat) := by
 obtain ⟨s, hs⟩ : ∃ s, decide (z < 0) = s := ⟨_, rfl⟩
 have hL' := hyd1 hL
 clear hL
 go_enter Tryz.func25, Tryz.ntmps25
 go_wp2_with (fail)
 go_at_call 60
 refine (qBi L z _ (hL'.out.le (qAA _ _)) hz0 hz1).mono ?_
 rintro e W1 ⟨v1, rfl, hle1, hn1⟩
 obtain ⟨hle1, hbx⟩ := qB4 hle1
 obtain ⟨A1, c1, rfl⟩ := hn1.slice
 have hU1 := hL'.out.le hle1
 obtain ⟨z0, z1, z2, g0, g1, g2⟩ := qAD hbx
 have hzl := (gsl hbx)
 obtain ⟨X, hX, ⟨d0, d1, d2⟩, hle9, hfin⟩ := qIQ (s := s) (t2 := 3) hL'.out hle1 hzl hbx hn1 rfl hs
 have ⟨hle1', hn1', hU1', hbx', hs', hX'⟩ := hyd6 hle1 hn1 hU1 hbx hs hX
 clear hX hs hbx hU1 hn1 hle1
 go_wp2
 rw [hX'.out]
 exact bodyPost_ret (v := .agg #[.bool s, .slice A1 (dg z.natAbs).length c1, .slice (some ⟨W1.heap.size, 0, none⟩) 1 1]) (by simp [results, Tryz.results25, go_sem, d0, d1, d2]) rfl ⟨_, rfl, hle9, hfin⟩
end Go.Proofs.YtlhfonhbbpbmpaaGreat

