/- reference 1: fractions: lowest, Sign, Minus. reference 1: fractions: Plus. reference 1: fractions: Times, By. reference 1: fractions: absolute, Int, Over, Order. -/
import Derived.Test.YtbikpadjmmgpcaaGreatRN1
import Derived.Test.YtbikpadjmmgpcaaGreatRat4
import Derived.Test.YtbikpadjmmgpcaaGreatMonoR
namespace Go.Proofs.YtbikpadjmmgpcaaGreat
open Go.RowKit Go.Shelf
set_option linter.unusedVariables false
set_option linter.unusedSimpArgs false
theorem pf_n_times (L : Nat → Prop) (a b : Nat) (va vb : Value) (w : World) (hL : Up w L) (ha : NumL L .i64 w va a) (hb : NumL L .i64 w vb b) (hma : (dg a).length ≤ 100000000) (hmb : (dg b).length ≤ 100000000) :
    Calls Tryz.prog 76 #[va, vb] w fun e w' => ∃ v', e = .returned v' ∧ Le w w' ∧ NumL L .i64 w' v' (a * b) := pf_n_product L L L a b va vb w hL ha hb hma hmb
theorem pf_n_plus (L : Nat → Prop) (a b : Nat) (va vb : Value) (w : World) (hL : Up w L) (ha : NumL L .i64 w va a) (hb : NumL L .i64 w vb b) (hma : (dg a).length ≤ 100000000) (hmb : (dg b).length ≤ 100000000) :
    Calls Tryz.prog 77 #[va, vb] w fun e w' => ∃ v', e = .returned v' ∧ Le w w' ∧ NumL L .i64 w' v' (a + b) := pf_n_sum L L L a b va vb w hL ha hb hma hmb
theorem pf_n_minus (L : Nat → Prop) (a b : Nat) (va vb : Value) (w : World) (hL : Up w L) (ha : NumL L .i64 w va a) (hb : NumL L .i64 w vb b) (hle : b ≤ a) (hm : (dg a).length ≤ 100000000) :
    Calls Tryz.prog 78 #[va, vb] w fun e w' => ∃ v', e = .returned v' ∧ Le w w' ∧ NumL L .i64 w' v' (a - b) := pf_n_less L L L a b va vb w hL ha hb hle hm
theorem dg_one_lt : (1 : Nat) < B9 := by have := B9_eq; omega
theorem lowest_fin {L : Nat → Prop} {neg : Bool} {n d : Nat} {w W : World} {B : Nat} {t : TypeId} {An Ad : Option Addr} {cn cd ln ld : Nat} (hn0 : n ≠ 0) (hd : d ≠ 0) (hle : Le w W) (hB : w.heap.size ≤ B)
    (hbx : W.heap[B]? = some (Obj.cells #[.bool false, .slice none 0 0, .slice none 0 0] t)) (hn : NumL L .i64 W (.slice An ln cn) (n / Nat.gcd n d)) (hdn : NumL L .i64 W (.slice Ad ld cd) (d / Nat.gcd n d)) :
    RatL L .i64 (((W.setCell ⟨B, 0, none⟩ (.bool neg)).setCell ⟨B, 1, none⟩ (.slice An ln cn)).setCell ⟨B, 2, none⟩ (.slice Ad ld cd)) (.agg #[.bool neg, .slice An ln cn, .slice Ad ld cd]) (mkR neg n d) := by
  refine ⟨_, _, by rw [mkR_neg _ _ _ hd, show decide (0 < n) = true by simp; omega, Bool.and_true], ?_, ?_⟩
  · rw [mkR_num _ _ _ hd]; exact hn.box3 hbx
  · rw [mkR_den _ _ _ hd]; exact hdn.box3 hbx
set_option maxRecDepth 100000 in
set_option maxHeartbeats 1000000 in
theorem pf_n_reduced (L : Nat → Prop) (neg : Bool) (n d : Nat) (vn vd : Value) (w : World) (hL : Up w L) (hn : NumL L .i64 w vn n) (hd : NumL L .i64 w vd d) (hd0 : d ≠ 0) (hmn : (dg n).length ≤ 10000000) (hmd : (dg d).length ≤ 10000000) :
    Calls Tryz.prog 48 #[.bool neg, vn, vd] w fun e w' => ∃ v', e = .returned v' ∧ Le w w' ∧ RatL L .i64 w' v' (mkR neg n d) := by
  obtain ⟨An, cn, rfl⟩ := hn.slice
  obtain ⟨Ad, cd, rfl⟩ := hd.slice
  by_cases hz : n = 0
  · have hl1 : (dg n).length = 0 := by rw [hz, dg_zero]; rfl
    rw [hl1]
    have hn' := Lib.hid hn
    have hd' := Lib.hid hd
    have hL' := Lib.hid hL
    have hz' := Lib.hid hz
    have hl1' := Lib.hid hl1
    clear hl1 hz hL hd hn
    go_enter Tryz.func48, Tryz.ntmps48
    go_wp2
    have hrat : RatL L .i64 ((w.alloc (.cells #[.bool false, .slice none 0 0, .slice (some ⟨w.heap.size + 1, 0, none⟩) 1 1] 61)).alloc (.cells #[.int .i64 1] 3)) (.agg #[.bool false, .slice none 0 0, .slice (some ⟨w.heap.size + 1, 0, none⟩) 1 1]) (mkR neg n d) := by
      rw [hz'.out, mkR_zero]
      refine ⟨_, _, rfl, by unfold NumL; rw [show rnum 0 = 0 from rfl, dg_zero]; exact ArrL.nil _ _ _, ?_⟩
      have h := numL_newg (L := L) (k := .i64) (V := w.alloc (.cells #[.bool false, .slice none 0 0, .slice (some ⟨w.heap.size + 1, 0, none⟩) 1 1] 61)) (g := 1) (hL'.out.le (le_alloc _ _)) (by omega) dg_one_lt 3
      rw [World.size_alloc] at h
      exact h
    exact bodyPost_ret (v := .agg #[.bool false, .slice none 0 0, .slice (some ⟨w.heap.size + 1, 0, none⟩) 1 1]) (by simp [results, Tryz.results48, go_sem]) rfl ⟨_, rfl, (le_alloc _ _).trans (le_alloc _ _), hrat⟩
  · have hl1 : (((dg n).length : Int) == 0) = false := beq_eq_false_iff_ne.2 (by have := dg_length_pos.2 hz; omega)
    have hl3 : ¬ ((dg n).length : Int) = 0 := by have := dg_length_pos.2 hz; omega
    have hn' := Lib.hid hn
    have hd' := Lib.hid hd
    have hL' := Lib.hid hL
    clear hL hd hn
    go_enter Tryz.func48, Tryz.ntmps48
    go_wp2_with (fail)
    go_at_call 72
    refine (pf_n_common L n d _ _ _ (hL'.out.le (le_alloc _ _)) (hn'.out.le (le_alloc _ _)) (hd'.out.le (le_alloc _ _)) hmn hmd).mono ?_
    rintro e w1 ⟨vg, rfl, hle, hg⟩
    obtain ⟨hle1, hbx⟩ := box_le hle
    obtain ⟨G, hG⟩ : ∃ G, Nat.gcd n d = G := ⟨_, rfl⟩
    have hG0 : 0 < G := by rw [← hG]; exact Nat.gcd_pos_of_pos_right _ (Nat.pos_of_ne_zero hd0)
    have hGl : (dg G).length ≤ 10000000 := by
      rw [← hG]
      have := gcd_len n d (.inr hd0)
      omega
    rw [hG] at hg
    obtain ⟨Ag, cg, rfl⟩ := hg.slice
    have hn1 := hn'.out.le hle1
    have hd1 := hd'.out.le hle1
    have hUp1 := hL'.out.le hle1
    have hbx2 := fun o => (Below.block (le_alloc w1 o) w.heap.size (Array.getElem?_eq_some_iff.1 hbx).1).trans hbx
    have hle' := Lib.hid hle
    have hle1' := Lib.hid hle1
    have hbx' := Lib.hid hbx
    have hg' := Lib.hid hg
    have hn1' := Lib.hid hn1
    have hd1' := Lib.hid hd1
    have hUp1' := Lib.hid hUp1
    have hbx2' := Lib.hid hbx2
    clear hbx2 hUp1 hd1 hn1 hg hbx hle1 hle
    go_wp2_with (fail)
    go_at_call 73
    refine (pf_n_order L L G 1 _ _ _ (hg'.out.le (le_alloc _ _)) (numL_newg (g := 1) hUp1'.out (by omega) dg_one_lt _)).mono ?_
    rintro e w2 ⟨rfl, nd, rfl⟩
    obtain ⟨w2, hw2⟩ : ∃ w2, (w1.alloc (.cells #[.int .i64 ((1 : Nat) : Int)] 3)).drewN nd = w2 := ⟨_, rfl⟩
    have hle12 : Le w1 w2 := by rw [← hw2]; exact (le_alloc _ _).trans (Le.quiet nd)
    rw [hw2]
    have hle2 := hle1'.out.trans hle12
    have hbx3 := (Below.block hle12 w.heap.size (Array.getElem?_eq_some_iff.1 hbx'.out).1).trans hbx'.out
    have hn2 := hn1'.out.le hle12
    have hd2 := hd1'.out.le hle12
    have hg2 := hg'.out.le hle12
    have hUp2 := hUp1'.out.le hle12
    clear hn1' hd1' hg' hUp1' hbx2' hbx' hle' hle1'
    have hw2' := Lib.hid hw2
    have hle12' := Lib.hid hle12
    have hle2' := Lib.hid hle2
    have hbx3' := Lib.hid hbx3
    have hn2' := Lib.hid hn2
    have hd2' := Lib.hid hd2
    have hg2' := Lib.hid hg2
    have hUp2' := Lib.hid hUp2
    clear hUp2 hg2 hd2 hn2 hbx3 hle2 hle12 hw2
    by_cases hG1 : G = 1
    · have ho : ordI G 1 = 0 := ordI_zero.2 hG1
      have ho2 : (ordI G 1 == 0) = true := by rw [ho]; rfl
      obtain ⟨c0, c1, c2, f0, f1, f2⟩ := cells3 hbx3'.out
      have hfin := lowest_fin (neg := neg) hz hd0 hle2'.out (Nat.le_refl _) hbx3'.out (by rw [hG, hG1, Nat.div_one]; exact hn2'.out) (by rw [hG, hG1, Nat.div_one]; exact hd2'.out)
      have hle9 := fun u0 u1 u2 => le_set3 (u0 := u0) (u1 := u1) (u2 := u2) hle2'.out (Nat.le_refl _)
      have hb9 := fun u0 u1 u2 => cells3 (heap_set3 (u0 := u0) (u1 := u1) (u2 := u2) hbx3'.out)
      rw [ho]
      clear ho ho2
      have hfin' := Lib.hid hfin
      have hle9' := Lib.hid hle9
      have hG' := Lib.hid hG
      have hG1' := Lib.hid hG1
      have hb9' := Lib.hid hb9
      clear hb9 hG1 hG hle9 hfin
      go_wp2
      obtain ⟨d0, d1, d2, -⟩ := hb9'.out (.bool neg) (.slice An (dg n).length cn) (.slice Ad (dg d).length cd)
      exact bodyPost_ret (v := .agg #[.bool neg, .slice An (dg n).length cn, .slice Ad (dg d).length cd]) (by simp [results, Tryz.results48, go_sem, d0, d1, d2]) rfl ⟨_, rfl, hle9'.out _ _ _, hfin'.out⟩
    · obtain ⟨o, ho⟩ : ∃ o, ordI G 1 = o := ⟨_, rfl⟩
      rw [ho]
      have ho1 : (o == 0) = false := beq_eq_false_iff_ne.2 (fun h => hG1 (ordI_zero.1 (ho.trans h)))
      have ho2 : ¬ o = 0 := fun h => hG1 (ordI_zero.1 (ho.trans h))
      have ho' := Lib.hid ho
      have hG1' := Lib.hid hG1
      clear hG1 ho
      go_wp2_with (fail)
      go_at_call 74
      refine (pf_n_parts L n G _ _ w2 hUp2'.out hn2'.out hg2'.out hmn hGl (by omega)).mono ?_
      rintro e w3 ⟨v1, v2, rfl, hle3, hq, hr⟩
      obtain ⟨A1, c1, rfl⟩ := hq.slice
      obtain ⟨A2, c2, rfl⟩ := hr.slice
      have hbx4 := (Below.block hle3 _ (Array.getElem?_eq_some_iff.1 hbx3'.out).1).trans hbx3'.out
      have hd3 := hd2'.out.le hle3
      have hg3 := hg2'.out.le hle3
      have hUp3 := hUp2'.out.le hle3
      have hle3' := Lib.hid hle3
      have hq' := Lib.hid hq
      have hr' := Lib.hid hr
      have hbx4' := Lib.hid hbx4
      have hd3' := Lib.hid hd3
      have hg3' := Lib.hid hg3
      have hUp3' := Lib.hid hUp3
      clear hUp3 hg3 hd3 hbx4 hr hq hle3
      go_wp2_with (fail)
      go_at_call 74
      refine (pf_n_parts L d G _ _ w3 hUp3'.out hd3'.out hg3'.out hmd hGl (by omega)).mono ?_
      rintro e w4 ⟨v1, v2, rfl, hle4, hq3, hr3⟩
      obtain ⟨A3, c3, rfl⟩ := hq3.slice
      obtain ⟨A4, c4, rfl⟩ := hr3.slice
      have hbx5 := (Below.block hle4 _ (Array.getElem?_eq_some_iff.1 hbx4'.out).1).trans hbx4'.out
      have hq2 := hq'.out.le hle4
      have hle5 := Le.trans (Le.trans hle2'.out hle3'.out) hle4
      obtain ⟨c0, e1, e2, f0, f1, f2⟩ := cells3 hbx5
      have hfin := lowest_fin (neg := neg) hz hd0 hle5 (Nat.le_refl _) hbx5 (by rw [hG]; exact hq2) (by rw [hG]; exact hq3)
      have hle9 := fun u0 u1 u2 => le_set3 (u0 := u0) (u1 := u1) (u2 := u2) hle5 (Nat.le_refl _)
      have hb9 := fun u0 u1 u2 => cells3 (heap_set3 (u0 := u0) (u1 := u1) (u2 := u2) hbx5)
      have hfin' := Lib.hid hfin
      have hle9' := Lib.hid hle9
      have hG' := Lib.hid hG
      have hb9' := Lib.hid hb9
      have hbx5' := Lib.hid hbx5
      have hq2' := Lib.hid hq2
      have hle5' := Lib.hid hle5
      have hle4' := Lib.hid hle4
      have hq3' := Lib.hid hq3
      have hr3' := Lib.hid hr3
      clear hr3 hq3 hle4 hle5 hq2 hbx5 hb9 hG hle9 hfin
      go_wp2
      obtain ⟨d0, d1, d2, -⟩ := hb9'.out (.bool neg) (.slice A1 (dg (n / G)).length c1) (.slice A3 (dg (d / G)).length c3)
      exact bodyPost_ret (v := .agg #[.bool neg, .slice A1 (dg (n / G)).length c1, .slice A3 (dg (d / G)).length c3]) (by simp [results, Tryz.results48, go_sem, d0, d1, d2]) rfl ⟨_, rfl, hle9'.out _ _ _, hfin'.out⟩
set_option maxHeartbeats 1000000 in
theorem pf_n_sign (L : Nat → Prop) (r : Rat) (v : Value) (w : World) (h : RatL L .i64 w v r) :
    Calls Tryz.prog 50 #[v] w fun e w' => e = .returned (.int .i64 (rsgn r)) ∧ Le w w' := by
  obtain ⟨A1, c1, A2, c2, rfl, -, -⟩ := h.form
  have hle := le_alloc w (.cells #[.bool (rneg r), .slice A1 (dg (rnum r)).length c1, .slice A2 (dg r.den).length c2] 61)
  rw [rsgn_eq]
  obtain ⟨sr, hsr⟩ : ∃ sr, rneg r = sr := ⟨_, rfl⟩
  rw [hsr] at hle ⊢
  have hsr' := Lib.hid hsr
  have hle' := Lib.hid hle
  clear hle hsr
  by_cases h0 : rnum r = 0
  · rw [if_pos h0]
    have hl : (dg (rnum r)).length = 0 := by rw [h0, dg_zero]; rfl
    have hle2 := hle'.out
    clear hle'
    rw [hl] at hle2 ⊢
    have hle2' := Lib.hid hle2
    clear hle2
    clear h0 hl
    go_enter Tryz.func50, Tryz.ntmps50
    go_wp2
    go_ret
    exact ⟨rfl, hle2'.out⟩
  · rw [if_neg h0]
    have hl : 0 < (dg (rnum r)).length := dg_length_pos.2 h0
    have hl2 : (((dg (rnum r)).length : Int) == 0) = false := beq_eq_false_iff_ne.2 (by omega)
    have hl3 : ¬ (dg (rnum r)).length = 0 := by omega
    have hl4 : ¬ ((dg (rnum r)).length : Int) = 0 := by omega
    have hle2 := hle'.out
    clear hle'
    generalize (dg (rnum r)).length = l1 at *
    have hle2' := Lib.hid hle2
    clear hle2
    clear h0
    cases sr
    · go_enter Tryz.func50, Tryz.ntmps50
      go_wp2
      go_ret
      exact ⟨rfl, hle2'.out⟩
    · go_enter Tryz.func50, Tryz.ntmps50
      go_wp2
      go_ret
      exact ⟨rfl, hle2'.out⟩
set_option maxRecDepth 100000 in
set_option maxHeartbeats 1000000 in
theorem pf_n_opposite (L : Nat → Prop) (r : Rat) (v : Value) (w : World) (h : RatL L .i64 w v r) :
    Calls Tryz.prog 52 #[v] w fun e w' => ∃ v', e = .returned v' ∧ Le w w' ∧ RatL L .i64 w' v' (-r) := by
  obtain ⟨A1, c1, A2, c2, rfl, h1, h2⟩ := h.form
  obtain ⟨n1, n2, n3⟩ := neg_rat r
  obtain ⟨sr, hsr⟩ : ∃ sr, rneg r = sr := ⟨_, rfl⟩
  rw [hsr] at n1 ⊢
  obtain ⟨l1, hl1⟩ : ∃ l1, (dg (rnum r)).length = l1 := ⟨_, rfl⟩
  obtain ⟨l2, hl2⟩ : ∃ l2, (dg r.den).length = l2 := ⟨_, rfl⟩
  have hz : decide (0 < rnum r) = decide (0 < l1) := by rw [← hl1]; exact decide_eq_decide.2 (show 0 < rnum r ↔ 0 < (dg (rnum r)).length by rw [dg_length_pos]; omega)
  rw [hz] at n1
  rw [hl1] at h1
  rw [hl2] at h2
  rw [hl1, hl2]
  have hR : ∀ s o0 o1, rneg (-r) = s → (∃ v', Ending.returned (.agg #[.bool s, .slice A1 l1 c1, .slice A2 l2 c2]) = .returned v' ∧ Le w ((w.alloc o0).alloc o1) ∧ RatL L .i64 ((w.alloc o0).alloc o1) v' (-r)) := fun s o0 o1 hs => by
    have hw := (le_alloc w o0).trans (le_alloc _ o1)
    exact ⟨_, rfl, hw, _, _, by rw [hs], by rw [n2]; exact h1.le hw, by rw [n3]; exact h2.le hw⟩
  have h' := Lib.hid h
  have h1' := Lib.hid h1
  have h2' := Lib.hid h2
  have hR' := Lib.hid hR
  have hsr' := Lib.hid hsr
  have n1' := Lib.hid n1
  have n2' := Lib.hid n2
  have n3' := Lib.hid n3
  have hl1' := Lib.hid hl1
  have hl2' := Lib.hid hl2
  have hz' := Lib.hid hz
  clear hz hl2 hl1 n3 n2 n1 hsr hR h2 h1 h
  by_cases h0 : 0 < l1
  · have h4 : 0 < (l1 : Int) := by omega
    cases sr
    · go_enter Tryz.func52, Tryz.ntmps52
      go_wp2
      exact bodyPost_ret (v := .agg #[.bool true, .slice A1 l1 c1, .slice A2 l2 c2]) (by simp [results, Tryz.results52, go_sem]) rfl (hR'.out _ _ _ (by rw [n1'.out]; simp; omega))
    · go_enter Tryz.func52, Tryz.ntmps52
      go_wp2
      exact bodyPost_ret (v := .agg #[.bool false, .slice A1 l1 c1, .slice A2 l2 c2]) (by simp [results, Tryz.results52, go_sem]) rfl (hR'.out _ _ _ (by rw [n1'.out]; simp))
  · have h4 : ¬ 0 < (l1 : Int) := by omega
    cases sr
    · go_enter Tryz.func52, Tryz.ntmps52
      go_wp2
      exact bodyPost_ret (v := .agg #[.bool false, .slice A1 l1 c1, .slice A2 l2 c2]) (by simp [results, Tryz.results52, go_sem]) rfl (hR'.out _ _ _ (by rw [n1'.out]; simp; omega))
    · go_enter Tryz.func52, Tryz.ntmps52
      go_wp2
      exact bodyPost_ret (v := .agg #[.bool false, .slice A1 l1 c1, .slice A2 l2 c2]) (by simp [results, Tryz.results52, go_sem]) rfl (hR'.out _ _ _ (by rw [n1'.out]; simp))
end Go.Proofs.YtbikpadjmmgpcaaGreat
namespace Go.Proofs.YtbikpadjmmgpcaaGreat
open Go.RowKit Go.Shelf
set_option linter.unusedVariables false
set_option linter.unusedSimpArgs false
set_option maxRecDepth 100000 in
set_option maxHeartbeats 4000000 in
theorem pf_q_plus (L : Nat → Prop) (a b : Rat) (va vb : Value) (w : World) (hL : Up w L) (ha : RatL L .i64 w va a) (hb : RatL L .i64 w vb b) (hma : Rsz a 2000000) (hmb : Rsz b 2000000) :
    Calls Tryz.prog 51 #[va, vb] w fun e w' => ∃ v', e = .returned v' ∧ Le w w' ∧ RatL L .i64 w' v' (a + b) := by
  obtain ⟨An, cn, Ad, cd, rfl, han, had⟩ := ha.form
  obtain ⟨Bn, dn, Bd, dd, rfl, hbn, hbd⟩ := hb.form
  obtain ⟨ma1, ma2⟩ := hma
  obtain ⟨mb1, mb2⟩ := hmb
  have hp1 := dg_length_mul (rnum a) b.den
  have hp2 := dg_length_mul (rnum b) a.den
  have hp3 := dg_length_mul a.den b.den
  have hdz : a.den * b.den ≠ 0 := Nat.ne_of_gt (Nat.mul_pos (rden_pos a) (rden_pos b))
  obtain ⟨X, hX⟩ : ∃ X, rnum a * b.den = X := ⟨_, rfl⟩
  obtain ⟨Y, hY⟩ : ∃ Y, rnum b * a.den = Y := ⟨_, rfl⟩
  obtain ⟨D, hD⟩ : ∃ D, a.den * b.den = D := ⟨_, rfl⟩
  have hlaw1 : rneg a = rneg b → mkR (rneg a) (X + Y) D = a + b := fun h => by rw [← hX, ← hY, ← hD]; exact add_same h
  have hlaw2 : rneg a ≠ rneg b → (if X < Y then mkR (rneg b) (Y - X) D else mkR (rneg a) (X - Y) D) = a + b := fun h => by rw [← hX, ← hY, ← hD]; exact add_ne h
  have hs1 := dg_length_add X Y
  have hs2 : (dg (X - Y)).length ≤ (dg X).length := dg_length_mono (Nat.sub_le _ _)
  have hs3 : (dg (Y - X)).length ≤ (dg Y).length := dg_length_mono (Nat.sub_le _ _)
  obtain ⟨sa, hsa⟩ : ∃ sa, rneg a = sa := ⟨_, rfl⟩
  obtain ⟨sb, hsb⟩ : ∃ sb, rneg b = sb := ⟨_, rfl⟩
  rw [hX] at hp1
  rw [hY] at hp2
  rw [hD] at hp3 hdz
  rw [hsa, hsb] at hlaw1 hlaw2 ⊢
  have qX : (dg X).length ≤ 4000000 := by omega
  have qY : (dg Y).length ≤ 4000000 := by omega
  have qD : (dg D).length ≤ 4000000 := by omega
  have hL' := Lib.hid hL
  have ha' := Lib.hid ha
  have hb' := Lib.hid hb
  have han' := Lib.hid han
  have had' := Lib.hid had
  have hbn' := Lib.hid hbn
  have hbd' := Lib.hid hbd
  have hsa' := Lib.hid hsa
  have hsb' := Lib.hid hsb
  have hp1' := Lib.hid hp1
  have hp2' := Lib.hid hp2
  have hp3' := Lib.hid hp3
  have hs1' := Lib.hid hs1
  have hs2' := Lib.hid hs2
  have hs3' := Lib.hid hs3
  have hdz' := Lib.hid hdz
  have hlaw1' := Lib.hid hlaw1
  have hlaw2' := Lib.hid hlaw2
  have hX' := Lib.hid hX
  have hY' := Lib.hid hY
  have hD' := Lib.hid hD
  clear hD hY hX hlaw2 hlaw1 hdz hs3 hs2 hs1 hp3 hp2 hp1 hsb hsa hbd hbn had han hb ha hL
  go_enter Tryz.func51, Tryz.ntmps51
  go_wp2
  obtain ⟨W0, hW0, hsz, hle, h0, h1, h2⟩ := new3_le w (.cells #[.bool sa, .slice An (dg (rnum a)).length cn, .slice Ad (dg a.den).length cd] 61) (.cells #[.bool sb, .slice Bn (dg (rnum b)).length dn, .slice Bd (dg b.den).length dd] 61) (.cells #[.bool false, .slice none 0 0, .slice none 0 0] 61)
  rw [hW0]
  clear hW0
  obtain ⟨ca0, ca1, ca2, -⟩ := cells3 h0
  obtain ⟨cb0, cb1, cb2, -⟩ := cells3 h1
  have hUp0 := hL'.out.le hle
  have h0' := Lib.hid h0
  have h1' := Lib.hid h1
  have h2' := Lib.hid h2
  have hle' := Lib.hid hle
  have hUp0' := Lib.hid hUp0
  clear hUp0 hle h2 h1 h0
  refine wp_region_monoL (R := leRel) 12 [some 8, some 9, some 10, some 11, some 12, some 13, some 14, some 15, some 16, some 17, some 5, some 6] [[], [0], [], [2], [1, 3], [], [5], [], [7], [6, 8], [4], [9]]
    [.eq (.pointer (some ⟨w.heap.size, 1, none⟩)), .eq (.slice An (dg (rnum a)).length cn), .eq (.pointer (some ⟨w.heap.size + 1, 2, none⟩)), .eq (.slice Bd (dg b.den).length dd), MPred.num L .i64 X, .eq (.pointer (some ⟨w.heap.size + 1, 1, none⟩)), .eq (.slice Bn (dg (rnum b)).length dn), .eq (.pointer (some ⟨w.heap.size, 2, none⟩)), .eq (.slice Ad (dg a.den).length cd), MPred.num L .i64 Y, MPred.num L .i64 X, MPred.num L .i64 Y] (fun _ _ => False) (by kernel_rfl) (by kernel_rfl) (by kernel_rfl) (by kernel_rfl) ?_ (fun _ _ _ _ _ h => h.elim) ?_
  · simp only [List.take_succ_cons, List.take_zero]
    refine monoSteps_cons ?_ (monoSteps_cons ?_ (monoSteps_cons ?_ (monoSteps_cons ?_ (monoSteps_cons ?_ (monoSteps_cons ?_ (monoSteps_cons ?_ (monoSteps_cons ?_ (monoSteps_cons ?_ (monoSteps_cons ?_ (monoSteps_cons ?_ (monoSteps_cons ?_ (monoSteps_nil))))))))))))
    · refine monoStep_list rfl fun x W hR hf Q hK _ => ?_
      simp only [fillAct, List.getD_cons_succ, List.getD_cons_zero, Act.put, List.setIfInBounds_toArray, List.set_cons_succ, List.set_cons_zero] at hK ⊢
      go_wp2
      exact hK _ _ (leRel.refl _) rfl
    · refine monoStep_list rfl fun x W hR hf Q hK _ => ?_
      obtain ⟨e0, -⟩ := hf
      change _ = _ at e0
      have cc := (Below.cell hR (p := ⟨w.heap.size, 1, none⟩) (by show w.heap.size < W0.heap.size; omega)).trans ca1
      simp only [fillAct, List.getD_cons_succ, List.getD_cons_zero, Act.put, List.setIfInBounds_toArray, List.set_cons_succ, List.set_cons_zero, e0] at hK ⊢
      go_wp2
      exact hK _ _ (leRel.refl _) rfl
    · refine monoStep_list rfl fun x W hR hf Q hK _ => ?_
      simp only [fillAct, List.getD_cons_succ, List.getD_cons_zero, Act.put, List.setIfInBounds_toArray, List.set_cons_succ, List.set_cons_zero] at hK ⊢
      go_wp2
      exact hK _ _ (leRel.refl _) rfl
    · refine monoStep_list rfl fun x W hR hf Q hK _ => ?_
      obtain ⟨e0, -⟩ := hf
      change _ = _ at e0
      have cc := (Below.cell hR (p := ⟨w.heap.size + 1, 2, none⟩) (by show w.heap.size + 1 < W0.heap.size; omega)).trans cb2
      simp only [fillAct, List.getD_cons_succ, List.getD_cons_zero, Act.put, List.setIfInBounds_toArray, List.set_cons_succ, List.set_cons_zero, e0] at hK ⊢
      go_wp2
      exact hK _ _ (leRel.refl _) rfl
    · refine monoStep_list rfl fun x W hR hf Q hK _ => ?_
      obtain ⟨e0, e1, -⟩ := hf
      change _ = _ at e0 e1
      simp only [fillAct, List.getD_cons_succ, List.getD_cons_zero, Act.put, List.setIfInBounds_toArray, List.set_cons_succ, List.set_cons_zero, e0, e1] at hK ⊢
      go_wp2_with (fail)
      go_at_call 76
      refine (pf_n_times L (rnum a) (b.den) _ _ W (hUp0'.out.le hR) ((han'.out.le hle'.out).le hR) ((hbd'.out.le hle'.out).le hR) (by omega) (by omega)).mono ?_
      rintro e w' ⟨v', rfl, y1, y2⟩
      rw [hX'.out] at y2
      obtain ⟨A9, c9, rfl⟩ := y2.slice
      go_wp2
      exact hK _ _ y1 y2
    · refine monoStep_list rfl fun x W hR hf Q hK _ => ?_
      simp only [fillAct, List.getD_cons_succ, List.getD_cons_zero, Act.put, List.setIfInBounds_toArray, List.set_cons_succ, List.set_cons_zero] at hK ⊢
      go_wp2
      exact hK _ _ (leRel.refl _) rfl
    · refine monoStep_list rfl fun x W hR hf Q hK _ => ?_
      obtain ⟨e0, -⟩ := hf
      change _ = _ at e0
      have cc := (Below.cell hR (p := ⟨w.heap.size + 1, 1, none⟩) (by show w.heap.size + 1 < W0.heap.size; omega)).trans cb1
      simp only [fillAct, List.getD_cons_succ, List.getD_cons_zero, Act.put, List.setIfInBounds_toArray, List.set_cons_succ, List.set_cons_zero, e0] at hK ⊢
      go_wp2
      exact hK _ _ (leRel.refl _) rfl
    · refine monoStep_list rfl fun x W hR hf Q hK _ => ?_
      simp only [fillAct, List.getD_cons_succ, List.getD_cons_zero, Act.put, List.setIfInBounds_toArray, List.set_cons_succ, List.set_cons_zero] at hK ⊢
      go_wp2
      exact hK _ _ (leRel.refl _) rfl
    · refine monoStep_list rfl fun x W hR hf Q hK _ => ?_
      obtain ⟨e0, -⟩ := hf
      change _ = _ at e0
      have cc := (Below.cell hR (p := ⟨w.heap.size, 2, none⟩) (by show w.heap.size < W0.heap.size; omega)).trans ca2
      simp only [fillAct, List.getD_cons_succ, List.getD_cons_zero, Act.put, List.setIfInBounds_toArray, List.set_cons_succ, List.set_cons_zero, e0] at hK ⊢
      go_wp2
      exact hK _ _ (leRel.refl _) rfl
    · refine monoStep_list rfl fun x W hR hf Q hK _ => ?_
      obtain ⟨e0, e1, -⟩ := hf
      change _ = _ at e0 e1
      simp only [fillAct, List.getD_cons_succ, List.getD_cons_zero, Act.put, List.setIfInBounds_toArray, List.set_cons_succ, List.set_cons_zero, e0, e1] at hK ⊢
      go_wp2_with (fail)
      go_at_call 76
      refine (pf_n_times L (rnum b) (a.den) _ _ W (hUp0'.out.le hR) ((hbn'.out.le hle'.out).le hR) ((had'.out.le hle'.out).le hR) (by omega) (by omega)).mono ?_
      rintro e w' ⟨v', rfl, y1, y2⟩
      rw [hY'.out] at y2
      obtain ⟨A9, c9, rfl⟩ := y2.slice
      go_wp2
      exact hK _ _ y1 y2
    · refine monoStep_list rfl fun x W hR hf Q hK _ => ?_
      obtain ⟨e0, -⟩ := hf
      replace e0 : NumL L .i64 W (x 4) X := e0
      obtain ⟨A9, c9, e1⟩ := e0.slice
      rw [e1] at e0
      simp only [fillAct, List.getD_cons_succ, List.getD_cons_zero, Act.put, List.setIfInBounds_toArray, List.set_cons_succ, List.set_cons_zero, e1] at hK ⊢
      go_wp2
      exact hK _ _ (leRel.refl _) e0
    · refine monoStep_list rfl fun x W hR hf Q hK _ => ?_
      obtain ⟨e0, -⟩ := hf
      replace e0 : NumL L .i64 W (x 9) Y := e0
      obtain ⟨A9, c9, e1⟩ := e0.slice
      rw [e1] at e0
      simp only [fillAct, List.getD_cons_succ, List.getD_cons_zero, Act.put, List.setIfInBounds_toArray, List.set_cons_succ, List.set_cons_zero, e1] at hK ⊢
      go_wp2
      exact hK _ _ (leRel.refl _) e0
  · intro x W hR hf Q' hQ1 _
    have e0 := hf 0 (by decide)
    have e1 := hf 1 (by decide)
    have e2 := hf 2 (by decide)
    have e3 := hf 3 (by decide)
    have e5 := hf 5 (by decide)
    have e6 := hf 6 (by decide)
    have e7 := hf 7 (by decide)
    have e8 := hf 8 (by decide)
    have e10 : NumL L .i64 W (x 10) X := hf 10 (by decide)
    have e11 : NumL L .i64 W (x 11) Y := hf 11 (by decide)
    change _ = _ at e0 e1 e2 e3 e5 e6 e7 e8
    obtain ⟨Ax, cx, e12⟩ := e10.slice
    obtain ⟨Ay, cy, e13⟩ := e11.slice
    rw [e12] at e10
    rw [e13] at e11
    simp only [List.drop_succ_cons, List.drop_zero]
    rw [show List.range 12 = [0, 1, 2, 3, 4, 5, 6, 7, 8, 9, 10, 11] from rfl]
    simp only [fillAct, List.getD_cons_succ, List.getD_cons_zero, Act.put, List.setIfInBounds_toArray, List.set_cons_succ, List.set_cons_zero, e0, e1, e2, e3, e5, e6, e7, e8, e12, e13]
    generalize x 4 = x4
    generalize x 9 = x9
    clear e0 e1 e2 e3 e5 e6 e7 e8 hf
    have ca0 := (Below.cell hR (p := ⟨w.heap.size, 0, none⟩) (by show w.heap.size < W0.heap.size; omega)).trans ca0
    have cb0 := (Below.cell hR (p := ⟨w.heap.size + 1, 0, none⟩) (by show w.heap.size + 1 < W0.heap.size; omega)).trans cb0
    have ca2 := (Below.cell hR (p := ⟨w.heap.size, 2, none⟩) (by show w.heap.size < W0.heap.size; omega)).trans ca2
    have cb2 := (Below.cell hR (p := ⟨w.heap.size + 1, 2, none⟩) (by show w.heap.size + 1 < W0.heap.size; omega)).trans cb2
    have h2W := (Below.block hR (w.heap.size + 1 + 1) (by omega)).trans h2'.out
    have hleW := Le.trans hle'.out hR
    have hUpW := hL'.out.le hleW
    have hzW := Below.size hR
    have e10' := Lib.hid e10
    have e11' := Lib.hid e11
    have e12' := Lib.hid e12
    have e13' := Lib.hid e13
    have h2W' := Lib.hid h2W
    have hleW' := Lib.hid hleW
    have hUpW' := Lib.hid hUpW
    have hR' := Lib.hid hR
    clear hR hUpW hleW h2W e13 e12 e11 e10
    refine wpList_nil (hQ1 _ _ ?_)
    go_wp2_with (fail)
    go_at_call 76
    refine (pf_n_times L a.den b.den _ _ W hUpW'.out (had'.out.le hleW'.out) (hbd'.out.le hleW'.out) (by omega) (by omega)).mono ?_
    rintro e W1 ⟨v', rfl, y1, y2⟩
    rw [hD'.out] at y2
    obtain ⟨Az, cz, rfl⟩ := y2.slice
    have ca0 := (Below.cell y1 (p := ⟨w.heap.size, 0, none⟩) (by show w.heap.size < W.heap.size; omega)).trans ca0
    have cb0 := (Below.cell y1 (p := ⟨w.heap.size + 1, 0, none⟩) (by show w.heap.size + 1 < W.heap.size; omega)).trans cb0
    have h21 := (Below.block y1 (w.heap.size + 1 + 1) (by omega)).trans h2W'.out
    have hle1 := Le.trans hleW'.out y1
    have hUp1 := hL'.out.le hle1
    have hX1 := e10'.out.le y1
    have hY1 := e11'.out.le y1
    have hz1 := Below.size y1
    have y1' := Lib.hid y1
    have y2' := Lib.hid y2
    have h21' := Lib.hid h21
    have hle1' := Lib.hid hle1
    have hUp1' := Lib.hid hUp1
    have hX1' := Lib.hid hX1
    have hY1' := Lib.hid hY1
    clear hY1 hX1 hUp1 hle1 h21 y2 y1
    by_cases hs : sa = sb
    · have hsb2 : (sa == sb) = true := by simp [hs]
      have hl9 : mkR sa (X + Y) D = a + b := hlaw1'.out hs
      have hs' := Lib.hid hs
      have hl9' := Lib.hid hl9
      clear hl9 hs
      go_wp2
      refine wp_region_monoL (R := leRel) 7 [some 28, some 29, some 30, some 31, some 32, some 33, some 34, none] [[], [0], [], [], [2, 3], [], [1, 4, 5], [6]]
        [.eq (.pointer (some ⟨w.heap.size, 0, none⟩)), .eq (.bool sa), .eq (.slice Ax (dg X).length cx), .eq (.slice Ay (dg Y).length cy), MPred.num L .i64 (X + Y), .eq (.slice Az (dg D).length cz), MPred.rat L .i64 (a + b)] (fun _ _ => False) (by kernel_rfl) (by kernel_rfl) (by kernel_rfl) (by kernel_rfl) ?_ (fun _ _ _ _ _ h => h.elim) ?_
      · simp only [List.take_succ_cons, List.take_zero]
        refine monoSteps_cons ?_ (monoSteps_cons ?_ (monoSteps_cons ?_ (monoSteps_cons ?_ (monoSteps_cons ?_ (monoSteps_cons ?_ (monoSteps_cons ?_ (monoSteps_nil)))))))
        · refine monoStep_list rfl fun x W hR hf Q hK _ => ?_
          simp only [fillAct, List.getD_cons_succ, List.getD_cons_zero, Act.put, List.setIfInBounds_toArray, List.set_cons_succ, List.set_cons_zero] at hK ⊢
          go_wp2
          exact hK _ _ (leRel.refl _) rfl
        · refine monoStep_list rfl fun x W hR hf Q hK _ => ?_
          obtain ⟨e0, -⟩ := hf
          change _ = _ at e0
          have cc := (Below.cell hR (p := ⟨w.heap.size, 0, none⟩) (by show w.heap.size < W1.heap.size; omega)).trans ca0
          simp only [fillAct, List.getD_cons_succ, List.getD_cons_zero, Act.put, List.setIfInBounds_toArray, List.set_cons_succ, List.set_cons_zero, e0] at hK ⊢
          go_wp2
          exact hK _ _ (leRel.refl _) rfl
        · refine monoStep_list rfl fun x W hR hf Q hK _ => ?_
          simp only [fillAct, List.getD_cons_succ, List.getD_cons_zero, Act.put, List.setIfInBounds_toArray, List.set_cons_succ, List.set_cons_zero] at hK ⊢
          go_wp2
          exact hK _ _ (leRel.refl _) rfl
        · refine monoStep_list rfl fun x W hR hf Q hK _ => ?_
          simp only [fillAct, List.getD_cons_succ, List.getD_cons_zero, Act.put, List.setIfInBounds_toArray, List.set_cons_succ, List.set_cons_zero] at hK ⊢
          go_wp2
          exact hK _ _ (leRel.refl _) rfl
        · refine monoStep_list rfl fun x W hR hf Q hK _ => ?_
          obtain ⟨e0, e1, -⟩ := hf
          change _ = _ at e0 e1
          simp only [fillAct, List.getD_cons_succ, List.getD_cons_zero, Act.put, List.setIfInBounds_toArray, List.set_cons_succ, List.set_cons_zero, e0, e1] at hK ⊢
          go_wp2_with (fail)
          go_at_call 77
          refine (pf_n_plus L X Y _ _ W (hUp1'.out.le hR) (hX1'.out.le hR) (hY1'.out.le hR) (by omega) (by omega)).mono ?_
          rintro e w' ⟨v', rfl, y1, y2⟩
          obtain ⟨A9, c9, rfl⟩ := y2.slice
          go_wp2
          exact hK _ _ y1 y2
        · refine monoStep_list rfl fun x W hR hf Q hK _ => ?_
          simp only [fillAct, List.getD_cons_succ, List.getD_cons_zero, Act.put, List.setIfInBounds_toArray, List.set_cons_succ, List.set_cons_zero] at hK ⊢
          go_wp2
          exact hK _ _ (leRel.refl _) rfl
        · refine monoStep_list rfl fun x W hR hf Q hK _ => ?_
          obtain ⟨e0, e1, e2, -⟩ := hf
          change _ = _ at e0 e2
          replace e1 : NumL L .i64 W (x 4) (X + Y) := e1
          simp only [fillAct, List.getD_cons_succ, List.getD_cons_zero, Act.put, List.setIfInBounds_toArray, List.set_cons_succ, List.set_cons_zero, e0, e2] at hK ⊢
          go_wp2_with (fail)
          go_at_call 48
          refine (pf_n_reduced L sa (X + Y) D _ _ W (hUp1'.out.le hR) e1 (y2'.out.le hR) hdz'.out (by have := hs1'.out; have := hs2'.out; have := hs3'.out; omega) (by omega)).mono ?_
          rintro e w' ⟨v', rfl, y1, y3⟩
          rw [hl9'.out] at y3
          obtain ⟨A1, c1, A2, c2, rfl, -, -⟩ := y3.form
          go_wp2
          exact hK _ _ y1 y3
      · intro x W2 hR hf Q' hQ1 _
        have e0 := hf 0 (by decide)
        have e1 := hf 1 (by decide)
        have e2 := hf 2 (by decide)
        have e3 := hf 3 (by decide)
        have e5 := hf 5 (by decide)
        have e15 : RatL L .i64 W2 (x 6) (a + b) := hf 6 (by decide)
        change _ = _ at e0 e1 e2 e3 e5
        obtain ⟨A1, c1, A2, c2, e16, y3, y4⟩ := e15.form
        have h2W := (Below.block hR (w.heap.size + 1 + 1) (by omega)).trans h21'.out
        obtain ⟨z0, z1, z2, g0, g1, g2⟩ := cells3 h2W
        simp only [List.drop_succ_cons, List.drop_zero]
        rw [show List.range 7 = [0, 1, 2, 3, 4, 5, 6] from rfl]
        simp only [fillAct, List.getD_cons_succ, List.getD_cons_zero, Act.put, List.setIfInBounds_toArray, List.set_cons_succ, List.set_cons_zero, e0, e1, e2, e3, e5, e16]
        generalize x 4 = x4
        clear e0 e1 e2 e3 e5 hf
        have hle9 := fun u0 u1 u2 => le_set3 (u0 := u0) (u1 := u1) (u2 := u2) (Le.trans hle1'.out hR) (show w.heap.size ≤ w.heap.size + 1 + 1 by omega)
        have hb9 := fun u0 u1 u2 => cells3 (heap_set3 (u0 := u0) (u1 := u1) (u2 := u2) h2W)
        have hfin := fun u0 u1 u2 => And.intro (NumL.box3 (u0 := u0) (u1 := u1) (u2 := u2) y3 h2W) (NumL.box3 (u0 := u0) (u1 := u1) (u2 := u2) y4 h2W)
        obtain ⟨sr, hsr⟩ : ∃ sr, rneg (a + b) = sr := ⟨_, rfl⟩
        rw [hsr]
        have hle9' := Lib.hid hle9
        have hb9' := Lib.hid hb9
        have hfin' := Lib.hid hfin
        have h2W' := Lib.hid h2W
        have y3' := Lib.hid y3
        have y4' := Lib.hid y4
        have e16' := Lib.hid e16
        have e15' := Lib.hid e15
        have hR' := Lib.hid hR
        have hsr' := Lib.hid hsr
        clear hsr hR e15 e16 y4 y3 h2W hfin hb9 hle9
        go_wp2
        refine hQ1 _ _ ?_
        go_wp2
        obtain ⟨d0, d1, d2, -⟩ := hb9'.out (.bool sr) (.slice A1 (dg (rnum (a + b))).length c1) (.slice A2 (dg (a + b).den).length c2)
        refine bodyPost_ret (v := .agg #[.bool sr, .slice A1 (dg (rnum (a + b))).length c1, .slice A2 (dg (a + b).den).length c2]) (by simp [results, Tryz.results51, go_sem, d0, d1, d2]) rfl ⟨_, rfl, hle9'.out _ _ _, ?_⟩
        exact ⟨_, _, by rw [hsr'.out], (hfin'.out _ _ _).1, (hfin'.out _ _ _).2⟩
    · have hsb2 : (sa == sb) = false := by simpa using hs
      have hl9 := hlaw2'.out hs
      have hs' := Lib.hid hs
      have hl9' := Lib.hid hl9
      clear hl9 hs
      go_wp2_with (fail)
      go_at_call 73
      refine (pf_n_order L L X Y _ _ W1 hX1'.out hY1'.out).mono ?_
      rintro e W3 ⟨rfl, nd9, rfl⟩
      have y3 : Le W1 (W1.drewN nd9) := Le.quiet nd9
      obtain ⟨cc9, hcc9⟩ : ∃ cc9, ordI X Y = cc9 := ⟨_, rfl⟩
      rw [hcc9]
      generalize W1.drewN nd9 = W3 at *
      have ca0 := (Below.cell y3 (p := ⟨w.heap.size, 0, none⟩) (by show w.heap.size < W1.heap.size; omega)).trans ca0
      have cb0 := (Below.cell y3 (p := ⟨w.heap.size + 1, 0, none⟩) (by show w.heap.size + 1 < W1.heap.size; omega)).trans cb0
      have h23 := (Below.block y3 (w.heap.size + 1 + 1) (by omega)).trans h21'.out
      have hle3 := Le.trans hle1'.out y3
      have hUp3 := hL'.out.le hle3
      have hX3 := hX1'.out.le y3
      have hY3 := hY1'.out.le y3
      have hD3 := y2'.out.le y3
      have hz3 := Below.size y3
      clear y2' h21' hle1' hUp1' hX1' hY1'
      have y2' := Lib.hid hD3
      have h21' := Lib.hid h23
      have hle1' := Lib.hid hle3
      have hUp1' := Lib.hid hUp3
      have hX1' := Lib.hid hX3
      have hY1' := Lib.hid hY3
      clear hD3 h23 hle3 hUp3 hX3 hY3
      have y3' := Lib.hid y3
      clear y3
      by_cases hlt : X < Y
      · have hcn : ¬ 0 ≤ cc9 := by rw [← hcc9, ordI_nonneg]; omega
        have hl8 : mkR sb (Y - X) D = a + b := by have := hl9'.out; rw [if_pos hlt] at this; exact this
        have hlt' := Lib.hid hlt
        clear hlt
        have hl8' := Lib.hid hl8
        have hcc9' := Lib.hid hcc9
        clear hcc9 hl8
        go_wp2
        refine wp_region_monoL (R := leRel) 7 [some 46, some 47, some 48, some 49, some 50, some 51, some 52, none] [[], [0], [], [], [2, 3], [], [1, 4, 5], [6]]
          [.eq (.pointer (some ⟨w.heap.size + 1, 0, none⟩)), .eq (.bool sb), .eq (.slice Ay (dg Y).length cy), .eq (.slice Ax (dg X).length cx), MPred.num L .i64 (Y - X), .eq (.slice Az (dg D).length cz), MPred.rat L .i64 (a + b)] (fun _ _ => False) (by kernel_rfl) (by kernel_rfl) (by kernel_rfl) (by kernel_rfl) ?_ (fun _ _ _ _ _ h => h.elim) ?_
        · simp only [List.take_succ_cons, List.take_zero]
          refine monoSteps_cons ?_ (monoSteps_cons ?_ (monoSteps_cons ?_ (monoSteps_cons ?_ (monoSteps_cons ?_ (monoSteps_cons ?_ (monoSteps_cons ?_ (monoSteps_nil)))))))
          · refine monoStep_list rfl fun x W hR hf Q hK _ => ?_
            simp only [fillAct, List.getD_cons_succ, List.getD_cons_zero, Act.put, List.setIfInBounds_toArray, List.set_cons_succ, List.set_cons_zero] at hK ⊢
            go_wp2
            exact hK _ _ (leRel.refl _) rfl
          · refine monoStep_list rfl fun x W hR hf Q hK _ => ?_
            obtain ⟨e0, -⟩ := hf
            change _ = _ at e0
            have cc := (Below.cell hR (p := ⟨w.heap.size + 1, 0, none⟩) (by show w.heap.size + 1 < W3.heap.size; omega)).trans cb0
            simp only [fillAct, List.getD_cons_succ, List.getD_cons_zero, Act.put, List.setIfInBounds_toArray, List.set_cons_succ, List.set_cons_zero, e0] at hK ⊢
            go_wp2
            exact hK _ _ (leRel.refl _) rfl
          · refine monoStep_list rfl fun x W hR hf Q hK _ => ?_
            simp only [fillAct, List.getD_cons_succ, List.getD_cons_zero, Act.put, List.setIfInBounds_toArray, List.set_cons_succ, List.set_cons_zero] at hK ⊢
            go_wp2
            exact hK _ _ (leRel.refl _) rfl
          · refine monoStep_list rfl fun x W hR hf Q hK _ => ?_
            simp only [fillAct, List.getD_cons_succ, List.getD_cons_zero, Act.put, List.setIfInBounds_toArray, List.set_cons_succ, List.set_cons_zero] at hK ⊢
            go_wp2
            exact hK _ _ (leRel.refl _) rfl
          · refine monoStep_list rfl fun x W hR hf Q hK _ => ?_
            obtain ⟨e0, e1, -⟩ := hf
            change _ = _ at e0 e1
            simp only [fillAct, List.getD_cons_succ, List.getD_cons_zero, Act.put, List.setIfInBounds_toArray, List.set_cons_succ, List.set_cons_zero, e0, e1] at hK ⊢
            go_wp2_with (fail)
            go_at_call 78
            refine (pf_n_minus L Y X _ _ W (hUp1'.out.le hR) (hY1'.out.le hR) (hX1'.out.le hR) (Nat.le_of_lt hlt'.out) (by omega)).mono ?_
            rintro e w' ⟨v', rfl, y1, y2⟩
            obtain ⟨A9, c9, rfl⟩ := y2.slice
            go_wp2
            exact hK _ _ y1 y2
          · refine monoStep_list rfl fun x W hR hf Q hK _ => ?_
            simp only [fillAct, List.getD_cons_succ, List.getD_cons_zero, Act.put, List.setIfInBounds_toArray, List.set_cons_succ, List.set_cons_zero] at hK ⊢
            go_wp2
            exact hK _ _ (leRel.refl _) rfl
          · refine monoStep_list rfl fun x W hR hf Q hK _ => ?_
            obtain ⟨e0, e1, e2, -⟩ := hf
            change _ = _ at e0 e2
            replace e1 : NumL L .i64 W (x 4) (Y - X) := e1
            simp only [fillAct, List.getD_cons_succ, List.getD_cons_zero, Act.put, List.setIfInBounds_toArray, List.set_cons_succ, List.set_cons_zero, e0, e2] at hK ⊢
            go_wp2_with (fail)
            go_at_call 48
            refine (pf_n_reduced L sb (Y - X) D _ _ W (hUp1'.out.le hR) e1 (y2'.out.le hR) hdz'.out (by have := hs1'.out; have := hs2'.out; have := hs3'.out; omega) (by omega)).mono ?_
            rintro e w' ⟨v', rfl, y1, y3⟩
            rw [hl8'.out] at y3
            obtain ⟨A1, c1, A2, c2, rfl, -, -⟩ := y3.form
            go_wp2
            exact hK _ _ y1 y3
        · intro x W2 hR hf Q' hQ1 _
          have e0 := hf 0 (by decide)
          have e1 := hf 1 (by decide)
          have e2 := hf 2 (by decide)
          have e3 := hf 3 (by decide)
          have e5 := hf 5 (by decide)
          have e15 : RatL L .i64 W2 (x 6) (a + b) := hf 6 (by decide)
          change _ = _ at e0 e1 e2 e3 e5
          obtain ⟨A1, c1, A2, c2, e16, y3, y4⟩ := e15.form
          have h2W := (Below.block hR (w.heap.size + 1 + 1) (by omega)).trans h21'.out
          obtain ⟨z0, z1, z2, g0, g1, g2⟩ := cells3 h2W
          simp only [List.drop_succ_cons, List.drop_zero]
          rw [show List.range 7 = [0, 1, 2, 3, 4, 5, 6] from rfl]
          simp only [fillAct, List.getD_cons_succ, List.getD_cons_zero, Act.put, List.setIfInBounds_toArray, List.set_cons_succ, List.set_cons_zero, e0, e1, e2, e3, e5, e16]
          generalize x 4 = x4
          clear e0 e1 e2 e3 e5 hf
          have hle9 := fun u0 u1 u2 => le_set3 (u0 := u0) (u1 := u1) (u2 := u2) (Le.trans hle1'.out hR) (show w.heap.size ≤ w.heap.size + 1 + 1 by omega)
          have hb9 := fun u0 u1 u2 => cells3 (heap_set3 (u0 := u0) (u1 := u1) (u2 := u2) h2W)
          have hfin := fun u0 u1 u2 => And.intro (NumL.box3 (u0 := u0) (u1 := u1) (u2 := u2) y3 h2W) (NumL.box3 (u0 := u0) (u1 := u1) (u2 := u2) y4 h2W)
          obtain ⟨sr, hsr⟩ : ∃ sr, rneg (a + b) = sr := ⟨_, rfl⟩
          rw [hsr]
          have hle9' := Lib.hid hle9
          have hb9' := Lib.hid hb9
          have hfin' := Lib.hid hfin
          have h2W' := Lib.hid h2W
          have y3' := Lib.hid y3
          have y4' := Lib.hid y4
          have e16' := Lib.hid e16
          have e15' := Lib.hid e15
          have hR' := Lib.hid hR
          have hsr' := Lib.hid hsr
          clear hsr hR e15 e16 y4 y3 h2W hfin hb9 hle9
          go_wp2
          refine hQ1 _ _ ?_
          go_wp2
          obtain ⟨d0, d1, d2, -⟩ := hb9'.out (.bool sr) (.slice A1 (dg (rnum (a + b))).length c1) (.slice A2 (dg (a + b).den).length c2)
          refine bodyPost_ret (v := .agg #[.bool sr, .slice A1 (dg (rnum (a + b))).length c1, .slice A2 (dg (a + b).den).length c2]) (by simp [results, Tryz.results51, go_sem, d0, d1, d2]) rfl ⟨_, rfl, hle9'.out _ _ _, ?_⟩
          exact ⟨_, _, by rw [hsr'.out], (hfin'.out _ _ _).1, (hfin'.out _ _ _).2⟩
      · have hcn : 0 ≤ cc9 := by rw [← hcc9, ordI_nonneg]; omega
        have hl8 : mkR sa (X - Y) D = a + b := by have := hl9'.out; rw [if_neg hlt] at this; exact this
        have hlt' := Lib.hid hlt
        clear hlt
        have hl8' := Lib.hid hl8
        have hcc9' := Lib.hid hcc9
        clear hcc9 hl8
        go_wp2
        refine wp_region_monoL (R := leRel) 7 [some 39, some 40, some 41, some 42, some 43, some 44, some 45, none] [[], [0], [], [], [2, 3], [], [1, 4, 5], [6]]
          [.eq (.pointer (some ⟨w.heap.size, 0, none⟩)), .eq (.bool sa), .eq (.slice Ax (dg X).length cx), .eq (.slice Ay (dg Y).length cy), MPred.num L .i64 (X - Y), .eq (.slice Az (dg D).length cz), MPred.rat L .i64 (a + b)] (fun _ _ => False) (by kernel_rfl) (by kernel_rfl) (by kernel_rfl) (by kernel_rfl) ?_ (fun _ _ _ _ _ h => h.elim) ?_
        · simp only [List.take_succ_cons, List.take_zero]
          refine monoSteps_cons ?_ (monoSteps_cons ?_ (monoSteps_cons ?_ (monoSteps_cons ?_ (monoSteps_cons ?_ (monoSteps_cons ?_ (monoSteps_cons ?_ (monoSteps_nil)))))))
          · refine monoStep_list rfl fun x W hR hf Q hK _ => ?_
            simp only [fillAct, List.getD_cons_succ, List.getD_cons_zero, Act.put, List.setIfInBounds_toArray, List.set_cons_succ, List.set_cons_zero] at hK ⊢
            go_wp2
            exact hK _ _ (leRel.refl _) rfl
          · refine monoStep_list rfl fun x W hR hf Q hK _ => ?_
            obtain ⟨e0, -⟩ := hf
            change _ = _ at e0
            have cc := (Below.cell hR (p := ⟨w.heap.size, 0, none⟩) (by show w.heap.size < W3.heap.size; omega)).trans ca0
            simp only [fillAct, List.getD_cons_succ, List.getD_cons_zero, Act.put, List.setIfInBounds_toArray, List.set_cons_succ, List.set_cons_zero, e0] at hK ⊢
            go_wp2
            exact hK _ _ (leRel.refl _) rfl
          · refine monoStep_list rfl fun x W hR hf Q hK _ => ?_
            simp only [fillAct, List.getD_cons_succ, List.getD_cons_zero, Act.put, List.setIfInBounds_toArray, List.set_cons_succ, List.set_cons_zero] at hK ⊢
            go_wp2
            exact hK _ _ (leRel.refl _) rfl
          · refine monoStep_list rfl fun x W hR hf Q hK _ => ?_
            simp only [fillAct, List.getD_cons_succ, List.getD_cons_zero, Act.put, List.setIfInBounds_toArray, List.set_cons_succ, List.set_cons_zero] at hK ⊢
            go_wp2
            exact hK _ _ (leRel.refl _) rfl
          · refine monoStep_list rfl fun x W hR hf Q hK _ => ?_
            obtain ⟨e0, e1, -⟩ := hf
            change _ = _ at e0 e1
            simp only [fillAct, List.getD_cons_succ, List.getD_cons_zero, Act.put, List.setIfInBounds_toArray, List.set_cons_succ, List.set_cons_zero, e0, e1] at hK ⊢
            go_wp2_with (fail)
            go_at_call 78
            refine (pf_n_minus L X Y _ _ W (hUp1'.out.le hR) (hX1'.out.le hR) (hY1'.out.le hR) (Nat.le_of_not_lt hlt'.out) (by omega)).mono ?_
            rintro e w' ⟨v', rfl, y1, y2⟩
            obtain ⟨A9, c9, rfl⟩ := y2.slice
            go_wp2
            exact hK _ _ y1 y2
          · refine monoStep_list rfl fun x W hR hf Q hK _ => ?_
            simp only [fillAct, List.getD_cons_succ, List.getD_cons_zero, Act.put, List.setIfInBounds_toArray, List.set_cons_succ, List.set_cons_zero] at hK ⊢
            go_wp2
            exact hK _ _ (leRel.refl _) rfl
          · refine monoStep_list rfl fun x W hR hf Q hK _ => ?_
            obtain ⟨e0, e1, e2, -⟩ := hf
            change _ = _ at e0 e2
            replace e1 : NumL L .i64 W (x 4) (X - Y) := e1
            simp only [fillAct, List.getD_cons_succ, List.getD_cons_zero, Act.put, List.setIfInBounds_toArray, List.set_cons_succ, List.set_cons_zero, e0, e2] at hK ⊢
            go_wp2_with (fail)
            go_at_call 48
            refine (pf_n_reduced L sa (X - Y) D _ _ W (hUp1'.out.le hR) e1 (y2'.out.le hR) hdz'.out (by have := hs1'.out; have := hs2'.out; have := hs3'.out; omega) (by omega)).mono ?_
            rintro e w' ⟨v', rfl, y1, y3⟩
            rw [hl8'.out] at y3
            obtain ⟨A1, c1, A2, c2, rfl, -, -⟩ := y3.form
            go_wp2
            exact hK _ _ y1 y3
        · intro x W2 hR hf Q' hQ1 _
          have e0 := hf 0 (by decide)
          have e1 := hf 1 (by decide)
          have e2 := hf 2 (by decide)
          have e3 := hf 3 (by decide)
          have e5 := hf 5 (by decide)
          have e15 : RatL L .i64 W2 (x 6) (a + b) := hf 6 (by decide)
          change _ = _ at e0 e1 e2 e3 e5
          obtain ⟨A1, c1, A2, c2, e16, y3, y4⟩ := e15.form
          have h2W := (Below.block hR (w.heap.size + 1 + 1) (by omega)).trans h21'.out
          obtain ⟨z0, z1, z2, g0, g1, g2⟩ := cells3 h2W
          simp only [List.drop_succ_cons, List.drop_zero]
          rw [show List.range 7 = [0, 1, 2, 3, 4, 5, 6] from rfl]
          simp only [fillAct, List.getD_cons_succ, List.getD_cons_zero, Act.put, List.setIfInBounds_toArray, List.set_cons_succ, List.set_cons_zero, e0, e1, e2, e3, e5, e16]
          generalize x 4 = x4
          clear e0 e1 e2 e3 e5 hf
          have hle9 := fun u0 u1 u2 => le_set3 (u0 := u0) (u1 := u1) (u2 := u2) (Le.trans hle1'.out hR) (show w.heap.size ≤ w.heap.size + 1 + 1 by omega)
          have hb9 := fun u0 u1 u2 => cells3 (heap_set3 (u0 := u0) (u1 := u1) (u2 := u2) h2W)
          have hfin := fun u0 u1 u2 => And.intro (NumL.box3 (u0 := u0) (u1 := u1) (u2 := u2) y3 h2W) (NumL.box3 (u0 := u0) (u1 := u1) (u2 := u2) y4 h2W)
          obtain ⟨sr, hsr⟩ : ∃ sr, rneg (a + b) = sr := ⟨_, rfl⟩
          rw [hsr]
          have hle9' := Lib.hid hle9
          have hb9' := Lib.hid hb9
          have hfin' := Lib.hid hfin
          have h2W' := Lib.hid h2W
          have y3' := Lib.hid y3
          have y4' := Lib.hid y4
          have e16' := Lib.hid e16
          have e15' := Lib.hid e15
          have hR' := Lib.hid hR
          have hsr' := Lib.hid hsr
          clear hsr hR e15 e16 y4 y3 h2W hfin hb9 hle9
          go_wp2
          refine hQ1 _ _ ?_
          go_wp2
          obtain ⟨d0, d1, d2, -⟩ := hb9'.out (.bool sr) (.slice A1 (dg (rnum (a + b))).length c1) (.slice A2 (dg (a + b).den).length c2)
          refine bodyPost_ret (v := .agg #[.bool sr, .slice A1 (dg (rnum (a + b))).length c1, .slice A2 (dg (a + b).den).length c2]) (by simp [results, Tryz.results51, go_sem, d0, d1, d2]) rfl ⟨_, rfl, hle9'.out _ _ _, ?_⟩
          exact ⟨_, _, by rw [hsr'.out], (hfin'.out _ _ _).1, (hfin'.out _ _ _).2⟩
end Go.Proofs.YtbikpadjmmgpcaaGreat
namespace Go.Proofs.YtbikpadjmmgpcaaGreat
open Go.RowKit Go.Shelf
set_option linter.unusedVariables false
set_option linter.unusedSimpArgs false
end Go.Proofs.YtbikpadjmmgpcaaGreat
namespace Go.Proofs.YtbikpadjmmgpcaaGreat
open Go.RowKit Go.Shelf
set_option linter.unusedVariables false
set_option linter.unusedSimpArgs false
theorem arrL_lit3 {L : Nat → Prop} {V : World} (hL : ∀ b, V.heap.size ≤ b → L b) (a b c : Nat) (t : TypeId) : ArrL L (gv .i64) (V.alloc (.cells #[.int .i64 a, .int .i64 b, .int .i64 c] t)) (.slice (some ⟨V.heap.size, 0, none⟩) 3 3) [a, b, c] := by
  refine ⟨some ⟨V.heap.size, 0, none⟩, 3, rfl, Nat.le_refl _, by unfold maxLen; omega, nofun, fun _ => ⟨V.heap.size, 0, rfl, hL _ (Nat.le_refl _), by unfold World.alloc; show V.heap.size < (V.heap.push _).size; rw [Array.size_push]; omega, fun j hj => ?_⟩⟩
  have hk : (V.alloc (.cells #[.int .i64 a, .int .i64 b, .int .i64 c] t)).heap[V.heap.size]? = some (.cells #[.int .i64 a, .int .i64 b, .int .i64 c] t) := by unfold World.alloc; exact Array.getElem?_push_size
  rw [Nat.zero_add, cell_of_row _ _ _ _ t (0, 0) hk]
  match j, hj with
  | 0, _ => rfl
  | 1, _ => rfl
  | 2, _ => rfl
theorem dg3 {N r0 r1 r2 q1 : Nat} (h0 : N % 1000000000 = r0) (h1 : N / 1000000000 = q1) (h2 : q1 % 1000000000 = r1) (h3 : q1 / 1000000000 = r2) (hN : N ≤ 18446744073709551615) : trimL [r0, r1, r2] = dg N := by
  have hB := B9_eq
  have hl : Low [r0, r1, r2] := fun g hg => by
    simp at hg
    rcases hg with rfl | rfl | rfl <;> omega
  rw [trimL_dg hl]
  congr 1
  simp only [nv, hB]
  omega
theorem dg_u64 {N : Nat} (hN : N ≤ 18446744073709551615) : (dg N).length ≤ 3 := dg_length_le (by
  have h1 : B9 ^ 3 = 1000000000000000000000000000 := by rw [B9_eq]
  omega)
set_option maxRecDepth 100000 in
set_option maxHeartbeats 1000000 in
theorem pf_n_absolute (L : Nat → Prop) (z : Int) (w : World) (hL : Up w L) (hz0 : -9223372036854775808 ≤ z) (hz1 : z ≤ 9223372036854775807) :
    Calls Tryz.prog 49 #[.int .i64 z] w fun e w' => ∃ v', e = .returned v' ∧ Le w w' ∧ NumL L .i64 w' v' z.natAbs := by
  obtain ⟨N, hN⟩ : ∃ N, z.natAbs = N := ⟨_, rfl⟩
  rw [hN]
  have hNl : N ≤ 18446744073709551615 := by omega
  obtain ⟨r0, h0⟩ : ∃ r0, N % 1000000000 = r0 := ⟨_, rfl⟩
  obtain ⟨q1, h1⟩ : ∃ q1, N / 1000000000 = q1 := ⟨_, rfl⟩
  obtain ⟨r1, h2⟩ : ∃ r1, q1 % 1000000000 = r1 := ⟨_, rfl⟩
  obtain ⟨r2, h3⟩ : ∃ r2, q1 / 1000000000 = r2 := ⟨_, rfl⟩
  have hd := dg3 h0 h1 h2 h3 hNl
  have b0 : r0 < 1000000000 := by omega
  have b1 : r1 < 1000000000 := by omega
  have b2 : r2 < 1000000000 := by omega
  have bq : (q1 : Int) ≤ 18446744074 := by omega
  have bN : (N : Int) ≤ 18446744073709551615 := by omega
  have i0 : (N : Int) % 1000000000 = (r0 : Int) := by omega
  have i1 : (N : Int) / 1000000000 = (q1 : Int) := by omega
  have i2 : (q1 : Int) % 1000000000 = (r1 : Int) := by omega
  have i3 : (q1 : Int) / 1000000000 = (r2 : Int) := by omega
  have hlit := arrL_lit3 (L := L) (V := w) hL r0 r1 r2 3
  have hlz := le_alloc w (.cells #[.int .i64 r0, .int .i64 r1, .int .i64 r2] 3)
  by_cases hz : z < 0
  · have j0 : -(z + 1) + 1 = (N : Int) := by omega
    have hL' := Lib.hid hL
    have hN' := Lib.hid hN
    have h0' := Lib.hid h0
    have h1' := Lib.hid h1
    have h2' := Lib.hid h2
    have h3' := Lib.hid h3
    have hd' := Lib.hid hd
    have hlit' := Lib.hid hlit
    have hlz' := Lib.hid hlz
    clear hlz hlit hd h3 h2 h1 h0 hN hL
    go_enter Tryz.func49, Tryz.ntmps49
    go_wp2_with (first | (go_at_call 75; ((with_reducible refine (pf_n_cut L _ _ _ hlit'.out).mono ?_); rintro e w' ⟨v2, rfl, rfl, hv2⟩)))
    go_ret
    exact ⟨_, rfl, hlz'.out, by unfold NumL; rw [← hd'.out]; exact hv2⟩
  · have j0 : z = (N : Int) := by omega
    subst j0
    have w1 : IntKind.u64.wrap (N : Int) = (N : Int) := by
      have := u64_pos (N : Int) (by omega) hz1
      simpa using this
    have hL' := Lib.hid hL
    have hN' := Lib.hid hN
    have h0' := Lib.hid h0
    have h1' := Lib.hid h1
    have h2' := Lib.hid h2
    have h3' := Lib.hid h3
    have hd' := Lib.hid hd
    have hlit' := Lib.hid hlit
    have hlz' := Lib.hid hlz
    clear hlz hlit hd h3 h2 h1 h0 hN hL
    go_enter Tryz.func49, Tryz.ntmps49
    go_wp2_with (first | (go_at_call 75; ((with_reducible refine (pf_n_cut L _ _ _ hlit'.out).mono ?_); rintro e w' ⟨v2, rfl, rfl, hv2⟩)))
    go_ret
    exact ⟨_, rfl, hlz'.out, by unfold NumL; rw [← hd'.out]; exact hv2⟩
theorem over_int (a b : Int) (hb : b ≠ 0) : mkR (decide (a < 0) != decide (b < 0)) a.natAbs b.natAbs = (a : Rat) / (b : Rat) := by
  have h := div_mkR (a := (a : Rat)) (b := (b : Rat)) (fun h => hb (by exact_mod_cast h))
  rw [← h]
  show mkR _ _ _ = mkR (decide (a < 0) != decide (b < 0)) (a.natAbs * 1) (1 * b.natAbs)
  rw [Nat.mul_one, Nat.one_mul]
set_option maxRecDepth 100000 in
set_option maxHeartbeats 1000000 in
theorem pf_n_Over (L : Nat → Prop) (a b : Int) (w : World) (hL : Up w L) (ha0 : -9223372036854775808 ≤ a) (ha1 : a ≤ 9223372036854775807) (hb0 : -9223372036854775808 ≤ b) (hb1 : b ≤ 9223372036854775807) (hb : b ≠ 0) :
    Calls Tryz.prog 27 #[.int .i64 a, .int .i64 b] w fun e w' => ∃ v', e = .returned v' ∧ Le w w' ∧ RatL L .i64 w' v' ((a : Rat) / (b : Rat)) := by
  have hlaw := over_int a b hb
  obtain ⟨R, hR⟩ : ∃ R, (a : Rat) / (b : Rat) = R := ⟨_, rfl⟩
  rw [hR] at hlaw ⊢
  have la := dg_u64 (N := a.natAbs) (by omega)
  have lb := dg_u64 (N := b.natAbs) (by omega)
  have hbn : b.natAbs ≠ 0 := by omega
  obtain ⟨sa, hsa⟩ : ∃ sa, decide (a < 0) = sa := ⟨_, rfl⟩
  obtain ⟨sb, hsb⟩ : ∃ sb, decide (b < 0) = sb := ⟨_, rfl⟩
  rw [hsa, hsb] at hlaw
  have hL' := Lib.hid hL
  have hlaw' := Lib.hid hlaw
  have la' := Lib.hid la
  have lb' := Lib.hid lb
  have hbn' := Lib.hid hbn
  have hb' := Lib.hid hb
  clear hb hbn lb la hlaw hL
  go_enter Tryz.func27, Tryz.ntmps27
  go_wp2_with (fail)
  go_at_call 49
  refine (pf_n_absolute L a _ (hL'.out.le (le_alloc _ _)) ha0 ha1).mono ?_
  rintro e W1 ⟨v1, rfl, hle1, hn1⟩
  obtain ⟨hle1, hbx⟩ := box_le hle1
  obtain ⟨A1, c1, rfl⟩ := hn1.slice
  have hU1 := hL'.out.le hle1
  have hle1' := Lib.hid hle1
  have hn1' := Lib.hid hn1
  have hU1' := Lib.hid hU1
  have hbx' := Lib.hid hbx
  clear hbx hU1 hn1 hle1
  go_wp2_with (fail)
  go_at_call 49
  refine (pf_n_absolute L b _ hU1'.out hb0 hb1).mono ?_
  rintro e W2 ⟨v2, rfl, hle2, hn2⟩
  obtain ⟨A2, c2, rfl⟩ := hn2.slice
  have hU2 := hU1'.out.le hle2
  have hn12 := hn1'.out.le hle2
  have hle2' := Lib.hid hle2
  have hn2' := Lib.hid hn2
  have hU2' := Lib.hid hU2
  have hn12' := Lib.hid hn12
  clear hn12 hU2 hn2 hle2
  go_wp2_with (fail)
  go_at_call 48
  refine (pf_n_reduced L (sa != sb) a.natAbs b.natAbs _ _ W2 hU2'.out hn12'.out hn2'.out hbn'.out (by have := la'.out; omega) (by have := lb'.out; omega)).mono ?_
  rintro e W3 ⟨v3, rfl, hle3, hr⟩
  rw [hlaw'.out] at hr
  have hle4 := (hle1'.out.trans hle2'.out).trans hle3
  have hbx3 := (Below.block (hle2'.out.trans hle3) _ (Array.getElem?_eq_some_iff.1 hbx'.out).1).trans hbx'.out
  obtain ⟨A3, c3, A4, c4, rfl, hrn, hrd⟩ := hr.form
  obtain ⟨z0, z1, z2, g0, g1, g2⟩ := cells3 hbx3
  obtain ⟨sr, hsr⟩ : ∃ sr, rneg R = sr := ⟨_, rfl⟩
  rw [hsr]
  have hb9 := fun u0 u1 u2 => cells3 (heap_set3 (u0 := u0) (u1 := u1) (u2 := u2) hbx3)
  have hle9 := fun u0 u1 u2 => le_set3 (u0 := u0) (u1 := u1) (u2 := u2) hle4 (Nat.le_refl _)
  have hfin := fun u0 u1 u2 => And.intro (NumL.box3 (u0 := u0) (u1 := u1) (u2 := u2) hrn hbx3) (NumL.box3 (u0 := u0) (u1 := u1) (u2 := u2) hrd hbx3)
  have hle3' := Lib.hid hle3
  have hr' := Lib.hid hr
  have hle4' := Lib.hid hle4
  have hbx3' := Lib.hid hbx3
  have hrn' := Lib.hid hrn
  have hrd' := Lib.hid hrd
  have hb9' := Lib.hid hb9
  have hle9' := Lib.hid hle9
  have hfin' := Lib.hid hfin
  have hR' := Lib.hid hR
  have hsr' := Lib.hid hsr
  have hsa' := Lib.hid hsa
  have hsb' := Lib.hid hsb
  clear hsb hsa hsr hR hfin hle9 hb9 hrd hrn hbx3 hle4 hr hle3
  go_wp2
  obtain ⟨d0, d1, d2, -⟩ := hb9'.out (.bool sr) (.slice A3 (dg (rnum R)).length c3) (.slice A4 (dg R.den).length c4)
  exact bodyPost_ret (v := .agg #[.bool sr, .slice A3 (dg (rnum R)).length c3, .slice A4 (dg R.den).length c4]) (by simp [results, Tryz.results27, go_sem, d0, d1, d2]) rfl ⟨_, rfl, hle9'.out _ _ _, _, _, by rw [hsr'.out], (hfin'.out _ _ _).1, (hfin'.out _ _ _).2⟩
end Go.Proofs.YtbikpadjmmgpcaaGreat
