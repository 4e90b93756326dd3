/- reference 1: fractions: lowest, Sign, Minus. -/
import Derived.Test.YtpjmbgfggonhhaaGreatRN1
import Derived.Test.YtpjmbgfggonhhaaGreatRat4
namespace Go.Proofs.YtpjmbgfggonhhaaGreat
open Go.RowKit Go.Shelf
set_option linter.unusedVariables false
set_option linter.unusedSimpArgs false
theorem pf_n_times (L : Nat → Prop) (a b : Nat) (va vb : Value) (w : World) (hL : Up w L) (ha : NumL L .i64 w va a) (hb : NumL L .i64 w vb b) (hma : (dg a).length ≤ 100000000) (hmb : (dg b).length ≤ 100000000) :
    Calls Tryz.prog 84 #[va, vb] w fun e w' => ∃ v', e = .returned v' ∧ Le w w' ∧ NumL L .i64 w' v' (a * b) := pf_n_product L L L a b va vb w hL ha hb hma hmb
theorem pf_n_plus (L : Nat → Prop) (a b : Nat) (va vb : Value) (w : World) (hL : Up w L) (ha : NumL L .i64 w va a) (hb : NumL L .i64 w vb b) (hma : (dg a).length ≤ 100000000) (hmb : (dg b).length ≤ 100000000) :
    Calls Tryz.prog 86 #[va, vb] w fun e w' => ∃ v', e = .returned v' ∧ Le w w' ∧ NumL L .i64 w' v' (a + b) := pf_n_sum L L L a b va vb w hL ha hb hma hmb
theorem pf_n_minus (L : Nat → Prop) (a b : Nat) (va vb : Value) (w : World) (hL : Up w L) (ha : NumL L .i64 w va a) (hb : NumL L .i64 w vb b) (hle : b ≤ a) (hm : (dg a).length ≤ 100000000) :
    Calls Tryz.prog 88 #[va, vb] w fun e w' => ∃ v', e = .returned v' ∧ Le w w' ∧ NumL L .i64 w' v' (a - b) := pf_n_less L L L a b va vb w hL ha hb hle hm
theorem dg_one_lt : (1 : Nat) < B9 := by have := B9_eq; omega
theorem lowest_fin {L : Nat → Prop} {neg : Bool} {n d : Nat} {w W : World} {B : Nat} {t : TypeId} {An Ad : Option Addr} {cn cd ln ld : Nat} (hn0 : n ≠ 0) (hd : d ≠ 0) (hle : Le w W) (hB : w.heap.size ≤ B)
    (hbx : W.heap[B]? = some (Obj.cells #[.bool false, .slice none 0 0, .slice none 0 0] t)) (hn : NumL L .i64 W (.slice An ln cn) (n / Nat.gcd n d)) (hdn : NumL L .i64 W (.slice Ad ld cd) (d / Nat.gcd n d)) :
    RatL L .i64 (((W.setCell ⟨B, 0, none⟩ (.bool neg)).setCell ⟨B, 1, none⟩ (.slice An ln cn)).setCell ⟨B, 2, none⟩ (.slice Ad ld cd)) (.agg #[.bool neg, .slice An ln cn, .slice Ad ld cd]) (mkR neg n d) := by
  refine ⟨_, _, by rw [mkR_neg _ _ _ hd, show decide (0 < n) = true by simp; omega, Bool.and_true], ?_, ?_⟩
  · rw [mkR_num _ _ _ hd]; exact hn.box3 hbx
  · rw [mkR_den _ _ _ hd]; exact hdn.box3 hbx
set_option maxRecDepth 100000 in
set_option maxHeartbeats 1000000 in
theorem pf_n_reduced (L : Nat → Prop) (neg : Bool) (n d : Nat) (vn vd : Value) (w : World) (hL : Up w L) (hn : NumL L .i64 w vn n) (hd : NumL L .i64 w vd d) (hd0 : d ≠ 0) (hmn : (dg n).length ≤ 10000000) (hmd : (dg d).length ≤ 10000000) :
    Calls Tryz.prog 85 #[.bool neg, vn, vd] w fun e w' => ∃ v', e = .returned v' ∧ Le w w' ∧ RatL L .i64 w' v' (mkR neg n d) := by
  obtain ⟨An, cn, rfl⟩ := hn.slice
  obtain ⟨Ad, cd, rfl⟩ := hd.slice
  by_cases hz : n = 0
  · have hl1 : (dg n).length = 0 := by rw [hz, dg_zero]; rfl
    rw [hl1]
    have hn' := Lib.hid hn
    have hd' := Lib.hid hd
    have hL' := Lib.hid hL
    have hz' := Lib.hid hz
    have hl1' := Lib.hid hl1
    clear hl1 hz hL hd hn
    go_enter Tryz.func85, Tryz.ntmps85
    go_wp2
    have hrat : RatL L .i64 ((w.alloc (.cells #[.bool false, .slice none 0 0, .slice (some ⟨w.heap.size + 1, 0, none⟩) 1 1] 59)).alloc (.cells #[.int .i64 1] 3)) (.agg #[.bool false, .slice none 0 0, .slice (some ⟨w.heap.size + 1, 0, none⟩) 1 1]) (mkR neg n d) := by
      rw [hz'.out, mkR_zero]
      refine ⟨_, _, rfl, by unfold NumL; rw [show rnum 0 = 0 from rfl, dg_zero]; exact ArrL.nil _ _ _, ?_⟩
      have h := numL_newg (L := L) (k := .i64) (V := w.alloc (.cells #[.bool false, .slice none 0 0, .slice (some ⟨w.heap.size + 1, 0, none⟩) 1 1] 59)) (g := 1) (hL'.out.le (le_alloc _ _)) (by omega) dg_one_lt 3
      rw [World.size_alloc] at h
      exact h
    exact bodyPost_ret (v := .agg #[.bool false, .slice none 0 0, .slice (some ⟨w.heap.size + 1, 0, none⟩) 1 1]) (by simp [results, Tryz.results85, go_sem]) rfl ⟨_, rfl, (le_alloc _ _).trans (le_alloc _ _), hrat⟩
  · have hl1 : (((dg n).length : Int) == 0) = false := beq_eq_false_iff_ne.2 (by have := dg_length_pos.2 hz; omega)
    have hl3 : ¬ ((dg n).length : Int) = 0 := by have := dg_length_pos.2 hz; omega
    have hn' := Lib.hid hn
    have hd' := Lib.hid hd
    have hL' := Lib.hid hL
    clear hL hd hn
    go_enter Tryz.func85, Tryz.ntmps85
    go_wp2_with (fail)
    go_at_call 98
    refine (pf_n_common L n d _ _ _ (hL'.out.le (le_alloc _ _)) (hn'.out.le (le_alloc _ _)) (hd'.out.le (le_alloc _ _)) hmn hmd).mono ?_
    rintro e w1 ⟨vg, rfl, hle, hg⟩
    obtain ⟨hle1, hbx⟩ := box_le hle
    obtain ⟨G, hG⟩ : ∃ G, Nat.gcd n d = G := ⟨_, rfl⟩
    have hG0 : 0 < G := by rw [← hG]; exact Nat.gcd_pos_of_pos_right _ (Nat.pos_of_ne_zero hd0)
    have hGl : (dg G).length ≤ 10000000 := by
      rw [← hG]
      have := gcd_len n d (.inr hd0)
      omega
    rw [hG] at hg
    obtain ⟨Ag, cg, rfl⟩ := hg.slice
    have hn1 := hn'.out.le hle1
    have hd1 := hd'.out.le hle1
    have hUp1 := hL'.out.le hle1
    have hbx2 := fun o => (Below.block (le_alloc w1 o) w.heap.size (Array.getElem?_eq_some_iff.1 hbx).1).trans hbx
    have hle' := Lib.hid hle
    have hle1' := Lib.hid hle1
    have hbx' := Lib.hid hbx
    have hg' := Lib.hid hg
    have hn1' := Lib.hid hn1
    have hd1' := Lib.hid hd1
    have hUp1' := Lib.hid hUp1
    have hbx2' := Lib.hid hbx2
    clear hbx2 hUp1 hd1 hn1 hg hbx hle1 hle
    go_wp2_with (fail)
    go_at_call 87
    refine (pf_n_order L L G 1 _ _ _ (hg'.out.le (le_alloc _ _)) (numL_newg (g := 1) hUp1'.out (by omega) dg_one_lt _)).mono ?_
    rintro e w2 ⟨rfl, nd, rfl⟩
    obtain ⟨w2, hw2⟩ : ∃ w2, (w1.alloc (.cells #[.int .i64 ((1 : Nat) : Int)] 3)).drewN nd = w2 := ⟨_, rfl⟩
    have hle12 : Le w1 w2 := by rw [← hw2]; exact (le_alloc _ _).trans (Le.quiet nd)
    rw [hw2]
    have hle2 := hle1'.out.trans hle12
    have hbx3 := (Below.block hle12 w.heap.size (Array.getElem?_eq_some_iff.1 hbx'.out).1).trans hbx'.out
    have hn2 := hn1'.out.le hle12
    have hd2 := hd1'.out.le hle12
    have hg2 := hg'.out.le hle12
    have hUp2 := hUp1'.out.le hle12
    clear hn1' hd1' hg' hUp1' hbx2' hbx' hle' hle1'
    have hw2' := Lib.hid hw2
    have hle12' := Lib.hid hle12
    have hle2' := Lib.hid hle2
    have hbx3' := Lib.hid hbx3
    have hn2' := Lib.hid hn2
    have hd2' := Lib.hid hd2
    have hg2' := Lib.hid hg2
    have hUp2' := Lib.hid hUp2
    clear hUp2 hg2 hd2 hn2 hbx3 hle2 hle12 hw2
    by_cases hG1 : G = 1
    · have ho : ordI G 1 = 0 := ordI_zero.2 hG1
      have ho2 : (ordI G 1 == 0) = true := by rw [ho]; rfl
      obtain ⟨c0, c1, c2, f0, f1, f2⟩ := cells3 hbx3'.out
      have hfin := lowest_fin (neg := neg) hz hd0 hle2'.out (Nat.le_refl _) hbx3'.out (by rw [hG, hG1, Nat.div_one]; exact hn2'.out) (by rw [hG, hG1, Nat.div_one]; exact hd2'.out)
      have hle9 := fun u0 u1 u2 => le_set3 (u0 := u0) (u1 := u1) (u2 := u2) hle2'.out (Nat.le_refl _)
      have hb9 := fun u0 u1 u2 => cells3 (heap_set3 (u0 := u0) (u1 := u1) (u2 := u2) hbx3'.out)
      rw [ho]
      clear ho ho2
      have hfin' := Lib.hid hfin
      have hle9' := Lib.hid hle9
      have hG' := Lib.hid hG
      have hG1' := Lib.hid hG1
      have hb9' := Lib.hid hb9
      clear hb9 hG1 hG hle9 hfin
      go_wp2
      obtain ⟨d0, d1, d2, -⟩ := hb9'.out (.bool neg) (.slice An (dg n).length cn) (.slice Ad (dg d).length cd)
      exact bodyPost_ret (v := .agg #[.bool neg, .slice An (dg n).length cn, .slice Ad (dg d).length cd]) (by simp [results, Tryz.results85, go_sem, d0, d1, d2]) rfl ⟨_, rfl, hle9'.out _ _ _, hfin'.out⟩
    · obtain ⟨o, ho⟩ : ∃ o, ordI G 1 = o := ⟨_, rfl⟩
      rw [ho]
      have ho1 : (o == 0) = false := beq_eq_false_iff_ne.2 (fun h => hG1 (ordI_zero.1 (ho.trans h)))
      have ho2 : ¬ o = 0 := fun h => hG1 (ordI_zero.1 (ho.trans h))
      have ho' := Lib.hid ho
      have hG1' := Lib.hid hG1
      clear hG1 ho
      go_wp2_with (fail)
      go_at_call 99
      refine (pf_n_parts L n G _ _ w2 hUp2'.out hn2'.out hg2'.out hmn hGl (by omega)).mono ?_
      rintro e w3 ⟨v1, v2, rfl, hle3, hq, hr⟩
      obtain ⟨A1, c1, rfl⟩ := hq.slice
      obtain ⟨A2, c2, rfl⟩ := hr.slice
      have hbx4 := (Below.block hle3 _ (Array.getElem?_eq_some_iff.1 hbx3'.out).1).trans hbx3'.out
      have hd3 := hd2'.out.le hle3
      have hg3 := hg2'.out.le hle3
      have hUp3 := hUp2'.out.le hle3
      have hle3' := Lib.hid hle3
      have hq' := Lib.hid hq
      have hr' := Lib.hid hr
      have hbx4' := Lib.hid hbx4
      have hd3' := Lib.hid hd3
      have hg3' := Lib.hid hg3
      have hUp3' := Lib.hid hUp3
      clear hUp3 hg3 hd3 hbx4 hr hq hle3
      go_wp2_with (fail)
      go_at_call 99
      refine (pf_n_parts L d G _ _ w3 hUp3'.out hd3'.out hg3'.out hmd hGl (by omega)).mono ?_
      rintro e w4 ⟨v1, v2, rfl, hle4, hq3, hr3⟩
      obtain ⟨A3, c3, rfl⟩ := hq3.slice
      obtain ⟨A4, c4, rfl⟩ := hr3.slice
      have hbx5 := (Below.block hle4 _ (Array.getElem?_eq_some_iff.1 hbx4'.out).1).trans hbx4'.out
      have hq2 := hq'.out.le hle4
      have hle5 := Le.trans (Le.trans hle2'.out hle3'.out) hle4
      obtain ⟨c0, e1, e2, f0, f1, f2⟩ := cells3 hbx5
      have hfin := lowest_fin (neg := neg) hz hd0 hle5 (Nat.le_refl _) hbx5 (by rw [hG]; exact hq2) (by rw [hG]; exact hq3)
      have hle9 := fun u0 u1 u2 => le_set3 (u0 := u0) (u1 := u1) (u2 := u2) hle5 (Nat.le_refl _)
      have hb9 := fun u0 u1 u2 => cells3 (heap_set3 (u0 := u0) (u1 := u1) (u2 := u2) hbx5)
      have hfin' := Lib.hid hfin
      have hle9' := Lib.hid hle9
      have hG' := Lib.hid hG
      have hb9' := Lib.hid hb9
      have hbx5' := Lib.hid hbx5
      have hq2' := Lib.hid hq2
      have hle5' := Lib.hid hle5
      have hle4' := Lib.hid hle4
      have hq3' := Lib.hid hq3
      have hr3' := Lib.hid hr3
      clear hr3 hq3 hle4 hle5 hq2 hbx5 hb9 hG hle9 hfin
      go_wp2
      obtain ⟨d0, d1, d2, -⟩ := hb9'.out (.bool neg) (.slice A1 (dg (n / G)).length c1) (.slice A3 (dg (d / G)).length c3)
      exact bodyPost_ret (v := .agg #[.bool neg, .slice A1 (dg (n / G)).length c1, .slice A3 (dg (d / G)).length c3]) (by simp [results, Tryz.results85, go_sem, d0, d1, d2]) rfl ⟨_, rfl, hle9'.out _ _ _, hfin'.out⟩
set_option maxHeartbeats 1000000 in
theorem pf_n_sign (L : Nat → Prop) (r : Rat) (v : Value) (w : World) (h : RatL L .i64 w v r) :
    Calls Tryz.prog 66 #[v] w fun e w' => e = .returned (.int .i64 (rsgn r)) ∧ Le w w' := by
  obtain ⟨A1, c1, A2, c2, rfl, -, -⟩ := h.form
  have hle := le_alloc w (.cells #[.bool (rneg r), .slice A1 (dg (rnum r)).length c1, .slice A2 (dg r.den).length c2] 59)
  rw [rsgn_eq]
  obtain ⟨sr, hsr⟩ : ∃ sr, rneg r = sr := ⟨_, rfl⟩
  rw [hsr] at hle ⊢
  have hsr' := Lib.hid hsr
  have hle' := Lib.hid hle
  clear hle hsr
  by_cases h0 : rnum r = 0
  · rw [if_pos h0]
    have hl : (dg (rnum r)).length = 0 := by rw [h0, dg_zero]; rfl
    have hle2 := hle'.out
    clear hle'
    rw [hl] at hle2 ⊢
    have hle2' := Lib.hid hle2
    clear hle2
    clear h0 hl
    go_enter Tryz.func66, Tryz.ntmps66
    go_wp2
    go_ret
    exact ⟨rfl, hle2'.out⟩
  · rw [if_neg h0]
    have hl : 0 < (dg (rnum r)).length := dg_length_pos.2 h0
    have hl2 : (((dg (rnum r)).length : Int) == 0) = false := beq_eq_false_iff_ne.2 (by omega)
    have hl3 : ¬ (dg (rnum r)).length = 0 := by omega
    have hl4 : ¬ ((dg (rnum r)).length : Int) = 0 := by omega
    have hle2 := hle'.out
    clear hle'
    generalize (dg (rnum r)).length = l1 at *
    have hle2' := Lib.hid hle2
    clear hle2
    clear h0
    cases sr
    · go_enter Tryz.func66, Tryz.ntmps66
      go_wp2
      go_ret
      exact ⟨rfl, hle2'.out⟩
    · go_enter Tryz.func66, Tryz.ntmps66
      go_wp2
      go_ret
      exact ⟨rfl, hle2'.out⟩
set_option maxRecDepth 100000 in
set_option maxHeartbeats 1000000 in
theorem pf_n_opposite (L : Nat → Prop) (r : Rat) (v : Value) (w : World) (h : RatL L .i64 w v r) :
    Calls Tryz.prog 63 #[v] w fun e w' => ∃ v', e = .returned v' ∧ Le w w' ∧ RatL L .i64 w' v' (-r) := by
  obtain ⟨A1, c1, A2, c2, rfl, h1, h2⟩ := h.form
  obtain ⟨n1, n2, n3⟩ := neg_rat r
  obtain ⟨sr, hsr⟩ : ∃ sr, rneg r = sr := ⟨_, rfl⟩
  rw [hsr] at n1 ⊢
  obtain ⟨l1, hl1⟩ : ∃ l1, (dg (rnum r)).length = l1 := ⟨_, rfl⟩
  obtain ⟨l2, hl2⟩ : ∃ l2, (dg r.den).length = l2 := ⟨_, rfl⟩
  have hz : decide (0 < rnum r) = decide (0 < l1) := by rw [← hl1]; exact decide_eq_decide.2 (show 0 < rnum r ↔ 0 < (dg (rnum r)).length by rw [dg_length_pos]; omega)
  rw [hz] at n1
  rw [hl1] at h1
  rw [hl2] at h2
  rw [hl1, hl2]
  have hR : ∀ s o0 o1, rneg (-r) = s → (∃ v', Ending.returned (.agg #[.bool s, .slice A1 l1 c1, .slice A2 l2 c2]) = .returned v' ∧ Le w ((w.alloc o0).alloc o1) ∧ RatL L .i64 ((w.alloc o0).alloc o1) v' (-r)) := fun s o0 o1 hs => by
    have hw := (le_alloc w o0).trans (le_alloc _ o1)
    exact ⟨_, rfl, hw, _, _, by rw [hs], by rw [n2]; exact h1.le hw, by rw [n3]; exact h2.le hw⟩
  have h' := Lib.hid h
  have h1' := Lib.hid h1
  have h2' := Lib.hid h2
  have hR' := Lib.hid hR
  have hsr' := Lib.hid hsr
  have n1' := Lib.hid n1
  have n2' := Lib.hid n2
  have n3' := Lib.hid n3
  have hl1' := Lib.hid hl1
  have hl2' := Lib.hid hl2
  have hz' := Lib.hid hz
  clear hz hl2 hl1 n3 n2 n1 hsr hR h2 h1 h
  by_cases h0 : 0 < l1
  · have h4 : 0 < (l1 : Int) := by omega
    cases sr
    · go_enter Tryz.func63, Tryz.ntmps63
      go_wp2
      exact bodyPost_ret (v := .agg #[.bool true, .slice A1 l1 c1, .slice A2 l2 c2]) (by simp [results, Tryz.results63, go_sem]) rfl (hR'.out _ _ _ (by rw [n1'.out]; simp; omega))
    · go_enter Tryz.func63, Tryz.ntmps63
      go_wp2
      exact bodyPost_ret (v := .agg #[.bool false, .slice A1 l1 c1, .slice A2 l2 c2]) (by simp [results, Tryz.results63, go_sem]) rfl (hR'.out _ _ _ (by rw [n1'.out]; simp))
  · have h4 : ¬ 0 < (l1 : Int) := by omega
    cases sr
    · go_enter Tryz.func63, Tryz.ntmps63
      go_wp2
      exact bodyPost_ret (v := .agg #[.bool false, .slice A1 l1 c1, .slice A2 l2 c2]) (by simp [results, Tryz.results63, go_sem]) rfl (hR'.out _ _ _ (by rw [n1'.out]; simp; omega))
    · go_enter Tryz.func63, Tryz.ntmps63
      go_wp2
      exact bodyPost_ret (v := .agg #[.bool false, .slice A1 l1 c1, .slice A2 l2 c2]) (by simp [results, Tryz.results63, go_sem]) rfl (hR'.out _ _ _ (by rw [n1'.out]; simp))
end Go.Proofs.YtpjmbgfggonhhaaGreat
