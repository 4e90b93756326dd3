/- exact: fractions: reduced, sign. exact: fractions: times, over. -/
import Derived.Test.YtlhfonhbbpbmpaaGreatOver2
namespace Go.Proofs.YtlhfonhbbpbmpaaGreat
set_option maxRecDepth 100000
set_option maxHeartbeats 2000000
open Go.RowKit Go.Shelf
set_option linter.unusedVariables false
set_option linter.unusedSimpArgs false
theorem NumL.box3 {L : Nat → Prop} {k : IntKind} {W : World} {v u0 u1 u2 : Value} {b0 : Bool} {A1 A2 : Option Addr} {n1 c1 n2 c2 n B : Nat} {t : TypeId} (h : NumL L k W v n) (hk : W.heap[B]? = some (Obj.cells #[.bool b0, .slice A1 n1 c1, .slice A2 n2 c2] t)) :
  NumL L k (((W.setCell ⟨B, 0, none⟩ u0).setCell ⟨B, 1, none⟩ u1).setCell ⟨B, 2, none⟩ u2) v n := by
 obtain ⟨A, c, hv, h1, h2, hN, h3⟩ := h
 refine ⟨A, c, hv, h1, h2, hN, fun h0 => ?_⟩
 obtain ⟨b, off, ha, hb, hlt, hc⟩ := h3 h0
 have hne : b ≠ B := by
  rintro rfl
  have h4 := hc 0 h0
  rw [cell_of_row W b (off + 0) _ t (0, 0) hk] at h4
  unfold gv at h4
  rw [Nat.add_zero] at h4
  match off, h4 with
  | 0, h4 => simp at h4
  | 1, h4 => simp at h4
  | 2, h4 => simp at h4
  | off + 3, h4 => simp at h4
 refine ⟨b, off, ha, hb, by simpa [World.setCell] using hlt, fun j hj => (World.cell?_of_block ?_).trans (hc j hj)⟩
 exact (Below.heap_setCell _ _ _ _ hne).trans ((Below.heap_setCell _ _ _ _ hne).trans (Below.heap_setCell _ _ _ _ hne))
theorem qAY {W : World} {X : Nat} {v0 v1 v2 u0 u1 u2 : Value} {t : TypeId} (h : W.heap[X]? = some (Obj.cells #[v0, v1, v2] t)) : (((W.setCell ⟨X, 0, none⟩ u0).setCell ⟨X, 1, none⟩ u1).setCell ⟨X, 2, none⟩ u2).heap[X]? = some (Obj.cells #[u0, u1, u2] t) := by
 simp only [World.setCell, Array.getElem?_modify, h]
 simp
theorem qAD {W : World} {X : Nat} {v0 v1 v2 : Value} {t : TypeId} (h : W.heap[X]? = some (Obj.cells #[v0, v1, v2] t)) : W.cell? ⟨X, 0, none⟩ = some v0 ∧ W.cell? ⟨X, 1, none⟩ = some v1 ∧ W.cell? ⟨X, 2, none⟩ = some v2 ∧ W.frozen? ⟨X, 0, none⟩ = false ∧ W.frozen? ⟨X, 1, none⟩ = false ∧ W.frozen? ⟨X, 2, none⟩ = false :=
 ⟨cell_of_row W X 0 _ _ _ h, cell_of_row W X 1 _ _ _ h, cell_of_row W X 2 _ _ _ h, by simp [World.frozen?, h], by simp [World.frozen?, h], by simp [World.frozen?, h]⟩
theorem qA8 {w W : World} {X : Nat} {u0 u1 u2 : Value} (h : Le w W) (hX : w.heap.size ≤ X) : Le w (((W.setCell ⟨X, 0, none⟩ u0).setCell ⟨X, 1, none⟩ u1).setCell ⟨X, 2, none⟩ u2) :=
 ((Below.setCell h (p := ⟨X, 0, none⟩) hX _).setCell (p := ⟨X, 1, none⟩) hX _).setCell (p := ⟨X, 2, none⟩) hX _
theorem qF1 {L : Nat → Prop} {neg : Bool} {n d : Nat} {w W : World} {B : Nat} {t : TypeId} {An Ad : Option Addr} {cn cd ln ld : Nat} (hd : d ≠ 0) (hle : Le w W) (hB : w.heap.size ≤ B)
  (hbx : W.heap[B]? = some (Obj.cells #[.bool false, .slice none 0 0, .slice none 0 0] t)) (hn : NumL L .u32 W (.slice An ln cn) (n / Nat.gcd n d)) (hdn : NumL L .u32 W (.slice Ad ld cd) (d / Nat.gcd n d)) :
  RatL L .u32 (((W.setCell ⟨B, 0, none⟩ (.bool (neg && decide (0 < n)))).setCell ⟨B, 1, none⟩ (.slice An ln cn)).setCell ⟨B, 2, none⟩ (.slice Ad ld cd)) (.agg #[.bool (neg && decide (0 < n)), .slice An ln cn, .slice Ad ld cd]) (mkR neg n d) := by
 refine ⟨_, _, by rw [qFS _ _ _ hd], ?_, ?_⟩
 ·rw [qDg _ _ _ hd]; exact hn.box3 hbx
 ·rw [qEM _ _ _ hd]; exact hdn.box3 hbx
theorem qDB (L : Nat → Prop) (neg : Bool) (n d : Nat) (vn vd : Value) (w : World) (hL : Up w L) (hn : NumL L .u32 w vn n) (hd : NumL L .u32 w vd d) (hd0 : d ≠ 0) (hmn : (dg n).length ≤ 10000000) (hmd : (dg d).length ≤ 10000000) :
  Calls Tryz.prog 118 #[.bool neg, vn, vd] w fun e w' => ∃ v', e = .returned v' ∧ Le w w' ∧ RatL L .u32 w' v' (mkR neg n d) := by
 have hn0 := hn
 have hd1 := hd
 obtain ⟨An, cn, rfl⟩ := hn.slice
 obtain ⟨Ad, cd, rfl⟩ := hd.slice
 have ⟨hn', hd', hn0', hd1', hL'⟩ := hyd5 hn hd hn0 hd1 hL
 clear hL hd1 hn0 hd hn
 go_enter Tryz.func118, Tryz.ntmps118
 go_wp2_with (fail)
 go_at_call 93
 refine (qEy L n d _ _ _ (hL'.out.le (qAA _ _)) (hn'.out.le (qAA _ _)) (hd'.out.le (qAA _ _)) hmn hmd).mono ?_
 rintro e w1 ⟨vg, rfl, hle, hg⟩
 obtain ⟨hle1, hbx⟩ := qB4 hle
 obtain ⟨G, hG⟩ : ∃ G, Nat.gcd n d = G := ⟨_, rfl⟩
 have hG0 : 0 < G := by rw [← hG]; exact Nat.gcd_pos_of_pos_right _ (Nat.pos_of_ne_zero hd0)
 have hGl : (dg G).length ≤ 10000000 := by
  rw [← hG]
  have := qJH n d (.inr hd0)
  omega
 have hnG : n / G = 0 ↔ n = 0 := by
  rw [← hG]
  constructor
  ·intro h
   refine Nat.eq_zero_of_not_pos fun hp => ?_
   have h1 := Nat.div_pos (Nat.le_of_dvd hp (Nat.gcd_dvd_left n d)) (Nat.gcd_pos_of_pos_left d hp)
   omega
  ·intro h; rw [h, Nat.zero_div]
 rw [hG] at hg
 obtain ⟨Ag, cg, rfl⟩ := hg.slice
 have hn1 := hn'.out.le hle1
 have hd1 := hd'.out.le hle1
 have hUp1 := hL'.out.le hle1
 have ⟨hle', hle1', hbx', hg', hn1', hd1', hUp1', hnG'⟩ := hyd8 hle hle1 hbx hg hn1 hd1 hUp1 hnG
 clear hnG hUp1 hd1 hn1 hg hbx hle1 hle
 go_wp2_with (fail)
 go_at_call 94
 refine (qIC L G _ w1 hg'.out).mono ?_
 rintro e w2 ⟨rfl, rfl⟩
 by_cases hG1 : G = 1
 ·have hdec : decide (G = 1) = true := by simpa using hG1
  obtain ⟨c0, c1, c2, f0, f1, f2⟩ := qAD hbx'.out
  have hfin := qF1 (neg := neg) hd0 hle1'.out (Nat.le_refl _) hbx'.out (by rw [hG, hG1, Nat.div_one]; exact hn1'.out) (by rw [hG, hG1, Nat.div_one]; exact hd1'.out)
  have hle9 := fun u0 u1 u2 => qA8 (u0 := u0) (u1 := u1) (u2 := u2) hle1'.out (Nat.le_refl _)
  have hb9 := fun u0 u1 u2 => qAD (qAY (u0 := u0) (u1 := u1) (u2 := u2) hbx'.out)
  have ⟨hfin', hle9', hG', hG1', hb9'⟩ := hyd5 hfin hle9 hG hG1 hb9
  clear hb9 hG1 hG hle9 hfin
  cases neg with
  | false =>
   go_wp2
   obtain ⟨d0, d1, d2, -⟩ := hb9'.out (.bool false) (.slice An (dg n).length cn) (.slice Ad (dg d).length cd)
   exact bodyPost_ret (v := .agg #[.bool false, .slice An (dg n).length cn, .slice Ad (dg d).length cd]) (by simp [results, Tryz.results118, go_sem, d0, d1, d2]) rfl ⟨_, rfl, hle9'.out _ _ _, hfin'.out⟩
  | true =>
   by_cases hz : n = 0
   ·have hl1 : ¬ (0 < ((dg n).length : Int)) := by rw [hz, qAg]; simp
    have hl2 : ¬ (0 < (dg n).length) := by omega
    have hfin2 := hfin'.out
    rw [show (true && decide (0 < n)) = false by simp [hz]] at hfin2
    clear hfin'
    have hfin' := hyd1 hfin2
    clear hfin2
    have hz' := hyd1 hz
    clear hz
    go_wp2
    obtain ⟨d0, d1, d2, -⟩ := hb9'.out (.bool false) (.slice An (dg n).length cn) (.slice Ad (dg d).length cd)
    exact bodyPost_ret (v := .agg #[.bool false, .slice An (dg n).length cn, .slice Ad (dg d).length cd]) (by simp [results, Tryz.results118, go_sem, d0, d1, d2]) rfl ⟨_, rfl, hle9'.out _ _ _, hfin'.out⟩
   ·have hl2 : 0 < (dg n).length := dg_length_pos.2 (hz)
    have hl1 : 0 < ((dg n).length : Int) := by omega
    have hfin2 := hfin'.out
    rw [show (true && decide (0 < n)) = true by simp; omega] at hfin2
    clear hfin'
    have hfin' := hyd1 hfin2
    clear hfin2
    have hz' := hyd1 hz
    clear hz
    go_wp2
    obtain ⟨d0, d1, d2, -⟩ := hb9'.out (.bool true) (.slice An (dg n).length cn) (.slice Ad (dg d).length cd)
    exact bodyPost_ret (v := .agg #[.bool true, .slice An (dg n).length cn, .slice Ad (dg d).length cd]) (by simp [results, Tryz.results118, go_sem, d0, d1, d2]) rfl ⟨_, rfl, hle9'.out _ _ _, hfin'.out⟩
 ·have hdec : decide (G = 1) = false := by simpa using hG1
  go_wp2_with (fail)
  go_at_call 111
  refine (qC4 L n G _ _ w1 hUp1'.out hn1'.out hg'.out hmn hGl (by omega)).mono ?_
  rintro e w2 ⟨v1, v2, rfl, hle2, hq, hr⟩
  obtain ⟨A1, c1, rfl⟩ := hq.slice
  obtain ⟨A2, c2, rfl⟩ := hr.slice
  have hbx2 := (Below.block hle2 _ (gsl hbx'.out)).trans hbx'.out
  have hd2 := hd1'.out.le hle2
  have hg2 := hg'.out.le hle2
  have hUp2 := hUp1'.out.le hle2
  have ⟨hle2', hq', hr', hbx2', hd2', hg2', hUp2'⟩ := hyd7 hle2 hq hr hbx2 hd2 hg2 hUp2
  clear hUp2 hg2 hd2 hbx2 hr hq hle2
  go_wp2_with (fail)
  go_at_call 111
  refine (qC4 L d G _ _ w2 hUp2'.out hd2'.out hg2'.out hmd hGl (by omega)).mono ?_
  rintro e w3 ⟨v1, v2, rfl, hle3, hq3, hr3⟩
  obtain ⟨A3, c3, rfl⟩ := hq3.slice
  obtain ⟨A4, c4, rfl⟩ := hr3.slice
  have hbx3 := (Below.block hle3 _ (gsl hbx2'.out)).trans hbx2'.out
  have hq2 := hq'.out.le hle3
  have hle4 := Le.trans (Le.trans hle1'.out hle2'.out) hle3
  obtain ⟨c0, e1, e2, f0, f1, f2⟩ := qAD hbx3
  have hfin := qF1 (neg := neg) hd0 hle4 (Nat.le_refl _) hbx3 (by rw [hG]; exact hq2) (by rw [hG]; exact hq3)
  have hle9 := fun u0 u1 u2 => qA8 (u0 := u0) (u1 := u1) (u2 := u2) hle4 (Nat.le_refl _)
  have hb9 := fun u0 u1 u2 => qAD (qAY (u0 := u0) (u1 := u1) (u2 := u2) hbx3)
  have ⟨hfin', hle9', hG', hG1', hb9', hbx3', hq2', hle4'⟩ := hyd8 hfin hle9 hG hG1 hb9 hbx3 hq2 hle4
  have ⟨hle3', hq3', hr3'⟩ := hyd3 hle3 hq3 hr3
  clear hr3 hq3 hle3 hle4 hq2 hbx3 hb9 hG1 hG hle9 hfin
  cases neg with
  | false =>
   go_wp2
   obtain ⟨d0, d1, d2, -⟩ := hb9'.out (.bool false) (.slice A1 (dg (n / G)).length c1) (.slice A3 (dg (d / G)).length c3)
   exact bodyPost_ret (v := .agg #[.bool false, .slice A1 (dg (n / G)).length c1, .slice A3 (dg (d / G)).length c3]) (by simp [results, Tryz.results118, go_sem, d0, d1, d2]) rfl ⟨_, rfl, hle9'.out _ _ _, hfin'.out⟩
  | true =>
   by_cases hz : n = 0
   ·have hl1 : ¬ (0 < ((dg (n / G)).length : Int)) := by rw [hnG'.out.2 hz, qAg]; simp
    have hl2 : ¬ (0 < (dg (n / G)).length) := by omega
    have hfin2 := hfin'.out
    rw [show (true && decide (0 < n)) = false by simp [hz]] at hfin2
    clear hfin'
    have hfin' := hyd1 hfin2
    clear hfin2
    have hz' := hyd1 hz
    clear hz
    go_wp2
    obtain ⟨d0, d1, d2, -⟩ := hb9'.out (.bool false) (.slice A1 (dg (n / G)).length c1) (.slice A3 (dg (d / G)).length c3)
    exact bodyPost_ret (v := .agg #[.bool false, .slice A1 (dg (n / G)).length c1, .slice A3 (dg (d / G)).length c3]) (by simp [results, Tryz.results118, go_sem, d0, d1, d2]) rfl ⟨_, rfl, hle9'.out _ _ _, hfin'.out⟩
   ·have hl2 : 0 < (dg (n / G)).length := dg_length_pos.2 (fun h => hz (hnG'.out.1 h))
    have hl1 : 0 < ((dg (n / G)).length : Int) := by omega
    have hfin2 := hfin'.out
    rw [show (true && decide (0 < n)) = true by simp; omega] at hfin2
    clear hfin'
    have hfin' := hyd1 hfin2
    clear hfin2
    have hz' := hyd1 hz
    clear hz
    go_wp2
    obtain ⟨d0, d1, d2, -⟩ := hb9'.out (.bool true) (.slice A1 (dg (n / G)).length c1) (.slice A3 (dg (d / G)).length c3)
    exact bodyPost_ret (v := .agg #[.bool true, .slice A1 (dg (n / G)).length c1, .slice A3 (dg (d / G)).length c3]) (by simp [results, Tryz.results118, go_sem, d0, d1, d2]) rfl ⟨_, rfl, hle9'.out _ _ _, hfin'.out⟩
theorem qAw (w : World) (o0 o1 o2 : Obj) : ∃ W0, ((w.alloc o0).alloc o1).alloc o2 = W0 ∧ W0.heap.size = w.heap.size + 3 ∧ Le w W0 ∧
  W0.heap[w.heap.size]? = some o0 ∧ W0.heap[w.heap.size + 1]? = some o1 ∧ W0.heap[w.heap.size + 1 + 1]? = some o2 := qCy w o0 o1 o2
theorem RatL.form {L : Nat → Prop} {k : IntKind} {w : World} {v : Value} {r : Rat} (h : RatL L k w v r) : ∃ A1 c1 A2 c2, v = .agg #[.bool (rneg r), .slice A1 (dg (rnum r)).length c1, .slice A2 (dg r.den).length c2] ∧ NumL L k w (.slice A1 (dg (rnum r)).length c1) (rnum r) ∧ NumL L k w (.slice A2 (dg r.den).length c2) r.den := by
 obtain ⟨vn, vd, rfl, h1, h2⟩ := h
 obtain ⟨A1, c1, rfl⟩ := h1.slice
 obtain ⟨A2, c2, rfl⟩ := h2.slice
 exact ⟨A1, c1, A2, c2, rfl, h1, h2⟩
def Rsz (r : Rat) (n : Nat) : Prop := (dg (rnum r)).length ≤ n ∧ (dg r.den).length ≤ n
theorem qCt (L : Nat → Prop) (a b : Rat) (va vb : Value) (w : World) (hL : Up w L) (ha : RatL L .u32 w va a) (hb : RatL L .u32 w vb b) (hma : Rsz a 5000000) (hmb : Rsz b 5000000) :
  Calls Tryz.prog 89 #[va, vb] w fun e w' => ∃ v', e = .returned v' ∧ Le w w' ∧ RatL L .u32 w' v' (a * b) := by
 obtain ⟨An, cn, Ad, cd, rfl, han, had⟩ := ha.form
 obtain ⟨Bn, dn, Bd, dd, rfl, hbn, hbd⟩ := hb.form
 obtain ⟨ma1, ma2⟩ := hma
 obtain ⟨mb1, mb2⟩ := hmb
 have hp1 := qAO (rnum a) (rnum b)
 have hp2 := qAO (a.den) (b.den)
 have hdz : (a.den) * (b.den) ≠ 0 := Nat.ne_of_gt (Nat.mul_pos (qAd a) (qAd b))
 obtain ⟨sa, hsa⟩ : ∃ sa, rneg a = sa := ⟨_, rfl⟩
 obtain ⟨sb, hsb⟩ : ∃ sb, rneg b = sb := ⟨_, rfl⟩
 have hlaw := qGm a b
 rw [hsa, hsb] at *
 have ⟨hL', ha', hb', han', had', hbn', hbd', hsa'⟩ := hyd8 hL ha hb han had hbn hbd hsa
 have ⟨hsb', hp1', hp2', hdz', hlaw'⟩ := hyd5 hsb hp1 hp2 hdz hlaw
 clear hlaw hdz hp2 hp1 hsb hsa hbd hbn had han hb ha hL
 go_enter Tryz.func89, Tryz.ntmps89
 go_wp2
 obtain ⟨W0, hW0, hsz, hle, h0, h1, h2⟩ := qAw w (.cells #[.bool sa, .slice An (dg (rnum a)).length cn, .slice Ad (dg a.den).length cd] 87) (.cells #[.bool sb, .slice Bn (dg (rnum b)).length dn, .slice Bd (dg b.den).length dd] 87) (.cells #[.bool false, .slice none 0 0, .slice none 0 0] 87)
 rw [hW0]
 clear hW0
 obtain ⟨ca0, ca1, ca2, -⟩ := qAD h0
 obtain ⟨cb0, cb1, cb2, -⟩ := qAD h1
 have hUp0 := hL'.out.le hle
 have ⟨h0', h1', h2', hle', hUp0'⟩ := hyd5 h0 h1 h2 hle hUp0
 clear hUp0 hle h2 h1 h0
 refine qAG (R := leRel) 16 [some 5, some 6, some 7, some 8, some 9, some 10, some 11, some 12, some 13, some 14, some 15, some 16, some 17, some 18, some 19, some 20, none] [[], [0], [], [2], [1, 3], [], [5], [], [7], [6, 8], [], [10], [], [12], [11, 13], [4, 9, 14], [15]]
  [.eq (.pointer (some ⟨w.heap.size, 0, none⟩)), .eq (.bool sa), .eq (.pointer (some ⟨w.heap.size + 1, 0, none⟩)), .eq (.bool sb), .eq (.bool (sa != sb)), .eq (.pointer (some ⟨w.heap.size, 1, none⟩)), .eq (.slice An (dg (rnum a)).length cn), .eq (.pointer (some ⟨w.heap.size + 1, 1, none⟩)), .eq (.slice Bn (dg (rnum b)).length dn), MPred.num L .u32 (rnum a * rnum b),
   .eq (.pointer (some ⟨w.heap.size, 2, none⟩)), .eq (.slice Ad (dg a.den).length cd), .eq (.pointer (some ⟨w.heap.size + 1, 2, none⟩)), .eq (.slice Bd (dg b.den).length dd), MPred.num L .u32 (a.den * b.den), MPred.rat L .u32 (a * b)] (fun _ _ => False) (by kernel_rfl) (by kernel_rfl) (by kernel_rfl) (by kernel_rfl) ?_ (fun _ _ _ _ _ h => h.elim) ?_
 ·simp only [List.take_succ_cons, List.take_zero]
  refine mSc ?_ (mSc ?_ (mSc ?_ (mSc ?_ (mSc ?_ (mSc ?_ (mSc ?_ (mSc ?_ (mSc ?_ (mSc ?_ (mSc ?_ (mSc ?_ (mSc ?_ (mSc ?_ (mSc ?_ (mSc ?_ (qAJ))))))))))))))))
  ·refine mSl rfl fun x W hR hf Q hK _ => ?_
   simp only [fA] at hK ⊢
   go_wp2
   exact hK _ _ lrR rfl
  ·refine mSl rfl fun x W hR hf Q hK _ => ?_
   obtain ⟨e0, -⟩ := hf
   change _ = _ at e0
   have cc := bcl hR (by omega) ca0
   simp only [fA, e0] at hK ⊢
   go_wp2
   exact hK _ _ lrR rfl
  ·refine mSl rfl fun x W hR hf Q hK _ => ?_
   simp only [fA] at hK ⊢
   go_wp2
   exact hK _ _ lrR rfl
  ·refine mSl rfl fun x W hR hf Q hK _ => ?_
   obtain ⟨e0, -⟩ := hf
   change _ = _ at e0
   have cc := bcl hR (by omega) cb0
   simp only [fA, e0] at hK ⊢
   go_wp2
   exact hK _ _ lrR rfl
  ·refine mSl rfl fun x W hR hf Q hK _ => ?_
   obtain ⟨e0, e1, -⟩ := hf
   change _ = _ at e0 e1
   simp only [fA, e0, e1] at hK ⊢
   go_wp2
   exact hK _ _ lrR rfl
  ·refine mSl rfl fun x W hR hf Q hK _ => ?_
   simp only [fA] at hK ⊢
   go_wp2
   exact hK _ _ lrR rfl
  ·refine mSl rfl fun x W hR hf Q hK _ => ?_
   obtain ⟨e0, -⟩ := hf
   change _ = _ at e0
   have cc := bcl hR (by omega) ca1
   simp only [fA, e0] at hK ⊢
   go_wp2
   exact hK _ _ lrR rfl
  ·refine mSl rfl fun x W hR hf Q hK _ => ?_
   simp only [fA] at hK ⊢
   go_wp2
   exact hK _ _ lrR rfl
  ·refine mSl rfl fun x W hR hf Q hK _ => ?_
   obtain ⟨e0, -⟩ := hf
   change _ = _ at e0
   have cc := bcl hR (by omega) cb1
   simp only [fA, e0] at hK ⊢
   go_wp2
   exact hK _ _ lrR rfl
  ·refine mSl rfl fun x W hR hf Q hK _ => ?_
   obtain ⟨e0, e1, -⟩ := hf
   change _ = _ at e0 e1
   simp only [fA, e0, e1] at hK ⊢
   go_wp2_with (fail)
   go_at_call 119
   refine (qCD L (rnum a) (rnum b) _ _ W (hUp0'.out.le hR) ((han'.out.le hle'.out).le hR) ((hbn'.out.le hle'.out).le hR) (by omega) (by omega)).mono ?_
   rintro e w' ⟨v', rfl, y1, y2⟩
   obtain ⟨A9, c9, rfl⟩ := y2.slice
   go_wp2
   exact hK _ _ y1 y2
  ·refine mSl rfl fun x W hR hf Q hK _ => ?_
   simp only [fA] at hK ⊢
   go_wp2
   exact hK _ _ lrR rfl
  ·refine mSl rfl fun x W hR hf Q hK _ => ?_
   obtain ⟨e0, -⟩ := hf
   change _ = _ at e0
   have cc := bcl hR (by omega) ca2
   simp only [fA, e0] at hK ⊢
   go_wp2
   exact hK _ _ lrR rfl
  ·refine mSl rfl fun x W hR hf Q hK _ => ?_
   simp only [fA] at hK ⊢
   go_wp2
   exact hK _ _ lrR rfl
  ·refine mSl rfl fun x W hR hf Q hK _ => ?_
   obtain ⟨e0, -⟩ := hf
   change _ = _ at e0
   have cc := bcl hR (by omega) cb2
   simp only [fA, e0] at hK ⊢
   go_wp2
   exact hK _ _ lrR rfl
  ·refine mSl rfl fun x W hR hf Q hK _ => ?_
   obtain ⟨e0, e1, -⟩ := hf
   change _ = _ at e0 e1
   simp only [fA, e0, e1] at hK ⊢
   go_wp2_with (fail)
   go_at_call 119
   refine (qCD L (a.den) (b.den) _ _ W (hUp0'.out.le hR) ((had'.out.le hle'.out).le hR) ((hbd'.out.le hle'.out).le hR) (by omega) (by omega)).mono ?_
   rintro e w' ⟨v', rfl, y1, y2⟩
   obtain ⟨A9, c9, rfl⟩ := y2.slice
   go_wp2
   exact hK _ _ y1 y2
  ·refine mSl rfl fun x W hR hf Q hK _ => ?_
   obtain ⟨e0, e1, e2, -⟩ := hf
   change _ = _ at e0
   replace e1 : NumL L .u32 W (x 9) (rnum a * rnum b) := e1
   replace e2 : NumL L .u32 W (x 14) (a.den * b.den) := e2
   simp only [fA, e0] at hK ⊢
   go_wp2_with (fail)
   go_at_call 118
   refine (qDB L (sa != sb) (rnum a * rnum b) (a.den * b.den) _ _ W (hUp0'.out.le hR) e1 e2 hdz'.out (by have := hp1'.out; omega) (by have := hp2'.out; omega)).mono ?_
   rintro e w' ⟨v', rfl, y1, y2⟩
   rw [hlaw'.out] at y2
   obtain ⟨A1, c1, A2, c2, rfl, -, -⟩ := y2.form
   go_wp2
   exact hK _ _ y1 y2
 ·intro x W hR hf Q' hQ1 _
  have e0 := hf 0 (by decide)
  have e1 := hf 1 (by decide)
  have e2 := hf 2 (by decide)
  have e3 := hf 3 (by decide)
  have e4 := hf 4 (by decide)
  have e5 := hf 5 (by decide)
  have e6 := hf 6 (by decide)
  have e7 := hf 7 (by decide)
  have e8 := hf 8 (by decide)
  have e10 := hf 10 (by decide)
  have e11 := hf 11 (by decide)
  have e12 := hf 12 (by decide)
  have e13 := hf 13 (by decide)
  have e15 : RatL L .u32 W (x 15) (a * b) := hf 15 (by decide)
  change _ = _ at e0 e1 e2 e3 e4 e5 e6 e7 e8 e10 e11 e12 e13
  obtain ⟨A1, c1, A2, c2, e16, y1, y2⟩ := e15.form
  have h2W := (Below.block hR (w.heap.size + 1 + 1) (by omega)).trans h2'.out
  obtain ⟨z0, z1, z2, g0, g1, g2⟩ := qAD h2W
  simp only [List.drop_succ_cons, List.drop_zero]
  rw [show List.range 16 = [0, 1, 2, 3, 4, 5, 6, 7, 8, 9, 10, 11, 12, 13, 14, 15] from rfl]
  simp only [fA, e0, e1, e2, e3, e4, e5, e6, e7, e8, e10, e11, e12, e13, e16]
  generalize x 9 = x9
  generalize x 14 = x14
  clear e0 e1 e2 e3 e4 e5 e6 e7 e8 e10 e11 e12 e13 hf
  have hle9 := fun u0 u1 u2 => qA8 (u0 := u0) (u1 := u1) (u2 := u2) (Le.trans hle'.out hR) (show w.heap.size ≤ w.heap.size + 1 + 1 by omega)
  have hb9 := fun u0 u1 u2 => qAD (qAY (u0 := u0) (u1 := u1) (u2 := u2) h2W)
  have hfin := fun u0 u1 u2 => And.intro (NumL.box3 (u0 := u0) (u1 := u1) (u2 := u2) y1 h2W) (NumL.box3 (u0 := u0) (u1 := u1) (u2 := u2) y2 h2W)
  obtain ⟨sr, hsr⟩ : ∃ sr, rneg (a * b) = sr := ⟨_, rfl⟩
  rw [hsr]
  have ⟨hle9', hb9', hfin', h2W', y1', y2', e16', e15'⟩ := hyd8 hle9 hb9 hfin h2W y1 y2 e16 e15
  have ⟨hR', hsr'⟩ := hyd2 hR hsr
  clear hsr hR e15 e16 y2 y1 h2W hfin hb9 hle9
  go_wp2
  refine hQ1 _ _ ?_
  go_wp2
  obtain ⟨d0, d1, d2, -⟩ := hb9'.out (.bool sr) (.slice A1 (dg (rnum (a * b))).length c1) (.slice A2 (dg (a * b).den).length c2)
  refine bodyPost_ret (v := .agg #[.bool sr, .slice A1 (dg (rnum (a * b))).length c1, .slice A2 (dg (a * b).den).length c2]) (by simp [results, Tryz.results89, go_sem, d0, d1, d2]) rfl ⟨_, rfl, hle9'.out _ _ _, ?_⟩
  exact ⟨_, _, by rw [hsr'.out], (hfin'.out _ _ _).1, (hfin'.out _ _ _).2⟩
theorem qIL (L : Nat → Prop) (a b : Rat) (va vb : Value) (w : World) (hL : Up w L) (ha : RatL L .u32 w va a) (hb : RatL L .u32 w vb b) (hma : Rsz a 5000000) (hmb : Rsz b 5000000) (hb0 : b ≠ 0) :
  Calls Tryz.prog 108 #[va, vb] w fun e w' => ∃ v', e = .returned v' ∧ Le w w' ∧ RatL L .u32 w' v' (a / b) := by
 obtain ⟨An, cn, Ad, cd, rfl, han, had⟩ := ha.form
 obtain ⟨Bn, dn, Bd, dd, rfl, hbn, hbd⟩ := hb.form
 obtain ⟨ma1, ma2⟩ := hma
 obtain ⟨mb1, mb2⟩ := hmb
 have hp1 := qAO (rnum a) (b.den)
 have hp2 := qAO (a.den) (rnum b)
 have hdz : (a.den) * (rnum b) ≠ 0 := Nat.ne_of_gt (Nat.mul_pos (qAd a) (Nat.pos_of_ne_zero fun h => hb0 (rnum_zero.1 h)))
 obtain ⟨sa, hsa⟩ : ∃ sa, rneg a = sa := ⟨_, rfl⟩
 obtain ⟨sb, hsb⟩ : ∃ sb, rneg b = sb := ⟨_, rfl⟩
 have hlaw := qFT (a := a) hb0
 rw [hsa, hsb] at *
 have ⟨hL', ha', hb', han', had', hbn', hbd', hsa'⟩ := hyd8 hL ha hb han had hbn hbd hsa
 have ⟨hsb', hp1', hp2', hdz', hlaw'⟩ := hyd5 hsb hp1 hp2 hdz hlaw
 clear hlaw hdz hp2 hp1 hsb hsa hbd hbn had han hb ha hL
 go_enter Tryz.func108, Tryz.ntmps108
 go_wp2
 obtain ⟨W0, hW0, hsz, hle, h0, h1, h2⟩ := qAw w (.cells #[.bool sa, .slice An (dg (rnum a)).length cn, .slice Ad (dg a.den).length cd] 87) (.cells #[.bool sb, .slice Bn (dg (rnum b)).length dn, .slice Bd (dg b.den).length dd] 87) (.cells #[.bool false, .slice none 0 0, .slice none 0 0] 87)
 rw [hW0]
 clear hW0
 obtain ⟨ca0, ca1, ca2, -⟩ := qAD h0
 obtain ⟨cb0, cb1, cb2, -⟩ := qAD h1
 have hUp0 := hL'.out.le hle
 have ⟨h0', h1', h2', hle', hUp0'⟩ := hyd5 h0 h1 h2 hle hUp0
 clear hUp0 hle h2 h1 h0
 refine qAG (R := leRel) 16 [some 5, some 6, some 7, some 8, some 9, some 10, some 11, some 12, some 13, some 14, some 15, some 16, some 17, some 18, some 19, some 20, none] [[], [0], [], [2], [1, 3], [], [5], [], [7], [6, 8], [], [10], [], [12], [11, 13], [4, 9, 14], [15]]
  [.eq (.pointer (some ⟨w.heap.size, 0, none⟩)), .eq (.bool sa), .eq (.pointer (some ⟨w.heap.size + 1, 0, none⟩)), .eq (.bool sb), .eq (.bool (sa != sb)), .eq (.pointer (some ⟨w.heap.size, 1, none⟩)), .eq (.slice An (dg (rnum a)).length cn), .eq (.pointer (some ⟨w.heap.size + 1, 2, none⟩)), .eq (.slice Bd (dg b.den).length dd), MPred.num L .u32 (rnum a * b.den),
   .eq (.pointer (some ⟨w.heap.size, 2, none⟩)), .eq (.slice Ad (dg a.den).length cd), .eq (.pointer (some ⟨w.heap.size + 1, 1, none⟩)), .eq (.slice Bn (dg (rnum b)).length dn), MPred.num L .u32 (a.den * rnum b), MPred.rat L .u32 (a / b)] (fun _ _ => False) (by kernel_rfl) (by kernel_rfl) (by kernel_rfl) (by kernel_rfl) ?_ (fun _ _ _ _ _ h => h.elim) ?_
 ·simp only [List.take_succ_cons, List.take_zero]
  refine mSc ?_ (mSc ?_ (mSc ?_ (mSc ?_ (mSc ?_ (mSc ?_ (mSc ?_ (mSc ?_ (mSc ?_ (mSc ?_ (mSc ?_ (mSc ?_ (mSc ?_ (mSc ?_ (mSc ?_ (mSc ?_ (qAJ))))))))))))))))
  ·refine mSl rfl fun x W hR hf Q hK _ => ?_
   simp only [fA] at hK ⊢
   go_wp2
   exact hK _ _ lrR rfl
  ·refine mSl rfl fun x W hR hf Q hK _ => ?_
   obtain ⟨e0, -⟩ := hf
   change _ = _ at e0
   have cc := bcl hR (by omega) ca0
   simp only [fA, e0] at hK ⊢
   go_wp2
   exact hK _ _ lrR rfl
  ·refine mSl rfl fun x W hR hf Q hK _ => ?_
   simp only [fA] at hK ⊢
   go_wp2
   exact hK _ _ lrR rfl
  ·refine mSl rfl fun x W hR hf Q hK _ => ?_
   obtain ⟨e0, -⟩ := hf
   change _ = _ at e0
   have cc := bcl hR (by omega) cb0
   simp only [fA, e0] at hK ⊢
   go_wp2
   exact hK _ _ lrR rfl
  ·refine mSl rfl fun x W hR hf Q hK _ => ?_
   obtain ⟨e0, e1, -⟩ := hf
   change _ = _ at e0 e1
   simp only [fA, e0, e1] at hK ⊢
   go_wp2
   exact hK _ _ lrR rfl
  ·refine mSl rfl fun x W hR hf Q hK _ => ?_
   simp only [fA] at hK ⊢
   go_wp2
   exact hK _ _ lrR rfl
  ·refine mSl rfl fun x W hR hf Q hK _ => ?_
   obtain ⟨e0, -⟩ := hf
   change _ = _ at e0
   have cc := bcl hR (by omega) ca1
   simp only [fA, e0] at hK ⊢
   go_wp2
   exact hK _ _ lrR rfl
  ·refine mSl rfl fun x W hR hf Q hK _ => ?_
   simp only [fA] at hK ⊢
   go_wp2
   exact hK _ _ lrR rfl
  ·refine mSl rfl fun x W hR hf Q hK _ => ?_
   obtain ⟨e0, -⟩ := hf
   change _ = _ at e0
   have cc := bcl hR (by omega) cb2
   simp only [fA, e0] at hK ⊢
   go_wp2
   exact hK _ _ lrR rfl
  ·refine mSl rfl fun x W hR hf Q hK _ => ?_
   obtain ⟨e0, e1, -⟩ := hf
   change _ = _ at e0 e1
   simp only [fA, e0, e1] at hK ⊢
   go_wp2_with (fail)
   go_at_call 119
   refine (qCD L (rnum a) (b.den) _ _ W (hUp0'.out.le hR) ((han'.out.le hle'.out).le hR) ((hbd'.out.le hle'.out).le hR) (by omega) (by omega)).mono ?_
   rintro e w' ⟨v', rfl, y1, y2⟩
   obtain ⟨A9, c9, rfl⟩ := y2.slice
   go_wp2
   exact hK _ _ y1 y2
  ·refine mSl rfl fun x W hR hf Q hK _ => ?_
   simp only [fA] at hK ⊢
   go_wp2
   exact hK _ _ lrR rfl
  ·refine mSl rfl fun x W hR hf Q hK _ => ?_
   obtain ⟨e0, -⟩ := hf
   change _ = _ at e0
   have cc := bcl hR (by omega) ca2
   simp only [fA, e0] at hK ⊢
   go_wp2
   exact hK _ _ lrR rfl
  ·refine mSl rfl fun x W hR hf Q hK _ => ?_
   simp only [fA] at hK ⊢
   go_wp2
   exact hK _ _ lrR rfl
  ·refine mSl rfl fun x W hR hf Q hK _ => ?_
   obtain ⟨e0, -⟩ := hf
   change _ = _ at e0
   have cc := bcl hR (by omega) cb1
   simp only [fA, e0] at hK ⊢
   go_wp2
   exact hK _ _ lrR rfl
  ·refine mSl rfl fun x W hR hf Q hK _ => ?_
   obtain ⟨e0, e1, -⟩ := hf
   change _ = _ at e0 e1
   simp only [fA, e0, e1] at hK ⊢
   go_wp2_with (fail)
   go_at_call 119
   refine (qCD L (a.den) (rnum b) _ _ W (hUp0'.out.le hR) ((had'.out.le hle'.out).le hR) ((hbn'.out.le hle'.out).le hR) (by omega) (by omega)).mono ?_
   rintro e w' ⟨v', rfl, y1, y2⟩
   obtain ⟨A9, c9, rfl⟩ := y2.slice
   go_wp2
   exact hK _ _ y1 y2
  ·refine mSl rfl fun x W hR hf Q hK _ => ?_
   obtain ⟨e0, e1, e2, -⟩ := hf
   change _ = _ at e0
   replace e1 : NumL L .u32 W (x 9) (rnum a * b.den) := e1
   replace e2 : NumL L .u32 W (x 14) (a.den * rnum b) := e2
   simp only [fA, e0] at hK ⊢
   go_wp2_with (fail)
   go_at_call 118
   refine (qDB L (sa != sb) (rnum a * b.den) (a.den * rnum b) _ _ W (hUp0'.out.le hR) e1 e2 hdz'.out (by have := hp1'.out; omega) (by have := hp2'.out; omega)).mono ?_
   rintro e w' ⟨v', rfl, y1, y2⟩
   rw [hlaw'.out] at y2
   obtain ⟨A1, c1, A2, c2, rfl, -, -⟩ := y2.form
   go_wp2
   exact hK _ _ y1 y2
 ·intro x W hR hf Q' hQ1 _
  have e0 := hf 0 (by decide)
  have e1 := hf 1 (by decide)
  have e2 := hf 2 (by decide)
  have e3 := hf 3 (by decide)
  have e4 := hf 4 (by decide)
  have e5 := hf 5 (by decide)
  have e6 := hf 6 (by decide)
  have e7 := hf 7 (by decide)
  have e8 := hf 8 (by decide)
  have e10 := hf 10 (by decide)
  have e11 := hf 11 (by decide)
  have e12 := hf 12 (by decide)
  have e13 := hf 13 (by decide)
  have e15 : RatL L .u32 W (x 15) (a / b) := hf 15 (by decide)
  change _ = _ at e0 e1 e2 e3 e4 e5 e6 e7 e8 e10 e11 e12 e13
  obtain ⟨A1, c1, A2, c2, e16, y1, y2⟩ := e15.form
  have h2W := (Below.block hR (w.heap.size + 1 + 1) (by omega)).trans h2'.out
  obtain ⟨z0, z1, z2, g0, g1, g2⟩ := qAD h2W
  simp only [List.drop_succ_cons, List.drop_zero]
  rw [show List.range 16 = [0, 1, 2, 3, 4, 5, 6, 7, 8, 9, 10, 11, 12, 13, 14, 15] from rfl]
  simp only [fA, e0, e1, e2, e3, e4, e5, e6, e7, e8, e10, e11, e12, e13, e16]
  generalize x 9 = x9
  generalize x 14 = x14
  clear e0 e1 e2 e3 e4 e5 e6 e7 e8 e10 e11 e12 e13 hf
  have hle9 := fun u0 u1 u2 => qA8 (u0 := u0) (u1 := u1) (u2 := u2) (Le.trans hle'.out hR) (show w.heap.size ≤ w.heap.size + 1 + 1 by omega)
  have hb9 := fun u0 u1 u2 => qAD (qAY (u0 := u0) (u1 := u1) (u2 := u2) h2W)
  have hfin := fun u0 u1 u2 => And.intro (NumL.box3 (u0 := u0) (u1 := u1) (u2 := u2) y1 h2W) (NumL.box3 (u0 := u0) (u1 := u1) (u2 := u2) y2 h2W)
  obtain ⟨sr, hsr⟩ : ∃ sr, rneg (a / b) = sr := ⟨_, rfl⟩
  rw [hsr]
  have ⟨hle9', hb9', hfin', h2W', y1', y2', e16', e15'⟩ := hyd8 hle9 hb9 hfin h2W y1 y2 e16 e15
  have ⟨hR', hsr'⟩ := hyd2 hR hsr
  clear hsr hR e15 e16 y2 y1 h2W hfin hb9 hle9
  go_wp2
  refine hQ1 _ _ ?_
  go_wp2
  obtain ⟨d0, d1, d2, -⟩ := hb9'.out (.bool sr) (.slice A1 (dg (rnum (a / b))).length c1) (.slice A2 (dg (a / b).den).length c2)
  refine bodyPost_ret (v := .agg #[.bool sr, .slice A1 (dg (rnum (a / b))).length c1, .slice A2 (dg (a / b).den).length c2]) (by simp [results, Tryz.results108, go_sem, d0, d1, d2]) rfl ⟨_, rfl, hle9'.out _ _ _, ?_⟩
  exact ⟨_, _, by rw [hsr'.out], (hfin'.out _ _ _).1, (hfin'.out _ _ _).2⟩
end Go.Proofs.YtlhfonhbbpbmpaaGreat

