/- exact: fractions: sign, opposite, plus, minus, number. -/
import Derived.Test.YtlhfonhbbpbmpaaGreatRat1
namespace Go.Proofs.YtlhfonhbbpbmpaaGreat
set_option maxRecDepth 100000
set_option maxHeartbeats 4000000
open Go.RowKit Go.Shelf
set_option linter.unusedVariables false
set_option linter.unusedSimpArgs false
theorem qGq (L : Nat → Prop) (a b : Nat) (va vb : Value) (w : World) (hL : Up w L) (ha : NumL L .u32 w va a) (hb : NumL L .u32 w vb b) (hma : (dg a).length ≤ 100000000) (hmb : (dg b).length ≤ 100000000) :
  Calls Tryz.prog 112 #[va, vb] w fun e w' => ∃ v', e = .returned v' ∧ Le w w' ∧ NumL L .u32 w' v' (a + b) := by
 by_cases h : (dg a).length < (dg b).length
 ·exact qJ7 L a b va vb w hL ha hb h hmb
 ·exact qJ8 L a b va vb w hL ha hb (by omega) hma
theorem qFh (L : Nat → Prop) (r : Rat) (v : Value) (w : World) (h : RatL L .u32 w v r) :
  Calls Tryz.prog 51 #[v] w fun e w' => e = .returned (.int .i64 (rsgn r)) ∧ Le w w' := by
 obtain ⟨A1, c1, A2, c2, rfl, -, -⟩ := h.form
 have hle := qAA w (.cells #[.bool (rneg r), .slice A1 (dg (rnum r)).length c1, .slice A2 (dg r.den).length c2] 87)
 rw [qJJ]
 obtain ⟨sr, hsr⟩ : ∃ sr, rneg r = sr := ⟨_, rfl⟩
 rw [hsr] at hle ⊢
 have ⟨hsr', hle'⟩ := hyd2 hsr hle
 clear hle hsr
 by_cases h0 : rnum r = 0
 ·rw [if_pos h0]
  have hl : (dg (rnum r)).length = 0 := by rw [h0, qAg]; rfl
  have hle2 := hle'.out
  clear hle'
  rw [hl] at hle2 ⊢
  have hle2' := hyd1 hle2
  clear hle2
  clear h0 hl
  go_enter Tryz.func51, Tryz.ntmps51
  go_wp2
  go_ret
  exact ⟨rfl, hle2'.out⟩
 ·rw [if_neg h0]
  have hl : 0 < (dg (rnum r)).length := dg_length_pos.2 h0
  have hl2 : (((dg (rnum r)).length : Int) == 0) = false := beq_eq_false_iff_ne.2 (by omega)
  have hl3 : ¬ (dg (rnum r)).length = 0 := by omega
  have hl4 : ¬ ((dg (rnum r)).length : Int) = 0 := by omega
  have hle2 := hle'.out
  clear hle'
  generalize (dg (rnum r)).length = l1 at *
  have hle2' := hyd1 hle2
  clear hle2
  clear h0
  cases sr
  ·go_enter Tryz.func51, Tryz.ntmps51
   go_wp2
   go_ret
   exact ⟨rfl, hle2'.out⟩
  ·go_enter Tryz.func51, Tryz.ntmps51
   go_wp2
   go_ret
   exact ⟨rfl, hle2'.out⟩
theorem qBd (L : Nat → Prop) (a b : Rat) (va vb : Value) (w : World) (hL : Up w L) (ha : RatL L .u32 w va a) (hb : RatL L .u32 w vb b) (hma : Rsz a 2000000) (hmb : Rsz b 2000000) :
  Calls Tryz.prog 90 #[va, vb] w fun e w' => ∃ v', e = .returned v' ∧ Le w w' ∧ RatL L .u32 w' v' (a + b) := by
 obtain ⟨An, cn, Ad, cd, rfl, han, had⟩ := ha.form
 obtain ⟨Bn, dn, Bd, dd, rfl, hbn, hbd⟩ := hb.form
 obtain ⟨ma1, ma2⟩ := hma
 obtain ⟨mb1, mb2⟩ := hmb
 have hp1 := qAO (rnum a) b.den
 have hp2 := qAO (rnum b) a.den
 have hp3 := qAO a.den b.den
 have hdz : a.den * b.den ≠ 0 := Nat.ne_of_gt (Nat.mul_pos (qAd a) (qAd b))
 obtain ⟨X, hX⟩ : ∃ X, rnum a * b.den = X := ⟨_, rfl⟩
 obtain ⟨Y, hY⟩ : ∃ Y, rnum b * a.den = Y := ⟨_, rfl⟩
 obtain ⟨D, hD⟩ : ∃ D, a.den * b.den = D := ⟨_, rfl⟩
 have hlaw1 : rneg a = rneg b → mkR (rneg a) (X + Y) D = a + b := fun h => by rw [← hX, ← hY, ← hD]; exact qFe h
 have hlaw2 : rneg a ≠ rneg b → (if X < Y then mkR (rneg b) (Y - X) D else mkR (rneg a) (X - Y) D) = a + b := fun h => by rw [← hX, ← hY, ← hD]; exact qHz h
 have hs1 := qCG X Y
 have hs2 : (dg (X - Y)).length ≤ (dg X).length := qAK (Nat.sub_le _ _)
 have hs3 : (dg (Y - X)).length ≤ (dg Y).length := qAK (Nat.sub_le _ _)
 obtain ⟨sa, hsa⟩ : ∃ sa, rneg a = sa := ⟨_, rfl⟩
 obtain ⟨sb, hsb⟩ : ∃ sb, rneg b = sb := ⟨_, rfl⟩
 rw [hX] at hp1
 rw [hY] at hp2
 rw [hD] at hp3 hdz
 rw [hsa, hsb] at hlaw1 hlaw2 ⊢
 have qX : (dg X).length ≤ 4000000 := by omega
 have qY : (dg Y).length ≤ 4000000 := by omega
 have qD : (dg D).length ≤ 4000000 := by omega
 have ⟨hL', ha', hb', han', had', hbn', hbd', hsa'⟩ := hyd8 hL ha hb han had hbn hbd hsa
 have ⟨hsb', hp1', hp2', hp3', hs1', hs2', hs3', hdz'⟩ := hyd8 hsb hp1 hp2 hp3 hs1 hs2 hs3 hdz
 have ⟨hlaw1', hlaw2', hX', hY', hD'⟩ := hyd5 hlaw1 hlaw2 hX hY hD
 clear hD hY hX hlaw2 hlaw1 hdz hs3 hs2 hs1 hp3 hp2 hp1 hsb hsa hbd hbn had han hb ha hL
 go_enter Tryz.func90, Tryz.ntmps90
 go_wp2
 obtain ⟨W0, hW0, hsz, hle, h0, h1, h2⟩ := qAw w (.cells #[.bool sa, .slice An (dg (rnum a)).length cn, .slice Ad (dg a.den).length cd] 87) (.cells #[.bool sb, .slice Bn (dg (rnum b)).length dn, .slice Bd (dg b.den).length dd] 87) (.cells #[.bool false, .slice none 0 0, .slice none 0 0] 87)
 rw [hW0]
 clear hW0
 obtain ⟨ca0, ca1, ca2, -⟩ := qAD h0
 obtain ⟨cb0, cb1, cb2, -⟩ := qAD h1
 have hUp0 := hL'.out.le hle
 have ⟨h0', h1', h2', hle', hUp0'⟩ := hyd5 h0 h1 h2 hle hUp0
 clear hUp0 hle h2 h1 h0
 refine qAG (R := leRel) 12 [some 8, some 9, some 10, some 11, some 12, some 13, some 14, some 15, some 16, some 17, some 5, some 6] [[], [0], [], [2], [1, 3], [], [5], [], [7], [6, 8], [4], [9]]
  [.eq (.pointer (some ⟨w.heap.size, 1, none⟩)), .eq (.slice An (dg (rnum a)).length cn), .eq (.pointer (some ⟨w.heap.size + 1, 2, none⟩)), .eq (.slice Bd (dg b.den).length dd), MPred.num L .u32 X, .eq (.pointer (some ⟨w.heap.size + 1, 1, none⟩)), .eq (.slice Bn (dg (rnum b)).length dn), .eq (.pointer (some ⟨w.heap.size, 2, none⟩)), .eq (.slice Ad (dg a.den).length cd), MPred.num L .u32 Y, MPred.num L .u32 X, MPred.num L .u32 Y] (fun _ _ => False) (by kernel_rfl) (by kernel_rfl) (by kernel_rfl) (by kernel_rfl) ?_ (fun _ _ _ _ _ h => h.elim) ?_
 ·simp only [List.take_succ_cons, List.take_zero]
  refine mSc ?_ (mSc ?_ (mSc ?_ (mSc ?_ (mSc ?_ (mSc ?_ (mSc ?_ (mSc ?_ (mSc ?_ (mSc ?_ (mSc ?_ (mSc ?_ (qAJ))))))))))))
  ·refine mSl rfl fun x W hR hf Q hK _ => ?_
   simp only [fA] at hK ⊢
   go_wp2
   exact hK _ _ lrR rfl
  ·refine mSl rfl fun x W hR hf Q hK _ => ?_
   obtain ⟨e0, -⟩ := hf
   change _ = _ at e0
   have cc := bcl hR (by omega) ca1
   simp only [fA, e0] at hK ⊢
   go_wp2
   exact hK _ _ lrR rfl
  ·refine mSl rfl fun x W hR hf Q hK _ => ?_
   simp only [fA] at hK ⊢
   go_wp2
   exact hK _ _ lrR rfl
  ·refine mSl rfl fun x W hR hf Q hK _ => ?_
   obtain ⟨e0, -⟩ := hf
   change _ = _ at e0
   have cc := bcl hR (by omega) cb2
   simp only [fA, e0] at hK ⊢
   go_wp2
   exact hK _ _ lrR rfl
  ·refine mSl rfl fun x W hR hf Q hK _ => ?_
   obtain ⟨e0, e1, -⟩ := hf
   change _ = _ at e0 e1
   simp only [fA, e0, e1] at hK ⊢
   go_wp2_with (fail)
   go_at_call 119
   refine (qCD L (rnum a) (b.den) _ _ W (hUp0'.out.le hR) ((han'.out.le hle'.out).le hR) ((hbd'.out.le hle'.out).le hR) (by omega) (by omega)).mono ?_
   rintro e w' ⟨v', rfl, y1, y2⟩
   rw [hX'.out] at y2
   obtain ⟨A9, c9, rfl⟩ := y2.slice
   go_wp2
   exact hK _ _ y1 y2
  ·refine mSl rfl fun x W hR hf Q hK _ => ?_
   simp only [fA] at hK ⊢
   go_wp2
   exact hK _ _ lrR rfl
  ·refine mSl rfl fun x W hR hf Q hK _ => ?_
   obtain ⟨e0, -⟩ := hf
   change _ = _ at e0
   have cc := bcl hR (by omega) cb1
   simp only [fA, e0] at hK ⊢
   go_wp2
   exact hK _ _ lrR rfl
  ·refine mSl rfl fun x W hR hf Q hK _ => ?_
   simp only [fA] at hK ⊢
   go_wp2
   exact hK _ _ lrR rfl
  ·refine mSl rfl fun x W hR hf Q hK _ => ?_
   obtain ⟨e0, -⟩ := hf
   change _ = _ at e0
   have cc := bcl hR (by omega) ca2
   simp only [fA, e0] at hK ⊢
   go_wp2
   exact hK _ _ lrR rfl
  ·refine mSl rfl fun x W hR hf Q hK _ => ?_
   obtain ⟨e0, e1, -⟩ := hf
   change _ = _ at e0 e1
   simp only [fA, e0, e1] at hK ⊢
   go_wp2_with (fail)
   go_at_call 119
   refine (qCD L (rnum b) (a.den) _ _ W (hUp0'.out.le hR) ((hbn'.out.le hle'.out).le hR) ((had'.out.le hle'.out).le hR) (by omega) (by omega)).mono ?_
   rintro e w' ⟨v', rfl, y1, y2⟩
   rw [hY'.out] at y2
   obtain ⟨A9, c9, rfl⟩ := y2.slice
   go_wp2
   exact hK _ _ y1 y2
  ·refine mSl rfl fun x W hR hf Q hK _ => ?_
   obtain ⟨e0, -⟩ := hf
   replace e0 : NumL L .u32 W (x 4) X := e0
   obtain ⟨A9, c9, e1⟩ := e0.slice
   rw [e1] at e0
   simp only [fA, e1] at hK ⊢
   go_wp2
   exact hK _ _ lrR e0
  ·refine mSl rfl fun x W hR hf Q hK _ => ?_
   obtain ⟨e0, -⟩ := hf
   replace e0 : NumL L .u32 W (x 9) Y := e0
   obtain ⟨A9, c9, e1⟩ := e0.slice
   rw [e1] at e0
   simp only [fA, e1] at hK ⊢
   go_wp2
   exact hK _ _ lrR e0
 ·intro x W hR hf Q' hQ1 _
  have e0 := hf 0 (by decide)
  have e1 := hf 1 (by decide)
  have e2 := hf 2 (by decide)
  have e3 := hf 3 (by decide)
  have e5 := hf 5 (by decide)
  have e6 := hf 6 (by decide)
  have e7 := hf 7 (by decide)
  have e8 := hf 8 (by decide)
  have e10 : NumL L .u32 W (x 10) X := hf 10 (by decide)
  have e11 : NumL L .u32 W (x 11) Y := hf 11 (by decide)
  change _ = _ at e0 e1 e2 e3 e5 e6 e7 e8
  obtain ⟨Ax, cx, e12⟩ := e10.slice
  obtain ⟨Ay, cy, e13⟩ := e11.slice
  rw [e12] at e10
  rw [e13] at e11
  simp only [List.drop_succ_cons, List.drop_zero]
  rw [show List.range 12 = [0, 1, 2, 3, 4, 5, 6, 7, 8, 9, 10, 11] from rfl]
  simp only [fA, e0, e1, e2, e3, e5, e6, e7, e8, e12, e13]
  generalize x 4 = x4
  generalize x 9 = x9
  clear e0 e1 e2 e3 e5 e6 e7 e8 hf
  have ca0 := bcl hR (by omega) ca0
  have cb0 := bcl hR (by omega) cb0
  have ca2 := bcl hR (by omega) ca2
  have cb2 := bcl hR (by omega) cb2
  have h2W := (Below.block hR (w.heap.size + 1 + 1) (by omega)).trans h2'.out
  have hleW := Le.trans hle'.out hR
  have hUpW := hL'.out.le hleW
  have hzW := Below.size hR
  have ⟨e10', e11', e12', e13', h2W', hleW', hUpW', hR'⟩ := hyd8 e10 e11 e12 e13 h2W hleW hUpW hR
  clear hR hUpW hleW h2W e13 e12 e11 e10
  refine wpList_nil (hQ1 _ _ ?_)
  go_wp2_with (fail)
  go_at_call 119
  refine (qCD L a.den b.den _ _ W hUpW'.out (had'.out.le hleW'.out) (hbd'.out.le hleW'.out) (by omega) (by omega)).mono ?_
  rintro e W1 ⟨v', rfl, y1, y2⟩
  rw [hD'.out] at y2
  obtain ⟨Az, cz, rfl⟩ := y2.slice
  have ca0 := (Below.cell y1 (p := ⟨w.heap.size, 0, none⟩) (by show w.heap.size < W.heap.size; omega)).trans ca0
  have cb0 := (Below.cell y1 (p := ⟨w.heap.size + 1, 0, none⟩) (by show w.heap.size + 1 < W.heap.size; omega)).trans cb0
  have h21 := (Below.block y1 (w.heap.size + 1 + 1) (by omega)).trans h2W'.out
  have hle1 := Le.trans hleW'.out y1
  have hUp1 := hL'.out.le hle1
  have hX1 := e10'.out.le y1
  have hY1 := e11'.out.le y1
  have hz1 := Below.size y1
  have ⟨y1', y2', h21', hle1', hUp1', hX1', hY1'⟩ := hyd7 y1 y2 h21 hle1 hUp1 hX1 hY1
  clear hY1 hX1 hUp1 hle1 h21 y2 y1
  by_cases hs : sa = sb
  ·have hsb2 : (sa == sb) = true := by simp [hs]
   have hl9 : mkR sa (X + Y) D = a + b := hlaw1'.out hs
   have ⟨hs', hl9'⟩ := hyd2 hs hl9
   clear hl9 hs
   go_wp2
   refine qAG (R := leRel) 7 [some 29, some 30, some 31, some 32, some 33, some 34, some 35, none] [[], [0], [], [], [2, 3], [], [1, 4, 5], [6]]
    [.eq (.pointer (some ⟨w.heap.size, 0, none⟩)), .eq (.bool sa), .eq (.slice Ax (dg X).length cx), .eq (.slice Ay (dg Y).length cy), MPred.num L .u32 (X + Y), .eq (.slice Az (dg D).length cz), MPred.rat L .u32 (a + b)] (fun _ _ => False) (by kernel_rfl) (by kernel_rfl) (by kernel_rfl) (by kernel_rfl) ?_ (fun _ _ _ _ _ h => h.elim) ?_
   ·simp only [List.take_succ_cons, List.take_zero]
    refine mSc ?_ (mSc ?_ (mSc ?_ (mSc ?_ (mSc ?_ (mSc ?_ (mSc ?_ (qAJ)))))))
    ·refine mSl rfl fun x W hR hf Q hK _ => ?_
     simp only [fA] at hK ⊢
     go_wp2
     exact hK _ _ lrR rfl
    ·refine mSl rfl fun x W hR hf Q hK _ => ?_
     obtain ⟨e0, -⟩ := hf
     change _ = _ at e0
     have cc := (Below.cell hR (p := ⟨w.heap.size, 0, none⟩) (by show w.heap.size < W1.heap.size; omega)).trans ca0
     simp only [fA, e0] at hK ⊢
     go_wp2
     exact hK _ _ lrR rfl
    ·refine mSl rfl fun x W hR hf Q hK _ => ?_
     simp only [fA] at hK ⊢
     go_wp2
     exact hK _ _ lrR rfl
    ·refine mSl rfl fun x W hR hf Q hK _ => ?_
     simp only [fA] at hK ⊢
     go_wp2
     exact hK _ _ lrR rfl
    ·refine mSl rfl fun x W hR hf Q hK _ => ?_
     obtain ⟨e0, e1, -⟩ := hf
     change _ = _ at e0 e1
     simp only [fA, e0, e1] at hK ⊢
     go_wp2_with (fail)
     go_at_call 112
     refine (qGq L X Y _ _ W (hUp1'.out.le hR) (hX1'.out.le hR) (hY1'.out.le hR) (by omega) (by omega)).mono ?_
     rintro e w' ⟨v', rfl, y1, y2⟩
     obtain ⟨A9, c9, rfl⟩ := y2.slice
     go_wp2
     exact hK _ _ y1 y2
    ·refine mSl rfl fun x W hR hf Q hK _ => ?_
     simp only [fA] at hK ⊢
     go_wp2
     exact hK _ _ lrR rfl
    ·refine mSl rfl fun x W hR hf Q hK _ => ?_
     obtain ⟨e0, e1, e2, -⟩ := hf
     change _ = _ at e0 e2
     replace e1 : NumL L .u32 W (x 4) (X + Y) := e1
     simp only [fA, e0, e2] at hK ⊢
     go_wp2_with (fail)
     go_at_call 118
     refine (qDB L sa (X + Y) D _ _ W (hUp1'.out.le hR) e1 (y2'.out.le hR) hdz'.out (by have := hs1'.out; have := hs2'.out; have := hs3'.out; omega) (by omega)).mono ?_
     rintro e w' ⟨v', rfl, y1, y3⟩
     rw [hl9'.out] at y3
     obtain ⟨A1, c1, A2, c2, rfl, -, -⟩ := y3.form
     go_wp2
     exact hK _ _ y1 y3
   ·intro x W2 hR hf Q' hQ1 _
    have e0 := hf 0 (by decide)
    have e1 := hf 1 (by decide)
    have e2 := hf 2 (by decide)
    have e3 := hf 3 (by decide)
    have e5 := hf 5 (by decide)
    have e15 : RatL L .u32 W2 (x 6) (a + b) := hf 6 (by decide)
    change _ = _ at e0 e1 e2 e3 e5
    obtain ⟨A1, c1, A2, c2, e16, y3, y4⟩ := e15.form
    have h2W := (Below.block hR (w.heap.size + 1 + 1) (by omega)).trans h21'.out
    obtain ⟨z0, z1, z2, g0, g1, g2⟩ := qAD h2W
    simp only [List.drop_succ_cons, List.drop_zero]
    rw [show List.range 7 = [0, 1, 2, 3, 4, 5, 6] from rfl]
    simp only [fA, e0, e1, e2, e3, e5, e16]
    generalize x 4 = x4
    clear e0 e1 e2 e3 e5 hf
    have hle9 := fun u0 u1 u2 => qA8 (u0 := u0) (u1 := u1) (u2 := u2) (Le.trans hle1'.out hR) (show w.heap.size ≤ w.heap.size + 1 + 1 by omega)
    have hb9 := fun u0 u1 u2 => qAD (qAY (u0 := u0) (u1 := u1) (u2 := u2) h2W)
    have hfin := fun u0 u1 u2 => And.intro (NumL.box3 (u0 := u0) (u1 := u1) (u2 := u2) y3 h2W) (NumL.box3 (u0 := u0) (u1 := u1) (u2 := u2) y4 h2W)
    obtain ⟨sr, hsr⟩ : ∃ sr, rneg (a + b) = sr := ⟨_, rfl⟩
    rw [hsr]
    have ⟨hle9', hb9', hfin', h2W', y3', y4', e16', e15'⟩ := hyd8 hle9 hb9 hfin h2W y3 y4 e16 e15
    have ⟨hR', hsr'⟩ := hyd2 hR hsr
    clear hsr hR e15 e16 y4 y3 h2W hfin hb9 hle9
    go_wp2
    refine hQ1 _ _ ?_
    go_wp2
    obtain ⟨d0, d1, d2, -⟩ := hb9'.out (.bool sr) (.slice A1 (dg (rnum (a + b))).length c1) (.slice A2 (dg (a + b).den).length c2)
    refine bodyPost_ret (v := .agg #[.bool sr, .slice A1 (dg (rnum (a + b))).length c1, .slice A2 (dg (a + b).den).length c2]) (by simp [results, Tryz.results90, go_sem, d0, d1, d2]) rfl ⟨_, rfl, hle9'.out _ _ _, ?_⟩
    exact ⟨_, _, by rw [hsr'.out], (hfin'.out _ _ _).1, (hfin'.out _ _ _).2⟩
  ·have hsb2 : (sa == sb) = false := by simpa using hs
   have hl9 := hlaw2'.out hs
   have ⟨hs', hl9'⟩ := hyd2 hs hl9
   clear hl9 hs
   go_wp2_with (fail)
   go_at_call 113
   refine (qBR L X Y _ _ W1 hX1'.out hY1'.out (by omega) (by omega)).mono ?_
   rintro e W3 ⟨cc9, rfl, y3, hc, hc2⟩
   have ca0 := (Below.cell y3 (p := ⟨w.heap.size, 0, none⟩) (by show w.heap.size < W1.heap.size; omega)).trans ca0
   have cb0 := (Below.cell y3 (p := ⟨w.heap.size + 1, 0, none⟩) (by show w.heap.size + 1 < W1.heap.size; omega)).trans cb0
   have h23 := (Below.block y3 (w.heap.size + 1 + 1) (by omega)).trans h21'.out
   have hle3 := Le.trans hle1'.out y3
   have hUp3 := hL'.out.le hle3
   have hX3 := hX1'.out.le y3
   have hY3 := hY1'.out.le y3
   have hD3 := y2'.out.le y3
   have hz3 := Below.size y3
   clear hc2 y2' h21' hle1' hUp1' hX1' hY1'
   have ⟨y2', h21', hle1', hUp1', hX1', hY1'⟩ := hyd6 hD3 h23 hle3 hUp3 hX3 hY3
   clear hD3 h23 hle3 hUp3 hX3 hY3
   have y3' := hyd1 y3
   clear y3
   by_cases hlt : X < Y
   ·have hcn : cc9 < 0 := hc.2 hlt
    have hl8 : mkR sb (Y - X) D = a + b := by have := hl9'.out; rw [if_pos hlt] at this; exact this
    have hlt' := hyd1 hlt
    clear hlt hc
    have hl8' := hyd1 hl8
    clear hl8
    go_wp2
    refine qAG (R := leRel) 7 [some 41, some 42, some 43, some 44, some 45, some 46, some 47, none] [[], [0], [], [], [2, 3], [], [1, 4, 5], [6]]
     [.eq (.pointer (some ⟨w.heap.size + 1, 0, none⟩)), .eq (.bool sb), .eq (.slice Ay (dg Y).length cy), .eq (.slice Ax (dg X).length cx), MPred.num L .u32 (Y - X), .eq (.slice Az (dg D).length cz), MPred.rat L .u32 (a + b)] (fun _ _ => False) (by kernel_rfl) (by kernel_rfl) (by kernel_rfl) (by kernel_rfl) ?_ (fun _ _ _ _ _ h => h.elim) ?_
    ·simp only [List.take_succ_cons, List.take_zero]
     refine mSc ?_ (mSc ?_ (mSc ?_ (mSc ?_ (mSc ?_ (mSc ?_ (mSc ?_ (qAJ)))))))
     ·refine mSl rfl fun x W hR hf Q hK _ => ?_
      simp only [fA] at hK ⊢
      go_wp2
      exact hK _ _ lrR rfl
     ·refine mSl rfl fun x W hR hf Q hK _ => ?_
      obtain ⟨e0, -⟩ := hf
      change _ = _ at e0
      have cc := (Below.cell hR (p := ⟨w.heap.size + 1, 0, none⟩) (by show w.heap.size + 1 < W3.heap.size; omega)).trans cb0
      simp only [fA, e0] at hK ⊢
      go_wp2
      exact hK _ _ lrR rfl
     ·refine mSl rfl fun x W hR hf Q hK _ => ?_
      simp only [fA] at hK ⊢
      go_wp2
      exact hK _ _ lrR rfl
     ·refine mSl rfl fun x W hR hf Q hK _ => ?_
      simp only [fA] at hK ⊢
      go_wp2
      exact hK _ _ lrR rfl
     ·refine mSl rfl fun x W hR hf Q hK _ => ?_
      obtain ⟨e0, e1, -⟩ := hf
      change _ = _ at e0 e1
      simp only [fA, e0, e1] at hK ⊢
      go_wp2_with (fail)
      go_at_call 120
      refine (qID L Y X _ _ W (hUp1'.out.le hR) (hY1'.out.le hR) (hX1'.out.le hR) (Nat.le_of_lt hlt'.out) (by omega)).mono ?_
      rintro e w' ⟨v', rfl, y1, y2⟩
      obtain ⟨A9, c9, rfl⟩ := y2.slice
      go_wp2
      exact hK _ _ y1 y2
     ·refine mSl rfl fun x W hR hf Q hK _ => ?_
      simp only [fA] at hK ⊢
      go_wp2
      exact hK _ _ lrR rfl
     ·refine mSl rfl fun x W hR hf Q hK _ => ?_
      obtain ⟨e0, e1, e2, -⟩ := hf
      change _ = _ at e0 e2
      replace e1 : NumL L .u32 W (x 4) (Y - X) := e1
      simp only [fA, e0, e2] at hK ⊢
      go_wp2_with (fail)
      go_at_call 118
      refine (qDB L sb (Y - X) D _ _ W (hUp1'.out.le hR) e1 (y2'.out.le hR) hdz'.out (by have := hs1'.out; have := hs2'.out; have := hs3'.out; omega) (by omega)).mono ?_
      rintro e w' ⟨v', rfl, y1, y3⟩
      rw [hl8'.out] at y3
      obtain ⟨A1, c1, A2, c2, rfl, -, -⟩ := y3.form
      go_wp2
      exact hK _ _ y1 y3
    ·intro x W2 hR hf Q' hQ1 _
     have e0 := hf 0 (by decide)
     have e1 := hf 1 (by decide)
     have e2 := hf 2 (by decide)
     have e3 := hf 3 (by decide)
     have e5 := hf 5 (by decide)
     have e15 : RatL L .u32 W2 (x 6) (a + b) := hf 6 (by decide)
     change _ = _ at e0 e1 e2 e3 e5
     obtain ⟨A1, c1, A2, c2, e16, y3, y4⟩ := e15.form
     have h2W := (Below.block hR (w.heap.size + 1 + 1) (by omega)).trans h21'.out
     obtain ⟨z0, z1, z2, g0, g1, g2⟩ := qAD h2W
     simp only [List.drop_succ_cons, List.drop_zero]
     rw [show List.range 7 = [0, 1, 2, 3, 4, 5, 6] from rfl]
     simp only [fA, e0, e1, e2, e3, e5, e16]
     generalize x 4 = x4
     clear e0 e1 e2 e3 e5 hf
     have hle9 := fun u0 u1 u2 => qA8 (u0 := u0) (u1 := u1) (u2 := u2) (Le.trans hle1'.out hR) (show w.heap.size ≤ w.heap.size + 1 + 1 by omega)
     have hb9 := fun u0 u1 u2 => qAD (qAY (u0 := u0) (u1 := u1) (u2 := u2) h2W)
     have hfin := fun u0 u1 u2 => And.intro (NumL.box3 (u0 := u0) (u1 := u1) (u2 := u2) y3 h2W) (NumL.box3 (u0 := u0) (u1 := u1) (u2 := u2) y4 h2W)
     obtain ⟨sr, hsr⟩ : ∃ sr, rneg (a + b) = sr := ⟨_, rfl⟩
     rw [hsr]
     have ⟨hle9', hb9', hfin', h2W', y3', y4', e16', e15'⟩ := hyd8 hle9 hb9 hfin h2W y3 y4 e16 e15
     have ⟨hR', hsr'⟩ := hyd2 hR hsr
     clear hsr hR e15 e16 y4 y3 h2W hfin hb9 hle9
     go_wp2
     refine hQ1 _ _ ?_
     go_wp2
     obtain ⟨d0, d1, d2, -⟩ := hb9'.out (.bool sr) (.slice A1 (dg (rnum (a + b))).length c1) (.slice A2 (dg (a + b).den).length c2)
     refine bodyPost_ret (v := .agg #[.bool sr, .slice A1 (dg (rnum (a + b))).length c1, .slice A2 (dg (a + b).den).length c2]) (by simp [results, Tryz.results90, go_sem, d0, d1, d2]) rfl ⟨_, rfl, hle9'.out _ _ _, ?_⟩
     exact ⟨_, _, by rw [hsr'.out], (hfin'.out _ _ _).1, (hfin'.out _ _ _).2⟩
   ·have hcn : ¬ cc9 < 0 := fun h => hlt (hc.1 h)
    have hl8 : mkR sa (X - Y) D = a + b := by have := hl9'.out; rw [if_neg hlt] at this; exact this
    have hlt' := hyd1 hlt
    clear hlt hc
    have hl8' := hyd1 hl8
    clear hl8
    go_wp2
    refine qAG (R := leRel) 7 [some 48, some 49, some 50, some 51, some 52, some 53, some 54, none] [[], [0], [], [], [2, 3], [], [1, 4, 5], [6]]
     [.eq (.pointer (some ⟨w.heap.size, 0, none⟩)), .eq (.bool sa), .eq (.slice Ax (dg X).length cx), .eq (.slice Ay (dg Y).length cy), MPred.num L .u32 (X - Y), .eq (.slice Az (dg D).length cz), MPred.rat L .u32 (a + b)] (fun _ _ => False) (by kernel_rfl) (by kernel_rfl) (by kernel_rfl) (by kernel_rfl) ?_ (fun _ _ _ _ _ h => h.elim) ?_
    ·simp only [List.take_succ_cons, List.take_zero]
     refine mSc ?_ (mSc ?_ (mSc ?_ (mSc ?_ (mSc ?_ (mSc ?_ (mSc ?_ (qAJ)))))))
     ·refine mSl rfl fun x W hR hf Q hK _ => ?_
      simp only [fA] at hK ⊢
      go_wp2
      exact hK _ _ lrR rfl
     ·refine mSl rfl fun x W hR hf Q hK _ => ?_
      obtain ⟨e0, -⟩ := hf
      change _ = _ at e0
      have cc := (Below.cell hR (p := ⟨w.heap.size, 0, none⟩) (by show w.heap.size < W3.heap.size; omega)).trans ca0
      simp only [fA, e0] at hK ⊢
      go_wp2
      exact hK _ _ lrR rfl
     ·refine mSl rfl fun x W hR hf Q hK _ => ?_
      simp only [fA] at hK ⊢
      go_wp2
      exact hK _ _ lrR rfl
     ·refine mSl rfl fun x W hR hf Q hK _ => ?_
      simp only [fA] at hK ⊢
      go_wp2
      exact hK _ _ lrR rfl
     ·refine mSl rfl fun x W hR hf Q hK _ => ?_
      obtain ⟨e0, e1, -⟩ := hf
      change _ = _ at e0 e1
      simp only [fA, e0, e1] at hK ⊢
      go_wp2_with (fail)
      go_at_call 120
      refine (qID L X Y _ _ W (hUp1'.out.le hR) (hX1'.out.le hR) (hY1'.out.le hR) (Nat.le_of_not_lt hlt'.out) (by omega)).mono ?_
      rintro e w' ⟨v', rfl, y1, y2⟩
      obtain ⟨A9, c9, rfl⟩ := y2.slice
      go_wp2
      exact hK _ _ y1 y2
     ·refine mSl rfl fun x W hR hf Q hK _ => ?_
      simp only [fA] at hK ⊢
      go_wp2
      exact hK _ _ lrR rfl
     ·refine mSl rfl fun x W hR hf Q hK _ => ?_
      obtain ⟨e0, e1, e2, -⟩ := hf
      change _ = _ at e0 e2
      replace e1 : NumL L .u32 W (x 4) (X - Y) := e1
      simp only [fA, e0, e2] at hK ⊢
      go_wp2_with (fail)
      go_at_call 118
      refine (qDB L sa (X - Y) D _ _ W (hUp1'.out.le hR) e1 (y2'.out.le hR) hdz'.out (by have := hs1'.out; have := hs2'.out; have := hs3'.out; omega) (by omega)).mono ?_
      rintro e w' ⟨v', rfl, y1, y3⟩
      rw [hl8'.out] at y3
      obtain ⟨A1, c1, A2, c2, rfl, -, -⟩ := y3.form
      go_wp2
      exact hK _ _ y1 y3
    ·intro x W2 hR hf Q' hQ1 _
     have e0 := hf 0 (by decide)
     have e1 := hf 1 (by decide)
     have e2 := hf 2 (by decide)
     have e3 := hf 3 (by decide)
     have e5 := hf 5 (by decide)
     have e15 : RatL L .u32 W2 (x 6) (a + b) := hf 6 (by decide)
     change _ = _ at e0 e1 e2 e3 e5
     obtain ⟨A1, c1, A2, c2, e16, y3, y4⟩ := e15.form
     have h2W := (Below.block hR (w.heap.size + 1 + 1) (by omega)).trans h21'.out
     obtain ⟨z0, z1, z2, g0, g1, g2⟩ := qAD h2W
     simp only [List.drop_succ_cons, List.drop_zero]
     rw [show List.range 7 = [0, 1, 2, 3, 4, 5, 6] from rfl]
     simp only [fA, e0, e1, e2, e3, e5, e16]
     generalize x 4 = x4
     clear e0 e1 e2 e3 e5 hf
     have hle9 := fun u0 u1 u2 => qA8 (u0 := u0) (u1 := u1) (u2 := u2) (Le.trans hle1'.out hR) (show w.heap.size ≤ w.heap.size + 1 + 1 by omega)
     have hb9 := fun u0 u1 u2 => qAD (qAY (u0 := u0) (u1 := u1) (u2 := u2) h2W)
     have hfin := fun u0 u1 u2 => And.intro (NumL.box3 (u0 := u0) (u1 := u1) (u2 := u2) y3 h2W) (NumL.box3 (u0 := u0) (u1 := u1) (u2 := u2) y4 h2W)
     obtain ⟨sr, hsr⟩ : ∃ sr, rneg (a + b) = sr := ⟨_, rfl⟩
     rw [hsr]
     have ⟨hle9', hb9', hfin', h2W', y3', y4', e16', e15'⟩ := hyd8 hle9 hb9 hfin h2W y3 y4 e16 e15
     have ⟨hR', hsr'⟩ := hyd2 hR hsr
     clear hsr hR e15 e16 y4 y3 h2W hfin hb9 hle9
     go_wp2
     refine hQ1 _ _ ?_
     go_wp2
     obtain ⟨d0, d1, d2, -⟩ := hb9'.out (.bool sr) (.slice A1 (dg (rnum (a + b))).length c1) (.slice A2 (dg (a + b).den).length c2)
     refine bodyPost_ret (v := .agg #[.bool sr, .slice A1 (dg (rnum (a + b))).length c1, .slice A2 (dg (a + b).den).length c2]) (by simp [results, Tryz.results90, go_sem, d0, d1, d2]) rfl ⟨_, rfl, hle9'.out _ _ _, ?_⟩
     exact ⟨_, _, by rw [hsr'.out], (hfin'.out _ _ _).1, (hfin'.out _ _ _).2⟩
end Go.Proofs.YtlhfonhbbpbmpaaGreat

