/- reference 1: fractions: Times, By. -/
import Derived.Test.YtpjmbgfggonhhaaGreatRQ1
namespace Go.Proofs.YtpjmbgfggonhhaaGreat
open Go.RowKit Go.Shelf
set_option linter.unusedVariables false
set_option linter.unusedSimpArgs false
set_option maxRecDepth 100000 in
set_option maxHeartbeats 2000000 in
theorem pf_q_times (L : Nat → Prop) (a b : Rat) (va vb : Value) (w : World) (hL : Up w L) (ha : RatL L .i64 w va a) (hb : RatL L .i64 w vb b) (hma : Rsz a 5000000) (hmb : Rsz b 5000000) :
    Calls Tryz.prog 62 #[va, vb] w fun e w' => ∃ v', e = .returned v' ∧ Le w w' ∧ RatL L .i64 w' v' (a * b) := by
  obtain ⟨An, cn, Ad, cd, rfl, han, had⟩ := ha.form
  obtain ⟨Bn, dn, Bd, dd, rfl, hbn, hbd⟩ := hb.form
  obtain ⟨ma1, ma2⟩ := hma
  obtain ⟨mb1, mb2⟩ := hmb
  have hp1 := dg_length_mul (rnum a) (rnum b)
  have hp2 := dg_length_mul (a.den) (b.den)
  have hdz : (a.den) * (b.den) ≠ 0 := Nat.ne_of_gt (Nat.mul_pos (rden_pos a) (rden_pos b))
  obtain ⟨sa, hsa⟩ : ∃ sa, rneg a = sa := ⟨_, rfl⟩
  obtain ⟨sb, hsb⟩ : ∃ sb, rneg b = sb := ⟨_, rfl⟩
  have hlaw := mul_mkR a b
  rw [hsa, hsb] at *
  have hL' := Lib.hid hL
  have ha' := Lib.hid ha
  have hb' := Lib.hid hb
  have han' := Lib.hid han
  have had' := Lib.hid had
  have hbn' := Lib.hid hbn
  have hbd' := Lib.hid hbd
  have hsa' := Lib.hid hsa
  have hsb' := Lib.hid hsb
  have hp1' := Lib.hid hp1
  have hp2' := Lib.hid hp2
  have hdz' := Lib.hid hdz
  have hlaw' := Lib.hid hlaw
  clear hlaw hdz hp2 hp1 hsb hsa hbd hbn had han hb ha hL
  go_enter Tryz.func62, Tryz.ntmps62
  go_wp2
  obtain ⟨W0, hW0, hsz, hle, h0, h1, h2⟩ := new3_le w (.cells #[.bool sa, .slice An (dg (rnum a)).length cn, .slice Ad (dg a.den).length cd] 59) (.cells #[.bool sb, .slice Bn (dg (rnum b)).length dn, .slice Bd (dg b.den).length dd] 59) (.cells #[.bool false, .slice none 0 0, .slice none 0 0] 59)
  rw [hW0]
  clear hW0
  obtain ⟨ca0, ca1, ca2, -⟩ := cells3 h0
  obtain ⟨cb0, cb1, cb2, -⟩ := cells3 h1
  have hUp0 := hL'.out.le hle
  have h0' := Lib.hid h0
  have h1' := Lib.hid h1
  have h2' := Lib.hid h2
  have hle' := Lib.hid hle
  have hUp0' := Lib.hid hUp0
  clear hUp0 hle h2 h1 h0
  refine wp_region_monoL (R := leRel) 16 [some 5, some 6, some 7, some 8, some 9, some 10, some 11, some 12, some 13, some 14, some 15, some 16, some 17, some 18, some 19, some 20, none] [[], [0], [], [2], [1, 3], [], [5], [], [7], [6, 8], [], [10], [], [12], [11, 13], [4, 9, 14], [15]]
    [.eq (.pointer (some ⟨w.heap.size, 0, none⟩)), .eq (.bool sa), .eq (.pointer (some ⟨w.heap.size + 1, 0, none⟩)), .eq (.bool sb), .eq (.bool (sa != sb)), .eq (.pointer (some ⟨w.heap.size, 1, none⟩)), .eq (.slice An (dg (rnum a)).length cn), .eq (.pointer (some ⟨w.heap.size + 1, 1, none⟩)), .eq (.slice Bn (dg (rnum b)).length dn), MPred.num L .i64 (rnum a * rnum b),
      .eq (.pointer (some ⟨w.heap.size, 2, none⟩)), .eq (.slice Ad (dg a.den).length cd), .eq (.pointer (some ⟨w.heap.size + 1, 2, none⟩)), .eq (.slice Bd (dg b.den).length dd), MPred.num L .i64 (a.den * b.den), MPred.rat L .i64 (a * b)] (fun _ _ => False) (by kernel_rfl) (by kernel_rfl) (by kernel_rfl) (by kernel_rfl) ?_ (fun _ _ _ _ _ h => h.elim) ?_
  · simp only [List.take_succ_cons, List.take_zero]
    refine monoSteps_cons ?_ (monoSteps_cons ?_ (monoSteps_cons ?_ (monoSteps_cons ?_ (monoSteps_cons ?_ (monoSteps_cons ?_ (monoSteps_cons ?_ (monoSteps_cons ?_ (monoSteps_cons ?_ (monoSteps_cons ?_ (monoSteps_cons ?_ (monoSteps_cons ?_ (monoSteps_cons ?_ (monoSteps_cons ?_ (monoSteps_cons ?_ (monoSteps_cons ?_ (monoSteps_nil))))))))))))))))
    · refine monoStep_list rfl fun x W hR hf Q hK _ => ?_
      simp only [fillAct, List.getD_cons_succ, List.getD_cons_zero, Act.put, List.setIfInBounds_toArray, List.set_cons_succ, List.set_cons_zero] at hK ⊢
      go_wp2
      exact hK _ _ (leRel.refl _) rfl
    · refine monoStep_list rfl fun x W hR hf Q hK _ => ?_
      obtain ⟨e0, -⟩ := hf
      change _ = _ at e0
      have cc := (Below.cell hR (p := ⟨w.heap.size, 0, none⟩) (by show w.heap.size < W0.heap.size; omega)).trans ca0
      simp only [fillAct, List.getD_cons_succ, List.getD_cons_zero, Act.put, List.setIfInBounds_toArray, List.set_cons_succ, List.set_cons_zero, e0] at hK ⊢
      go_wp2
      exact hK _ _ (leRel.refl _) rfl
    · refine monoStep_list rfl fun x W hR hf Q hK _ => ?_
      simp only [fillAct, List.getD_cons_succ, List.getD_cons_zero, Act.put, List.setIfInBounds_toArray, List.set_cons_succ, List.set_cons_zero] at hK ⊢
      go_wp2
      exact hK _ _ (leRel.refl _) rfl
    · refine monoStep_list rfl fun x W hR hf Q hK _ => ?_
      obtain ⟨e0, -⟩ := hf
      change _ = _ at e0
      have cc := (Below.cell hR (p := ⟨w.heap.size + 1, 0, none⟩) (by show w.heap.size + 1 < W0.heap.size; omega)).trans cb0
      simp only [fillAct, List.getD_cons_succ, List.getD_cons_zero, Act.put, List.setIfInBounds_toArray, List.set_cons_succ, List.set_cons_zero, e0] at hK ⊢
      go_wp2
      exact hK _ _ (leRel.refl _) rfl
    · refine monoStep_list rfl fun x W hR hf Q hK _ => ?_
      obtain ⟨e0, e1, -⟩ := hf
      change _ = _ at e0 e1
      simp only [fillAct, List.getD_cons_succ, List.getD_cons_zero, Act.put, List.setIfInBounds_toArray, List.set_cons_succ, List.set_cons_zero, e0, e1] at hK ⊢
      go_wp2
      exact hK _ _ (leRel.refl _) rfl
    · refine monoStep_list rfl fun x W hR hf Q hK _ => ?_
      simp only [fillAct, List.getD_cons_succ, List.getD_cons_zero, Act.put, List.setIfInBounds_toArray, List.set_cons_succ, List.set_cons_zero] at hK ⊢
      go_wp2
      exact hK _ _ (leRel.refl _) rfl
    · refine monoStep_list rfl fun x W hR hf Q hK _ => ?_
      obtain ⟨e0, -⟩ := hf
      change _ = _ at e0
      have cc := (Below.cell hR (p := ⟨w.heap.size, 1, none⟩) (by show w.heap.size < W0.heap.size; omega)).trans ca1
      simp only [fillAct, List.getD_cons_succ, List.getD_cons_zero, Act.put, List.setIfInBounds_toArray, List.set_cons_succ, List.set_cons_zero, e0] at hK ⊢
      go_wp2
      exact hK _ _ (leRel.refl _) rfl
    · refine monoStep_list rfl fun x W hR hf Q hK _ => ?_
      simp only [fillAct, List.getD_cons_succ, List.getD_cons_zero, Act.put, List.setIfInBounds_toArray, List.set_cons_succ, List.set_cons_zero] at hK ⊢
      go_wp2
      exact hK _ _ (leRel.refl _) rfl
    · refine monoStep_list rfl fun x W hR hf Q hK _ => ?_
      obtain ⟨e0, -⟩ := hf
      change _ = _ at e0
      have cc := (Below.cell hR (p := ⟨w.heap.size + 1, 1, none⟩) (by show w.heap.size + 1 < W0.heap.size; omega)).trans cb1
      simp only [fillAct, List.getD_cons_succ, List.getD_cons_zero, Act.put, List.setIfInBounds_toArray, List.set_cons_succ, List.set_cons_zero, e0] at hK ⊢
      go_wp2
      exact hK _ _ (leRel.refl _) rfl
    · refine monoStep_list rfl fun x W hR hf Q hK _ => ?_
      obtain ⟨e0, e1, -⟩ := hf
      change _ = _ at e0 e1
      simp only [fillAct, List.getD_cons_succ, List.getD_cons_zero, Act.put, List.setIfInBounds_toArray, List.set_cons_succ, List.set_cons_zero, e0, e1] at hK ⊢
      go_wp2_with (fail)
      go_at_call 84
      refine (pf_n_times L (rnum a) (rnum b) _ _ W (hUp0'.out.le hR) ((han'.out.le hle'.out).le hR) ((hbn'.out.le hle'.out).le hR) (by omega) (by omega)).mono ?_
      rintro e w' ⟨v', rfl, y1, y2⟩
      obtain ⟨A9, c9, rfl⟩ := y2.slice
      go_wp2
      exact hK _ _ y1 y2
    · refine monoStep_list rfl fun x W hR hf Q hK _ => ?_
      simp only [fillAct, List.getD_cons_succ, List.getD_cons_zero, Act.put, List.setIfInBounds_toArray, List.set_cons_succ, List.set_cons_zero] at hK ⊢
      go_wp2
      exact hK _ _ (leRel.refl _) rfl
    · refine monoStep_list rfl fun x W hR hf Q hK _ => ?_
      obtain ⟨e0, -⟩ := hf
      change _ = _ at e0
      have cc := (Below.cell hR (p := ⟨w.heap.size, 2, none⟩) (by show w.heap.size < W0.heap.size; omega)).trans ca2
      simp only [fillAct, List.getD_cons_succ, List.getD_cons_zero, Act.put, List.setIfInBounds_toArray, List.set_cons_succ, List.set_cons_zero, e0] at hK ⊢
      go_wp2
      exact hK _ _ (leRel.refl _) rfl
    · refine monoStep_list rfl fun x W hR hf Q hK _ => ?_
      simp only [fillAct, List.getD_cons_succ, List.getD_cons_zero, Act.put, List.setIfInBounds_toArray, List.set_cons_succ, List.set_cons_zero] at hK ⊢
      go_wp2
      exact hK _ _ (leRel.refl _) rfl
    · refine monoStep_list rfl fun x W hR hf Q hK _ => ?_
      obtain ⟨e0, -⟩ := hf
      change _ = _ at e0
      have cc := (Below.cell hR (p := ⟨w.heap.size + 1, 2, none⟩) (by show w.heap.size + 1 < W0.heap.size; omega)).trans cb2
      simp only [fillAct, List.getD_cons_succ, List.getD_cons_zero, Act.put, List.setIfInBounds_toArray, List.set_cons_succ, List.set_cons_zero, e0] at hK ⊢
      go_wp2
      exact hK _ _ (leRel.refl _) rfl
    · refine monoStep_list rfl fun x W hR hf Q hK _ => ?_
      obtain ⟨e0, e1, -⟩ := hf
      change _ = _ at e0 e1
      simp only [fillAct, List.getD_cons_succ, List.getD_cons_zero, Act.put, List.setIfInBounds_toArray, List.set_cons_succ, List.set_cons_zero, e0, e1] at hK ⊢
      go_wp2_with (fail)
      go_at_call 84
      refine (pf_n_times L (a.den) (b.den) _ _ W (hUp0'.out.le hR) ((had'.out.le hle'.out).le hR) ((hbd'.out.le hle'.out).le hR) (by omega) (by omega)).mono ?_
      rintro e w' ⟨v', rfl, y1, y2⟩
      obtain ⟨A9, c9, rfl⟩ := y2.slice
      go_wp2
      exact hK _ _ y1 y2
    · refine monoStep_list rfl fun x W hR hf Q hK _ => ?_
      obtain ⟨e0, e1, e2, -⟩ := hf
      change _ = _ at e0
      replace e1 : NumL L .i64 W (x 9) (rnum a * rnum b) := e1
      replace e2 : NumL L .i64 W (x 14) (a.den * b.den) := e2
      simp only [fillAct, List.getD_cons_succ, List.getD_cons_zero, Act.put, List.setIfInBounds_toArray, List.set_cons_succ, List.set_cons_zero, e0] at hK ⊢
      go_wp2_with (fail)
      go_at_call 85
      refine (pf_n_reduced L (sa != sb) (rnum a * rnum b) (a.den * b.den) _ _ W (hUp0'.out.le hR) e1 e2 hdz'.out (by have := hp1'.out; omega) (by have := hp2'.out; omega)).mono ?_
      rintro e w' ⟨v', rfl, y1, y2⟩
      rw [hlaw'.out] at y2
      obtain ⟨A1, c1, A2, c2, rfl, -, -⟩ := y2.form
      go_wp2
      exact hK _ _ y1 y2
  · intro x W hR hf Q' hQ1 _
    have e0 := hf 0 (by decide)
    have e1 := hf 1 (by decide)
    have e2 := hf 2 (by decide)
    have e3 := hf 3 (by decide)
    have e4 := hf 4 (by decide)
    have e5 := hf 5 (by decide)
    have e6 := hf 6 (by decide)
    have e7 := hf 7 (by decide)
    have e8 := hf 8 (by decide)
    have e10 := hf 10 (by decide)
    have e11 := hf 11 (by decide)
    have e12 := hf 12 (by decide)
    have e13 := hf 13 (by decide)
    have e15 : RatL L .i64 W (x 15) (a * b) := hf 15 (by decide)
    change _ = _ at e0 e1 e2 e3 e4 e5 e6 e7 e8 e10 e11 e12 e13
    obtain ⟨A1, c1, A2, c2, e16, y1, y2⟩ := e15.form
    have h2W := (Below.block hR (w.heap.size + 1 + 1) (by omega)).trans h2'.out
    obtain ⟨z0, z1, z2, g0, g1, g2⟩ := cells3 h2W
    simp only [List.drop_succ_cons, List.drop_zero]
    rw [show List.range 16 = [0, 1, 2, 3, 4, 5, 6, 7, 8, 9, 10, 11, 12, 13, 14, 15] from rfl]
    simp only [fillAct, List.getD_cons_succ, List.getD_cons_zero, Act.put, List.setIfInBounds_toArray, List.set_cons_succ, List.set_cons_zero, e0, e1, e2, e3, e4, e5, e6, e7, e8, e10, e11, e12, e13, e16]
    generalize x 9 = x9
    generalize x 14 = x14
    clear e0 e1 e2 e3 e4 e5 e6 e7 e8 e10 e11 e12 e13 hf
    have hle9 := fun u0 u1 u2 => le_set3 (u0 := u0) (u1 := u1) (u2 := u2) (Le.trans hle'.out hR) (show w.heap.size ≤ w.heap.size + 1 + 1 by omega)
    have hb9 := fun u0 u1 u2 => cells3 (heap_set3 (u0 := u0) (u1 := u1) (u2 := u2) h2W)
    have hfin := fun u0 u1 u2 => And.intro (NumL.box3 (u0 := u0) (u1 := u1) (u2 := u2) y1 h2W) (NumL.box3 (u0 := u0) (u1 := u1) (u2 := u2) y2 h2W)
    obtain ⟨sr, hsr⟩ : ∃ sr, rneg (a * b) = sr := ⟨_, rfl⟩
    rw [hsr]
    have hle9' := Lib.hid hle9
    have hb9' := Lib.hid hb9
    have hfin' := Lib.hid hfin
    have h2W' := Lib.hid h2W
    have y1' := Lib.hid y1
    have y2' := Lib.hid y2
    have e16' := Lib.hid e16
    have e15' := Lib.hid e15
    have hR' := Lib.hid hR
    have hsr' := Lib.hid hsr
    clear hsr hR e15 e16 y2 y1 h2W hfin hb9 hle9
    go_wp2
    refine hQ1 _ _ ?_
    go_wp2
    obtain ⟨d0, d1, d2, -⟩ := hb9'.out (.bool sr) (.slice A1 (dg (rnum (a * b))).length c1) (.slice A2 (dg (a * b).den).length c2)
    refine bodyPost_ret (v := .agg #[.bool sr, .slice A1 (dg (rnum (a * b))).length c1, .slice A2 (dg (a * b).den).length c2]) (by simp [results, Tryz.results62, go_sem, d0, d1, d2]) rfl ⟨_, rfl, hle9'.out _ _ _, ?_⟩
    exact ⟨_, _, by rw [hsr'.out], (hfin'.out _ _ _).1, (hfin'.out _ _ _).2⟩
set_option maxRecDepth 100000 in
set_option maxHeartbeats 2000000 in
theorem pf_q_over (L : Nat → Prop) (a b : Rat) (va vb : Value) (w : World) (hL : Up w L) (ha : RatL L .i64 w va a) (hb : RatL L .i64 w vb b) (hma : Rsz a 5000000) (hmb : Rsz b 5000000) (hb0 : b ≠ 0) :
    Calls Tryz.prog 67 #[va, vb] w fun e w' => ∃ v', e = .returned v' ∧ Le w w' ∧ RatL L .i64 w' v' (a / b) := by
  obtain ⟨An, cn, Ad, cd, rfl, han, had⟩ := ha.form
  obtain ⟨Bn, dn, Bd, dd, rfl, hbn, hbd⟩ := hb.form
  obtain ⟨ma1, ma2⟩ := hma
  obtain ⟨mb1, mb2⟩ := hmb
  have hp1 := dg_length_mul (rnum a) (b.den)
  have hp2 := dg_length_mul (a.den) (rnum b)
  have hdz : (a.den) * (rnum b) ≠ 0 := Nat.ne_of_gt (Nat.mul_pos (rden_pos a) (Nat.pos_of_ne_zero fun h => hb0 (rnum_zero.1 h)))
  obtain ⟨sa, hsa⟩ : ∃ sa, rneg a = sa := ⟨_, rfl⟩
  obtain ⟨sb, hsb⟩ : ∃ sb, rneg b = sb := ⟨_, rfl⟩
  have hlaw := div_mkR (a := a) hb0
  rw [hsa, hsb] at *
  have hL' := Lib.hid hL
  have ha' := Lib.hid ha
  have hb' := Lib.hid hb
  have han' := Lib.hid han
  have had' := Lib.hid had
  have hbn' := Lib.hid hbn
  have hbd' := Lib.hid hbd
  have hsa' := Lib.hid hsa
  have hsb' := Lib.hid hsb
  have hp1' := Lib.hid hp1
  have hp2' := Lib.hid hp2
  have hdz' := Lib.hid hdz
  have hlaw' := Lib.hid hlaw
  clear hlaw hdz hp2 hp1 hsb hsa hbd hbn had han hb ha hL
  go_enter Tryz.func67, Tryz.ntmps67
  go_wp2
  obtain ⟨W0, hW0, hsz, hle, h0, h1, h2⟩ := new3_le w (.cells #[.bool sa, .slice An (dg (rnum a)).length cn, .slice Ad (dg a.den).length cd] 59) (.cells #[.bool sb, .slice Bn (dg (rnum b)).length dn, .slice Bd (dg b.den).length dd] 59) (.cells #[.bool false, .slice none 0 0, .slice none 0 0] 59)
  rw [hW0]
  clear hW0
  obtain ⟨ca0, ca1, ca2, -⟩ := cells3 h0
  obtain ⟨cb0, cb1, cb2, -⟩ := cells3 h1
  have hUp0 := hL'.out.le hle
  have h0' := Lib.hid h0
  have h1' := Lib.hid h1
  have h2' := Lib.hid h2
  have hle' := Lib.hid hle
  have hUp0' := Lib.hid hUp0
  clear hUp0 hle h2 h1 h0
  refine wp_region_monoL (R := leRel) 16 [some 5, some 6, some 7, some 8, some 9, some 10, some 11, some 12, some 13, some 14, some 15, some 16, some 17, some 18, some 19, some 20, none] [[], [0], [], [2], [1, 3], [], [5], [], [7], [6, 8], [], [10], [], [12], [11, 13], [4, 9, 14], [15]]
    [.eq (.pointer (some ⟨w.heap.size, 0, none⟩)), .eq (.bool sa), .eq (.pointer (some ⟨w.heap.size + 1, 0, none⟩)), .eq (.bool sb), .eq (.bool (sa != sb)), .eq (.pointer (some ⟨w.heap.size, 1, none⟩)), .eq (.slice An (dg (rnum a)).length cn), .eq (.pointer (some ⟨w.heap.size + 1, 2, none⟩)), .eq (.slice Bd (dg b.den).length dd), MPred.num L .i64 (rnum a * b.den),
      .eq (.pointer (some ⟨w.heap.size, 2, none⟩)), .eq (.slice Ad (dg a.den).length cd), .eq (.pointer (some ⟨w.heap.size + 1, 1, none⟩)), .eq (.slice Bn (dg (rnum b)).length dn), MPred.num L .i64 (a.den * rnum b), MPred.rat L .i64 (a / b)] (fun _ _ => False) (by kernel_rfl) (by kernel_rfl) (by kernel_rfl) (by kernel_rfl) ?_ (fun _ _ _ _ _ h => h.elim) ?_
  · simp only [List.take_succ_cons, List.take_zero]
    refine monoSteps_cons ?_ (monoSteps_cons ?_ (monoSteps_cons ?_ (monoSteps_cons ?_ (monoSteps_cons ?_ (monoSteps_cons ?_ (monoSteps_cons ?_ (monoSteps_cons ?_ (monoSteps_cons ?_ (monoSteps_cons ?_ (monoSteps_cons ?_ (monoSteps_cons ?_ (monoSteps_cons ?_ (monoSteps_cons ?_ (monoSteps_cons ?_ (monoSteps_cons ?_ (monoSteps_nil))))))))))))))))
    · refine monoStep_list rfl fun x W hR hf Q hK _ => ?_
      simp only [fillAct, List.getD_cons_succ, List.getD_cons_zero, Act.put, List.setIfInBounds_toArray, List.set_cons_succ, List.set_cons_zero] at hK ⊢
      go_wp2
      exact hK _ _ (leRel.refl _) rfl
    · refine monoStep_list rfl fun x W hR hf Q hK _ => ?_
      obtain ⟨e0, -⟩ := hf
      change _ = _ at e0
      have cc := (Below.cell hR (p := ⟨w.heap.size, 0, none⟩) (by show w.heap.size < W0.heap.size; omega)).trans ca0
      simp only [fillAct, List.getD_cons_succ, List.getD_cons_zero, Act.put, List.setIfInBounds_toArray, List.set_cons_succ, List.set_cons_zero, e0] at hK ⊢
      go_wp2
      exact hK _ _ (leRel.refl _) rfl
    · refine monoStep_list rfl fun x W hR hf Q hK _ => ?_
      simp only [fillAct, List.getD_cons_succ, List.getD_cons_zero, Act.put, List.setIfInBounds_toArray, List.set_cons_succ, List.set_cons_zero] at hK ⊢
      go_wp2
      exact hK _ _ (leRel.refl _) rfl
    · refine monoStep_list rfl fun x W hR hf Q hK _ => ?_
      obtain ⟨e0, -⟩ := hf
      change _ = _ at e0
      have cc := (Below.cell hR (p := ⟨w.heap.size + 1, 0, none⟩) (by show w.heap.size + 1 < W0.heap.size; omega)).trans cb0
      simp only [fillAct, List.getD_cons_succ, List.getD_cons_zero, Act.put, List.setIfInBounds_toArray, List.set_cons_succ, List.set_cons_zero, e0] at hK ⊢
      go_wp2
      exact hK _ _ (leRel.refl _) rfl
    · refine monoStep_list rfl fun x W hR hf Q hK _ => ?_
      obtain ⟨e0, e1, -⟩ := hf
      change _ = _ at e0 e1
      simp only [fillAct, List.getD_cons_succ, List.getD_cons_zero, Act.put, List.setIfInBounds_toArray, List.set_cons_succ, List.set_cons_zero, e0, e1] at hK ⊢
      go_wp2
      exact hK _ _ (leRel.refl _) rfl
    · refine monoStep_list rfl fun x W hR hf Q hK _ => ?_
      simp only [fillAct, List.getD_cons_succ, List.getD_cons_zero, Act.put, List.setIfInBounds_toArray, List.set_cons_succ, List.set_cons_zero] at hK ⊢
      go_wp2
      exact hK _ _ (leRel.refl _) rfl
    · refine monoStep_list rfl fun x W hR hf Q hK _ => ?_
      obtain ⟨e0, -⟩ := hf
      change _ = _ at e0
      have cc := (Below.cell hR (p := ⟨w.heap.size, 1, none⟩) (by show w.heap.size < W0.heap.size; omega)).trans ca1
      simp only [fillAct, List.getD_cons_succ, List.getD_cons_zero, Act.put, List.setIfInBounds_toArray, List.set_cons_succ, List.set_cons_zero, e0] at hK ⊢
      go_wp2
      exact hK _ _ (leRel.refl _) rfl
    · refine monoStep_list rfl fun x W hR hf Q hK _ => ?_
      simp only [fillAct, List.getD_cons_succ, List.getD_cons_zero, Act.put, List.setIfInBounds_toArray, List.set_cons_succ, List.set_cons_zero] at hK ⊢
      go_wp2
      exact hK _ _ (leRel.refl _) rfl
    · refine monoStep_list rfl fun x W hR hf Q hK _ => ?_
      obtain ⟨e0, -⟩ := hf
      change _ = _ at e0
      have cc := (Below.cell hR (p := ⟨w.heap.size + 1, 2, none⟩) (by show w.heap.size + 1 < W0.heap.size; omega)).trans cb2
      simp only [fillAct, List.getD_cons_succ, List.getD_cons_zero, Act.put, List.setIfInBounds_toArray, List.set_cons_succ, List.set_cons_zero, e0] at hK ⊢
      go_wp2
      exact hK _ _ (leRel.refl _) rfl
    · refine monoStep_list rfl fun x W hR hf Q hK _ => ?_
      obtain ⟨e0, e1, -⟩ := hf
      change _ = _ at e0 e1
      simp only [fillAct, List.getD_cons_succ, List.getD_cons_zero, Act.put, List.setIfInBounds_toArray, List.set_cons_succ, List.set_cons_zero, e0, e1] at hK ⊢
      go_wp2_with (fail)
      go_at_call 84
      refine (pf_n_times L (rnum a) (b.den) _ _ W (hUp0'.out.le hR) ((han'.out.le hle'.out).le hR) ((hbd'.out.le hle'.out).le hR) (by omega) (by omega)).mono ?_
      rintro e w' ⟨v', rfl, y1, y2⟩
      obtain ⟨A9, c9, rfl⟩ := y2.slice
      go_wp2
      exact hK _ _ y1 y2
    · refine monoStep_list rfl fun x W hR hf Q hK _ => ?_
      simp only [fillAct, List.getD_cons_succ, List.getD_cons_zero, Act.put, List.setIfInBounds_toArray, List.set_cons_succ, List.set_cons_zero] at hK ⊢
      go_wp2
      exact hK _ _ (leRel.refl _) rfl
    · refine monoStep_list rfl fun x W hR hf Q hK _ => ?_
      obtain ⟨e0, -⟩ := hf
      change _ = _ at e0
      have cc := (Below.cell hR (p := ⟨w.heap.size, 2, none⟩) (by show w.heap.size < W0.heap.size; omega)).trans ca2
      simp only [fillAct, List.getD_cons_succ, List.getD_cons_zero, Act.put, List.setIfInBounds_toArray, List.set_cons_succ, List.set_cons_zero, e0] at hK ⊢
      go_wp2
      exact hK _ _ (leRel.refl _) rfl
    · refine monoStep_list rfl fun x W hR hf Q hK _ => ?_
      simp only [fillAct, List.getD_cons_succ, List.getD_cons_zero, Act.put, List.setIfInBounds_toArray, List.set_cons_succ, List.set_cons_zero] at hK ⊢
      go_wp2
      exact hK _ _ (leRel.refl _) rfl
    · refine monoStep_list rfl fun x W hR hf Q hK _ => ?_
      obtain ⟨e0, -⟩ := hf
      change _ = _ at e0
      have cc := (Below.cell hR (p := ⟨w.heap.size + 1, 1, none⟩) (by show w.heap.size + 1 < W0.heap.size; omega)).trans cb1
      simp only [fillAct, List.getD_cons_succ, List.getD_cons_zero, Act.put, List.setIfInBounds_toArray, List.set_cons_succ, List.set_cons_zero, e0] at hK ⊢
      go_wp2
      exact hK _ _ (leRel.refl _) rfl
    · refine monoStep_list rfl fun x W hR hf Q hK _ => ?_
      obtain ⟨e0, e1, -⟩ := hf
      change _ = _ at e0 e1
      simp only [fillAct, List.getD_cons_succ, List.getD_cons_zero, Act.put, List.setIfInBounds_toArray, List.set_cons_succ, List.set_cons_zero, e0, e1] at hK ⊢
      go_wp2_with (fail)
      go_at_call 84
      refine (pf_n_times L (a.den) (rnum b) _ _ W (hUp0'.out.le hR) ((had'.out.le hle'.out).le hR) ((hbn'.out.le hle'.out).le hR) (by omega) (by omega)).mono ?_
      rintro e w' ⟨v', rfl, y1, y2⟩
      obtain ⟨A9, c9, rfl⟩ := y2.slice
      go_wp2
      exact hK _ _ y1 y2
    · refine monoStep_list rfl fun x W hR hf Q hK _ => ?_
      obtain ⟨e0, e1, e2, -⟩ := hf
      change _ = _ at e0
      replace e1 : NumL L .i64 W (x 9) (rnum a * b.den) := e1
      replace e2 : NumL L .i64 W (x 14) (a.den * rnum b) := e2
      simp only [fillAct, List.getD_cons_succ, List.getD_cons_zero, Act.put, List.setIfInBounds_toArray, List.set_cons_succ, List.set_cons_zero, e0] at hK ⊢
      go_wp2_with (fail)
      go_at_call 85
      refine (pf_n_reduced L (sa != sb) (rnum a * b.den) (a.den * rnum b) _ _ W (hUp0'.out.le hR) e1 e2 hdz'.out (by have := hp1'.out; omega) (by have := hp2'.out; omega)).mono ?_
      rintro e w' ⟨v', rfl, y1, y2⟩
      rw [hlaw'.out] at y2
      obtain ⟨A1, c1, A2, c2, rfl, -, -⟩ := y2.form
      go_wp2
      exact hK _ _ y1 y2
  · intro x W hR hf Q' hQ1 _
    have e0 := hf 0 (by decide)
    have e1 := hf 1 (by decide)
    have e2 := hf 2 (by decide)
    have e3 := hf 3 (by decide)
    have e4 := hf 4 (by decide)
    have e5 := hf 5 (by decide)
    have e6 := hf 6 (by decide)
    have e7 := hf 7 (by decide)
    have e8 := hf 8 (by decide)
    have e10 := hf 10 (by decide)
    have e11 := hf 11 (by decide)
    have e12 := hf 12 (by decide)
    have e13 := hf 13 (by decide)
    have e15 : RatL L .i64 W (x 15) (a / b) := hf 15 (by decide)
    change _ = _ at e0 e1 e2 e3 e4 e5 e6 e7 e8 e10 e11 e12 e13
    obtain ⟨A1, c1, A2, c2, e16, y1, y2⟩ := e15.form
    have h2W := (Below.block hR (w.heap.size + 1 + 1) (by omega)).trans h2'.out
    obtain ⟨z0, z1, z2, g0, g1, g2⟩ := cells3 h2W
    simp only [List.drop_succ_cons, List.drop_zero]
    rw [show List.range 16 = [0, 1, 2, 3, 4, 5, 6, 7, 8, 9, 10, 11, 12, 13, 14, 15] from rfl]
    simp only [fillAct, List.getD_cons_succ, List.getD_cons_zero, Act.put, List.setIfInBounds_toArray, List.set_cons_succ, List.set_cons_zero, e0, e1, e2, e3, e4, e5, e6, e7, e8, e10, e11, e12, e13, e16]
    generalize x 9 = x9
    generalize x 14 = x14
    clear e0 e1 e2 e3 e4 e5 e6 e7 e8 e10 e11 e12 e13 hf
    have hle9 := fun u0 u1 u2 => le_set3 (u0 := u0) (u1 := u1) (u2 := u2) (Le.trans hle'.out hR) (show w.heap.size ≤ w.heap.size + 1 + 1 by omega)
    have hb9 := fun u0 u1 u2 => cells3 (heap_set3 (u0 := u0) (u1 := u1) (u2 := u2) h2W)
    have hfin := fun u0 u1 u2 => And.intro (NumL.box3 (u0 := u0) (u1 := u1) (u2 := u2) y1 h2W) (NumL.box3 (u0 := u0) (u1 := u1) (u2 := u2) y2 h2W)
    obtain ⟨sr, hsr⟩ : ∃ sr, rneg (a / b) = sr := ⟨_, rfl⟩
    rw [hsr]
    have hle9' := Lib.hid hle9
    have hb9' := Lib.hid hb9
    have hfin' := Lib.hid hfin
    have h2W' := Lib.hid h2W
    have y1' := Lib.hid y1
    have y2' := Lib.hid y2
    have e16' := Lib.hid e16
    have e15' := Lib.hid e15
    have hR' := Lib.hid hR
    have hsr' := Lib.hid hsr
    clear hsr hR e15 e16 y2 y1 h2W hfin hb9 hle9
    go_wp2
    refine hQ1 _ _ ?_
    go_wp2
    obtain ⟨d0, d1, d2, -⟩ := hb9'.out (.bool sr) (.slice A1 (dg (rnum (a / b))).length c1) (.slice A2 (dg (a / b).den).length c2)
    refine bodyPost_ret (v := .agg #[.bool sr, .slice A1 (dg (rnum (a / b))).length c1, .slice A2 (dg (a / b).den).length c2]) (by simp [results, Tryz.results67, go_sem, d0, d1, d2]) rfl ⟨_, rfl, hle9'.out _ _ _, ?_⟩
    exact ⟨_, _, by rw [hsr'.out], (hfin'.out _ _ _).1, (hfin'.out _ _ _).2⟩
end Go.Proofs.YtpjmbgfggonhhaaGreat
